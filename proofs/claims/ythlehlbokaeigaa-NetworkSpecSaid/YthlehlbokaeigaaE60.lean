import Derived.Test.YthlehlbokaeigaaQ
import Derived.Test.YthlehlbokaeigaaE30
import Derived.Test.YthlehlbokaeigaaE40
import Derived.Test.YthlehlbokaeigaaE50
namespace Go.Proofs.Ythlehlbokaeigaa.Q
open Go.RowKit Go.Proofs.YthlehlbokaeigaaW.PrintWords Go.Proofs.YthlehlbokaeigaaW.PrintLast Go.Proofs.YthlehlbokaeigaaW.PrintMore
set_option linter.unusedVariables false
set_option linter.unusedSimpArgs false
def netSpecL.T7 : Bool × List (List Nat × List Nat) := (true, [([], []), ([0], [0]), ([], []), ([2, 1], [2]), ([1, 3], [1, 3]), ([4, 3], [4]), ([5], [5]), ([5], [5]), ([6, 7, 5, 5], [5, 6, 7]), ([5, 8], [5, 8]), ([9, 8], [9]), ([10], [10]), ([10], [10]), ([11, 12, 10], [10, 11, 12]), ([10, 13], [10, 13]), ([14, 10], [14]), ([15, 15], [15]), ([16, 15], [15]), ([16, 17, 17, 15], [15, 16, 17]), ([15, 18], [15, 18]), ([19, 18, 0, 1, 2, 3, 4, 5, 6, 7, 8, 9, 10, 11, 12, 13, 14, 15, 16, 17, 18, 19], [19])])
def netSpecL.B7 : List Nat := [0, 1, 0, 7, 15, 31, 63, 63, 255, 511, 1023, 2047, 2047, 8191, 16383, 32767, 65535, 131071, 262143, 524287, 1048575]
theorem netSpecL.tab7 : rtab .any (opsOf Try.f3 7) = netSpecL.T7 := by kernel_rfl
theorem netSpecL.bits7 : waitsOk netSpecL.T7.2 netSpecL.B7 = true := by kernel_rfl
set_option maxHeartbeats 8000000 in
set_option maxRecDepth 100000 in
theorem NetworkSpec.calls (n0 : List S28) (n1 : List S55) (An0 : Option Addr) (cn0 : Nat) (An1 : Option Addr) (cn1 : Nat) (p0 p1 : Int) (p2 : List Int) (Ap : Option Addr) (cp : Nat) (w : World)
    (Vn0 : Kd.V k28 28 w 0 (fun _ => True) (.slice An0 n0.length cn0) n0) (Vn1 : Kd.V k55 55 w 0 (fun _ => True) (.slice An1 n1.length cn1) n1) (Vp : Kd.V (Kd.int .u8) 5 w 0 (fun _ => True) (.slice Ap p2.length cp) p2) :
    Calls Try.prog 3 #[.agg #[.slice An0 n0.length cn0, .slice An1 n1.length cn1], .agg #[.int .i64 p0, .int .i64 p1, .slice Ap p2.length cp]] w fun e w' => e = .returned (.bool true) ∧ Below w.heap.size w w' := by
  have hu25 := Try.underlying25
  have hu28 := Try.underlying28
  by_cases hq : n0.length ≤ 40 ∧ n1.length ≤ 40
  · have hfew : signatoryref06_Few.f n0 n1 = some true := by
      unfold signatoryref06_Few.f
      rw [if_pos (by omega), decide_eq_true (by omega)]
    obtain ⟨k, hk⟩ : ∃ k : Nat, k = 1000 := ⟨_, rfl⟩
    obtain ⟨⟨a0, a1, e⟩, hr⟩ : ∃ r, r = sendP n0 n1 ⟨p0, p1, p2⟩ := ⟨_, rfl⟩
    have hS : network_Send.f k n0 n1 p0 p1 p2 = some (a0, a1, e) := by rw [hr]; exact netSend_eq n0 n1 ⟨p0, p1, p2⟩ (by omega) k (by omega)
    have hT : signatoryref06_Send.f k n0 n1 p0 p1 p2 = some (a0, a1, e) := by rw [hr]; exact refSend_eq n0 n1 ⟨p0, p1, p2⟩ (by omega) k (by omega)
    have hla : a0.length ≤ 41 ∧ a1.length ≤ 40 := by
      have h0 : (a0, a1, e).1 = (sendP n0 n1 ⟨p0, p1, p2⟩).1 := by rw [hr]
      have h1 : (a0, a1, e).2.1 = (sendP n0 n1 ⟨p0, p1, p2⟩).2.1 := by rw [hr]
      dsimp only at h0 h1
      rw [h0, h1]
      unfold sendP
      split
      · split
        · simp
        · simp; omega
      · simp
    obtain ⟨t0, ht0⟩ : ∃ t0, t0 = okc (netOk n0 n1) := ⟨_, rfl⟩
    have hCk : network_Check.f k n0 n1 = some t0 := by rw [ht0]; exact netCheck_eq n0 n1 (by omega) k (by omega)
    have hL : signatoryref06_Check.f k n0 n1 = some t0 := by rw [ht0]; exact refCheck_eq n0 n1 (by omega) k (by omega)
    have hE : signatoryref06_Same.f k a0 a1 a0 a1 = some true := same_refl a0 a1 (by omega) (by omega) k (by omega)
    have hF : signatoryref06_Same.f k [] [] [] [] = some true := same_refl [] [] (by simp) (by simp) k (by simp; omega)
    clear hr ht0 hk hq hla
    go_enter Try.func3, Try.ntmps3
    have HB := Below.refl w.heap.size w
    have hba := (Below.refl _ w).alloc (Nat.le_refl _) (.cells #[.slice An0 n0.length cn0, .slice An1 n1.length cn1] 25)
    replace HB := below_step HB hba
    replace Vn0 := Kd.V_below Vn0 hba
    replace Vn1 := Kd.V_below Vn1 hba
    replace Vp := Kd.V_below Vp hba
    have B2 := World.alloc_heap_new w (.cells #[.slice An0 n0.length cn0, .slice An1 n1.length cn1] 25)
    clear hba
    have hba := (Below.refl _ (w.alloc (.cells #[.slice An0 n0.length cn0, .slice An1 n1.length cn1] 25))).alloc (Nat.le_refl _) (.cells #[.int .i64 p0, .int .i64 p1, .slice Ap p2.length cp] 28)
    replace HB := below_step HB hba
    replace Vn0 := Kd.V_below Vn0 hba
    replace Vn1 := Kd.V_below Vn1 hba
    replace Vp := Kd.V_below Vp hba
    replace B2 := blk_below B2 hba
    have B3 := World.alloc_heap_new (w.alloc (.cells #[.slice An0 n0.length cn0, .slice An1 n1.length cn1] 25)) (.cells #[.int .i64 p0, .int .i64 p1, .slice Ap p2.length cp] 28)
    clear hba
    simp only [World.size_alloc] at B3
    go_wp2_with fail
    generalize (w.alloc (.cells #[.slice An0 n0.length cn0, .slice An1 n1.length cn1] 25)).alloc (.cells #[.int .i64 p0, .int .i64 p1, .slice Ap p2.length cp] 28) = w1 at *
    refine (sane_ok w1).mono ?_
    rintro e w2 ⟨rfl, hb⟩
    replace HB := below_step HB hb
    replace Vn0 := Kd.V_below Vn0 hb
    replace Vn1 := Kd.V_below Vn1 hb
    replace Vp := Kd.V_below Vp hb
    replace B2 := blk_below B2 hb
    replace B3 := blk_below B3 hb
    clear hb
    dsimp only
    have x2_0 := (blk_cell B2 0).trans rfl
    have x2_1 := (blk_cell B2 1).trans rfl
    go_wp2_with fail
    clear x2_0 x2_1
    refine (signatoryref06_Few.calls An0 cn0 n0 An1 cn1 n1 true w2 (Kd.V_reads' Vn0).2.2 (Kd.V_reads' Vn0).2.1 (Kd.V_reads' Vn1).2.2 (Kd.V_reads' Vn1).2.1 hfew).mono ?_
    rintro e w3 ⟨rfl, hb⟩
    replace HB := below_step HB hb
    replace Vn0 := Kd.V_below Vn0 hb
    replace Vn1 := Kd.V_below Vn1 hb
    replace Vp := Kd.V_below Vp hb
    replace B2 := blk_below B2 hb
    replace B3 := blk_below B3 hb
    clear hb
    dsimp only
    have x2_0 := (blk_cell B2 0).trans rfl
    have x2_1 := (blk_cell B2 1).trans rfl
    have x3_0 := (blk_cell B3 0).trans rfl
    have x3_1 := (blk_cell B3 1).trans rfl
    have x3_2 := (blk_cell B3 2).trans rfl
    go_wp2_with fail
    clear x2_0 x2_1
    clear x3_0 x3_1 x3_2
    refine (network_Send.calls k (fun _ => True) An0 cn0 n0 (fun _ => True) An1 cn1 n1 p0 p1 (fun _ => True) Ap cp p2 a0 a1 e w3 Vn0 Vn1 Vp hS).mono ?_
    rintro e w4 ⟨v0, v1, rfl, Va0, Va1, hb⟩
    replace HB := below_step HB hb
    replace Vn0 := Kd.V_below Vn0 hb
    replace Vn1 := Kd.V_below Vn1 hb
    replace Vp := Kd.V_below Vp hb
    replace B2 := blk_below B2 hb
    replace B3 := blk_below B3 hb
    clear hb
    replace Va0 := Vt Va0
    obtain ⟨Aa0, ca0, rfl⟩ := Kd.V_slice Va0
    replace Va1 := Vt Va1
    obtain ⟨Aa1, ca1, rfl⟩ := Kd.V_slice Va1
    dsimp only
    have hba := (Below.refl _ w4).alloc (Nat.le_refl _) (.cells #[.slice Aa0 a0.length ca0, .slice Aa1 a1.length ca1] 25)
    replace HB := below_step HB hba
    replace Vn0 := Kd.V_below Vn0 hba
    replace Vn1 := Kd.V_below Vn1 hba
    replace Vp := Kd.V_below Vp hba
    replace B2 := blk_below B2 hba
    replace B3 := blk_below B3 hba
    replace Va0 := Kd.V_below Va0 hba
    replace Va1 := Kd.V_below Va1 hba
    have B5 := World.alloc_heap_new w4 (.cells #[.slice Aa0 a0.length ca0, .slice Aa1 a1.length ca1] 25)
    clear hba
    have x2_0 := (blk_cell B2 0).trans rfl
    have x2_1 := (blk_cell B2 1).trans rfl
    have x3_0 := (blk_cell B3 0).trans rfl
    have x3_1 := (blk_cell B3 1).trans rfl
    have x3_2 := (blk_cell B3 2).trans rfl
    go_wp2_with fail
    clear x2_0 x2_1
    clear x3_0 x3_1 x3_2
    generalize w4.alloc (.cells #[.slice Aa0 a0.length ca0, .slice Aa1 a1.length ca1] 25) = w5 at *
    refine (signatoryref06_Send.calls k (fun _ => True) An0 cn0 n0 (fun _ => True) An1 cn1 n1 p0 p1 (fun _ => True) Ap cp p2 a0 a1 e w5 Vn0 Vn1 Vp hT).mono ?_
    rintro e w6 ⟨v0, v1, rfl, Vb0, Vb1, hb⟩
    replace HB := below_step HB hb
    replace Vn0 := Kd.V_below Vn0 hb
    replace Vn1 := Kd.V_below Vn1 hb
    replace Vp := Kd.V_below Vp hb
    replace B2 := blk_below B2 hb
    replace B3 := blk_below B3 hb
    replace Va0 := Kd.V_below Va0 hb
    replace Va1 := Kd.V_below Va1 hb
    replace B5 := blk_below B5 hb
    replace Vb0 := Kd.N_V (base' := 0) Vb0
    clear hb
    replace Vb0 := Vt Vb0
    obtain ⟨Ab0, cb0, rfl⟩ := Kd.V_slice Vb0
    replace Vb1 := Vt Vb1
    obtain ⟨Ab1, cb1, rfl⟩ := Kd.V_slice Vb1
    dsimp only
    have hba := (Below.refl _ w6).alloc (Nat.le_refl _) (.cells #[.slice Ab0 a0.length cb0, .slice Ab1 a1.length cb1] 25)
    replace HB := below_step HB hba
    replace Vn0 := Kd.V_below Vn0 hba
    replace Vn1 := Kd.V_below Vn1 hba
    replace Vp := Kd.V_below Vp hba
    replace B2 := blk_below B2 hba
    replace B3 := blk_below B3 hba
    replace Va0 := Kd.V_below Va0 hba
    replace Va1 := Kd.V_below Va1 hba
    replace B5 := blk_below B5 hba
    replace Vb0 := Kd.V_below Vb0 hba
    replace Vb1 := Kd.V_below Vb1 hba
    have B7 := World.alloc_heap_new w6 (.cells #[.slice Ab0 a0.length cb0, .slice Ab1 a1.length cb1] 25)
    clear hba
    go_wp2_with fail
    generalize w6.alloc (.cells #[.slice Ab0 a0.length cb0, .slice Ab1 a1.length cb1] 25) = w7 at *
    have hc1 : (t0 == t0) = true := by simp
    have hc2 : (e == e) = true := by simp
    replace HB := below_drew1 HB
    replace Vn0 := Kd.V_drew Vn0
    replace Vn1 := Kd.V_drew Vn1
    replace Vp := Kd.V_drew Vp
    replace B2 := blk_drew B2
    replace B3 := blk_drew B3
    replace Va0 := Kd.V_drew Va0
    replace Va1 := Kd.V_drew Va1
    replace B5 := blk_drew B5
    replace Vb0 := Kd.V_drew Vb0
    replace Vb1 := Kd.V_drew Vb1
    replace B7 := blk_drew B7
    refine start_ (n := 21) (S := fun w' => w'.cell? ⟨w.heap.size, 0, none⟩ = some (.slice An0 n0.length cn0) ∧ w'.cell? ⟨w.heap.size, 1, none⟩ = some (.slice An1 n1.length cn1) ∧ w'.cell? ⟨w4.heap.size, 0, none⟩ = some (.slice Aa0 a0.length ca0) ∧ w'.cell? ⟨w4.heap.size, 1, none⟩ = some (.slice Aa1 a1.length ca1) ∧ w'.cell? ⟨w6.heap.size, 0, none⟩ = some (.slice Ab0 a0.length cb0) ∧ w'.cell? ⟨w6.heap.size, 1, none⟩ = some (.slice Ab1 a1.length cb1)) (ds := []) #[false, false, false, false, false, false, false, false, false, false, false, false, false, false, false, false, false, false, false, false, false] (by kernel_rfl) rfl rfl ⟨(blk_cell B2 0).trans rfl, (blk_cell B2 1).trans rfl, (blk_cell B5 0).trans rfl, (blk_cell B5 1).trans rfl, (blk_cell B7 0).trans rfl, (blk_cell B7 1).trans rfl⟩ (fun hHeld => ?_)
    refine with_tabW netSpecL.tab7 netSpecL.bits7 (fun HT_ HW_ => ?_)
    generalize w7.drew = w8 at *
    refine take_ (i := 0) (N := some 26) (v := ?_) (a' := ?_) #[true, false, false, false, false, false, false, false, false, false, false, false, false, false, false, false, false, false, false, false, false] rfl rfl (take_ofW HT_.out HW_.out (by kernel_rfl)) (fun _ _ _ h => h) (Or.inl ⟨by rfl, ?_⟩) hHeld ?_ ?_
    rotate_left
    · rintro w' ⟨s0, s1, s2, s3, s4, s5⟩
      go_simp
      with_reducible rfl
    rotate_left
    · simp only [Act.put, List.setIfInBounds_toArray, List.set_cons_zero, List.set_cons_succ, i64_w, i32_w]
      rfl
    refine take_ (i := 2) (N := some 28) (v := ?_) (a' := ?_) #[true, false, true, false, false, false, false, false, false, false, false, false, false, false, false, false, false, false, false, false, false] rfl rfl (take_ofW HT_.out HW_.out (by kernel_rfl)) (fun _ _ _ h => h) (Or.inl ⟨by rfl, ?_⟩) hHeld ?_ ?_
    rotate_left
    · rintro w' ⟨s0, s1, s2, s3, s4, s5⟩
      go_simp
      with_reducible rfl
    rotate_left
    · simp only [Act.put, List.setIfInBounds_toArray, List.set_cons_zero, List.set_cons_succ, i64_w, i32_w]
      rfl
    refine one_ (i := 1) (N := some 27) #[true, true, true, false, false, false, false, false, false, false, false, false, false, false, false, false, false, false, false, false, false] rfl rfl (one_of HT_.out (by kernel_rfl)) (by decide) (fun K hK => ?_)
    refine goes_ Try.func13 (by kernel_rfl) rfl #[.agg #[.slice An0 n0.length cn0, .slice An1 n1.length cn1]] (by rfl) rfl rfl (by (try simp only [List.map_toArray, List.map_cons, List.map_nil]); first | done | rfl) ?_
    refine (network_Check.calls k An0 cn0 n0 An1 cn1 n1 t0 _ (Kd.V_reads' Vn0).2.2 (Kd.V_reads' Vn0).2.1 (Kd.V_reads' Vn1).2.2 (Kd.V_reads' Vn1).2.1 hCk).mono ?_
    rintro e w9 ⟨rfl, hb⟩
    refine ⟨_, rfl, ?_⟩
    replace HB := below_step HB hb
    replace Vn0 := Kd.V_below Vn0 hb
    replace Vn1 := Kd.V_below Vn1 hb
    replace Vp := Kd.V_below Vp hb
    replace B2 := blk_below B2 hb
    replace B3 := blk_below B3 hb
    replace Va0 := Kd.V_below Va0 hb
    replace Va1 := Kd.V_below Va1 hb
    replace B5 := blk_below B5 hb
    replace Vb0 := Kd.V_below Vb0 hb
    replace Vb1 := Kd.V_below Vb1 hb
    replace B7 := blk_below B7 hb
    clear hb
    refine hK.out _ _ ⟨(blk_cell B2 0).trans rfl, (blk_cell B2 1).trans rfl, (blk_cell B5 0).trans rfl, (blk_cell B5 1).trans rfl, (blk_cell B7 0).trans rfl, (blk_cell B7 1).trans rfl⟩ (fun hHeld => ?_)
    clear hK K
    refine norm_ (a' := ?_) ?_ ?_
    rotate_left
    · show Act.put _ (some 27) _ = _
      simp only [Act.put, List.setIfInBounds_toArray, List.set_cons_zero, List.set_cons_succ, i64_w, i32_w]
      rfl
    refine one_ (i := 3) (N := some 29) #[true, true, true, true, false, false, false, false, false, false, false, false, false, false, false, false, false, false, false, false, false] rfl rfl (one_of HT_.out (by kernel_rfl)) (by decide) (fun K hK => ?_)
    refine goes_ Try.func14 (by kernel_rfl) rfl #[.agg #[.slice An0 n0.length cn0, .slice An1 n1.length cn1]] (by rfl) rfl rfl (by (try simp only [List.map_toArray, List.map_cons, List.map_nil]); first | done | rfl) ?_
    refine (signatoryref06_Check.calls k An0 cn0 n0 An1 cn1 n1 t0 _ (Kd.V_reads' Vn0).2.2 (Kd.V_reads' Vn0).2.1 (Kd.V_reads' Vn1).2.2 (Kd.V_reads' Vn1).2.1 hL).mono ?_
    rintro e w10 ⟨rfl, hb⟩
    refine ⟨_, rfl, ?_⟩
    replace HB := below_step HB hb
    replace Vn0 := Kd.V_below Vn0 hb
    replace Vn1 := Kd.V_below Vn1 hb
    replace Vp := Kd.V_below Vp hb
    replace B2 := blk_below B2 hb
    replace B3 := blk_below B3 hb
    replace Va0 := Kd.V_below Va0 hb
    replace Va1 := Kd.V_below Va1 hb
    replace B5 := blk_below B5 hb
    replace Vb0 := Kd.V_below Vb0 hb
    replace Vb1 := Kd.V_below Vb1 hb
    replace B7 := blk_below B7 hb
    clear hb
    refine hK.out _ _ ⟨(blk_cell B2 0).trans rfl, (blk_cell B2 1).trans rfl, (blk_cell B5 0).trans rfl, (blk_cell B5 1).trans rfl, (blk_cell B7 0).trans rfl, (blk_cell B7 1).trans rfl⟩ (fun hHeld => ?_)
    clear hK K
    refine norm_ (a' := ?_) ?_ ?_
    rotate_left
    · show Act.put _ (some 29) _ = _
      simp only [Act.put, List.setIfInBounds_toArray, List.set_cons_zero, List.set_cons_succ, i64_w, i32_w]
      rfl
    refine pure_ (i := 4) (N := some 30) (v := ?_) (a' := ?_) #[true, true, true, true, true, false, false, false, false, false, false, false, false, false, false, false, false, false, false, false, false] rfl rfl (any_of HT_.out (by kernel_rfl)) (fun _ _ _ h => h) (Or.inl ⟨by rfl, ?_⟩) ?_ ?_
    rotate_left
    · intro w'
      go_simp
      with_reducible rfl
    rotate_left
    · simp only [Act.put, List.setIfInBounds_toArray, List.set_cons_zero, List.set_cons_succ, i64_w, i32_w]
      rfl
    refine pure_ (i := 5) (N := some 31) (v := ?_) (a' := ?_) #[true, true, true, true, true, true, false, false, false, false, false, false, false, false, false, false, false, false, false, false, false] rfl rfl (any_of HT_.out (by kernel_rfl)) (fun _ _ _ h => h) (Or.inl ⟨by rfl, ?_⟩) ?_ ?_
    rotate_left
    · intro w'
      go_simp
      with_reducible rfl
    rotate_left
    · simp only [Act.put, List.setIfInBounds_toArray, List.set_cons_zero, List.set_cons_succ, i64_w, i32_w]
      rfl
    refine take_ (i := 6) (N := some 32) (v := ?_) (a' := ?_) #[true, true, true, true, true, true, true, false, false, false, false, false, false, false, false, false, false, false, false, false, false] rfl rfl (take_ofW HT_.out HW_.out (by kernel_rfl)) (fun _ _ _ h => h) (Or.inl ⟨by rfl, ?_⟩) hHeld ?_ ?_
    rotate_left
    · rintro w' ⟨s0, s1, s2, s3, s4, s5⟩
      go_simp
      with_reducible rfl
    rotate_left
    · simp only [Act.put, List.setIfInBounds_toArray, List.set_cons_zero, List.set_cons_succ, i64_w, i32_w]
      rfl
    refine take_ (i := 7) (N := some 33) (v := ?_) (a' := ?_) #[true, true, true, true, true, true, true, true, false, false, false, false, false, false, false, false, false, false, false, false, false] rfl rfl (take_ofW HT_.out HW_.out (by kernel_rfl)) (fun _ _ _ h => h) (Or.inl ⟨by rfl, ?_⟩) hHeld ?_ ?_
    rotate_left
    · rintro w' ⟨s0, s1, s2, s3, s4, s5⟩
      go_simp
      with_reducible rfl
    rotate_left
    · simp only [Act.put, List.setIfInBounds_toArray, List.set_cons_zero, List.set_cons_succ, i64_w, i32_w]
      rfl
    refine one_ (i := 8) (N := some 34) #[true, true, true, true, true, true, true, true, true, false, false, false, false, false, false, false, false, false, false, false, false] rfl rfl (one_of HT_.out (by kernel_rfl)) (by decide) (fun K hK => ?_)
    refine goes_ Try.func15 (by kernel_rfl) rfl #[.agg #[.slice Aa0 a0.length ca0, .slice Aa1 a1.length ca1], .agg #[.slice Ab0 a0.length cb0, .slice Ab1 a1.length cb1]] (by rfl) rfl rfl (by (try simp only [List.map_toArray, List.map_cons, List.map_nil]); first | done | rfl) ?_
    refine (signatoryref06_Same.calls k Aa0 ca0 a0 Aa1 ca1 a1 Ab0 cb0 a0 Ab1 cb1 a1 true _ (Kd.V_reads' Va0).2.2 (Kd.V_reads' Va0).2.1 (Kd.V_reads' Va1).2.2 (Kd.V_reads' Va1).2.1 (Kd.V_reads' Vb0).2.2 (Kd.V_reads' Vb0).2.1 (Kd.V_reads' Vb1).2.2 (Kd.V_reads' Vb1).2.1 hE).mono ?_
    rintro e w11 ⟨rfl, hb⟩
    refine ⟨_, rfl, ?_⟩
    replace HB := below_step HB hb
    replace Vn0 := Kd.V_below Vn0 hb
    replace Vn1 := Kd.V_below Vn1 hb
    replace Vp := Kd.V_below Vp hb
    replace B2 := blk_below B2 hb
    replace B3 := blk_below B3 hb
    replace Va0 := Kd.V_below Va0 hb
    replace Va1 := Kd.V_below Va1 hb
    replace B5 := blk_below B5 hb
    replace Vb0 := Kd.V_below Vb0 hb
    replace Vb1 := Kd.V_below Vb1 hb
    replace B7 := blk_below B7 hb
    clear hb
    refine hK.out _ _ ⟨(blk_cell B2 0).trans rfl, (blk_cell B2 1).trans rfl, (blk_cell B5 0).trans rfl, (blk_cell B5 1).trans rfl, (blk_cell B7 0).trans rfl, (blk_cell B7 1).trans rfl⟩ (fun hHeld => ?_)
    clear hK K
    refine norm_ (a' := ?_) ?_ ?_
    rotate_left
    · show Act.put _ (some 34) _ = _
      simp only [Act.put, List.setIfInBounds_toArray, List.set_cons_zero, List.set_cons_succ, i64_w, i32_w]
      rfl
    refine pure_ (i := 9) (N := some 35) (v := ?_) (a' := ?_) #[true, true, true, true, true, true, true, true, true, true, false, false, false, false, false, false, false, false, false, false, false] rfl rfl (any_of HT_.out (by kernel_rfl)) (fun _ _ _ h => h) (Or.inl ⟨by rfl, ?_⟩) ?_ ?_
    rotate_left
    · intro w'
      go_simp
      with_reducible rfl
    rotate_left
    · simp only [Act.put, List.setIfInBounds_toArray, List.set_cons_zero, List.set_cons_succ, i64_w, i32_w]
      rfl
    refine pure_ (i := 10) (N := some 36) (v := ?_) (a' := ?_) #[true, true, true, true, true, true, true, true, true, true, true, false, false, false, false, false, false, false, false, false, false] rfl rfl (any_of HT_.out (by kernel_rfl)) (fun _ _ _ h => h) (Or.inl ⟨by rfl, ?_⟩) ?_ ?_
    rotate_left
    · intro w'
      go_simp
      with_reducible rfl
    rotate_left
    · simp only [Act.put, List.setIfInBounds_toArray, List.set_cons_zero, List.set_cons_succ, i64_w, i32_w]
      rfl
    refine pure_ (i := 11) (N := some 37) (v := ?_) (a' := ?_) #[true, true, true, true, true, true, true, true, true, true, true, true, false, false, false, false, false, false, false, false, false] rfl rfl (any_of HT_.out (by kernel_rfl)) (fun _ _ _ h => h) (Or.inl ⟨by rfl, ?_⟩) ?_ ?_
    rotate_left
    · intro w'
      go_simp
      with_reducible rfl
    rotate_left
    · simp only [Act.put, List.setIfInBounds_toArray, List.set_cons_zero, List.set_cons_succ, i64_w, i32_w]
      rfl
    refine pure_ (i := 12) (N := some 38) (v := ?_) (a' := ?_) #[true, true, true, true, true, true, true, true, true, true, true, true, true, false, false, false, false, false, false, false, false] rfl rfl (any_of HT_.out (by kernel_rfl)) (fun _ _ _ h => h) (Or.inl ⟨by rfl, ?_⟩) ?_ ?_
    rotate_left
    · intro w'
      go_simp
      with_reducible rfl
    rotate_left
    · simp only [Act.put, List.setIfInBounds_toArray, List.set_cons_zero, List.set_cons_succ, i64_w, i32_w]
      rfl
    refine pure_ (i := 13) (N := some 39) (v := ?_) (a' := ?_) #[true, true, true, true, true, true, true, true, true, true, true, true, true, true, false, false, false, false, false, false, false] rfl rfl (any_of HT_.out (by kernel_rfl)) (fun _ _ _ h => h) (Or.inl ⟨by rfl, ?_⟩) ?_ ?_
    rotate_left
    · intro w'
      go_simp
      with_reducible rfl
    rotate_left
    · simp only [Act.put, List.setIfInBounds_toArray, List.set_cons_zero, List.set_cons_succ, i64_w, i32_w]
      rfl
    refine pure_ (i := 14) (N := some 40) (v := ?_) (a' := ?_) #[true, true, true, true, true, true, true, true, true, true, true, true, true, true, true, false, false, false, false, false, false] rfl rfl (any_of HT_.out (by kernel_rfl)) (fun _ _ _ h => h) (Or.inl ⟨by rfl, ?_⟩) ?_ ?_
    rotate_left
    · intro w'
      go_simp
      with_reducible rfl
    rotate_left
    · simp only [Act.put, List.setIfInBounds_toArray, List.set_cons_zero, List.set_cons_succ, i64_w, i32_w]
      rfl
    refine pure_ (i := 15) (N := some 41) (v := ?_) (a' := ?_) #[true, true, true, true, true, true, true, true, true, true, true, true, true, true, true, true, false, false, false, false, false] rfl rfl (any_of HT_.out (by kernel_rfl)) (fun _ _ _ h => h) (Or.inl ⟨by rfl, ?_⟩) ?_ ?_
    rotate_left
    · intro w'
      go_simp
      with_reducible rfl
    rotate_left
    · simp only [Act.put, List.setIfInBounds_toArray, List.set_cons_zero, List.set_cons_succ, i64_w, i32_w]
      rfl
    refine one_ (i := 16) (N := some 42) #[true, true, true, true, true, true, true, true, true, true, true, true, true, true, true, true, true, false, false, false, false] rfl rfl (one_of HT_.out (by kernel_rfl)) (by decide) (fun K hK => ?_)
    refine goes_ Try.func16 (by kernel_rfl) rfl #[] (by rfl) rfl rfl (by (try simp only [List.map_toArray, List.map_cons, List.map_nil]); first | done | rfl) ?_
    refine (network_New.calls [] [] _ rfl).mono ?_
    rintro e w12 ⟨v0, v1, rfl, Vx0, Vx1, hb⟩
    replace Vx0 := Vt (Kd.S_V (base' := 0) Vx0)
    obtain ⟨Ax0, cx0, rfl⟩ := Kd.V_slice Vx0
    replace Vx1 := Vt (Kd.R_V (base' := 0) Vx1)
    obtain ⟨Ax1, cx1, rfl⟩ := Kd.V_slice Vx1
    refine ⟨_, rfl, ?_⟩
    replace HB := below_step HB hb
    replace Vn0 := Kd.V_below Vn0 hb
    replace Vn1 := Kd.V_below Vn1 hb
    replace Vp := Kd.V_below Vp hb
    replace B2 := blk_below B2 hb
    replace B3 := blk_below B3 hb
    replace Va0 := Kd.V_below Va0 hb
    replace Va1 := Kd.V_below Va1 hb
    replace B5 := blk_below B5 hb
    replace Vb0 := Kd.V_below Vb0 hb
    replace Vb1 := Kd.V_below Vb1 hb
    replace B7 := blk_below B7 hb
    clear hb
    refine hK.out _ _ ⟨(blk_cell B2 0).trans rfl, (blk_cell B2 1).trans rfl, (blk_cell B5 0).trans rfl, (blk_cell B5 1).trans rfl, (blk_cell B7 0).trans rfl, (blk_cell B7 1).trans rfl⟩ (fun hHeld => ?_)
    clear hK K
    refine norm_ (a' := ?_) ?_ ?_
    rotate_left
    · show Act.put _ (some 42) _ = _
      simp only [Act.put, List.setIfInBounds_toArray, List.set_cons_zero, List.set_cons_succ, i64_w, i32_w]
      rfl
    refine one_ (i := 17) (N := some 43) #[true, true, true, true, true, true, true, true, true, true, true, true, true, true, true, true, true, true, false, false, false] rfl rfl (one_of HT_.out (by kernel_rfl)) (by decide) (fun K hK => ?_)
    refine goes_ Try.func17 (by kernel_rfl) rfl #[] (by rfl) rfl rfl (by (try simp only [List.map_toArray, List.map_cons, List.map_nil]); first | done | rfl) ?_
    refine (signatoryref06_New.calls [] [] _ rfl).mono ?_
    rintro e w13 ⟨v0, v1, rfl, Vy0, Vy1, hb⟩
    replace Vy0 := Vt (Kd.S_V (base' := 0) Vy0)
    obtain ⟨Ay0, cy0, rfl⟩ := Kd.V_slice Vy0
    replace Vy1 := Vt (Kd.R_V (base' := 0) Vy1)
    obtain ⟨Ay1, cy1, rfl⟩ := Kd.V_slice Vy1
    refine ⟨_, rfl, ?_⟩
    replace HB := below_step HB hb
    replace Vn0 := Kd.V_below Vn0 hb
    replace Vn1 := Kd.V_below Vn1 hb
    replace Vp := Kd.V_below Vp hb
    replace B2 := blk_below B2 hb
    replace B3 := blk_below B3 hb
    replace Va0 := Kd.V_below Va0 hb
    replace Va1 := Kd.V_below Va1 hb
    replace B5 := blk_below B5 hb
    replace Vb0 := Kd.V_below Vb0 hb
    replace Vb1 := Kd.V_below Vb1 hb
    replace B7 := blk_below B7 hb
    replace Vx0 := Kd.V_below Vx0 hb
    replace Vx1 := Kd.V_below Vx1 hb
    clear hb
    refine hK.out _ _ ⟨(blk_cell B2 0).trans rfl, (blk_cell B2 1).trans rfl, (blk_cell B5 0).trans rfl, (blk_cell B5 1).trans rfl, (blk_cell B7 0).trans rfl, (blk_cell B7 1).trans rfl⟩ (fun hHeld => ?_)
    clear hK K
    refine norm_ (a' := ?_) ?_ ?_
    rotate_left
    · show Act.put _ (some 43) _ = _
      simp only [Act.put, List.setIfInBounds_toArray, List.set_cons_zero, List.set_cons_succ, i64_w, i32_w]
      rfl
    refine one_ (i := 18) (N := some 44) #[true, true, true, true, true, true, true, true, true, true, true, true, true, true, true, true, true, true, true, false, false] rfl rfl (one_of HT_.out (by kernel_rfl)) (by decide) (fun K hK => ?_)
    refine goes_ Try.func15 (by kernel_rfl) rfl #[.agg #[.slice Ax0 ([] : List S28).length cx0, .slice Ax1 ([] : List S55).length cx1], .agg #[.slice Ay0 ([] : List S28).length cy0, .slice Ay1 ([] : List S55).length cy1]] (by rfl) rfl rfl (by (try simp only [List.map_toArray, List.map_cons, List.map_nil]); first | done | rfl) ?_
    refine (signatoryref06_Same.calls k Ax0 cx0 [] Ax1 cx1 [] Ay0 cy0 [] Ay1 cy1 [] true _ (Kd.V_reads' Vx0).2.2 (Kd.V_reads' Vx0).2.1 (Kd.V_reads' Vx1).2.2 (Kd.V_reads' Vx1).2.1 (Kd.V_reads' Vy0).2.2 (Kd.V_reads' Vy0).2.1 (Kd.V_reads' Vy1).2.2 (Kd.V_reads' Vy1).2.1 hF).mono ?_
    rintro e w14 ⟨rfl, hb⟩
    refine ⟨_, rfl, ?_⟩
    replace HB := below_step HB hb
    replace Vn0 := Kd.V_below Vn0 hb
    replace Vn1 := Kd.V_below Vn1 hb
    replace Vp := Kd.V_below Vp hb
    replace B2 := blk_below B2 hb
    replace B3 := blk_below B3 hb
    replace Va0 := Kd.V_below Va0 hb
    replace Va1 := Kd.V_below Va1 hb
    replace B5 := blk_below B5 hb
    replace Vb0 := Kd.V_below Vb0 hb
    replace Vb1 := Kd.V_below Vb1 hb
    replace B7 := blk_below B7 hb
    replace Vx0 := Kd.V_below Vx0 hb
    replace Vx1 := Kd.V_below Vx1 hb
    replace Vy0 := Kd.V_below Vy0 hb
    replace Vy1 := Kd.V_below Vy1 hb
    clear hb
    refine hK.out _ _ ⟨(blk_cell B2 0).trans rfl, (blk_cell B2 1).trans rfl, (blk_cell B5 0).trans rfl, (blk_cell B5 1).trans rfl, (blk_cell B7 0).trans rfl, (blk_cell B7 1).trans rfl⟩ (fun hHeld => ?_)
    clear hK K
    refine norm_ (a' := ?_) ?_ ?_
    rotate_left
    · show Act.put _ (some 44) _ = _
      simp only [Act.put, List.setIfInBounds_toArray, List.set_cons_zero, List.set_cons_succ, i64_w, i32_w]
      rfl
    refine pure_ (i := 19) (N := some 45) (v := ?_) (a' := ?_) #[true, true, true, true, true, true, true, true, true, true, true, true, true, true, true, true, true, true, true, true, false] rfl rfl (any_of HT_.out (by kernel_rfl)) (fun _ _ _ h => h) (Or.inl ⟨by rfl, ?_⟩) ?_ ?_
    rotate_left
    · intro w'
      go_simp
      with_reducible rfl
    rotate_left
    · simp only [Act.put, List.setIfInBounds_toArray, List.set_cons_zero, List.set_cons_succ, i64_w, i32_w]
      rfl
    refine pure_ (i := 20) (N := some 4) (v := ?_) (a' := ?_) #[true, true, true, true, true, true, true, true, true, true, true, true, true, true, true, true, true, true, true, true, true] rfl rfl (any_of HT_.out (by kernel_rfl)) (fun _ _ _ h => h) (Or.inl ⟨by rfl, ?_⟩) ?_ ?_
    rotate_left
    · intro w'
      go_simp
      with_reducible rfl
    rotate_left
    · simp only [Act.put, List.setIfInBounds_toArray, List.set_cons_zero, List.set_cons_succ, i64_w, i32_w]
      rfl
    refine done_ (done_of HT_.out (by kernel_rfl)) ?_
    try go_wp2
    go_ret
    exact ⟨rfl, HB⟩
  · have hfew : signatoryref06_Few.f n0 n1 = some false := by
      unfold signatoryref06_Few.f
      by_cases h : (n0.length : Int) ≤ 40
      · rw [if_pos h, decide_eq_false (by omega)]
      · rw [if_neg h]
    clear hq
    go_enter Try.func3, Try.ntmps3
    have HB := Below.refl w.heap.size w
    have hba := (Below.refl _ w).alloc (Nat.le_refl _) (.cells #[.slice An0 n0.length cn0, .slice An1 n1.length cn1] 25)
    replace HB := below_step HB hba
    replace Vn0 := Kd.V_below Vn0 hba
    replace Vn1 := Kd.V_below Vn1 hba
    replace Vp := Kd.V_below Vp hba
    have B2 := World.alloc_heap_new w (.cells #[.slice An0 n0.length cn0, .slice An1 n1.length cn1] 25)
    clear hba
    have hba := (Below.refl _ (w.alloc (.cells #[.slice An0 n0.length cn0, .slice An1 n1.length cn1] 25))).alloc (Nat.le_refl _) (.cells #[.int .i64 p0, .int .i64 p1, .slice Ap p2.length cp] 28)
    replace HB := below_step HB hba
    replace Vn0 := Kd.V_below Vn0 hba
    replace Vn1 := Kd.V_below Vn1 hba
    replace Vp := Kd.V_below Vp hba
    replace B2 := blk_below B2 hba
    have B3 := World.alloc_heap_new (w.alloc (.cells #[.slice An0 n0.length cn0, .slice An1 n1.length cn1] 25)) (.cells #[.int .i64 p0, .int .i64 p1, .slice Ap p2.length cp] 28)
    clear hba
    simp only [World.size_alloc] at B3
    go_wp2_with fail
    generalize (w.alloc (.cells #[.slice An0 n0.length cn0, .slice An1 n1.length cn1] 25)).alloc (.cells #[.int .i64 p0, .int .i64 p1, .slice Ap p2.length cp] 28) = w1 at *
    refine (sane_ok w1).mono ?_
    rintro e w2 ⟨rfl, hb⟩
    replace HB := below_step HB hb
    replace Vn0 := Kd.V_below Vn0 hb
    replace Vn1 := Kd.V_below Vn1 hb
    replace Vp := Kd.V_below Vp hb
    replace B2 := blk_below B2 hb
    replace B3 := blk_below B3 hb
    clear hb
    dsimp only
    have x2_0 := (blk_cell B2 0).trans rfl
    have x2_1 := (blk_cell B2 1).trans rfl
    go_wp2_with fail
    clear x2_0 x2_1
    refine (signatoryref06_Few.calls An0 cn0 n0 An1 cn1 n1 false w2 (Kd.V_reads' Vn0).2.2 (Kd.V_reads' Vn0).2.1 (Kd.V_reads' Vn1).2.2 (Kd.V_reads' Vn1).2.1 hfew).mono ?_
    rintro e w3 ⟨rfl, hb⟩
    replace HB := below_step HB hb
    replace Vn0 := Kd.V_below Vn0 hb
    replace Vn1 := Kd.V_below Vn1 hb
    replace Vp := Kd.V_below Vp hb
    replace B2 := blk_below B2 hb
    replace B3 := blk_below B3 hb
    clear hb
    dsimp only
    go_wp2_with fail
    go_ret
    exact ⟨rfl, HB⟩
end Go.Proofs.Ythlehlbokaeigaa.Q
