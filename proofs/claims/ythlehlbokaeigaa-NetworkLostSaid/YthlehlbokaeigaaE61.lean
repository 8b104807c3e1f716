import Derived.Test.YthlehlbokaeigaaQ
import Derived.Test.YthlehlbokaeigaaE31
import Derived.Test.YthlehlbokaeigaaE41
import Derived.Test.YthlehlbokaeigaaE50
namespace Go.Proofs.Ythlehlbokaeigaa.Q
open Go.RowKit Go.Proofs.YthlehlbokaeigaaW.PrintWords Go.Proofs.YthlehlbokaeigaaW.PrintLast Go.Proofs.YthlehlbokaeigaaW.PrintMore
set_option linter.unusedVariables false
set_option linter.unusedSimpArgs false
def netLostL.T10 : Bool × List (List Nat × List Nat) := (true, [([], []), ([], []), ([1], [1]), ([], []), ([2, 3], [2, 3]), ([4], [4]), ([0, 5], [0, 5]), ([6], [6]), ([7], [7]), ([7], [7]), ([], []), ([10, 8, 6, 0, 1, 2, 3, 4, 5, 6, 7, 8, 10], [8, 10]), ([9, 11, 0, 1, 2, 3, 4, 5, 6, 7, 8, 9, 10, 11], [9])])
def netLostL.B10 : List Nat := [0, 0, 2, 0, 14, 30, 63, 127, 255, 255, 0, 1535, 4095]
theorem netLostL.tab10 : rtab .any (opsOf Try.f8 10) = netLostL.T10 := by kernel_rfl
theorem netLostL.bits10 : waitsOk netLostL.T10.2 netLostL.B10 = true := by kernel_rfl
set_option maxHeartbeats 8000000 in
set_option maxRecDepth 100000 in
theorem NetworkLost.calls (n0 : List S28) (n1 : List S55) (An0 : Option Addr) (cn0 : Nat) (An1 : Option Addr) (cn1 : Nat) (at_ : Int) (hat : (Lit.int .u64 at_).wf = true) (w : World)
    (Vn0 : Kd.V k28 28 w 0 (fun _ => True) (.slice An0 n0.length cn0) n0) (Vn1 : Kd.V k55 55 w 0 (fun _ => True) (.slice An1 n1.length cn1) n1) :
    Calls Try.prog 8 #[.agg #[.slice An0 n0.length cn0, .slice An1 n1.length cn1], .int .u64 at_] w fun e w' => e = .returned (.bool true) ∧ Below w.heap.size w w' := by
  have hu25 := Try.underlying25
  have hu28 := Try.underlying28
  by_cases hq : n0.length ≤ 40 ∧ n1.length ≤ 40
  · have hfew : signatoryref06_Few.f n0 n1 = some true := by
      unfold signatoryref06_Few.f
      rw [if_pos (by omega), decide_eq_true (by omega)]
    obtain ⟨k, hk⟩ : ∃ k : Nat, k = 1000 := ⟨_, rfl⟩
    have hCk := netCheck_eq n0 n1 (by omega) k (by omega)
    cases hok : netOk n0 n1 with
    | false =>
      rw [hok] at hCk
      replace hCk : network_Check.f k n0 n1 = some 60 := hCk
      clear hq hk hok
      go_enter Try.func8, Try.ntmps8
      have HB := Below.refl w.heap.size w
      have hba := (Below.refl _ w).alloc (Nat.le_refl _) (.cells #[.slice An0 n0.length cn0, .slice An1 n1.length cn1] 25)
      replace HB := below_step HB hba
      replace Vn0 := Kd.V_below Vn0 hba
      replace Vn1 := Kd.V_below Vn1 hba
      have B2 := World.alloc_heap_new w (.cells #[.slice An0 n0.length cn0, .slice An1 n1.length cn1] 25)
      clear hba
      go_wp2_with fail
      generalize w.alloc (.cells #[.slice An0 n0.length cn0, .slice An1 n1.length cn1] 25) = w1 at *
      refine (sane_ok w1).mono ?_
      rintro e w2 ⟨rfl, hb⟩
      replace HB := below_step HB hb
      replace Vn0 := Kd.V_below Vn0 hb
      replace Vn1 := Kd.V_below Vn1 hb
      replace B2 := blk_below B2 hb
      clear hb
      dsimp only
      have x2_0 := (blk_cell B2 0).trans rfl
      have x2_1 := (blk_cell B2 1).trans rfl
      go_wp2_with fail
      clear x2_0 x2_1
      refine (signatoryref06_Few.calls An0 cn0 n0 An1 cn1 n1 true w2 (Kd.V_reads' Vn0).2.2 (Kd.V_reads' Vn0).2.1 (Kd.V_reads' Vn1).2.2 (Kd.V_reads' Vn1).2.1 hfew).mono ?_
      rintro e w3 ⟨rfl, hb⟩
      replace HB := below_step HB hb
      replace Vn0 := Kd.V_below Vn0 hb
      replace Vn1 := Kd.V_below Vn1 hb
      replace B2 := blk_below B2 hb
      clear hb
      dsimp only
      have x2_0 := (blk_cell B2 0).trans rfl
      have x2_1 := (blk_cell B2 1).trans rfl
      go_wp2_with fail
      clear x2_0 x2_1
      refine (network_Check.calls k An0 cn0 n0 An1 cn1 n1 60 w3 (Kd.V_reads' Vn0).2.2 (Kd.V_reads' Vn0).2.1 (Kd.V_reads' Vn1).2.2 (Kd.V_reads' Vn1).2.1 hCk).mono ?_
      rintro e w4 ⟨rfl, hb⟩
      replace HB := below_step HB hb
      replace Vn0 := Kd.V_below Vn0 hb
      replace Vn1 := Kd.V_below Vn1 hb
      replace B2 := blk_below B2 hb
      clear hb
      dsimp only
      have x2_0 := (blk_cell B2 0).trans rfl
      have x2_1 := (blk_cell B2 1).trans rfl
      go_wp2_with fail
      clear x2_0 x2_1
      go_ret
      exact ⟨rfl, HB⟩
    | true =>
      rw [hok] at hCk
      replace hCk : network_Check.f k n0 n1 = some 0 := hCk
      by_cases h0 : n0 = []
      · have hl1 : ((n0.length : Int) == 0) = true := by rw [h0]; rfl
        clear hq hk hok h0
        go_enter Try.func8, Try.ntmps8
        have HB := Below.refl w.heap.size w
        have hba := (Below.refl _ w).alloc (Nat.le_refl _) (.cells #[.slice An0 n0.length cn0, .slice An1 n1.length cn1] 25)
        replace HB := below_step HB hba
        replace Vn0 := Kd.V_below Vn0 hba
        replace Vn1 := Kd.V_below Vn1 hba
        have B2 := World.alloc_heap_new w (.cells #[.slice An0 n0.length cn0, .slice An1 n1.length cn1] 25)
        clear hba
        go_wp2_with fail
        generalize w.alloc (.cells #[.slice An0 n0.length cn0, .slice An1 n1.length cn1] 25) = w1 at *
        refine (sane_ok w1).mono ?_
        rintro e w2 ⟨rfl, hb⟩
        replace HB := below_step HB hb
        replace Vn0 := Kd.V_below Vn0 hb
        replace Vn1 := Kd.V_below Vn1 hb
        replace B2 := blk_below B2 hb
        clear hb
        dsimp only
        have x2_0 := (blk_cell B2 0).trans rfl
        have x2_1 := (blk_cell B2 1).trans rfl
        go_wp2_with fail
        clear x2_0 x2_1
        refine (signatoryref06_Few.calls An0 cn0 n0 An1 cn1 n1 true w2 (Kd.V_reads' Vn0).2.2 (Kd.V_reads' Vn0).2.1 (Kd.V_reads' Vn1).2.2 (Kd.V_reads' Vn1).2.1 hfew).mono ?_
        rintro e w3 ⟨rfl, hb⟩
        replace HB := below_step HB hb
        replace Vn0 := Kd.V_below Vn0 hb
        replace Vn1 := Kd.V_below Vn1 hb
        replace B2 := blk_below B2 hb
        clear hb
        dsimp only
        have x2_0 := (blk_cell B2 0).trans rfl
        have x2_1 := (blk_cell B2 1).trans rfl
        go_wp2_with fail
        clear x2_0 x2_1
        refine (network_Check.calls k An0 cn0 n0 An1 cn1 n1 0 w3 (Kd.V_reads' Vn0).2.2 (Kd.V_reads' Vn0).2.1 (Kd.V_reads' Vn1).2.2 (Kd.V_reads' Vn1).2.1 hCk).mono ?_
        rintro e w4 ⟨rfl, hb⟩
        replace HB := below_step HB hb
        replace Vn0 := Kd.V_below Vn0 hb
        replace Vn1 := Kd.V_below Vn1 hb
        replace B2 := blk_below B2 hb
        clear hb
        dsimp only
        have x2_0 := (blk_cell B2 0).trans rfl
        have x2_1 := (blk_cell B2 1).trans rfl
        go_wp2_with fail
        clear x2_0 x2_1
        go_ret
        exact ⟨rfl, HB⟩
      · have hlen : 0 < n0.length := List.length_pos_iff.2 h0
        have hl0 : ¬ (n0.length : Int) = 0 := by omega
        have hl1 : ((n0.length : Int) == 0) = false := by simpa using h0
        obtain ⟨i, hi, hil⟩ : ∃ i : Nat, wrap64 (at_.tmod n0.length) = (i : Int) ∧ i < n0.length := by
          have hw0 : 0 ≤ at_ := by
            have h1 := hat
            simp [Lit.wf] at h1
            have h2 : IntKind.u64.min = 0 := rfl
            omega
          have h1 := Int.tmod_nonneg (n0.length : Int) hw0
          have h2 := Int.tmod_lt_of_pos at_ (show (0 : Int) < n0.length by omega)
          exact ⟨(at_.tmod n0.length).toNat, by unfold wrap64; omega, by omega⟩
        obtain ⟨x, y, z, e1, e2, e3, e4, e5⟩ := lost_plain n0 n1 (by omega) hok i hil
        have hwl := woP_len n0 i hil
        obtain ⟨b0, hb0⟩ : ∃ b0, b0 = woP n0 i := ⟨_, rfl⟩
        obtain ⟨p, hp⟩ : ∃ p, p = rd_T28 n0 i := ⟨_, rfl⟩
        obtain ⟨c0, hc0⟩ : ∃ c0, c0 = n0 ++ [p] := ⟨_, rfl⟩
        obtain ⟨d0, hd0⟩ : ∃ d0, d0 = b0 ++ [p] := ⟨_, rfl⟩
        rw [← hp] at e3 e4 e5
        rw [← hc0] at e3 e4
        rw [← hb0] at e1 e2 e4 e5 hwl
        rw [← hd0] at e4 e5
        have hlc : c0.length = n0.length + 1 := by rw [hc0]; simp
        have hD := (netDeliver_eq n0 n1 (by omega) k (by omega) i).trans (congrArg some e1)
        have hL := (netLose_eq n0 n1 (by omega) k (by omega) i).trans (congrArg some e2)
        have hR := (netRepeat_eq n0 n1 (by omega) k (by omega) i).trans (congrArg some e3)
        have hL2 := (netLose_eq c0 n1 (by omega) k (by omega) i).trans (congrArg some e4)
        have hS := (netSend_eq b0 n1 p (by omega) k (by omega)).trans (congrArg some e5)
        have hE1 : signatoryref06_Same.f k b0 n1 b0 n1 = some true := same_refl b0 n1 (by omega) (by omega) k (by omega)
        have hE2 : signatoryref06_Same.f k d0 n1 d0 n1 = some true := same_refl d0 n1 (by rw [hd0]; simp; omega) (by omega) k (by rw [hd0]; simp; omega)
        have hlast : Aside0 (((c0.length : Int) == (n0.length : Int) + 1) = true) := ⟨by rw [hlc]; simp⟩
        have hil2 : (i : Int) < (n0.length : Int) := by omega
        clear e1 e2 e3 e4 e5 hwl hlc hb0 hc0 hd0 hk hok hat
        go_enter Try.func8, Try.ntmps8
        have HB := Below.refl w.heap.size w
        have hba := (Below.refl _ w).alloc (Nat.le_refl _) (.cells #[.slice An0 n0.length cn0, .slice An1 n1.length cn1] 25)
        replace HB := below_step HB hba
        replace Vn0 := Kd.V_below Vn0 hba
        replace Vn1 := Kd.V_below Vn1 hba
        have B2 := World.alloc_heap_new w (.cells #[.slice An0 n0.length cn0, .slice An1 n1.length cn1] 25)
        clear hba
        go_wp2_with fail
        generalize w.alloc (.cells #[.slice An0 n0.length cn0, .slice An1 n1.length cn1] 25) = w1 at *
        refine (sane_ok w1).mono ?_
        rintro e w2 ⟨rfl, hb⟩
        replace HB := below_step HB hb
        replace Vn0 := Kd.V_below Vn0 hb
        replace Vn1 := Kd.V_below Vn1 hb
        replace B2 := blk_below B2 hb
        clear hb
        dsimp only
        have x2_0 := (blk_cell B2 0).trans rfl
        have x2_1 := (blk_cell B2 1).trans rfl
        go_wp2_with fail
        clear x2_0 x2_1
        refine (signatoryref06_Few.calls An0 cn0 n0 An1 cn1 n1 true w2 (Kd.V_reads' Vn0).2.2 (Kd.V_reads' Vn0).2.1 (Kd.V_reads' Vn1).2.2 (Kd.V_reads' Vn1).2.1 hfew).mono ?_
        rintro e w3 ⟨rfl, hb⟩
        replace HB := below_step HB hb
        replace Vn0 := Kd.V_below Vn0 hb
        replace Vn1 := Kd.V_below Vn1 hb
        replace B2 := blk_below B2 hb
        clear hb
        dsimp only
        have x2_0 := (blk_cell B2 0).trans rfl
        have x2_1 := (blk_cell B2 1).trans rfl
        go_wp2_with fail
        clear x2_0 x2_1
        refine (network_Check.calls k An0 cn0 n0 An1 cn1 n1 0 w3 (Kd.V_reads' Vn0).2.2 (Kd.V_reads' Vn0).2.1 (Kd.V_reads' Vn1).2.2 (Kd.V_reads' Vn1).2.1 hCk).mono ?_
        rintro e w4 ⟨rfl, hb⟩
        replace HB := below_step HB hb
        replace Vn0 := Kd.V_below Vn0 hb
        replace Vn1 := Kd.V_below Vn1 hb
        replace B2 := blk_below B2 hb
        clear hb
        dsimp only
        have x2_0 := (blk_cell B2 0).trans rfl
        have x2_1 := (blk_cell B2 1).trans rfl
        go_wp2_with fail
        clear x2_0 x2_1
        rw [hi]
        refine (network_Deliver.calls k (fun _ => True) An0 cn0 n0 (fun _ => True) An1 cn1 n1 i x y z b0 n1 0 w4 Vn0 Vn1 hD).mono ?_
        rintro e w5 ⟨v2, v3, v4, rfl, Vz, Va0, Va1, hb⟩
        replace HB := below_step HB hb
        replace Vn0 := Kd.V_below Vn0 hb
        replace Vn1 := Kd.V_below Vn1 hb
        replace B2 := blk_below B2 hb
        clear hb
        replace Vz := Vt Vz
        obtain ⟨Az, cz, rfl⟩ := Kd.V_slice Vz
        replace Va0 := Vt Va0
        obtain ⟨Aa0, ca0, rfl⟩ := Kd.V_slice Va0
        replace Va1 := Vt Va1
        obtain ⟨Aa1, ca1, rfl⟩ := Kd.V_slice Va1
        dsimp only
        have hba := (Below.refl _ w5).alloc (Nat.le_refl _) (.cells #[.int .i64 x, .int .i64 y, .slice Az z.length cz] 28)
        replace HB := below_step HB hba
        replace Vn0 := Kd.V_below Vn0 hba
        replace Vn1 := Kd.V_below Vn1 hba
        replace B2 := blk_below B2 hba
        replace Vz := Kd.V_below Vz hba
        replace Va0 := Kd.V_below Va0 hba
        replace Va1 := Kd.V_below Va1 hba
        have B6 := World.alloc_heap_new w5 (.cells #[.int .i64 x, .int .i64 y, .slice Az z.length cz] 28)
        clear hba
        have hba := (Below.refl _ (w5.alloc (.cells #[.int .i64 x, .int .i64 y, .slice Az z.length cz] 28))).alloc (Nat.le_refl _) (.cells #[.slice Aa0 b0.length ca0, .slice Aa1 n1.length ca1] 25)
        replace HB := below_step HB hba
        replace Vn0 := Kd.V_below Vn0 hba
        replace Vn1 := Kd.V_below Vn1 hba
        replace B2 := blk_below B2 hba
        replace Vz := Kd.V_below Vz hba
        replace Va0 := Kd.V_below Va0 hba
        replace Va1 := Kd.V_below Va1 hba
        replace B6 := blk_below B6 hba
        have B7 := World.alloc_heap_new (w5.alloc (.cells #[.int .i64 x, .int .i64 y, .slice Az z.length cz] 28)) (.cells #[.slice Aa0 b0.length ca0, .slice Aa1 n1.length ca1] 25)
        clear hba
        simp only [World.size_alloc] at B7
        clear Vz B6
        have x2_0 := (blk_cell B2 0).trans rfl
        have x2_1 := (blk_cell B2 1).trans rfl
        go_wp2_with fail
        clear x2_0 x2_1
        generalize (w5.alloc (.cells #[.int .i64 x, .int .i64 y, .slice Az z.length cz] 28)).alloc (.cells #[.slice Aa0 b0.length ca0, .slice Aa1 n1.length ca1] 25) = w6 at *
        refine (network_Lose.calls k (fun _ => True) An0 cn0 n0 (fun _ => True) An1 cn1 n1 i b0 n1 0 w6 Vn0 Vn1 hL).mono ?_
        rintro e w7 ⟨v0, v1, rfl, Vb0, Vb1, hb⟩
        replace HB := below_step HB hb
        replace Vn0 := Kd.V_below Vn0 hb
        replace Vn1 := Kd.V_below Vn1 hb
        replace B2 := blk_below B2 hb
        replace Va0 := Kd.V_below Va0 hb
        replace Va1 := Kd.V_below Va1 hb
        replace B7 := blk_below B7 hb
        clear hb
        replace Vb0 := Vt Vb0
        obtain ⟨Ab0, cb0, rfl⟩ := Kd.V_slice Vb0
        replace Vb1 := Vt Vb1
        obtain ⟨Ab1, cb1, rfl⟩ := Kd.V_slice Vb1
        dsimp only
        have hba := (Below.refl _ w7).alloc (Nat.le_refl _) (.cells #[.slice Ab0 b0.length cb0, .slice Ab1 n1.length cb1] 25)
        replace HB := below_step HB hba
        replace Vn0 := Kd.V_below Vn0 hba
        replace Vn1 := Kd.V_below Vn1 hba
        replace B2 := blk_below B2 hba
        replace Va0 := Kd.V_below Va0 hba
        replace Va1 := Kd.V_below Va1 hba
        replace B7 := blk_below B7 hba
        replace Vb0 := Kd.V_below Vb0 hba
        replace Vb1 := Kd.V_below Vb1 hba
        have B9 := World.alloc_heap_new w7 (.cells #[.slice Ab0 b0.length cb0, .slice Ab1 n1.length cb1] 25)
        clear hba
        have x2_0 := (blk_cell B2 0).trans rfl
        have x2_1 := (blk_cell B2 1).trans rfl
        go_wp2_with fail
        clear x2_0 x2_1
        generalize w7.alloc (.cells #[.slice Ab0 b0.length cb0, .slice Ab1 n1.length cb1] 25) = w8 at *
        refine (network_Repeat.calls k (fun _ => True) An0 cn0 n0 (fun _ => True) An1 cn1 n1 i c0 n1 0 w8 Vn0 Vn1 hR).mono ?_
        rintro e w9 ⟨v0, v1, rfl, Vc0, Vc1, hb⟩
        replace HB := below_step HB hb
        replace Vn0 := Kd.V_below Vn0 hb
        replace Vn1 := Kd.V_below Vn1 hb
        replace B2 := blk_below B2 hb
        replace Va0 := Kd.V_below Va0 hb
        replace Va1 := Kd.V_below Va1 hb
        replace B7 := blk_below B7 hb
        replace Vb0 := Kd.V_below Vb0 hb
        replace Vb1 := Kd.V_below Vb1 hb
        replace B9 := blk_below B9 hb
        clear hb
        replace Vc0 := Vt Vc0
        obtain ⟨Ac0, cc0, rfl⟩ := Kd.V_slice Vc0
        replace Vc1 := Vt Vc1
        obtain ⟨Ac1, cc1, rfl⟩ := Kd.V_slice Vc1
        dsimp only
        have hba := (Below.refl _ w9).alloc (Nat.le_refl _) (.cells #[.slice Ac0 c0.length cc0, .slice Ac1 n1.length cc1] 25)
        replace HB := below_step HB hba
        replace Vn0 := Kd.V_below Vn0 hba
        replace Vn1 := Kd.V_below Vn1 hba
        replace B2 := blk_below B2 hba
        replace Va0 := Kd.V_below Va0 hba
        replace Va1 := Kd.V_below Va1 hba
        replace B7 := blk_below B7 hba
        replace Vb0 := Kd.V_below Vb0 hba
        replace Vb1 := Kd.V_below Vb1 hba
        replace B9 := blk_below B9 hba
        replace Vc0 := Kd.V_below Vc0 hba
        replace Vc1 := Kd.V_below Vc1 hba
        have B11 := World.alloc_heap_new w9 (.cells #[.slice Ac0 c0.length cc0, .slice Ac1 n1.length cc1] 25)
        clear hba
        have x11_0 := (blk_cell B11 0).trans rfl
        have x11_1 := (blk_cell B11 1).trans rfl
        go_wp2_with fail
        clear x11_0 x11_1
        generalize w9.alloc (.cells #[.slice Ac0 c0.length cc0, .slice Ac1 n1.length cc1] 25) = w10 at *
        refine (network_Lose.calls k (fun _ => True) Ac0 cc0 c0 (fun _ => True) Ac1 cc1 n1 i d0 n1 0 w10 Vc0 Vc1 hL2).mono ?_
        rintro e w11 ⟨v0, v1, rfl, Vd0, Vd1, hb⟩
        replace HB := below_step HB hb
        replace Vn0 := Kd.V_below Vn0 hb
        replace Vn1 := Kd.V_below Vn1 hb
        replace B2 := blk_below B2 hb
        replace Va0 := Kd.V_below Va0 hb
        replace Va1 := Kd.V_below Va1 hb
        replace B7 := blk_below B7 hb
        replace Vb0 := Kd.V_below Vb0 hb
        replace Vb1 := Kd.V_below Vb1 hb
        replace B9 := blk_below B9 hb
        replace Vc0 := Kd.V_below Vc0 hb
        replace Vc1 := Kd.V_below Vc1 hb
        replace B11 := blk_below B11 hb
        clear hb
        replace Vd0 := Vt Vd0
        obtain ⟨Ad0, cd0, rfl⟩ := Kd.V_slice Vd0
        replace Vd1 := Vt Vd1
        obtain ⟨Ad1, cd1, rfl⟩ := Kd.V_slice Vd1
        dsimp only
        have hba := (Below.refl _ w11).alloc (Nat.le_refl _) (.cells #[.slice Ad0 d0.length cd0, .slice Ad1 n1.length cd1] 25)
        replace HB := below_step HB hba
        replace Vn0 := Kd.V_below Vn0 hba
        replace Vn1 := Kd.V_below Vn1 hba
        replace B2 := blk_below B2 hba
        replace Va0 := Kd.V_below Va0 hba
        replace Va1 := Kd.V_below Va1 hba
        replace B7 := blk_below B7 hba
        replace Vb0 := Kd.V_below Vb0 hba
        replace Vb1 := Kd.V_below Vb1 hba
        replace B9 := blk_below B9 hba
        replace Vc0 := Kd.V_below Vc0 hba
        replace Vc1 := Kd.V_below Vc1 hba
        replace B11 := blk_below B11 hba
        replace Vd0 := Kd.V_below Vd0 hba
        replace Vd1 := Kd.V_below Vd1 hba
        have B13 := World.alloc_heap_new w11 (.cells #[.slice Ad0 d0.length cd0, .slice Ad1 n1.length cd1] 25)
        clear hba
        obtain ⟨ad, A2, c2, hAd, e0, e1, e2, hl2, hC2⟩ := at_T28 (Kd.V_reads' Vn0).2.2 (i : Int) (by omega) (by omega)
        obtain rfl := hAd
        have p357 : (0 ≤ (i : Int)) = True := eq_true (by omega)
        have q357 : ((i : Int) < (n0.length : Int)) = True := eq_true (by omega)
        have p358 : decide (0 ≤ (i : Int)) = true := decide_eq_true (by omega)
        have q358 : decide ((i : Int) < (n0.length : Int)) = true := decide_eq_true (by omega)
        rw [← hp] at e0 e1 e2 hl2 hC2
        rw [Int.toNat_natCast] at e0 e1 e2
        have Ve := V_of (Kd.heap_int .u8) hl2 hC2 5
        clear hl2 hC2 hp
        go_wp2_with fail
        generalize w11.alloc (.cells #[.slice Ad0 d0.length cd0, .slice Ad1 n1.length cd1] 25) = w12 at *
        replace HB := below_drew1 HB
        replace Vn0 := Kd.V_drew Vn0
        replace Vn1 := Kd.V_drew Vn1
        replace B2 := blk_drew B2
        replace Va0 := Kd.V_drew Va0
        replace Va1 := Kd.V_drew Va1
        replace B7 := blk_drew B7
        replace Vb0 := Kd.V_drew Vb0
        replace Vb1 := Kd.V_drew Vb1
        replace B9 := blk_drew B9
        replace Vc0 := Kd.V_drew Vc0
        replace Vc1 := Kd.V_drew Vc1
        replace B11 := blk_drew B11
        replace Vd0 := Kd.V_drew Vd0
        replace Vd1 := Kd.V_drew Vd1
        replace B13 := blk_drew B13
        replace Ve := Kd.V_drew Ve
        replace e0 : w12.drew.cell? (ad.add (i * 3)) = some (.int .i64 p.f0) := e0
        replace e1 : w12.drew.cell? ⟨(ad.add (i * 3)).block, (ad.add (i * 3)).off + 1, none⟩ = some (.int .i64 p.f1) := e1
        replace e2 : w12.drew.cell? ⟨(ad.add (i * 3)).block, (ad.add (i * 3)).off + 2, none⟩ = some (.slice A2 p.f2.length c2) := e2
        refine start_ (n := 13) (S := fun w' => w'.cell? ⟨w7.heap.size, 0, none⟩ = some (.slice Ab0 b0.length cb0) ∧ w'.cell? ⟨w7.heap.size, 1, none⟩ = some (.slice Ab1 n1.length cb1) ∧ w'.cell? ⟨w.heap.size, 0, none⟩ = some (.slice (some ad) n0.length cn0) ∧ w'.cell? ⟨w.heap.size, 1, none⟩ = some (.slice An1 n1.length cn1) ∧ w'.cell? (ad.add (i * 3)) = some (.int .i64 p.f0) ∧ w'.cell? ⟨(ad.add (i * 3)).block, (ad.add (i * 3)).off + 1, none⟩ = some (.int .i64 p.f1) ∧ w'.cell? ⟨(ad.add (i * 3)).block, (ad.add (i * 3)).off + 2, none⟩ = some (.slice A2 p.f2.length c2)) (ds := [11]) #[false, false, false, false, false, false, false, false, false, false, false, false, false] (by kernel_rfl) rfl rfl ⟨(blk_cell B9 0).trans rfl, (blk_cell B9 1).trans rfl, (blk_cell B2 0).trans rfl, (blk_cell B2 1).trans rfl, e0, e1, e2⟩ (fun hHeld => ?_)
        refine with_tabW netLostL.tab10 netLostL.bits10 (fun HT_ HW_ => ?_)
        generalize w12.drew = w13 at *
        refine pure_ (i := 1) (N := some 67) (v := ?_) (a' := ?_) #[false, true, false, false, false, false, false, false, false, false, false, false, false] rfl rfl (any_of HT_.out (by kernel_rfl)) (fun _ _ _ h => h) (Or.inl ⟨by rfl, ?_⟩) ?_ ?_
        rotate_left
        · intro w'
          go_simp
          with_reducible rfl
        rotate_left
        · simp only [Act.put, List.setIfInBounds_toArray, List.set_cons_zero, List.set_cons_succ, i64_w, i32_w]
          rfl
        refine pure_ (i := 3) (N := some 69) (v := ?_) (a' := ?_) #[false, true, false, true, false, false, false, false, false, false, false, false, false] rfl rfl (any_of HT_.out (by kernel_rfl)) (fun _ _ _ h => h) (Or.inl ⟨by rfl, ?_⟩) ?_ ?_
        rotate_left
        · intro w'
          go_simp
          with_reducible rfl
        rotate_left
        · simp only [Act.put, List.setIfInBounds_toArray, List.set_cons_zero, List.set_cons_succ, i64_w, i32_w]
          rfl
        refine take_ (i := 0) (N := some 66) (v := ?_) (a' := ?_) #[true, true, false, true, false, false, false, false, false, false, false, false, false] rfl rfl (take_ofW HT_.out HW_.out (by kernel_rfl)) (fun _ _ _ h => h) (Or.inl ⟨by rfl, ?_⟩) hHeld ?_ ?_
        rotate_left
        · rintro w' ⟨s0, s1, s2, s3, s4, s5, s6⟩
          go_simp
          with_reducible rfl
        rotate_left
        · simp only [Act.put, List.setIfInBounds_toArray, List.set_cons_zero, List.set_cons_succ, i64_w, i32_w]
          rfl
        refine take_ (i := 2) (N := some 68) (v := ?_) (a' := ?_) #[true, true, true, true, false, false, false, false, false, false, false, false, false] rfl rfl (take_ofW HT_.out HW_.out (by kernel_rfl)) (fun _ _ _ h => h) (Or.inl ⟨by rfl, ?_⟩) hHeld ?_ ?_
        rotate_left
        · rintro w' ⟨s0, s1, s2, s3, s4, s5, s6⟩
          go_simp
          with_reducible rfl
        rotate_left
        · simp only [Act.put, List.setIfInBounds_toArray, List.set_cons_zero, List.set_cons_succ, i64_w, i32_w]
          rfl
        refine pure_ (i := 4) (N := some 70) (v := ?_) (a' := ?_) #[true, true, true, true, true, false, false, false, false, false, false, false, false] rfl rfl (any_of HT_.out (by kernel_rfl)) (fun _ _ _ h => h) (Or.inl ⟨by rfl, ?_⟩) ?_ ?_
        rotate_left
        · intro w'
          go_simp
          with_reducible rfl
        rotate_left
        · simp only [Act.put, List.setIfInBounds_toArray, List.set_cons_zero, List.set_cons_succ, i64_w, i32_w]
          rfl
        refine take_ (i := 5) (N := some 71) (v := ?_) (a' := ?_) #[true, true, true, true, true, true, false, false, false, false, false, false, false] rfl rfl (take_ofW HT_.out HW_.out (by kernel_rfl)) (fun _ _ _ h => h) (Or.inl ⟨by rfl, ?_⟩) hHeld ?_ ?_
        rotate_left
        · rintro w' ⟨s0, s1, s2, s3, s4, s5, s6⟩
          go_simp
          with_reducible rfl
        rotate_left
        · simp only [Act.put, List.setIfInBounds_toArray, List.set_cons_zero, List.set_cons_succ, i64_w, i32_w]
          rfl
        refine join_ (σ := Value × Value × Nat) 2 #[true, true, true, true, true, true, true, true, true, true, true, false, false] (fun s_ => [(72, .tuple #[.agg #[s_.1, s_.2.1], .int .i64 0]), (65, .tuple #[.agg #[s_.1, s_.2.1], .int .i64 0]), (73, .agg #[s_.1, s_.2.1]), (74, .int .i64 0), (15, .pointer (some ⟨s_.2.2, 0, none⟩))]) (fun s_ w' => Below w13.heap.size w13 w' ∧ Kd.V k28 28 w' 0 (fun k_ => k_ ≠ s_.2.2) s_.1 d0 ∧ Kd.V k55 55 w' 0 (fun k_ => k_ ≠ s_.2.2) s_.2.1 n1 ∧ w'.heap[s_.2.2]? = some (.cells #[.slice none 0 0, .slice none 0 0] 25 (0, 0)) ∧ w13.heap.size ≤ s_.2.2) ?_ ?_
        rotate_left
        · intro hCont
          refine two_ (i := 6) (j := 10) (Ni := some 72) (Nj := some 15) #[true, true, true, true, true, true, true, false, false, false, false, false, false] #[true, true, true, true, true, true, false, false, false, false, true, false, false] rfl rfl rfl rfl (two_of HT_.out (by kernel_rfl)) (by decide) (by decide) (fun K hK => ?_) (fun K hK => ?_)
          · skip
            refine goes_ Try.func11 (by kernel_rfl) rfl #[.agg #[.slice Ab0 b0.length cb0, .slice Ab1 n1.length cb1], .agg #[.int .i64 p.f0, .int .i64 p.f1, .slice A2 p.f2.length c2]] (by rfl) rfl rfl (by (try simp only [List.map_toArray, List.map_cons, List.map_nil]); first | done | rfl) ?_
            refine (network_Send.calls k (fun _ => True) Ab0 cb0 b0 (fun _ => True) Ab1 cb1 n1 p.f0 p.f1 (fun _ => True) A2 c2 p.f2 d0 n1 0 w13 Vb0 Vb1 Ve hS).mono ?_
            rintro e w14 ⟨v0, v1, rfl, Vq, Va, hb⟩
            refine ⟨_, rfl, ?_⟩
            refine hK.out _ _ ⟨(blk_cell (blk_below B9 hb) 0).trans rfl, (blk_cell (blk_below B9 hb) 1).trans rfl, (blk_cell (blk_below B2 hb) 0).trans rfl, (blk_cell (blk_below B2 hb) 1).trans rfl, pw_cell_below hb e0, pw_cell_below hb e1, pw_cell_below hb e2⟩ (fun hHeld => ?_)
            clear hK K
            refine norm_ (a' := ?_) ?_ ?_
            rotate_left
            · show Act.put _ (some 72) _ = _
              simp only [Act.put, List.setIfInBounds_toArray, List.set_cons_zero, List.set_cons_succ, i64_w, i32_w]
              rfl
            refine pure_ (i := 7) (N := some 65) (v := ?_) (a' := ?_) #[true, true, true, true, true, true, true, true, false, false, false, false, false] rfl rfl (any_of HT_.out (by kernel_rfl)) (fun _ _ _ h => h) (Or.inl ⟨by rfl, ?_⟩) ?_ ?_
            rotate_left
            · intro w'
              go_simp
              with_reducible rfl
            rotate_left
            · simp only [Act.put, List.setIfInBounds_toArray, List.set_cons_zero, List.set_cons_succ, i64_w, i32_w]
              rfl
            refine pure_ (i := 8) (N := some 73) (v := ?_) (a' := ?_) #[true, true, true, true, true, true, true, true, true, false, false, false, false] rfl rfl (any_of HT_.out (by kernel_rfl)) (fun _ _ _ h => h) (Or.inl ⟨by rfl, ?_⟩) ?_ ?_
            rotate_left
            · intro w'
              go_simp
              with_reducible rfl
            rotate_left
            · simp only [Act.put, List.setIfInBounds_toArray, List.set_cons_zero, List.set_cons_succ, i64_w, i32_w]
              rfl
            refine pure_ (i := 9) (N := some 74) (v := ?_) (a' := ?_) #[true, true, true, true, true, true, true, true, true, true, false, false, false] rfl rfl (any_of HT_.out (by kernel_rfl)) (fun _ _ _ h => h) (Or.inl ⟨by rfl, ?_⟩) ?_ ?_
            rotate_left
            · intro w'
              go_simp
              with_reducible rfl
            rotate_left
            · simp only [Act.put, List.setIfInBounds_toArray, List.set_cons_zero, List.set_cons_succ, i64_w, i32_w]
              rfl
            refine one_ (i := 10) (N := some 15) #[true, true, true, true, true, true, true, true, true, true, true, false, false] rfl rfl (one_of HT_.out (by kernel_rfl)) (by decide) (fun K hK => ?_)
            refine value_ (w1 := ?_) (v := ?_) (by rfl) rfl ?_ ?_
            rotate_left 2
            · go_simp
              constructor
              · rfl
              · rfl
            have hbA : Below w13.heap.size w13 (w14.alloc (.cells #[.slice none 0 0, .slice none 0 0] 25)) := hb.trans (((Below.refl _ w14).alloc (Nat.le_refl _) _).mono hb.size)
            refine hK.out _ _ ⟨(blk_cell (blk_below B9 hbA) 0).trans rfl, (blk_cell (blk_below B9 hbA) 1).trans rfl, (blk_cell (blk_below B2 hbA) 0).trans rfl, (blk_cell (blk_below B2 hbA) 1).trans rfl, pw_cell_below hbA e0, pw_cell_below hbA e1, pw_cell_below hbA e2⟩ (fun hHeld => ?_)
            clear hK K
            refine norm_ (a' := ?_) ?_ ?_
            rotate_left
            · show Act.put _ (some 15) _ = _
              simp only [Act.put, List.setIfInBounds_toArray, List.set_cons_zero, List.set_cons_succ, i64_w, i32_w]
              rfl
            exact norm_ (by simp only [putAll, Act.put, List.setIfInBounds_toArray, List.set_cons_zero, List.set_cons_succ]) (hCont (v0, v1, w14.heap.size) _ ⟨hbA, Vnew Vq, Vnew Va, World.alloc_heap_new w14 _, hb.size⟩)
          · skip
            refine value_ (w1 := ?_) (v := ?_) (by rfl) rfl ?_ ?_
            rotate_left 2
            · go_simp
              constructor
              · rfl
              · rfl
            have hb : Below w13.heap.size w13 (w13.alloc (.cells #[.slice none 0 0, .slice none 0 0] 25)) := (Below.refl _ w13).alloc (Nat.le_refl _) _
            refine hK.out _ _ ⟨(blk_cell (blk_below B9 hb) 0).trans rfl, (blk_cell (blk_below B9 hb) 1).trans rfl, (blk_cell (blk_below B2 hb) 0).trans rfl, (blk_cell (blk_below B2 hb) 1).trans rfl, pw_cell_below hb e0, pw_cell_below hb e1, pw_cell_below hb e2⟩ (fun hHeld => ?_)
            clear hK K
            refine norm_ (a' := ?_) ?_ ?_
            rotate_left
            · show Act.put _ (some 15) _ = _
              simp only [Act.put, List.setIfInBounds_toArray, List.set_cons_zero, List.set_cons_succ, i64_w, i32_w]
              rfl
            refine one_ (i := 6) (N := some 72) #[true, true, true, true, true, true, true, false, false, false, true, false, false] rfl rfl (one_of HT_.out (by kernel_rfl)) (by decide) (fun K hK => ?_)
            refine goes_ Try.func11 (by kernel_rfl) rfl #[.agg #[.slice Ab0 b0.length cb0, .slice Ab1 n1.length cb1], .agg #[.int .i64 p.f0, .int .i64 p.f1, .slice A2 p.f2.length c2]] (by rfl) rfl rfl (by (try simp only [List.map_toArray, List.map_cons, List.map_nil]); first | done | rfl) ?_
            refine (network_Send.calls k (fun k_ => k_ ≠ w13.heap.size) Ab0 cb0 b0 (fun k_ => k_ ≠ w13.heap.size) Ab1 cb1 n1 p.f0 p.f1 (fun k_ => k_ ≠ w13.heap.size) A2 c2 p.f2 d0 n1 0 (w13.alloc (.cells #[.slice none 0 0, .slice none 0 0] 25)) (Vne Vb0 hb) (Vne Vb1 hb) (Vne Ve hb) hS).mono ?_
            rintro e w15 ⟨v0, v1, rfl, Vq, Va, hb3⟩
            refine ⟨_, rfl, ?_⟩
            have hbB : Below w13.heap.size w13 w15 := hb.trans (hb3.mono hb.size)
            refine hK.out _ _ ⟨(blk_cell (blk_below B9 hbB) 0).trans rfl, (blk_cell (blk_below B9 hbB) 1).trans rfl, (blk_cell (blk_below B2 hbB) 0).trans rfl, (blk_cell (blk_below B2 hbB) 1).trans rfl, pw_cell_below hbB e0, pw_cell_below hbB e1, pw_cell_below hbB e2⟩ (fun hHeld => ?_)
            clear hK K
            refine norm_ (a' := ?_) ?_ ?_
            rotate_left
            · show Act.put _ (some 72) _ = _
              simp only [Act.put, List.setIfInBounds_toArray, List.set_cons_zero, List.set_cons_succ, i64_w, i32_w]
              rfl
            refine pure_ (i := 7) (N := some 65) (v := ?_) (a' := ?_) #[true, true, true, true, true, true, true, true, false, false, true, false, false] rfl rfl (any_of HT_.out (by kernel_rfl)) (fun _ _ _ h => h) (Or.inl ⟨by rfl, ?_⟩) ?_ ?_
            rotate_left
            · intro w'
              go_simp
              with_reducible rfl
            rotate_left
            · simp only [Act.put, List.setIfInBounds_toArray, List.set_cons_zero, List.set_cons_succ, i64_w, i32_w]
              rfl
            refine pure_ (i := 8) (N := some 73) (v := ?_) (a' := ?_) #[true, true, true, true, true, true, true, true, true, false, true, false, false] rfl rfl (any_of HT_.out (by kernel_rfl)) (fun _ _ _ h => h) (Or.inl ⟨by rfl, ?_⟩) ?_ ?_
            rotate_left
            · intro w'
              go_simp
              with_reducible rfl
            rotate_left
            · simp only [Act.put, List.setIfInBounds_toArray, List.set_cons_zero, List.set_cons_succ, i64_w, i32_w]
              rfl
            refine pure_ (i := 9) (N := some 74) (v := ?_) (a' := ?_) #[true, true, true, true, true, true, true, true, true, true, true, false, false] rfl rfl (any_of HT_.out (by kernel_rfl)) (fun _ _ _ h => h) (Or.inl ⟨by rfl, ?_⟩) ?_ ?_
            rotate_left
            · intro w'
              go_simp
              with_reducible rfl
            rotate_left
            · simp only [Act.put, List.setIfInBounds_toArray, List.set_cons_zero, List.set_cons_succ, i64_w, i32_w]
              rfl
            exact norm_ (by simp only [putAll, Act.put, List.setIfInBounds_toArray, List.set_cons_zero, List.set_cons_succ]) (hCont (v0, v1, w13.heap.size) _ ⟨hbB, Vold Vq, Vold Va, blk_below (World.alloc_heap_new w13 _) hb3, Nat.le_refl _⟩)
        rintro ⟨v0, v1, g15⟩ w16 ⟨hbJ, Vq, Va, Bz, hg15⟩
        dsimp only at Vq Va Bz hg15
        obtain ⟨A150, c150, rfl⟩ := Kd.V_slice Vq
        obtain ⟨A151, c151, rfl⟩ := Kd.V_slice Va
        have hHeld : w16.cell? ⟨w7.heap.size, 0, none⟩ = some (.slice Ab0 b0.length cb0) ∧ w16.cell? ⟨w7.heap.size, 1, none⟩ = some (.slice Ab1 n1.length cb1) ∧ w16.cell? ⟨w.heap.size, 0, none⟩ = some (.slice (some ad) n0.length cn0) ∧ w16.cell? ⟨w.heap.size, 1, none⟩ = some (.slice An1 n1.length cn1) ∧ w16.cell? (ad.add (i * 3)) = some (.int .i64 p.f0) ∧ w16.cell? ⟨(ad.add (i * 3)).block, (ad.add (i * 3)).off + 1, none⟩ = some (.int .i64 p.f1) ∧ w16.cell? ⟨(ad.add (i * 3)).block, (ad.add (i * 3)).off + 2, none⟩ = some (.slice A2 p.f2.length c2) := ⟨(blk_cell (blk_below B9 hbJ) 0).trans rfl, (blk_cell (blk_below B9 hbJ) 1).trans rfl, (blk_cell (blk_below B2 hbJ) 0).trans rfl, (blk_cell (blk_below B2 hbJ) 1).trans rfl, pw_cell_below hbJ e0, pw_cell_below hbJ e1, pw_cell_below hbJ e2⟩
        have hz0 := (blk_cell Bz 0).trans rfl
        have hz1 := (blk_cell Bz 1).trans rfl
        have hy0 := blk_frozen Bz 0
        have hy1 := blk_frozen Bz 1
        refine norm_ (a' := ?_) ?_ ?_
        rotate_left
        · simp only [putAll, Act.put, List.setIfInBounds_toArray, List.set_cons_zero, List.set_cons_succ]
          rfl
        refine last_ (i := 11) (N := none) #[true, true, true, true, true, true, true, true, true, true, true, true, false] rfl rfl (one_of HT_.out (by kernel_rfl)) (by decide) (fun K hK => ?_)
        refine skip_ (w1 := ?_) (by rfl) rfl ?_ ?_
        rotate_left
        · go_simp
          rfl
        refine hK.out _ _ ?_
        clear hK K
        refine pure_ (i := 12) (N := some 16) (v := ?_) (a' := ?_) #[true, true, true, true, true, true, true, true, true, true, true, true, true] rfl rfl (any_of HT_.out (by kernel_rfl)) (fun _ _ _ h => h) (Or.inl ⟨by rfl, ?_⟩) ?_ ?_
        rotate_left
        · intro w'
          go_simp
          with_reducible rfl
        rotate_left
        · simp only [Act.put, List.setIfInBounds_toArray, List.set_cons_zero, List.set_cons_succ, i64_w, i32_w]
          rfl
        refine done_ (done_of HT_.out (by kernel_rfl)) ?_
        have hbF : Below w13.heap.size w13 ((w16.setCell ⟨g15, 0, none⟩ (.slice A150 d0.length c150)).setCell ⟨g15, 1, none⟩ (.slice A151 n1.length c151)) := below_set (below_set hbJ hg15) hg15
        have B15 : ((w16.setCell ⟨g15, 0, none⟩ (.slice A150 d0.length c150)).setCell ⟨g15, 1, none⟩ (.slice A151 n1.length c151)).heap[g15]? = some (.cells #[.slice A150 d0.length c150, .slice A151 n1.length c151] 25 (0, 0)) := blk_put (blk_put Bz 0 _ rfl) 1 _ rfl
        replace Vq := Vt (Kd.V_far (p := ⟨g15, 1, none⟩) (Kd.V_far (p := ⟨g15, 0, none⟩) Vq (fun _ hk => hk) (.slice A150 d0.length c150)) (fun _ hk => hk) (.slice A151 n1.length c151))
        replace Va := Vt (Kd.V_far (p := ⟨g15, 1, none⟩) (Kd.V_far (p := ⟨g15, 0, none⟩) Va (fun _ hk => hk) (.slice A150 d0.length c150)) (fun _ hk => hk) (.slice A151 n1.length c151))
        replace HB := below_step HB hbF
        replace Vn0 := Kd.V_below Vn0 hbF
        replace Vn1 := Kd.V_below Vn1 hbF
        replace B2 := blk_below B2 hbF
        replace Va0 := Kd.V_below Va0 hbF
        replace Va1 := Kd.V_below Va1 hbF
        replace B7 := blk_below B7 hbF
        replace Vb0 := Kd.V_below Vb0 hbF
        replace Vb1 := Kd.V_below Vb1 hbF
        replace B9 := blk_below B9 hbF
        replace Vc0 := Kd.V_below Vc0 hbF
        replace Vc1 := Kd.V_below Vc1 hbF
        replace B11 := blk_below B11 hbF
        replace Vd0 := Kd.V_below Vd0 hbF
        replace Vd1 := Kd.V_below Vd1 hbF
        replace B13 := blk_below B13 hbF
        replace Ve := Kd.V_below Ve hbF
        clear hbF hbJ Bz hz0 hz1 hy0 hy1 hHeld
        generalize (w16.setCell ⟨g15, 0, none⟩ (.slice A150 d0.length c150)).setCell ⟨g15, 1, none⟩ (.slice A151 n1.length c151) = w17 at *
        have V150 := Vq
        have V151 := Va
        clear Vq Va
        have x7_0 := (blk_cell B7 0).trans rfl
        have x7_1 := (blk_cell B7 1).trans rfl
        have x9_0 := (blk_cell B9 0).trans rfl
        have x9_1 := (blk_cell B9 1).trans rfl
        have x13_0 := (blk_cell B13 0).trans rfl
        have x13_1 := (blk_cell B13 1).trans rfl
        have x15_0 := (blk_cell B15 0).trans rfl
        have x15_1 := (blk_cell B15 1).trans rfl
        have x11_0 := (blk_cell B11 0).trans rfl
        have x11_1 := (blk_cell B11 1).trans rfl
        have x2_0 := (blk_cell B2 0).trans rfl
        have x2_1 := (blk_cell B2 1).trans rfl
        go_wp2_with fail
        clear x7_0 x7_1
        clear x9_0 x9_1
        clear x13_0 x13_1
        clear x15_0 x15_1
        clear x11_0 x11_1
        clear x2_0 x2_1
        refine (signatoryref06_Same.calls k Aa0 ca0 b0 Aa1 ca1 n1 Ab0 cb0 b0 Ab1 cb1 n1 true w17 (Kd.V_reads' Va0).2.2 (Kd.V_reads' Va0).2.1 (Kd.V_reads' Va1).2.2 (Kd.V_reads' Va1).2.1 (Kd.V_reads' Vb0).2.2 (Kd.V_reads' Vb0).2.1 (Kd.V_reads' Vb1).2.2 (Kd.V_reads' Vb1).2.1 hE1).mono ?_
        rintro e w18 ⟨rfl, hb⟩
        replace HB := below_step HB hb
        replace Vn0 := Kd.V_below Vn0 hb
        replace Vn1 := Kd.V_below Vn1 hb
        replace B2 := blk_below B2 hb
        replace Va0 := Kd.V_below Va0 hb
        replace Va1 := Kd.V_below Va1 hb
        replace B7 := blk_below B7 hb
        replace Vb0 := Kd.V_below Vb0 hb
        replace Vb1 := Kd.V_below Vb1 hb
        replace B9 := blk_below B9 hb
        replace Vc0 := Kd.V_below Vc0 hb
        replace Vc1 := Kd.V_below Vc1 hb
        replace B11 := blk_below B11 hb
        replace Vd0 := Kd.V_below Vd0 hb
        replace Vd1 := Kd.V_below Vd1 hb
        replace B13 := blk_below B13 hb
        replace Ve := Kd.V_below Ve hb
        replace V150 := Kd.V_below V150 hb
        replace V151 := Kd.V_below V151 hb
        replace B15 := blk_below B15 hb
        clear hb
        dsimp only
        have x13_0 := (blk_cell B13 0).trans rfl
        have x13_1 := (blk_cell B13 1).trans rfl
        have x15_0 := (blk_cell B15 0).trans rfl
        have x15_1 := (blk_cell B15 1).trans rfl
        have x11_0 := (blk_cell B11 0).trans rfl
        have x11_1 := (blk_cell B11 1).trans rfl
        have x2_0 := (blk_cell B2 0).trans rfl
        have x2_1 := (blk_cell B2 1).trans rfl
        go_wp2_with fail
        clear x13_0 x13_1
        clear x15_0 x15_1
        clear x11_0 x11_1
        clear x2_0 x2_1
        refine (signatoryref06_Same.calls k Ad0 cd0 d0 Ad1 cd1 n1 A150 c150 d0 A151 c151 n1 true w18 (Kd.V_reads' Vd0).2.2 (Kd.V_reads' Vd0).2.1 (Kd.V_reads' Vd1).2.2 (Kd.V_reads' Vd1).2.1 (Kd.V_reads' V150).2.2 (Kd.V_reads' V150).2.1 (Kd.V_reads' V151).2.2 (Kd.V_reads' V151).2.1 hE2).mono ?_
        rintro e w19 ⟨rfl, hb⟩
        replace HB := below_step HB hb
        replace Vn0 := Kd.V_below Vn0 hb
        replace Vn1 := Kd.V_below Vn1 hb
        replace B2 := blk_below B2 hb
        replace Va0 := Kd.V_below Va0 hb
        replace Va1 := Kd.V_below Va1 hb
        replace B7 := blk_below B7 hb
        replace Vb0 := Kd.V_below Vb0 hb
        replace Vb1 := Kd.V_below Vb1 hb
        replace B9 := blk_below B9 hb
        replace Vc0 := Kd.V_below Vc0 hb
        replace Vc1 := Kd.V_below Vc1 hb
        replace B11 := blk_below B11 hb
        replace Vd0 := Kd.V_below Vd0 hb
        replace Vd1 := Kd.V_below Vd1 hb
        replace B13 := blk_below B13 hb
        replace Ve := Kd.V_below Ve hb
        replace V150 := Kd.V_below V150 hb
        replace V151 := Kd.V_below V151 hb
        replace B15 := blk_below B15 hb
        clear hb
        dsimp only
        have hlast2 := hlast.out
        have x11_0 := (blk_cell B11 0).trans rfl
        have x11_1 := (blk_cell B11 1).trans rfl
        have x2_0 := (blk_cell B2 0).trans rfl
        have x2_1 := (blk_cell B2 1).trans rfl
        go_wp2_with fail
        clear x11_0 x11_1
        clear x2_0 x2_1
        go_ret
        exact ⟨rfl, HB⟩
  · have hfew : signatoryref06_Few.f n0 n1 = some false := by
      unfold signatoryref06_Few.f
      by_cases h : (n0.length : Int) ≤ 40
      · rw [if_pos h, decide_eq_false (by omega)]
      · rw [if_neg h]
    clear hq
    go_enter Try.func8, Try.ntmps8
    have HB := Below.refl w.heap.size w
    have hba := (Below.refl _ w).alloc (Nat.le_refl _) (.cells #[.slice An0 n0.length cn0, .slice An1 n1.length cn1] 25)
    replace HB := below_step HB hba
    replace Vn0 := Kd.V_below Vn0 hba
    replace Vn1 := Kd.V_below Vn1 hba
    have B2 := World.alloc_heap_new w (.cells #[.slice An0 n0.length cn0, .slice An1 n1.length cn1] 25)
    clear hba
    go_wp2_with fail
    generalize w.alloc (.cells #[.slice An0 n0.length cn0, .slice An1 n1.length cn1] 25) = w1 at *
    refine (sane_ok w1).mono ?_
    rintro e w2 ⟨rfl, hb⟩
    replace HB := below_step HB hb
    replace Vn0 := Kd.V_below Vn0 hb
    replace Vn1 := Kd.V_below Vn1 hb
    replace B2 := blk_below B2 hb
    clear hb
    dsimp only
    have x2_0 := (blk_cell B2 0).trans rfl
    have x2_1 := (blk_cell B2 1).trans rfl
    go_wp2_with fail
    clear x2_0 x2_1
    refine (signatoryref06_Few.calls An0 cn0 n0 An1 cn1 n1 false w2 (Kd.V_reads' Vn0).2.2 (Kd.V_reads' Vn0).2.1 (Kd.V_reads' Vn1).2.2 (Kd.V_reads' Vn1).2.1 hfew).mono ?_
    rintro e w3 ⟨rfl, hb⟩
    replace HB := below_step HB hb
    replace Vn0 := Kd.V_below Vn0 hb
    replace Vn1 := Kd.V_below Vn1 hb
    replace B2 := blk_below B2 hb
    clear hb
    dsimp only
    have x2_0 := (blk_cell B2 0).trans rfl
    have x2_1 := (blk_cell B2 1).trans rfl
    go_wp2_with fail
    clear x2_0 x2_1
    go_ret
    exact ⟨rfl, HB⟩
end Go.Proofs.Ythlehlbokaeigaa.Q
