-- Written by wip/tools/extprint.py of this repo (a program of this claim's own, over the kit's printer) out of the translation; Lean checks it.
import Derived.Test.YthlehlbokaeigaaQ0
import Derived.Test.YthlehlbokaeigaaQ11
import Derived.Test.YthlehlbokaeigaaQ13
namespace Go.Proofs.Ythlehlbokaeigaa.Q
open Go.RowKit Go.Proofs.YthlehlbokaeigaaW.PrintWords Go.Proofs.YthlehlbokaeigaaW.PrintLast Go.Proofs.YthlehlbokaeigaaW.PrintMore
attribute [local go_sem] max2_int min2_int max_two min_two max_three min_three max_four min_four   -- for this text's walks alone
set_option linter.unusedVariables false
set_option linter.unusedSimpArgs false


/-- Where a shared row that is not empty lies: not in a block that it may not lead to. -/
theorem V_blk {α : Type} {d : Kd α} {e base n c g : Nat} {ok : Nat → Prop} {W : World} {ad : Addr} {xs : List α} {i : Int} (h : Kd.V d e W base ok (.slice (some ad) n c) xs) (hok : ∀ k, ok k → k ≠ g) (hs : 0 < d.sz := by decide)
  (hn : (i < (n : Int)) = True := by assumption) (hi : (0 ≤ i) = True := by assumption) : ad.block ≠ g := by
 rintro rfl
 have hn0 : 0 < n := by have h1 := of_eq_true hn; have h2 := of_eq_true hi; omega
 obtain ⟨A, c', hv, hl, hf⟩ := h
 injection hv with hA hn1 hc
 subst hA
 have hlen : 0 < xs.length := by rw [← hn1]; exact hn0
 have h1 := Kd.F_step (W1 := { W with heap := W.heap.setIfInBounds ad.block (.cells #[] 0 (0, 0)) }) hf (fun k hk _ => by
  have hne := hok k hk
  simp only [Array.getElem?_setIfInBounds]
  rw [if_neg (Ne.symm hne)])
 obtain ⟨p, hp, hr⟩ := (Kd.F_now h1).2.2 hlen
 obtain rfl := Option.some.inj hp
 obtain ⟨x, hx⟩ : ∃ x, xs[0]? = some x := ⟨_, List.getElem?_eq_getElem hlen⟩
 obtain ⟨cs, hcl, _, hcell⟩ := hr 0 x hx
 have hc0 : 0 < cs.length := by omega
 have hq := hcell 0 _ (List.getElem?_eq_getElem hc0)
 unfold World.cell? at hq
 simp only [Addr.add, Array.getElem?_setIfInBounds] at hq
 split at hq <;> simp_all
/-! ### signatoryref06_Repeat: function 26 -/
def signatoryref06_Repeat.f (k : Nat) (l0_0 : List (S28)) (l0_1 : List (S55)) (a1 : Int) : Option ((List (S28)) × (List (S55)) × Int) := (signatoryref06_asked.f k l0_0 l0_1 a1).bind fun t326 => (if t326 = 0 then (if 0 ≤ a1 then (if a1 < (l0_0.length : Int) then ((signatoryref06_Send.f k l0_0 l0_1 ((rd_T28 l0_0 a1).f0) ((rd_T28 l0_0 a1).f1) ((rd_T28 l0_0 a1).f2)).bind fun bt328 => (some (bt328.1, bt328.2.1, bt328.2.2))) else (none)) else (none)) else (some (([] : List (S28)), ([] : List (S55)), t326)))
theorem signatoryref06_Repeat.mono : ∀ a0 a1 a2 k, LeO (signatoryref06_Repeat.f k a0 a1 a2) (signatoryref06_Repeat.f (k + 1) a0 a1 a2) := by
 intro a0 a1 a2 k
 unfold signatoryref06_Repeat.f
 repeat' first
   | (with_reducible exact signatoryref06_Send.mono _ _ _ _ _ _)
   | (with_reducible exact signatoryref06_asked.mono _ _ _ _)
   | (with_reducible exact LeO.refl _)
   | (with_reducible exact LeO.none _)
   | (with_reducible refine LeO.ite ?_ ?_)
   | (with_reducible refine LeO.bind ?_ (fun _ => ?_))
   | exact signatoryref06_Send.mono _ _ _ _ _ _
   | exact signatoryref06_asked.mono _ _ _ _
   | exact LeO.none _
   | refine LeO.ite ?_ ?_
   | refine LeO.bind ?_ (fun _ => ?_)
def signatoryref06_Repeat.T4 : Bool × List (List Nat × List Nat) := (true, [([], []), ([], []), ([1], [1]), ([], []), ([2, 3], [2, 3]), ([4], [4]), ([0, 5], [0, 5]), ([6], [6]), ([6], [6]), ([7, 6, 0, 1, 2, 3, 4, 5, 6, 7, 8], [7]), ([8, 9, 0, 1, 2, 3, 4, 5, 6, 7, 8, 9], [8])])
def signatoryref06_Repeat.B4 : List Nat := [0, 0, 2, 0, 14, 30, 63, 127, 127, 511, 1023]
theorem signatoryref06_Repeat.tab4 : rtab .any (opsOf Try.f26 4) = signatoryref06_Repeat.T4 := by kernel_rfl
theorem signatoryref06_Repeat.bits4 : waitsOk signatoryref06_Repeat.T4.2 signatoryref06_Repeat.B4 = true := by kernel_rfl
set_option maxHeartbeats 8000000 in
set_option maxRecDepth 100000 in
theorem signatoryref06_Repeat.calls (k : Nat) (P0_0_ : Nat → Prop) (A0_0 : Option Addr) (c0_0 : Nat) (l0_0 : List (S28)) (P0_1_ : Nat → Prop) (A0_1 : Option Addr) (c0_1 : Nat) (l0_1 : List (S55)) (a1 : Int) (r1 : List (S28)) (r2 : List (S55)) (r3 : Int) (w : World) (hs0_0 : Kd.V k28 28 w w.heap.size (fun k_ => P0_0_ k_) (.slice A0_0 l0_0.length c0_0) l0_0) (hs0_1 : Kd.V k55 55 w w.heap.size (fun k_ => P0_1_ k_) (.slice A0_1 l0_1.length c0_1) l0_1) (h : signatoryref06_Repeat.f k l0_0 l0_1 a1 = some (r1, r2, r3)) :
  Calls Try.prog 26 #[.agg #[.slice A0_0 l0_0.length c0_0, .slice A0_1 l0_1.length c0_1], .int .i64 a1] w fun e w' => ∃ v0_ v1_ : Value, e = .returned (.tuple #[.agg #[v0_, v1_], .int .i64 r3]) ∧ Kd.N k28 28 w' w.heap.size (fun k_ => ((P0_0_ k_ ∨ P0_1_ k_) ∨ w.heap.size ≤ k_)) v0_ r1 ∧ Kd.V k55 55 w' w.heap.size (fun k_ => ((P0_0_ k_ ∨ P0_1_ k_) ∨ w.heap.size ≤ k_) ∧ some k_ ≠ (v0_ : Value).ownBlock) v1_ r2 ∧ Below w.heap.size w w' := by
 have hu25 := Try.underlying25
 have hu28 := Try.underlying28
 have HO0_0 := Aside0.mk (show Kd.V k28 28 w w.heap.size (fun k_ => ((P0_0_ k_ ∨ P0_1_ k_) ∨ w.heap.size ≤ k_)) (.slice A0_0 l0_0.length c0_0) l0_0 from Kd.V_mono hs0_0 (fun k_ hk => .inl (.inl hk)))
 have HO0_1 := Aside0.mk (show Kd.V k55 55 w w.heap.size (fun k_ => ((P0_0_ k_ ∨ P0_1_ k_) ∨ w.heap.size ≤ k_)) (.slice A0_1 l0_1.length c0_1) l0_1 from Kd.V_mono hs0_1 (fun k_ hk => .inl (.inr hk)))
 have HB := Aside0.mk (Below.refl w.heap.size w)
 have H : ((signatoryref06_asked.f k l0_0 l0_1 a1).bind fun t326 => (if t326 = 0 then (if 0 ≤ a1 then (if a1 < (l0_0.length : Int) then ((signatoryref06_Send.f k l0_0 l0_1 ((rd_T28 l0_0 a1).f0) ((rd_T28 l0_0 a1).f1) ((rd_T28 l0_0 a1).f2)).bind fun bt328 => (some (bt328.1, bt328.2.1, bt328.2.2))) else (none)) else (none)) else (some (([] : List (S28)), ([] : List (S55)), t326)))) = some (r1, r2, r3) := h
 clear h
 replace H := Option.bind_eq_some_iff.mp H
 obtain ⟨t326, A30, H⟩ := H
 replace H : (if t326 = 0 then (if 0 ≤ a1 then (if a1 < (l0_0.length : Int) then ((signatoryref06_Send.f k l0_0 l0_1 ((rd_T28 l0_0 a1).f0) ((rd_T28 l0_0 a1).f1) ((rd_T28 l0_0 a1).f2)).bind fun bt328 => (some (bt328.1, bt328.2.1, bt328.2.2))) else (none)) else (none)) else (some (([] : List (S28)), ([] : List (S55)), t326))) = some (r1, r2, r3) := H
 have A3 := Aside0.mk A30
 clear A30
 by_cases c4 : t326 = 0
 ·rw [if_pos c4] at H
  have c4b0 : (t326 == 0) = true := beq_iff_eq.mpr c4
  have c4b1 : (t326 != 0) = false := bne_eq_false_iff_eq.mpr c4
  clear c4
  by_cases c5 : 0 ≤ a1
  ·rw [if_pos c5] at H
   have c5b0 : decide (0 ≤ a1) = true := decide_eq_true c5
   clear c5
   by_cases c6 : a1 < (l0_0.length : Int)
   ·rw [if_pos c6] at H
    have c6b0 : decide (a1 < (l0_0.length : Int)) = true := decide_eq_true c6
    clear c6
    replace H := Option.bind_eq_some_iff.mp H
    obtain ⟨⟨t328, t331, t334⟩, A70, H⟩ := H
    replace H : (some (t328, t331, t334)) = some (r1, r2, r3) := H
    have A7 := Aside0.mk A70
    clear A70
    simp only [Option.some.injEq, Prod.mk.injEq] at H
    obtain ⟨rfl, rfl, rfl⟩ := H
    go_enter Try.func26, Try.ntmps26
    try go_wp2_with (first | ((with_reducible refine gate_dst (N := 2) rfl ?_); refine box_event ?hg (N := 2) ?hd (cs := #[.slice A0_0 l0_0.length c0_0, .slice A0_1 l0_1.length c0_1]) (t := 25) ?hr ?_; (case hd => rfl); (case hg => rfl); (case hr => first | (go_simp; done) | (go_simp; rfl)); intro gb324 hg w8 hbox hb; have n0_ := Aside0.mk (Kd.V_below (Kd.V_elderB (Zv HO0_0.out) gb324 (Nat.le_of_eq hg.symm)) hb); have n1_ := Aside0.mk (Kd.V_below (Kd.V_elderB (Zv HO0_1.out) gb324 (Nat.le_of_eq hg.symm)) hb); have n2_ := Aside0.mk (below_step (Z0 HB) hb); have n3_ := Aside0.mk (hbox); have n4_ := Aside0.mk ((by rw [hg]; exact (below_size (Z0 HB)) : w.heap.size ≤ gb324)); have n5_ := Aside0.mk ((by rw [hg]; exact (below_size (Z0 HB)) : w.heap.size ≤ gb324)); clear HO0_0; clear HO0_1; clear HB; have HO0_0 := n0_; have HO0_1 := n1_; have HB := n2_; have BK324 := n3_; have GW324 := n4_; have GE324 := n5_; clear n0_ n1_ n2_ n3_ n4_ n5_; clear hb hbox hg) | ((with_reducible refine gate_dst (N := 4) rfl ?_); refine box_event ?hg (N := 4) ?hd (cs := #[.slice none 0 0, .slice none 0 0]) (t := 25) ?hr ?_; (case hd => rfl); (case hg => rfl); (case hr => first | (go_simp; done) | (go_simp; rfl)); intro gb325 hg w9 hbox hb; have n0_ := Aside0.mk (Kd.V_below (Kd.V_elderB (Zv HO0_0.out) gb325 (Nat.le_of_eq hg.symm)) hb); have n1_ := Aside0.mk (Kd.V_below (Kd.V_elderB (Zv HO0_1.out) gb325 (Nat.le_of_eq hg.symm)) hb); have n2_ := Aside0.mk (blk_below (g := gb324) (o := .cells #[.slice A0_0 l0_0.length c0_0, .slice A0_1 l0_1.length c0_1] 25 (0, 0)) (Zb BK324.out) hb); have n3_ := Aside0.mk (below_step (Z1 HB GE324) hb); have n4_ := Aside0.mk (hbox); have n5_ := Aside0.mk ((by rw [hg]; exact (below_size (Z1 HB GE324)) : w.heap.size ≤ gb325)); have n6_ := Aside0.mk ((by rw [hg]; exact (below_size (Z1 HB GE324)) : w.heap.size ≤ gb325)); have n7_ := Aside0.mk ((by rw [hg]; exact Nat.ne_of_lt (blk_lt (g := gb324) (o := .cells #[.slice A0_0 l0_0.length c0_0, .slice A0_1 l0_1.length c0_1] 25 (0, 0)) (Zb BK324.out)) : gb324 ≠ gb325)); have n8_ := Aside0.mk ((by rw [hg]; exact Nat.ne_of_gt (blk_lt (g := gb324) (o := .cells #[.slice A0_0 l0_0.length c0_0, .slice A0_1 l0_1.length c0_1] 25 (0, 0)) (Zb BK324.out)) : gb325 ≠ gb324)); clear HO0_0; clear HO0_1; clear BK324; clear HB; have HO0_0 := n0_; have HO0_1 := n1_; have BK324 := n2_; have HB := n3_; have BK325 := n4_; have GW325 := n5_; have GE325 := n6_; have NB324_325 := n7_; have NB325_324 := n8_; clear n0_ n1_ n2_ n3_ n4_ n5_ n6_ n7_ n8_; clear hb hbox hg; have hnb10 := NB324_325.out; have hnc10 := NB325_324.out; have hcz11_0 : w9.cell? ⟨gb324, 0, none⟩ = some (.slice A0_0 l0_0.length c0_0) := (blk_cell BK324.out 0).trans rfl; have hcz11_1 : w9.cell? ⟨gb324, 1, none⟩ = some (.slice A0_1 l0_1.length c0_1) := (blk_cell BK324.out 1).trans rfl; have hfz11_0 := blk_frozen BK324.out 0; have hfz11_1 := blk_frozen BK324.out 1) | ((with_reducible refine gate_callee (f := 41) rfl ?_); refine goesL_ (some 9) rfl rfl Try.func41 (by kernel_rfl) rfl #[.agg #[.slice A0_0 l0_0.length c0_0, .slice A0_1 l0_1.length c0_1], .int .i64 a1] rfl (by (try simp only [List.map_toArray, List.map_cons, List.map_nil]); first | done | rfl | (simp only [List.length_drop, List.length_take]; rfl)) ?_; (with_reducible refine (signatoryref06_asked.calls k _ _ l0_0 _ _ l0_1 a1 t326 _ ?side1 ?side2 ?side3 ?side4 A3.out).mono ?_); (case side1 => repeat (first | exact (Kd.V_reads' HO0_0.out).2.2 | (with_reducible refine Kd.C_alloc ?_ _) | (with_reducible refine Kd.C_drewN ?_ _) | (with_reducible refine Kd.C_drew ?_))); (case side2 => exact (Kd.V_reads' HO0_0.out).2.1); (case side3 => repeat (first | exact (Kd.V_reads' HO0_1.out).2.2 | (with_reducible refine Kd.C_alloc ?_ _) | (with_reducible refine Kd.C_drewN ?_ _) | (with_reducible refine Kd.C_drew ?_))); (case side4 => exact (Kd.V_reads' HO0_1.out).2.1); rintro e w12 ⟨rfl, hb⟩; refine ⟨_, rfl, ?_⟩; have n0_ := Aside0.mk (Kd.V_below (Zv HO0_0.out) hb); have n1_ := Aside0.mk (Kd.V_below (Zv HO0_1.out) hb); have n2_ := Aside0.mk (blk_below (g := gb324) (o := .cells #[.slice A0_0 l0_0.length c0_0, .slice A0_1 l0_1.length c0_1] 25 (0, 0)) (Zb BK324.out) hb); have n3_ := Aside0.mk (blk_below (g := gb325) (o := .cells #[.slice none 0 0, .slice none 0 0] 25 (0, 0)) (Zb BK325.out) hb); have n4_ := Aside0.mk (below_step (Z2 HB GE324 GE325) hb); clear HO0_0; clear HO0_1; clear BK324; clear BK325; clear HB; have HO0_0 := n0_; have HO0_1 := n1_; have BK324 := n2_; have BK325 := n3_; have HB := n4_; clear n0_ n1_ n2_ n3_ n4_; (try clear hb); (try clear hb2); (try clear hk); (try clear hi)))
    have n0_ := Aside0.mk (Kd.V_drew HO0_0.out)
    have n1_ := Aside0.mk (Kd.V_drew HO0_1.out)
    have n2_ := Aside0.mk (blk_drew BK324.out)
    have n3_ := Aside0.mk (blk_drew BK325.out)
    have n4_ := Aside0.mk (below_drew1 HB.out)
    clear HO0_0
    clear HO0_1
    clear BK324
    clear BK325
    clear HB
    have HO0_0 := n0_
    have HO0_1 := n1_
    have BK324 := n2_
    have BK325 := n3_
    have HB := n4_
    clear n0_ n1_ n2_ n3_ n4_
    have p327 : 0 ≤ (a1 : Int) := of_decide_eq_true (by first | (with_reducible assumption) | assumption)
    have q327 : a1 < (l0_0.length : Int) := of_decide_eq_true (by first | (with_reducible assumption) | assumption)
    obtain ⟨ad327, A327_2, c327_2, e327, hx327_0, hx327_1, hx327_2, hl327_2, hi327_2⟩ := at_T28 (Kd.V_reads' HO0_0.out).2.2 a1 p327 q327
    cases e327
    obtain ⟨ce327, hce327, hMe327, hcc327⟩ := Kd.V_get HO0_0.out z28 a1 p327 (by first | exact q327 | exact of_decide_eq_true (by first | (with_reducible assumption) | assumption) | (have e_ := (Kd.V_reads' HO0_0.out).1; omega))
    obtain ⟨ua327_2, uc327_2, rfl, ul327_2, ge327_2⟩ := k28_openF hMe327
    have hv327_2 := hcc327 2 _ rfl
    rw [add_field _ _ 2 (by omega)] at hv327_2
    replace hv327_2 := Option.some.inj (hv327_2.symm.trans hx327_2)
    injection hv327_2 with hva_ hvn_ hvc_
    rw [hva_] at ge327_2
    rw [hvc_] at ul327_2
    have HL327_2 := Aside0.mk (show Kd.V (Kd.int .u8) 5 _ w.heap.size _ _ ((rd_T28 l0_0 a1).f2) from Kd.V_mk ul327_2 ge327_2)
    clear hva_ hvn_ hvc_ ge327_2 ul327_2
    clear hcc327 hce327
    have HR327_2 := Aside0.mk hi327_2
    have HC327_2 := Aside0.mk hl327_2
    clear hi327_2 hl327_2
    replace p327 := eq_true p327
    replace q327 := eq_true q327
    refine start_ (n := 11) (S := fun w' => w'.cell? ⟨gb324, 0, none⟩ = some (.slice (some ad327) l0_0.length c0_0) ∧ w'.cell? ⟨gb324, 1, none⟩ = some (.slice A0_1 l0_1.length c0_1) ∧ w'.cell? (ad327.add ((a1).toNat * 3)) = some (.int .i64 ((rd_T28 l0_0 a1).f0)) ∧ w'.cell? ⟨(ad327.add ((a1).toNat * 3)).block, (ad327.add ((a1).toNat * 3)).off + 1, none⟩ = some (.int .i64 ((rd_T28 l0_0 a1).f1)) ∧ w'.cell? ⟨(ad327.add ((a1).toNat * 3)).block, (ad327.add ((a1).toNat * 3)).off + 2, none⟩ = some (.slice A327_2 ((rd_T28 l0_0 a1).f2).length c327_2)) (ds := []) #[false, false, false, false, false, false, false, false, false, false, false] (by kernel_rfl) rfl rfl ⟨(blk_cell BK324.out 0).trans rfl, (blk_cell BK324.out 1).trans rfl, hx327_0, hx327_1, hx327_2⟩ (fun hHeld => ?_); refine with_tabW signatoryref06_Repeat.tab4 signatoryref06_Repeat.bits4 (fun HT_ HW_ => ?_)
    generalize w12.drew = w13 at HO0_0 HO0_1 BK324 BK325 HB HL327_2 HR327_2 hx327_0 hx327_1 hx327_2 hHeld ⊢
    refine pure_ (i := 1) (N := some 15) (v := ?_) (a' := ?_) #[false, true, false, false, false, false, false, false, false, false, false] rfl rfl (any_of HT_.out (by kernel_rfl)) (fun _ _ _ h => h) (Or.inl ⟨by rfl, ?_⟩) ?_ ?_
    rotate_left
    ·intro w'
     go_simp
     with_reducible rfl
    rotate_left
    ·simp only [Act.put, List.setIfInBounds_toArray, List.set_cons_zero, List.set_cons_succ, i64_w, i32_w]
     rfl
    refine pure_ (i := 3) (N := some 17) (v := ?_) (a' := ?_) #[false, true, false, true, false, false, false, false, false, false, false] rfl rfl (any_of HT_.out (by kernel_rfl)) (fun _ _ _ h => h) (Or.inl ⟨by rfl, ?_⟩) ?_ ?_
    rotate_left
    ·intro w'
     go_simp
     with_reducible rfl
    rotate_left
    ·simp only [Act.put, List.setIfInBounds_toArray, List.set_cons_zero, List.set_cons_succ, i64_w, i32_w]
     rfl
    refine take_ (i := 0) (N := some 14) (v := ?_) (a' := ?_) #[true, true, false, true, false, false, false, false, false, false, false] rfl rfl (take_ofW HT_.out HW_.out (by kernel_rfl)) (fun _ _ _ h => h) (Or.inl ⟨by rfl, ?_⟩) hHeld ?_ ?_
    rotate_left
    ·rintro w' ⟨s0, s1, s2, s3, s4⟩
     go_simp
     with_reducible rfl
    rotate_left
    ·simp only [Act.put, List.setIfInBounds_toArray, List.set_cons_zero, List.set_cons_succ, i64_w, i32_w]
     rfl
    refine take_ (i := 2) (N := some 16) (v := ?_) (a' := ?_) #[true, true, true, true, false, false, false, false, false, false, false] rfl rfl (take_ofW HT_.out HW_.out (by kernel_rfl)) (fun _ _ _ h => h) (Or.inl ⟨by rfl, ?_⟩) hHeld ?_ ?_
    rotate_left
    ·rintro w' ⟨s0, s1, s2, s3, s4⟩
     go_simp
     with_reducible rfl
    rotate_left
    ·simp only [Act.put, List.setIfInBounds_toArray, List.set_cons_zero, List.set_cons_succ, i64_w, i32_w]
     rfl
    refine pure_ (i := 4) (N := some 18) (v := ?_) (a' := ?_) #[true, true, true, true, true, false, false, false, false, false, false] rfl rfl (any_of HT_.out (by kernel_rfl)) (fun _ _ _ h => h) (Or.inl ⟨by rfl, ?_⟩) ?_ ?_
    rotate_left
    ·intro w'
     go_simp
     with_reducible rfl
    rotate_left
    ·simp only [Act.put, List.setIfInBounds_toArray, List.set_cons_zero, List.set_cons_succ, i64_w, i32_w]
     rfl
    refine take_ (i := 5) (N := some 19) (v := ?_) (a' := ?_) #[true, true, true, true, true, true, false, false, false, false, false] rfl rfl (take_ofW HT_.out HW_.out (by kernel_rfl)) (fun _ _ _ h => h) (Or.inl ⟨by rfl, ?_⟩) hHeld ?_ ?_
    rotate_left
    ·rintro w' ⟨s0, s1, s2, s3, s4⟩
     go_simp
     with_reducible rfl
    rotate_left
    ·simp only [Act.put, List.setIfInBounds_toArray, List.set_cons_zero, List.set_cons_succ, i64_w, i32_w]
     rfl
    refine one_ (i := 6) (N := some 20) #[true, true, true, true, true, true, true, false, false, false, false] rfl rfl (one_of HT_.out (by kernel_rfl)) (by decide) (fun K hK => ?_)
    refine goes_ Try.func12 (by kernel_rfl) rfl #[.agg #[.slice (some ad327) l0_0.length c0_0, .slice A0_1 l0_1.length c0_1], .agg #[.int .i64 ((rd_T28 l0_0 a1).f0), .int .i64 ((rd_T28 l0_0 a1).f1), .slice A327_2 ((rd_T28 l0_0 a1).f2).length c327_2]] (by rfl) rfl rfl (by (try simp only [List.map_toArray, List.map_cons, List.map_nil]); first | done | rfl | (simp only [List.length_drop, List.length_take]; rfl)) ?_
    with_reducible refine (signatoryref06_Send.calls k (fun k_ => ((((P0_0_ k_ ∨ P0_1_ k_) ∨ w.heap.size ≤ k_) ∧ k_ ≠ gb324) ∧ k_ ≠ gb325)) _ _ l0_0 (fun k_ => ((((P0_0_ k_ ∨ P0_1_ k_) ∨ w.heap.size ≤ k_) ∧ k_ ≠ gb324) ∧ k_ ≠ gb325)) _ _ l0_1 ((rd_T28 l0_0 a1).f0) ((rd_T28 l0_0 a1).f1) (fun k_ => ((((P0_0_ k_ ∨ P0_1_ k_) ∨ w.heap.size ≤ k_) ∧ k_ ≠ gb324) ∧ k_ ≠ gb325)) _ _ ((rd_T28 l0_0 a1).f2) t328 t331 t334 _ ?side1 ?side2 ?side3 A7.out).mono ?_
    (case side1 => exact HO0_0.out)
    (case side2 => exact HO0_1.out)
    (case side3 => exact HL327_2.out)
    rintro e w14 ⟨v329, v332, rfl, ho0, ho1, hb⟩
    have HS2_ := (hb.cell (World.block_lt_of_cell? _ _ (hHeld.2.2.1))).trans (hHeld.2.2.1)
    have HS3_ := (hb.cell (World.block_lt_of_cell? _ _ (hHeld.2.2.2.1))).trans (hHeld.2.2.2.1)
    have HS4_ := (hb.cell (World.block_lt_of_cell? _ _ (hHeld.2.2.2.2))).trans (hHeld.2.2.2.2)
    refine ⟨_, rfl, ?_⟩
    have n0_ := Aside0.mk (Kd.V_elder' (Zv HO0_0.out) (Kd.N_base ho0) hb)
    have n1_ := Aside0.mk (Kd.V_elder' (Zv HO0_1.out) (Kd.N_base ho0) hb)
    have n2_ := Aside0.mk (Kd.V_elder' (Zv HL327_2.out) (Kd.N_base ho0) hb)
    have n3_ := Aside0.mk (Kd.N_lower (Kd.N_mono (ok' := fun k_ => ((P0_0_ k_ ∨ P0_1_ k_) ∨ w.heap.size ≤ k_) ∧ k_ ≠ gb324 ∧ k_ ≠ gb325) ho0 (fun k_ hk_ => ⟨Or.elim hk_ (fun hs_ => Or.elim hs_ (fun hs_ => hs_.1.1) (fun hs_ => Or.elim hs_ (fun hs_ => hs_.1.1) (fun hs_ => hs_.1.1))) (fun hn_ => (.inr (Nat.le_trans (below_size (Z2 HB GE324 GE325)) hn_))), Or.elim hk_ (fun hs_ => Or.elim hs_ (fun hs_ => hs_.1.2) (fun hs_ => Or.elim hs_ (fun hs_ => hs_.1.2) (fun hs_ => hs_.1.2))) (fun hn_ => (Kd.freshB (g := gb324) (o := .cells #[.slice (some ad327) l0_0.length c0_0, .slice A0_1 l0_1.length c0_1] 25 (0, 0)) (Zb BK324.out) k_ hn_)), Or.elim hk_ (fun hs_ => Or.elim hs_ (fun hs_ => hs_.2) (fun hs_ => Or.elim hs_ (fun hs_ => hs_.2) (fun hs_ => hs_.2))) (fun hn_ => (Kd.freshB (g := gb325) (o := .cells #[.slice none 0 0, .slice none 0 0] 25 (0, 0)) (Zb BK325.out) k_ hn_))⟩)) (below_size (Z2 HB GE324 GE325)))
    have n4_ := Aside0.mk (Kd.V_lower (Kd.V_mono (ok' := fun k_ => ((P0_0_ k_ ∨ P0_1_ k_) ∨ w.heap.size ≤ k_) ∧ some k_ ≠ (v329 : Value).ownBlock ∧ k_ ≠ gb324 ∧ k_ ≠ gb325) ho1 (fun k_ hk_ => ⟨Or.elim hk_.1 (fun hs_ => Or.elim hs_ (fun hs_ => hs_.1.1) (fun hs_ => Or.elim hs_ (fun hs_ => hs_.1.1) (fun hs_ => hs_.1.1))) (fun hn_ => (.inr (Nat.le_trans (below_size (Z2 HB GE324 GE325)) hn_))), hk_.2, Or.elim hk_.1 (fun hs_ => Or.elim hs_ (fun hs_ => hs_.1.2) (fun hs_ => Or.elim hs_ (fun hs_ => hs_.1.2) (fun hs_ => hs_.1.2))) (fun hn_ => (Kd.freshB (g := gb324) (o := .cells #[.slice (some ad327) l0_0.length c0_0, .slice A0_1 l0_1.length c0_1] 25 (0, 0)) (Zb BK324.out) k_ hn_)), Or.elim hk_.1 (fun hs_ => Or.elim hs_ (fun hs_ => hs_.2) (fun hs_ => Or.elim hs_ (fun hs_ => hs_.2) (fun hs_ => hs_.2))) (fun hn_ => (Kd.freshB (g := gb325) (o := .cells #[.slice none 0 0, .slice none 0 0] 25 (0, 0)) (Zb BK325.out) k_ hn_))⟩)) (below_size (Z2 HB GE324 GE325)))
    have n5_ := Aside0.mk (blk_below (g := gb324) (o := .cells #[.slice (some ad327) l0_0.length c0_0, .slice A0_1 l0_1.length c0_1] 25 (0, 0)) (Zb BK324.out) hb)
    have n6_ := Aside0.mk (blk_below (g := gb325) (o := .cells #[.slice none 0 0, .slice none 0 0] 25 (0, 0)) (Zb BK325.out) hb)
    have n7_ := Aside0.mk (Kd.C_below (by repeat (first | (with_reducible exact HR327_2.out) | (with_reducible refine Kd.C_alloc ?_ _) | (with_reducible refine Kd.C_drewN ?_ _) | (with_reducible refine Kd.C_drew ?_) | exact HR327_2.out)) hb)
    have n8_ := Aside0.mk (below_step (Z2 HB GE324 GE325) hb)
    clear HO0_0
    clear HO0_1
    clear HL327_2
    clear BK324
    clear BK325
    clear HR327_2
    clear HB
    have HO0_0 := n0_
    have HO0_1 := n1_
    have HL327_2 := n2_
    have HO330 := n3_
    have HO333 := n4_
    have BK324 := n5_
    have BK325 := n6_
    have HR327_2 := n7_
    have HB := n8_
    clear n0_ n1_ n2_ n3_ n4_ n5_ n6_ n7_ n8_
    (try clear hb)
    (try clear hb2)
    (try clear hk)
    (try clear hi)
    (try clear ho0)
    (try clear ho1)
    obtain ⟨Ao15, co15, eo15⟩ := Kd.N_slice HO330.out
    (first | subst eo15 | (injection eo15 with f1_ f2_ f3_; have f4_ := f1_.symm; have f5_ := f3_.symm; clear f1_ f2_ f3_; subst f4_; subst f5_))
    obtain ⟨Ao17, co17, eo17⟩ := Kd.V_slice HO333.out
    (first | subst eo17 | (injection eo17 with f1_ f2_ f3_; have f4_ := f1_.symm; have f5_ := f3_.symm; clear f1_ f2_ f3_; subst f4_; subst f5_))
    refine hK.out _ _ ⟨(blk_cell BK324.out 0).trans rfl, (blk_cell BK324.out 1).trans rfl, HS2_, HS3_, HS4_⟩ (fun hHeld => ?_)
    clear hK K
    refine norm_ (a' := ?_) ?_ ?_
    rotate_left
    ·show Act.put _ (some 20) _ = _
     simp only [Act.put, List.setIfInBounds_toArray, List.set_cons_zero, List.set_cons_succ, i64_w, i32_w]
     rfl
    refine pure_ (i := 7) (N := some 21) (v := ?_) (a' := ?_) #[true, true, true, true, true, true, true, true, false, false, false] rfl rfl (any_of HT_.out (by kernel_rfl)) (fun _ _ _ h => h) (Or.inl ⟨by rfl, ?_⟩) ?_ ?_
    rotate_left
    ·intro w'
     go_simp
     with_reducible rfl
    rotate_left
    ·simp only [Act.put, List.setIfInBounds_toArray, List.set_cons_zero, List.set_cons_succ, i64_w, i32_w]
     rfl
    refine pure_ (i := 8) (N := some 22) (v := ?_) (a' := ?_) #[true, true, true, true, true, true, true, true, true, false, false] rfl rfl (any_of HT_.out (by kernel_rfl)) (fun _ _ _ h => h) (Or.inl ⟨by rfl, ?_⟩) ?_ ?_
    rotate_left
    ·intro w'
     go_simp
     with_reducible rfl
    rotate_left
    ·simp only [Act.put, List.setIfInBounds_toArray, List.set_cons_zero, List.set_cons_succ, i64_w, i32_w]
     rfl
    refine one_ (i := 9) (N := none) #[true, true, true, true, true, true, true, true, true, true, false] rfl rfl (one_of HT_.out (by kernel_rfl)) (by decide) (fun K hK => ?_)
    have hs16 : w14.cell? ⟨gb325, 0, none⟩ = some (.slice none 0 0) := (blk_cell BK325.out 0).trans rfl
    have hfs16 := blk_frozen BK325.out 0
    have hns16_0 := NB324_325.out
    have hms16_0 := NB325_324.out
    have hs18 : w14.cell? ⟨gb325, 1, none⟩ = some (.slice none 0 0) := (blk_cell BK325.out 1).trans rfl
    have hfs18 := blk_frozen BK325.out 1
    have hns18_0 := NB324_325.out
    have hms18_0 := NB325_324.out
    refine skip_ (w1 := ?_) (by rfl) rfl ?_ ?_
    rotate_left
    ·go_simp
     rfl
    refine hK.out _ _ ⟨((cell_far (p := ⟨gb325, _, none⟩) NB324_325.out _).trans (((cell_far (p := ⟨gb325, _, none⟩) NB324_325.out _).trans (hHeld.1)))), ((cell_far (p := ⟨gb325, _, none⟩) NB324_325.out _).trans (((cell_far (p := ⟨gb325, _, none⟩) NB324_325.out _).trans (hHeld.2.1)))), ((cell_far (p := ⟨gb325, _, none⟩) (by first | exact V_blk HO0_0.out (fun _ hk => hk.1.2) | (rw [add_block]; exact V_blk HO0_0.out (fun _ hk => hk.1.2)) | (show (Addr.add _ _).block ≠ _; rw [add_block]; exact V_blk HO0_0.out (fun _ hk => hk.1.2)) | (dsimp only; exact V_blk HO0_0.out (fun _ hk => hk.1.2))) _).trans (((cell_far (p := ⟨gb325, _, none⟩) (by first | exact V_blk HO0_0.out (fun _ hk => hk.1.2) | (rw [add_block]; exact V_blk HO0_0.out (fun _ hk => hk.1.2)) | (show (Addr.add _ _).block ≠ _; rw [add_block]; exact V_blk HO0_0.out (fun _ hk => hk.1.2)) | (dsimp only; exact V_blk HO0_0.out (fun _ hk => hk.1.2))) _).trans (hHeld.2.2.1)))), ((cell_far (p := ⟨gb325, _, none⟩) (by first | exact V_blk HO0_0.out (fun _ hk => hk.1.2) | (rw [add_block]; exact V_blk HO0_0.out (fun _ hk => hk.1.2)) | (show (Addr.add _ _).block ≠ _; rw [add_block]; exact V_blk HO0_0.out (fun _ hk => hk.1.2)) | (dsimp only; exact V_blk HO0_0.out (fun _ hk => hk.1.2))) _).trans (((cell_far (p := ⟨gb325, _, none⟩) (by first | exact V_blk HO0_0.out (fun _ hk => hk.1.2) | (rw [add_block]; exact V_blk HO0_0.out (fun _ hk => hk.1.2)) | (show (Addr.add _ _).block ≠ _; rw [add_block]; exact V_blk HO0_0.out (fun _ hk => hk.1.2)) | (dsimp only; exact V_blk HO0_0.out (fun _ hk => hk.1.2))) _).trans (hHeld.2.2.2.1)))), ((cell_far (p := ⟨gb325, _, none⟩) (by first | exact V_blk HO0_0.out (fun _ hk => hk.1.2) | (rw [add_block]; exact V_blk HO0_0.out (fun _ hk => hk.1.2)) | (show (Addr.add _ _).block ≠ _; rw [add_block]; exact V_blk HO0_0.out (fun _ hk => hk.1.2)) | (dsimp only; exact V_blk HO0_0.out (fun _ hk => hk.1.2))) _).trans (((cell_far (p := ⟨gb325, _, none⟩) (by first | exact V_blk HO0_0.out (fun _ hk => hk.1.2) | (rw [add_block]; exact V_blk HO0_0.out (fun _ hk => hk.1.2)) | (show (Addr.add _ _).block ≠ _; rw [add_block]; exact V_blk HO0_0.out (fun _ hk => hk.1.2)) | (dsimp only; exact V_blk HO0_0.out (fun _ hk => hk.1.2))) _).trans (hHeld.2.2.2.2))))⟩ (fun hHeld => ?_)
    clear hK K
    refine pure_ (i := 10) (N := some 5) (v := ?_) (a' := ?_) #[true, true, true, true, true, true, true, true, true, true, true] rfl rfl (any_of HT_.out (by kernel_rfl)) (fun _ _ _ h => h) (Or.inl ⟨by rfl, ?_⟩) ?_ ?_
    rotate_left
    ·intro w'
     go_simp
     with_reducible rfl
    rotate_left
    ·simp only [Act.put, List.setIfInBounds_toArray, List.set_cons_zero, List.set_cons_succ, i64_w, i32_w]
     rfl
    refine done_ (done_of HT_.out (by kernel_rfl)) ?_
    try go_wp2
    refine bodyPost_ret (results_ct rfl _ _ gb325 25 #[.slice Ao15 t328.length co15, .slice Ao17 t331.length co17] (0, 0) _ rfl (by refine Zb ?_; refine blk_put (cs := #[.slice Ao15 t328.length co15, .slice none 0 0]) ?_ 1 _ rfl; refine Zb ?_; refine blk_put (cs := #[.slice none 0 0, .slice none 0 0]) ?_ 0 _ rfl; refine Zb ?_; exact BK325.out) Try.underlying25 rfl (by kernel_rfl)) rfl ?_
    exact ⟨_, _, by first | rfl | (simp [errW_none, errW_some] <;> rfl) | (simp [*, errW_none, errW_some] <;> rfl), by refine Zn ?_; exact Kd.N_mono (Kd.N_far (p := ⟨gb325, 1, none⟩) (Kd.N_far (p := ⟨gb325, 0, none⟩) (Kd.N_mono HO330.out (fun k_ hk => (⟨hk, hk.2.2⟩ : _ ∧ k_ ≠ gb325))) (fun _ hk => hk.2) (.slice Ao15 t328.length co15)) (fun _ hk => hk.2) (.slice Ao17 t331.length co17)) (fun _ hk => hk.1.1), by refine Zv ?_; exact Kd.V_mono (Kd.V_far (p := ⟨gb325, 1, none⟩) (Kd.V_far (p := ⟨gb325, 0, none⟩) (Kd.V_mono HO333.out (fun k_ hk => (⟨hk, hk.2.2.2⟩ : _ ∧ k_ ≠ gb325))) (fun _ hk => hk.2) (.slice Ao15 t328.length co15)) (fun _ hk => hk.2) (.slice Ao17 t331.length co17)) (fun _ hk => ⟨hk.1.1, hk.1.2.1⟩), (Z2 HB GE324 GE325)⟩
   ·rw [if_neg c6] at H
    exact absurd H (by simp)
  ·rw [if_neg c5] at H
   exact absurd H (by simp)
 ·rw [if_neg c4] at H
  have c4b0 : (t326 == 0) = false := beq_eq_false_iff_ne.mpr c4
  have c4b1 : (t326 != 0) = true := bne_iff_ne.mpr c4
  simp only [Option.some.injEq, Prod.mk.injEq] at H
  obtain ⟨rfl, rfl, rfl⟩ := H
  go_enter Try.func26, Try.ntmps26
  go_wp2_with (first | ((with_reducible refine gate_dst (N := 2) rfl ?_); refine box_event ?hg (N := 2) ?hd (cs := #[.slice A0_0 l0_0.length c0_0, .slice A0_1 l0_1.length c0_1]) (t := 25) ?hr ?_; (case hd => rfl); (case hg => rfl); (case hr => first | (go_simp; done) | (go_simp; rfl)); intro gb324 hg w19 hbox hb; have n0_ := Aside0.mk (Kd.V_below (Kd.V_elderB (Zv HO0_0.out) gb324 (Nat.le_of_eq hg.symm)) hb); have n1_ := Aside0.mk (Kd.V_below (Kd.V_elderB (Zv HO0_1.out) gb324 (Nat.le_of_eq hg.symm)) hb); have n2_ := Aside0.mk (below_step (Z0 HB) hb); have n3_ := Aside0.mk (hbox); have n4_ := Aside0.mk ((by rw [hg]; exact (below_size (Z0 HB)) : w.heap.size ≤ gb324)); have n5_ := Aside0.mk ((by rw [hg]; exact (below_size (Z0 HB)) : w.heap.size ≤ gb324)); clear HO0_0; clear HO0_1; clear HB; have HO0_0 := n0_; have HO0_1 := n1_; have HB := n2_; have BK324 := n3_; have GW324 := n4_; have GE324 := n5_; clear n0_ n1_ n2_ n3_ n4_ n5_; clear hb hbox hg) | ((with_reducible refine gate_dst (N := 4) rfl ?_); refine box_event ?hg (N := 4) ?hd (cs := #[.slice none 0 0, .slice none 0 0]) (t := 25) ?hr ?_; (case hd => rfl); (case hg => rfl); (case hr => first | (go_simp; done) | (go_simp; rfl)); intro gb325 hg w20 hbox hb; have n0_ := Aside0.mk (Kd.V_below (Kd.V_elderB (Zv HO0_0.out) gb325 (Nat.le_of_eq hg.symm)) hb); have n1_ := Aside0.mk (Kd.V_below (Kd.V_elderB (Zv HO0_1.out) gb325 (Nat.le_of_eq hg.symm)) hb); have n2_ := Aside0.mk (blk_below (g := gb324) (o := .cells #[.slice A0_0 l0_0.length c0_0, .slice A0_1 l0_1.length c0_1] 25 (0, 0)) (Zb BK324.out) hb); have n3_ := Aside0.mk (below_step (Z1 HB GE324) hb); have n4_ := Aside0.mk (hbox); have n5_ := Aside0.mk ((by rw [hg]; exact (below_size (Z1 HB GE324)) : w.heap.size ≤ gb325)); have n6_ := Aside0.mk ((by rw [hg]; exact (below_size (Z1 HB GE324)) : w.heap.size ≤ gb325)); have n7_ := Aside0.mk ((by rw [hg]; exact Nat.ne_of_lt (blk_lt (g := gb324) (o := .cells #[.slice A0_0 l0_0.length c0_0, .slice A0_1 l0_1.length c0_1] 25 (0, 0)) (Zb BK324.out)) : gb324 ≠ gb325)); have n8_ := Aside0.mk ((by rw [hg]; exact Nat.ne_of_gt (blk_lt (g := gb324) (o := .cells #[.slice A0_0 l0_0.length c0_0, .slice A0_1 l0_1.length c0_1] 25 (0, 0)) (Zb BK324.out)) : gb325 ≠ gb324)); clear HO0_0; clear HO0_1; clear BK324; clear HB; have HO0_0 := n0_; have HO0_1 := n1_; have BK324 := n2_; have HB := n3_; have BK325 := n4_; have GW325 := n5_; have GE325 := n6_; have NB324_325 := n7_; have NB325_324 := n8_; clear n0_ n1_ n2_ n3_ n4_ n5_ n6_ n7_ n8_; clear hb hbox hg; have hnb21 := NB324_325.out; have hnc21 := NB325_324.out; have hcz22_0 : w20.cell? ⟨gb324, 0, none⟩ = some (.slice A0_0 l0_0.length c0_0) := (blk_cell BK324.out 0).trans rfl; have hcz22_1 : w20.cell? ⟨gb324, 1, none⟩ = some (.slice A0_1 l0_1.length c0_1) := (blk_cell BK324.out 1).trans rfl; have hfz22_0 := blk_frozen BK324.out 0; have hfz22_1 := blk_frozen BK324.out 1) | ((with_reducible refine gate_callee (f := 41) rfl ?_); refine goesL_ (some 9) rfl rfl Try.func41 (by kernel_rfl) rfl #[.agg #[.slice A0_0 l0_0.length c0_0, .slice A0_1 l0_1.length c0_1], .int .i64 a1] rfl (by (try simp only [List.map_toArray, List.map_cons, List.map_nil]); first | done | rfl | (simp only [List.length_drop, List.length_take]; rfl)) ?_; (with_reducible refine (signatoryref06_asked.calls k _ _ l0_0 _ _ l0_1 a1 t326 _ ?side1 ?side2 ?side3 ?side4 A3.out).mono ?_); (case side1 => repeat (first | exact (Kd.V_reads' HO0_0.out).2.2 | (with_reducible refine Kd.C_alloc ?_ _) | (with_reducible refine Kd.C_drewN ?_ _) | (with_reducible refine Kd.C_drew ?_))); (case side2 => exact (Kd.V_reads' HO0_0.out).2.1); (case side3 => repeat (first | exact (Kd.V_reads' HO0_1.out).2.2 | (with_reducible refine Kd.C_alloc ?_ _) | (with_reducible refine Kd.C_drewN ?_ _) | (with_reducible refine Kd.C_drew ?_))); (case side4 => exact (Kd.V_reads' HO0_1.out).2.1); rintro e w23 ⟨rfl, hb⟩; refine ⟨_, rfl, ?_⟩; have n0_ := Aside0.mk (Kd.V_below (Zv HO0_0.out) hb); have n1_ := Aside0.mk (Kd.V_below (Zv HO0_1.out) hb); have n2_ := Aside0.mk (blk_below (g := gb324) (o := .cells #[.slice A0_0 l0_0.length c0_0, .slice A0_1 l0_1.length c0_1] 25 (0, 0)) (Zb BK324.out) hb); have n3_ := Aside0.mk (blk_below (g := gb325) (o := .cells #[.slice none 0 0, .slice none 0 0] 25 (0, 0)) (Zb BK325.out) hb); have n4_ := Aside0.mk (below_step (Z2 HB GE324 GE325) hb); clear HO0_0; clear HO0_1; clear BK324; clear BK325; clear HB; have HO0_0 := n0_; have HO0_1 := n1_; have BK324 := n2_; have BK325 := n3_; have HB := n4_; clear n0_ n1_ n2_ n3_ n4_; (try clear hb); (try clear hb2); (try clear hk); (try clear hi); have hcz24_0 : w23.cell? ⟨gb325, 0, none⟩ = some (.slice none 0 0) := (blk_cell BK325.out 0).trans rfl; have hcz24_1 : w23.cell? ⟨gb325, 1, none⟩ = some (.slice none 0 0) := (blk_cell BK325.out 1).trans rfl; have hfz24_0 := blk_frozen BK325.out 0; have hfz24_1 := blk_frozen BK325.out 1))
  refine bodyPost_ret (results_ct rfl _ _ gb325 25 #[.slice none 0 0, .slice none 0 0] (0, 0) _ rfl (by refine Zb ?_; refine blk_put (cs := #[.slice none 0 0, .slice none 0 0]) ?_ 1 _ rfl; refine Zb ?_; refine blk_put (cs := #[.slice none 0 0, .slice none 0 0]) ?_ 0 _ rfl; refine Zb ?_; exact BK325.out) Try.underlying25 rfl (by kernel_rfl)) rfl ?_
  exact ⟨_, _, by first | rfl | (simp [errW_none, errW_some] <;> rfl) | (simp [*, errW_none, errW_some] <;> rfl), by first | exact Kd.S_nil _ _ _ _ _ | exact Kd.N_nil _ _ _ _ _ | exact Kd.V_nil _ _ _ _ _ | exact Kd.Q_nil _ _ _ _ _ | exact Kd.R_nil _ _ _ _ _, (Kd.V_nil _ _ _ _ _), (Z2 HB GE324 GE325)⟩

-- NOT PRINTED: function 6 (signatorylaw06_NetworkMoveSpec)

end Go.Proofs.Ythlehlbokaeigaa.Q
