-- Written by wip/tools/extprint.py of this repo (a program of this claim's own, over the kit's printer) out of the translation; Lean checks it.
import Derived.Test.YthlehlbokaeigaaQ0
import Derived.Test.YthlehlbokaeigaaQ6
import Derived.Test.YthlehlbokaeigaaQ11
namespace Go.Proofs.Ythlehlbokaeigaa.Q
open Go.RowKit Go.Proofs.YthlehlbokaeigaaW.PrintWords Go.Proofs.YthlehlbokaeigaaW.PrintLast Go.Proofs.YthlehlbokaeigaaW.PrintMore
attribute [local go_sem] max2_int min2_int max_two min_two max_three min_three max_four min_four   -- for this text's walks alone
set_option linter.unusedVariables false
set_option linter.unusedSimpArgs false

/-! ### signatoryref06_without: function 42 -/
def signatoryref06_without.f (l0_0 : List (S28)) (l0_1 : List (S55)) (a1 : Int) : Option ((List (S28)) × (List (S55))) := (some (([] : List (S28)) : List (S28))).bind fun y246 => (if 0 ≤ a1 then (if a1 ≤ (l0_0.length : Int) then ((some (l0_0.take (a1 : Int).toNat : List (S28))).bind fun y249 => (if y246.length + y249.length < 3518437208883 then ((some (y246 ++ y249 : List (S28))).bind fun y254 => (if 0 ≤ (wrap64 (a1 + 1)) then (if (wrap64 (a1 + 1)) ≤ (l0_0.length : Int) then ((some (l0_0.drop ((wrap64 (a1 + 1)) : Int).toNat : List (S28))).bind fun y257 => (if y254.length + y257.length < 3518437208883 then (some ((y254 ++ y257), l0_1)) else (none))) else (none)) else (none))) else (none))) else (none)) else (none))
def signatoryref06_without.T1 : Bool × List (List Nat × List Nat) := (true, [([], []), ([], []), ([1], [1]), ([], []), ([2, 3], [2, 3]), ([0, 4], [0, 4]), ([], []), ([6], [6]), ([], []), ([8], [8]), ([7, 9], [7, 9]), ([5, 10, 5], [5, 10]), ([0, 1, 2, 3, 4, 5, 6, 7, 8, 9, 10, 11], []), ([12, 11, 11, 0, 1, 2, 3, 4, 5, 6, 7, 8, 9, 10, 11], [11, 12])])
def signatoryref06_without.B1 : List Nat := [0, 0, 2, 0, 14, 31, 0, 64, 0, 256, 960, 2047, 4095, 8191]
theorem signatoryref06_without.tab1 : rtab .any (opsOf Try.f42 1) = signatoryref06_without.T1 := by kernel_rfl
theorem signatoryref06_without.bits1 : waitsOk signatoryref06_without.T1.2 signatoryref06_without.B1 = true := by kernel_rfl
set_option maxHeartbeats 8000000 in
set_option maxRecDepth 100000 in
theorem signatoryref06_without.calls (P0_0_ : Nat → Prop) (A0_0 : Option Addr) (c0_0 : Nat) (l0_0 : List (S28)) (P0_1_ : Nat → Prop) (A0_1 : Option Addr) (c0_1 : Nat) (l0_1 : List (S55)) (a1 : Int) (r1 : List (S28)) (r2 : List (S55)) (w : World) (hs0_0 : Kd.V k28 28 w w.heap.size (fun k_ => P0_0_ k_) (.slice A0_0 l0_0.length c0_0) l0_0) (hs0_1 : Kd.V k55 55 w w.heap.size (fun k_ => P0_1_ k_) (.slice A0_1 l0_1.length c0_1) l0_1) (h : signatoryref06_without.f l0_0 l0_1 a1 = some (r1, r2)) :
  Calls Try.prog 42 #[.agg #[.slice A0_0 l0_0.length c0_0, .slice A0_1 l0_1.length c0_1], .int .i64 a1] w fun e w' => ∃ v0_ v1_ : Value, e = .returned (.agg #[v0_, v1_]) ∧ Kd.N k28 28 w' w.heap.size (fun k_ => ((P0_0_ k_ ∨ P0_1_ k_) ∨ w.heap.size ≤ k_)) v0_ r1 ∧ Kd.V k55 55 w' w.heap.size (fun k_ => ((P0_0_ k_ ∨ P0_1_ k_) ∨ w.heap.size ≤ k_) ∧ some k_ ≠ (v0_ : Value).ownBlock) v1_ r2 ∧ Below w.heap.size w w' := by
 have hu25 := Try.underlying25
 have HO0_0 := Aside0.mk (show Kd.V k28 28 w w.heap.size (fun k_ => ((P0_0_ k_ ∨ P0_1_ k_) ∨ w.heap.size ≤ k_)) (.slice A0_0 l0_0.length c0_0) l0_0 from Kd.V_mono hs0_0 (fun k_ hk => .inl (.inl hk)))
 have HO0_1 := Aside0.mk (show Kd.V k55 55 w w.heap.size (fun k_ => ((P0_0_ k_ ∨ P0_1_ k_) ∨ w.heap.size ≤ k_)) (.slice A0_1 l0_1.length c0_1) l0_1 from Kd.V_mono hs0_1 (fun k_ hk => .inl (.inr hk)))
 have HB := Aside0.mk (Below.refl w.heap.size w)
 have H : ((some (([] : List (S28)) : List (S28))).bind fun y246 => (if 0 ≤ a1 then (if a1 ≤ (l0_0.length : Int) then ((some (l0_0.take (a1 : Int).toNat : List (S28))).bind fun y249 => (if y246.length + y249.length < 3518437208883 then ((some (y246 ++ y249 : List (S28))).bind fun y254 => (if 0 ≤ (wrap64 (a1 + 1)) then (if (wrap64 (a1 + 1)) ≤ (l0_0.length : Int) then ((some (l0_0.drop ((wrap64 (a1 + 1)) : Int).toNat : List (S28))).bind fun y257 => (if y254.length + y257.length < 3518437208883 then (some ((y254 ++ y257), l0_1)) else (none))) else (none)) else (none))) else (none))) else (none)) else (none))) = some (r1, r2) := h
 clear h
 obtain ⟨y246, hy246⟩ : ∃ y_ : List (S28), y_ = (([] : List (S28))) := ⟨_, rfl⟩
 replace H : (if 0 ≤ a1 then (if a1 ≤ (l0_0.length : Int) then ((some (l0_0.take (a1 : Int).toNat : List (S28))).bind fun y249 => (if y246.length + y249.length < 3518437208883 then ((some (y246 ++ y249 : List (S28))).bind fun y254 => (if 0 ≤ (wrap64 (a1 + 1)) then (if (wrap64 (a1 + 1)) ≤ (l0_0.length : Int) then ((some (l0_0.drop ((wrap64 (a1 + 1)) : Int).toNat : List (S28))).bind fun y257 => (if y254.length + y257.length < 3518437208883 then (some ((y254 ++ y257), l0_1)) else (none))) else (none)) else (none))) else (none))) else (none)) else (none)) = some (r1, r2) := by first | (rw [hy246]; with_reducible exact H) | (have H2_ := (Option.bind_some _ _).symm.trans H; rw [hy246]; with_reducible exact H2_) | (have H2_ := (Option.bind_some _ _).symm.trans H; with_reducible exact H2_) | with_reducible exact H | (rw [hy246]; exact H) | exact H
 have Ny246 := Aside0.mk hy246
 clear hy246
 by_cases c3 : 0 ≤ a1
 ·rw [if_pos c3] at H
  have c3b0 := eq_true c3
  have c3b1 : decide (0 ≤ a1) = true := decide_eq_true c3
  clear c3
  by_cases c4 : a1 ≤ (l0_0.length : Int)
  ·rw [if_pos c4] at H
   have c4b0 := eq_true c4
   have c4b1 : decide (a1 ≤ (l0_0.length : Int)) = true := decide_eq_true c4
   clear c4
   obtain ⟨y249, hy249⟩ : ∃ y_ : List (S28), y_ = (l0_0.take (a1 : Int).toNat) := ⟨_, rfl⟩
   replace H : (if y246.length + y249.length < 3518437208883 then ((some (y246 ++ y249 : List (S28))).bind fun y254 => (if 0 ≤ (wrap64 (a1 + 1)) then (if (wrap64 (a1 + 1)) ≤ (l0_0.length : Int) then ((some (l0_0.drop ((wrap64 (a1 + 1)) : Int).toNat : List (S28))).bind fun y257 => (if y254.length + y257.length < 3518437208883 then (some ((y254 ++ y257), l0_1)) else (none))) else (none)) else (none))) else (none)) = some (r1, r2) := by first | (rw [hy249]; with_reducible exact H) | (have H2_ := (Option.bind_some _ _).symm.trans H; rw [hy249]; with_reducible exact H2_) | (have H2_ := (Option.bind_some _ _).symm.trans H; with_reducible exact H2_) | with_reducible exact H | (rw [hy249]; exact H) | exact H
   have Ny249 := Aside0.mk hy249
   clear hy249
   by_cases c5 : y246.length + y249.length < 3518437208883
   ·rw [if_pos c5] at H
    have LMc5 := Aside0.mk c5
    clear c5
    obtain ⟨y254, hy254⟩ : ∃ y_ : List (S28), y_ = (y246 ++ y249) := ⟨_, rfl⟩
    replace H : (if 0 ≤ (wrap64 (a1 + 1)) then (if (wrap64 (a1 + 1)) ≤ (l0_0.length : Int) then ((some (l0_0.drop ((wrap64 (a1 + 1)) : Int).toNat : List (S28))).bind fun y257 => (if y254.length + y257.length < 3518437208883 then (some ((y254 ++ y257), l0_1)) else (none))) else (none)) else (none)) = some (r1, r2) := by first | (rw [hy254]; with_reducible exact H) | (have H2_ := (Option.bind_some _ _).symm.trans H; rw [hy254]; with_reducible exact H2_) | (have H2_ := (Option.bind_some _ _).symm.trans H; with_reducible exact H2_) | with_reducible exact H | (rw [hy254]; exact H) | exact H
    have Ny254 := Aside0.mk hy254
    clear hy254
    obtain ⟨ji6, hji6⟩ : ∃ j_ : Int, (wrap64 (a1 + 1)) = j_ := ⟨_, rfl⟩
    replace H : (if 0 ≤ (ji6) then (if (ji6) ≤ (l0_0.length : Int) then ((some (l0_0.drop ((ji6) : Int).toNat : List (S28))).bind fun y257 => (if y254.length + y257.length < 3518437208883 then (some ((y254 ++ y257), l0_1)) else (none))) else (none)) else (none)) = some (r1, r2) := by first | (rw [hji6] at H; exact H) | (simp only [hji6] at H ⊢; exact H)
    have hji6w : (IntKind.i64.wrap (a1 + 1)) = ji6 := (i64_w _).trans hji6
    by_cases c7 : 0 ≤ (ji6)
    ·rw [if_pos c7] at H
     have c7b0 := eq_true c7
     have c7b1 : decide (0 ≤ (ji6)) = true := decide_eq_true c7
     clear c7
     by_cases c8 : (ji6) ≤ (l0_0.length : Int)
     ·rw [if_pos c8] at H
      have c8b0 := eq_true c8
      have c8b1 : decide ((ji6) ≤ (l0_0.length : Int)) = true := decide_eq_true c8
      clear c8
      obtain ⟨y257, hy257⟩ : ∃ y_ : List (S28), y_ = (l0_0.drop ((ji6) : Int).toNat) := ⟨_, rfl⟩
      replace H : (if y254.length + y257.length < 3518437208883 then (some ((y254 ++ y257), l0_1)) else (none)) = some (r1, r2) := by first | (rw [hy257]; with_reducible exact H) | (have H2_ := (Option.bind_some _ _).symm.trans H; rw [hy257]; with_reducible exact H2_) | (have H2_ := (Option.bind_some _ _).symm.trans H; with_reducible exact H2_) | with_reducible exact H | (rw [hy257]; exact H) | exact H
      have Ny257 := Aside0.mk hy257
      clear hy257
      by_cases c9 : y254.length + y257.length < 3518437208883
      ·rw [if_pos c9] at H
       have LMc9 := Aside0.mk c9
       clear c9
       obtain ⟨y262, hy262⟩ : ∃ y_ : List (S28), y_ = (y254 ++ y257) := ⟨_, rfl⟩
       replace H : (some (y262, l0_1)) = some (r1, r2) := by first | (rw [hy262]; with_reducible exact H) | (have H2_ := (Option.bind_some _ _).symm.trans H; rw [hy262]; with_reducible exact H2_) | (have H2_ := (Option.bind_some _ _).symm.trans H; with_reducible exact H2_) | with_reducible exact H | (rw [hy262]; exact H) | exact H
       have Ny262 := Aside0.mk hy262
       clear hy262
       simp only [Option.some.injEq, Prod.mk.injEq] at H
       obtain ⟨rfl, rfl⟩ := H
       go_enter Try.func42, Try.ntmps42
       try go_wp2_with (first | ((with_reducible refine gate_dst (N := 2) rfl ?_); refine box_event ?hg (N := 2) ?hd (cs := #[.slice A0_0 l0_0.length c0_0, .slice A0_1 l0_1.length c0_1]) (t := 25) ?hr ?_; (case hd => rfl); (case hg => rfl); (case hr => first | (go_simp; done) | (go_simp; rfl)); intro gb244 hg w10 hbox hb; have n0_ := Aside0.mk (Kd.V_below (Kd.V_elderB (Zv HO0_0.out) gb244 (Nat.le_of_eq hg.symm)) hb); have n1_ := Aside0.mk (Kd.V_below (Kd.V_elderB (Zv HO0_1.out) gb244 (Nat.le_of_eq hg.symm)) hb); have n2_ := Aside0.mk (below_step (Z0 HB) hb); have n3_ := Aside0.mk (hbox); have n4_ := Aside0.mk ((by rw [hg]; exact (below_size (Z0 HB)) : w.heap.size ≤ gb244)); have n5_ := Aside0.mk ((by rw [hg]; exact (below_size (Z0 HB)) : w.heap.size ≤ gb244)); clear HO0_0; clear HO0_1; clear HB; have HO0_0 := n0_; have HO0_1 := n1_; have HB := n2_; have BK244 := n3_; have GW244 := n4_; have GE244 := n5_; clear n0_ n1_ n2_ n3_ n4_ n5_; clear hb hbox hg) | ((with_reducible refine gate_dst (N := 4) rfl ?_); refine box_event ?hg (N := 4) ?hd (cs := #[.slice none 0 0, .slice none 0 0]) (t := 25) ?hr ?_; (case hd => rfl); (case hg => rfl); (case hr => first | (go_simp; done) | (go_simp; rfl)); intro gb245 hg w11 hbox hb; have n0_ := Aside0.mk (Kd.V_below (Kd.V_elderB (Zv HO0_0.out) gb245 (Nat.le_of_eq hg.symm)) hb); have n1_ := Aside0.mk (Kd.V_below (Kd.V_elderB (Zv HO0_1.out) gb245 (Nat.le_of_eq hg.symm)) hb); have n2_ := Aside0.mk (blk_below (g := gb244) (o := .cells #[.slice A0_0 l0_0.length c0_0, .slice A0_1 l0_1.length c0_1] 25 (0, 0)) (Zb BK244.out) hb); have n3_ := Aside0.mk (below_step (Z1 HB GE244) hb); have n4_ := Aside0.mk (hbox); have n5_ := Aside0.mk ((by rw [hg]; exact (below_size (Z1 HB GE244)) : w.heap.size ≤ gb245)); have n6_ := Aside0.mk ((by rw [hg]; exact (below_size (Z1 HB GE244)) : w.heap.size ≤ gb245)); have n7_ := Aside0.mk ((by rw [hg]; exact Nat.ne_of_lt (blk_lt (g := gb244) (o := .cells #[.slice A0_0 l0_0.length c0_0, .slice A0_1 l0_1.length c0_1] 25 (0, 0)) (Zb BK244.out)) : gb244 ≠ gb245)); have n8_ := Aside0.mk ((by rw [hg]; exact Nat.ne_of_gt (blk_lt (g := gb244) (o := .cells #[.slice A0_0 l0_0.length c0_0, .slice A0_1 l0_1.length c0_1] 25 (0, 0)) (Zb BK244.out)) : gb245 ≠ gb244)); clear HO0_0; clear HO0_1; clear BK244; clear HB; have HO0_0 := n0_; have HO0_1 := n1_; have BK244 := n2_; have HB := n3_; have BK245 := n4_; have GW245 := n5_; have GE245 := n6_; have NB244_245 := n7_; have NB245_244 := n8_; clear n0_ n1_ n2_ n3_ n4_ n5_ n6_ n7_ n8_; clear hb hbox hg))
       have n0_ := Aside0.mk (Kd.V_drew HO0_0.out)
       have n1_ := Aside0.mk (Kd.V_drew HO0_1.out)
       have n2_ := Aside0.mk (blk_drew BK244.out)
       have n3_ := Aside0.mk (blk_drew BK245.out)
       have n4_ := Aside0.mk (below_drew1 HB.out)
       clear HO0_0
       clear HO0_1
       clear BK244
       clear BK245
       clear HB
       have HO0_0 := n0_
       have HO0_1 := n1_
       have BK244 := n2_
       have BK245 := n3_
       have HB := n4_
       clear n0_ n1_ n2_ n3_ n4_
       have q13 : (a1 : Int) ≤ ((l0_0.length : Int) : Int) := of_decide_eq_true (by first | (with_reducible assumption) | assumption)
       obtain ⟨i013, hi013, _, hsz13, _⟩ := info_parts info28
       have hroom13 : l0_0.length ≤ c0_0 := (Kd.V_reads' HO0_0.out).2.1
       have hC13 : Kd.F k28 _ _ A0_0 l0_0.length l0_0 := (Kd.V_at (base := w.heap.size) HO0_0.out).2.2
       have hcut13 := cut_to (P := Try.prog) 22 28 .i64 Try.underlying22 hi013 A0_0 l0_0.length c0_0 a1 (of_decide_eq_true (by first | (with_reducible assumption) | assumption)) q13 hroom13
       have hr13 := Kd.F_take (m := (a1 : Int).toNat) hC13 (by omega)
       have hy13 : y249.length = (a1 : Int).toNat := (by rw [Ny249.out, List.length_take]; omega)
       rw [← Ny249.out] at hr13
       rw [← hy13] at hcut13
       have HO253 := Aside0.mk (show Kd.V k28 28 _ w.heap.size _ (.slice A0_0 y249.length c0_0) y249 from Kd.V_mk (by omega) hr13)
       have HC253 := Aside0.mk (show y249.length ≤ c0_0 from by omega)
       clear hr13 hC13 hroom13 hi013 hsz13
       have KY13 := Aside0.mk hy13
       clear hy13
       replace q13 := eq_true q13
       have q14 : ((ji6) : Int) ≤ ((l0_0.length : Int) : Int) := of_decide_eq_true (by first | (with_reducible assumption) | assumption)
       obtain ⟨i014, hi014, _, hsz14, _⟩ := info_parts info28
       have hroom14 : l0_0.length ≤ c0_0 := (Kd.V_reads' HO0_0.out).2.1
       have hC14 : Kd.F k28 _ _ A0_0 l0_0.length l0_0 := (Kd.V_at (base := w.heap.size) HO0_0.out).2.2
       have q014 : (0 : Int) ≤ ((ji6) : Int) := of_decide_eq_true (by first | (with_reducible assumption) | assumption)
       have hcut14 := cut_from (P := Try.prog) 22 28 .i64 Try.underlying22 hi014 3 hsz14 A0_0 l0_0.length c0_0 (ji6) q014 q14
       have hr14 := Kd.F_cut (m := ((ji6) : Int).toNat) (c := c0_0) hC14 (by omega) hroom14
       obtain ⟨A14, hA14⟩ : ∃ A1, A1 = (if c0_0 = ((ji6) : Int).toNat then A0_0 else (A0_0 : Option Addr).map (·.add (((ji6) : Int).toNat * 3))) := ⟨_, rfl⟩
       obtain ⟨c14, hc14⟩ : ∃ c1, c1 = c0_0 - ((ji6) : Int).toNat := ⟨_, rfl⟩
       have hy14 : y257.length = l0_0.length - ((ji6) : Int).toNat := (by rw [Ny257.out, List.length_drop] <;> omega)
       rw [show (l0_0).drop ((ji6) : Int).toNat = y257 from Ny257.out.symm] at hr14
       replace hr14 : Kd.F k28 _ _ A14 y257.length y257 := (by rw [hA14]; exact hr14)
       rw [← hy14, ← hA14, ← hc14] at hcut14
       have HO261 := Aside0.mk (show Kd.V k28 28 _ w.heap.size _ (.slice A14 y257.length c14) y257 from Kd.V_mk (by rw [hy14, hc14]; exact Nat.sub_le_sub_right hroom14 _) hr14)
       have HC261 := Aside0.mk (show y257.length ≤ c14 from by rw [hy14, hc14]; exact Nat.sub_le_sub_right hroom14 _)
       clear hr14 hC14 hroom14 hi014 hsz14 hc14
       have KY14 := Aside0.mk hy14
       have KA14 := Aside0.mk hA14
       clear hy14 hA14
       replace q14 := eq_true q14
       refine start_ (n := 14) (S := fun w' => w'.cell? ⟨gb244, 0, none⟩ = some (.slice A0_0 l0_0.length c0_0) ∧ w'.cell? ⟨gb244, 1, none⟩ = some (.slice A0_1 l0_1.length c0_1)) (ds := [13]) #[false, false, false, false, false, false, false, false, false, false, false, false, false, false] (by kernel_rfl) rfl rfl ⟨(blk_cell BK244.out 0).trans rfl, (blk_cell BK244.out 1).trans rfl⟩ (fun hHeld => ?_); refine with_tabW signatoryref06_without.tab1 signatoryref06_without.bits1 (fun HT_ HW_ => ?_)
       generalize w11.drew = w12 at HO0_0 HO0_1 BK244 BK245 HB HO253 HO261 hHeld ⊢
       refine pure_ (i := 1) (N := some 6) (v := ?_) (a' := ?_) #[false, true, false, false, false, false, false, false, false, false, false, false, false, false] rfl rfl (any_of HT_.out (by kernel_rfl)) (fun _ _ _ h => h) (Or.inl ⟨by rfl, ?_⟩) ?_ ?_
       rotate_left
       ·intro w'
        go_simp
        with_reducible rfl
       rotate_left
       ·simp only [Act.put, List.setIfInBounds_toArray, List.set_cons_zero, List.set_cons_succ, i64_w, i32_w]
        rfl
       refine pure_ (i := 3) (N := some 8) (v := ?_) (a' := ?_) #[false, true, false, true, false, false, false, false, false, false, false, false, false, false] rfl rfl (any_of HT_.out (by kernel_rfl)) (fun _ _ _ h => h) (Or.inl ⟨by rfl, ?_⟩) ?_ ?_
       rotate_left
       ·intro w'
        go_simp
        with_reducible rfl
       rotate_left
       ·simp only [Act.put, List.setIfInBounds_toArray, List.set_cons_zero, List.set_cons_succ, i64_w, i32_w]
        rfl
       refine pure_ (i := 6) (N := some 11) (v := ?_) (a' := ?_) #[false, true, false, true, false, false, true, false, false, false, false, false, false, false] rfl rfl (any_of HT_.out (by kernel_rfl)) (fun _ _ _ h => h) (Or.inl ⟨by rfl, ?_⟩) ?_ ?_
       rotate_left
       ·intro w'
        go_simp
        with_reducible rfl
       rotate_left
       ·simp only [Act.put, List.setIfInBounds_toArray, List.set_cons_zero, List.set_cons_succ, i64_w, i32_w]
        rfl
       refine pure_ (i := 8) (N := some 13) (v := ?_) (a' := ?_) #[false, true, false, true, false, false, true, false, true, false, false, false, false, false] rfl rfl (any_of HT_.out (by kernel_rfl)) (fun _ _ _ h => h) (Or.inl ⟨by rfl, ?_⟩) ?_ ?_
       rotate_left
       ·intro w'
        go_simp
        with_reducible rfl
       rotate_left
       ·simp only [Act.put, List.setIfInBounds_toArray, List.set_cons_zero, List.set_cons_succ, i64_w, i32_w]
        rfl
       refine pure_ (i := 9) (N := some 14) (v := ?_) (a' := ?_) #[false, true, false, true, false, false, true, false, true, true, false, false, false, false] rfl rfl (any_of HT_.out (by kernel_rfl)) (fun _ _ _ h => h) (Or.inl ⟨by rfl, ?_⟩) ?_ ?_
       rotate_left
       ·intro w'
        go_simp
        with_reducible rfl
       rotate_left
       ·simp only [Act.put, List.setIfInBounds_toArray, List.set_cons_zero, List.set_cons_succ, i64_w, i32_w]
        rfl
       refine take_ (i := 2) (N := some 7) (v := ?_) (a' := ?_) #[false, true, true, true, false, false, true, false, true, true, false, false, false, false] rfl rfl (take_ofW HT_.out HW_.out (by kernel_rfl)) (fun _ _ _ h => h) (Or.inl ⟨by rfl, ?_⟩) hHeld ?_ ?_
       rotate_left
       ·rintro w' ⟨s0, s1⟩
        go_simp
        with_reducible rfl
       rotate_left
       ·simp only [Act.put, List.setIfInBounds_toArray, List.set_cons_zero, List.set_cons_succ, i64_w, i32_w]
        rfl
       refine pure_ (i := 4) (N := some 9) (v := ?_) (a' := ?_) #[false, true, true, true, true, false, true, false, true, true, false, false, false, false] rfl rfl (any_of HT_.out (by kernel_rfl)) (fun _ _ _ h => h) (Or.inl ⟨by rfl, ?_⟩) ?_ ?_
       rotate_left
       ·intro w'
        go_simp
        with_reducible rfl
       rotate_left
       ·simp only [Act.put, List.setIfInBounds_toArray, List.set_cons_zero, List.set_cons_succ, i64_w, i32_w]
        rfl
       refine take_ (i := 7) (N := some 12) (v := ?_) (a' := ?_) #[false, true, true, true, true, false, true, true, true, true, false, false, false, false] rfl rfl (take_ofW HT_.out HW_.out (by kernel_rfl)) (fun _ _ _ h => h) (Or.inl ⟨by rfl, ?_⟩) hHeld ?_ ?_
       rotate_left
       ·rintro w' ⟨s0, s1⟩
        go_simp
        with_reducible rfl
       rotate_left
       ·simp only [Act.put, List.setIfInBounds_toArray, List.set_cons_zero, List.set_cons_succ, i64_w, i32_w]
        rfl
       refine pure_ (i := 10) (N := some 15) (v := ?_) (a' := ?_) #[false, true, true, true, true, false, true, true, true, true, true, false, false, false] rfl rfl (any_of HT_.out (by kernel_rfl)) (fun _ _ _ h => h) (Or.inl ⟨by rfl, ?_⟩) ?_ ?_
       rotate_left
       ·intro w'
        go_simp
        with_reducible rfl
       rotate_left
       ·simp only [Act.put, List.setIfInBounds_toArray, List.set_cons_zero, List.set_cons_succ, i64_w, i32_w]
        rfl
       refine one_ (i := 0) (N := some 5) #[true, true, true, true, true, false, true, true, true, true, true, false, false, false] rfl rfl (one_of HT_.out (by kernel_rfl)) (by decide) (fun K hK => ?_)
       refine Kd.N_lit_step k28 _ 28 ?hg (N' := 5) ?hd (xs := ([] : List (S28))) (inner := []) (ok := (fun k_ => ((P0_0_ k_ ∨ P0_1_ k_) ∨ w.heap.size ≤ k_) ∧ k_ ≠ gb244 ∧ k_ ≠ gb245)) (okp := (fun k_ => ((P0_0_ k_ ∨ P0_1_ k_) ∨ w.heap.size ≤ k_) ∧ k_ ≠ gb244 ∧ k_ ≠ gb245)) ?hr ?hp (fun _ hk => hk) ((show ∀ k_, w12.heap.size ≤ k_ → (fun k_ => ((P0_0_ k_ ∨ P0_1_ k_) ∨ w.heap.size ≤ k_) ∧ k_ ≠ gb244 ∧ k_ ≠ gb245) k_ from fun k_ hk => ⟨(.inr (Nat.le_trans (below_size (Z2 HB GE244 GE245)) hk)), Kd.freshB (g := gb244) (o := .cells #[.slice A0_0 l0_0.length c0_0, .slice A0_1 l0_1.length c0_1] 25 (0, 0)) (Zb BK244.out) k_ hk, Kd.freshB (g := gb245) (o := .cells #[.slice none 0 0, .slice none 0 0] 25 (0, 0)) (Zb BK245.out) k_ hk⟩) _ (Nat.le_refl _)) (Below.refl _ _) (Nat.le_refl _) (by simp) ?_; (case hd => rfl); (case hg => rfl); (case hr => first | (go_simp; done) | (go_simp; rfl)); (case hp => exact (Reps.none _ _))
       intro v247 w15 ho16 hb hg_ hnew_
       clear hg_ hnew_
       (first | rw [← Ny246.out] at ho16 | (simp only [Int.reduceToNat] at ho16; rw [← Ny246.out] at ho16))
       have n0_ := Aside0.mk (Kd.V_elder' (Zv HO0_0.out) (Kd.N_base ho16) hb)
       have n1_ := Aside0.mk (Kd.V_elder' (Zv HO0_1.out) (Kd.N_base ho16) hb)
       have n2_ := Aside0.mk (Kd.V_elder' (Zv HO253.out) (Kd.N_base ho16) hb)
       have n3_ := Aside0.mk (Kd.V_elder' (Zv HO261.out) (Kd.N_base ho16) hb)
       have n4_ := Aside0.mk (Kd.N_lower ho16 (below_size (Z2 HB GE244 GE245)))
       have n5_ := Aside0.mk (blk_below (g := gb244) (o := .cells #[.slice A0_0 l0_0.length c0_0, .slice A0_1 l0_1.length c0_1] 25 (0, 0)) (Zb BK244.out) hb)
       have n6_ := Aside0.mk (blk_below (g := gb245) (o := .cells #[.slice none 0 0, .slice none 0 0] 25 (0, 0)) (Zb BK245.out) hb)
       have n7_ := Aside0.mk (below_step (Z2 HB GE244 GE245) hb)
       clear HO0_0
       clear HO0_1
       clear HO253
       clear HO261
       clear BK244
       clear BK245
       clear HB
       have HO0_0 := n0_
       have HO0_1 := n1_
       have HO253 := n2_
       have HO261 := n3_
       have HO248 := n4_
       have BK244 := n5_
       have BK245 := n6_
       have HB := n7_
       clear n0_ n1_ n2_ n3_ n4_ n5_ n6_ n7_
       clear hb ho16
       refine hK.out _ _ ⟨(blk_cell BK244.out 0).trans rfl, (blk_cell BK244.out 1).trans rfl⟩ (fun hHeld => ?_)
       clear hK K
       refine norm_ (a' := ?_) ?_ ?_
       rotate_left
       ·show Act.put _ (some 5) _ = _
        simp only [Act.put, List.setIfInBounds_toArray, List.set_cons_zero, List.set_cons_succ, i64_w, i32_w]
        rfl
       refine one_ (i := 5) (N := some 10) #[true, true, true, true, true, true, true, true, true, true, true, false, false, false] rfl rfl (one_of HT_.out (by kernel_rfl)) (by decide) (fun K hK => ?_)
       refine Kd.N_append_rows_step k28 (w0 := w) w.heap.size (by rfl) (.tmp 5) (.tmp 9) 22 28 (.agg #[(.int .i64 0), (.int .i64 0), (.slice none 0 0)]) 40 rfl Try.underlying22 info28 rfl (by decide) (by omega) v247 y246 y249 _ _ _ (fun k_ => ((P0_0_ k_ ∨ P0_1_ k_) ∨ w.heap.size ≤ k_) ∧ k_ ≠ gb244 ∧ k_ ≠ gb245) (fun k_ => ((fun k_ => ((P0_0_ k_ ∨ P0_1_ k_) ∨ w.heap.size ≤ k_) ∧ k_ ≠ gb244 ∧ k_ ≠ gb245)) k_ ∧ some k_ ≠ (v247 : Value).ownBlock) rfl rfl ?aO ?aR (fun _ hk => hk) ?aF ?aB ?aS ?aL ?_
       (case aR => exact (by skip; exact Kd.V_F (Kd.V_mono (ok' := (fun k_ => ((fun k_ => ((P0_0_ k_ ∨ P0_1_ k_) ∨ w.heap.size ≤ k_) ∧ k_ ≠ gb244 ∧ k_ ≠ gb245)) k_ ∧ some k_ ≠ (v247 : Value).ownBlock)) (HO253.out) (fun k_ hk => ⟨⟨hk.1.1.1, ⟨hk.1.1.2, hk.1.2⟩⟩, hk.2⟩))))
       (case aB => exact (Z2 HB GE244 GE245))
       (case aF => exact (fun k_ hk => ⟨(.inr (Nat.le_trans (below_size (Z2 HB GE244 GE245)) hk)), Kd.freshB (g := gb244) (o := .cells #[.slice A0_0 l0_0.length c0_0, .slice A0_1 l0_1.length c0_1] 25 (0, 0)) (Zb BK244.out) k_ hk, Kd.freshB (g := gb245) (o := .cells #[.slice none 0 0, .slice none 0 0] 25 (0, 0)) (Zb BK245.out) k_ hk⟩))
       (case aO => exact (Zn HO248.out))
       (case aS => exact (below_size (Z2 HB GE244 GE245)))
       (case aL => have := LMc5.out; omega)
       intro v255 w17 ho hb hg hat
       rw [← Ny254.out] at ho
       have n0_ := Aside0.mk (Kd.V_afterv (ok := (fun k_ => ((P0_0_ k_ ∨ P0_1_ k_) ∨ w.heap.size ≤ k_) ∧ k_ ≠ gb244 ∧ k_ ≠ gb245)) (by refine Zv ?_; exact Kd.V_mono HO0_0.out (fun _ hk => ⟨⟨hk.1.1.1, ⟨hk.1.1.2, hk.1.2⟩⟩, hk.2⟩)) hg hat)
       have n1_ := Aside0.mk (Kd.V_afterv (ok := (fun k_ => ((P0_0_ k_ ∨ P0_1_ k_) ∨ w.heap.size ≤ k_) ∧ k_ ≠ gb244 ∧ k_ ≠ gb245)) (by refine Zv ?_; exact Kd.V_mono HO0_1.out (fun _ hk => ⟨⟨hk.1.1.1, ⟨hk.1.1.2, hk.1.2⟩⟩, hk.2⟩)) hg hat)
       have n2_ := Aside0.mk (blk_grown (g := gb244) (o := .cells #[.slice A0_0 l0_0.length c0_0, .slice A0_1 l0_1.length c0_1] 25 (0, 0)) (Zb BK244.out) hg (Kd.N_ne HO248.out BK244.out (by decide)))
       have n3_ := Aside0.mk (blk_grown (g := gb245) (o := .cells #[.slice none 0 0, .slice none 0 0] 25 (0, 0)) (Zb BK245.out) hg (Kd.N_ne HO248.out BK245.out (by decide)))
       have n4_ := Aside0.mk (Kd.V_afterv (ok := (fun k_ => ((P0_0_ k_ ∨ P0_1_ k_) ∨ w.heap.size ≤ k_) ∧ k_ ≠ gb244 ∧ k_ ≠ gb245)) (by refine Zv ?_; exact Kd.V_mono HO253.out (fun _ hk => ⟨⟨hk.1.1.1, ⟨hk.1.1.2, hk.1.2⟩⟩, hk.2⟩)) hg hat)
       have n5_ := Aside0.mk (Kd.V_afterv (ok := (fun k_ => ((P0_0_ k_ ∨ P0_1_ k_) ∨ w.heap.size ≤ k_) ∧ k_ ≠ gb244 ∧ k_ ≠ gb245)) (by refine Zv ?_; exact Kd.V_mono HO261.out (fun _ hk => ⟨⟨hk.1.1.1, ⟨hk.1.1.2, hk.1.2⟩⟩, hk.2⟩)) hg hat)
       have n6_ := Aside0.mk (hb)
       have n7_ := Aside0.mk (ho)
       clear HO0_0
       clear HO0_1
       clear BK244
       clear BK245
       clear HO253
       clear HO261
       clear HB
       clear HO248
       have HO0_0 := n0_
       have HO0_1 := n1_
       have BK244 := n2_
       have BK245 := n3_
       have HO253 := n4_
       have HO261 := n5_
       have HB := n6_
       have HO256 := n7_
       clear n0_ n1_ n2_ n3_ n4_ n5_ n6_ n7_
       clear ho hb hg hat
       refine hK.out _ _ ⟨(blk_cell BK244.out 0).trans rfl, (blk_cell BK244.out 1).trans rfl⟩ (fun hHeld => ?_)
       clear hK K
       refine norm_ (a' := ?_) ?_ ?_
       rotate_left
       ·show Act.put _ (some 10) _ = _
        simp only [Act.put, List.setIfInBounds_toArray, List.set_cons_zero, List.set_cons_succ, i64_w, i32_w]
        rfl
       refine one_ (i := 11) (N := some 16) #[true, true, true, true, true, true, true, true, true, true, true, true, false, false] rfl rfl (one_of HT_.out (by kernel_rfl)) (by decide) (fun K hK => ?_)
       refine Kd.N_append_rows_step k28 (w0 := w) w.heap.size (by rfl) (.tmp 10) (.tmp 15) 22 28 (.agg #[(.int .i64 0), (.int .i64 0), (.slice none 0 0)]) 40 rfl Try.underlying22 info28 rfl (by decide) (by omega) v255 y254 y257 _ _ _ (fun k_ => ((P0_0_ k_ ∨ P0_1_ k_) ∨ w.heap.size ≤ k_) ∧ k_ ≠ gb244 ∧ k_ ≠ gb245) (fun k_ => ((fun k_ => ((P0_0_ k_ ∨ P0_1_ k_) ∨ w.heap.size ≤ k_) ∧ k_ ≠ gb244 ∧ k_ ≠ gb245)) k_ ∧ some k_ ≠ (v255 : Value).ownBlock) rfl rfl ?aO ?aR (fun _ hk => hk) ?aF ?aB ?aS ?aL ?_
       (case aR => exact (by skip; exact Kd.V_F (Kd.V_mono (ok' := (fun k_ => ((fun k_ => ((P0_0_ k_ ∨ P0_1_ k_) ∨ w.heap.size ≤ k_) ∧ k_ ≠ gb244 ∧ k_ ≠ gb245)) k_ ∧ some k_ ≠ (v255 : Value).ownBlock)) (HO261.out) (fun k_ hk => ⟨⟨hk.1.1, ⟨hk.1.2.1, hk.1.2.2⟩⟩, hk.2⟩))))
       (case aB => exact (Z2 HB GE244 GE245))
       (case aF => exact (fun k_ hk => ⟨(.inr (Nat.le_trans (below_size (Z2 HB GE244 GE245)) hk)), Kd.freshB (g := gb244) (o := .cells #[.slice A0_0 l0_0.length c0_0, .slice A0_1 l0_1.length c0_1] 25 (0, 0)) (Zb BK244.out) k_ hk, Kd.freshB (g := gb245) (o := .cells #[.slice none 0 0, .slice none 0 0] 25 (0, 0)) (Zb BK245.out) k_ hk⟩))
       (case aO => exact (Zn HO256.out))
       (case aS => exact (below_size (Z2 HB GE244 GE245)))
       (case aL => have := LMc9.out; omega)
       intro v263 w18 ho hb hg hat
       rw [← Ny262.out] at ho
       have n0_ := Aside0.mk (Kd.V_afterv (ok := (fun k_ => ((P0_0_ k_ ∨ P0_1_ k_) ∨ w.heap.size ≤ k_) ∧ k_ ≠ gb244 ∧ k_ ≠ gb245)) (Zv HO0_0.out) hg hat)
       have n1_ := Aside0.mk (Kd.V_afterv (ok := (fun k_ => ((P0_0_ k_ ∨ P0_1_ k_) ∨ w.heap.size ≤ k_) ∧ k_ ≠ gb244 ∧ k_ ≠ gb245)) (Zv HO0_1.out) hg hat)
       have n2_ := Aside0.mk (blk_grown (g := gb244) (o := .cells #[.slice A0_0 l0_0.length c0_0, .slice A0_1 l0_1.length c0_1] 25 (0, 0)) (Zb BK244.out) hg (Kd.N_ne HO256.out BK244.out (by decide)))
       have n3_ := Aside0.mk (blk_grown (g := gb245) (o := .cells #[.slice none 0 0, .slice none 0 0] 25 (0, 0)) (Zb BK245.out) hg (Kd.N_ne HO256.out BK245.out (by decide)))
       have n4_ := Aside0.mk (Kd.V_afterv (ok := (fun k_ => ((P0_0_ k_ ∨ P0_1_ k_) ∨ w.heap.size ≤ k_) ∧ k_ ≠ gb244 ∧ k_ ≠ gb245)) (Zv HO253.out) hg hat)
       have n5_ := Aside0.mk (Kd.V_afterv (ok := (fun k_ => ((P0_0_ k_ ∨ P0_1_ k_) ∨ w.heap.size ≤ k_) ∧ k_ ≠ gb244 ∧ k_ ≠ gb245)) (Zv HO261.out) hg hat)
       have n6_ := Aside0.mk (hb)
       have n7_ := Aside0.mk (ho)
       clear HO0_0
       clear HO0_1
       clear BK244
       clear BK245
       clear HO253
       clear HO261
       clear HB
       clear HO256
       have HO0_0 := n0_
       have HO0_1 := n1_
       have BK244 := n2_
       have BK245 := n3_
       have HO253 := n4_
       have HO261 := n5_
       have HB := n6_
       have HO264 := n7_
       clear n0_ n1_ n2_ n3_ n4_ n5_ n6_ n7_
       clear ho hb hg hat
       obtain ⟨Ao19, co19, eo19⟩ := Kd.N_slice HO264.out
       (first | subst eo19 | (injection eo19 with f1_ f2_ f3_; have f4_ := f1_.symm; have f5_ := f3_.symm; clear f1_ f2_ f3_; subst f4_; subst f5_))
       refine hK.out _ _ ⟨(blk_cell BK244.out 0).trans rfl, (blk_cell BK244.out 1).trans rfl⟩ (fun hHeld => ?_)
       clear hK K
       refine norm_ (a' := ?_) ?_ ?_
       rotate_left
       ·show Act.put _ (some 16) _ = _
        simp only [Act.put, List.setIfInBounds_toArray, List.set_cons_zero, List.set_cons_succ, i64_w, i32_w]
        rfl
       refine pure_ (i := 12) (N := some 17) (v := ?_) (a' := ?_) #[true, true, true, true, true, true, true, true, true, true, true, true, true, false] rfl rfl (any_of HT_.out (by kernel_rfl)) (fun _ _ _ h => h) (Or.inl ⟨by rfl, ?_⟩) ?_ ?_
       rotate_left
       ·intro w'
        go_simp
        with_reducible rfl
       rotate_left
       ·simp only [Act.put, List.setIfInBounds_toArray, List.set_cons_zero, List.set_cons_succ, i64_w, i32_w]
        rfl
       refine last_ (i := 13) (N := none) #[true, true, true, true, true, true, true, true, true, true, true, true, true, true] rfl rfl (one_of HT_.out (by kernel_rfl)) (by decide) (fun K hK => ?_)
       have hs20 : w18.cell? ⟨gb244, 0, none⟩ = some (.slice A0_0 l0_0.length c0_0) := (blk_cell BK244.out 0).trans rfl
       have hfs20 := blk_frozen BK244.out 0
       have hns20_1 := NB245_244.out
       have hms20_1 := NB244_245.out
       refine skip_ (w1 := ?_) (by rfl) rfl ?_ ?_
       rotate_left
       ·go_simp
        rfl
       refine hK.out _ _ ?_
       clear hK K
       refine done_ (done_of HT_.out (by kernel_rfl)) ?_
       have hnb21 := NB244_245.out
       have hnc21 := NB245_244.out
       have hcz22_0 : w18.cell? ⟨gb244, 0, none⟩ = some (.slice A0_0 l0_0.length c0_0) := (blk_cell BK244.out 0).trans rfl
       have hcz22_1 : w18.cell? ⟨gb244, 1, none⟩ = some (.slice A0_1 l0_1.length c0_1) := (blk_cell BK244.out 1).trans rfl
       have hfz22_0 := blk_frozen BK244.out 0
       have hfz22_1 := blk_frozen BK244.out 1
       have hcz23_0 : w18.cell? ⟨gb245, 0, none⟩ = some (.slice none 0 0) := (blk_cell BK245.out 0).trans rfl
       have hcz23_1 : w18.cell? ⟨gb245, 1, none⟩ = some (.slice none 0 0) := (blk_cell BK245.out 1).trans rfl
       have hfz23_0 := blk_frozen BK245.out 0
       have hfz23_1 := blk_frozen BK245.out 1
       try go_wp2
       refine bodyPost_ret (results_cell_row rfl _ _ gb245 25 #[.slice Ao19 y262.length co19, .slice A0_1 l0_1.length c0_1] (0, 0) _ rfl (by refine Zb ?_; refine blk_put (cs := #[.slice Ao19 y262.length co19, .slice none 0 0]) ?_ 1 _ rfl; refine Zb ?_; refine blk_put (cs := #[.slice none 0 0, .slice none 0 0]) ?_ 0 _ rfl; refine Zb ?_; refine blk_far ?_ NB245_244.out _; refine Zb ?_; exact BK245.out) Try.underlying25 rfl (by kernel_rfl)) rfl ?_
       exact ⟨_, _, by first | rfl | (simp [errW_none, errW_some] <;> rfl) | (simp only [← hji6]; first | rfl | (simp [errW_none, errW_some] <;> rfl)) | (simp [*, errW_none, errW_some] <;> rfl), by refine Zn ?_; exact Kd.N_mono (Kd.N_far (p := ⟨gb245, 1, none⟩) (Kd.N_far (p := ⟨gb245, 0, none⟩) (Kd.N_far (p := ⟨gb244, 0, none⟩) (Kd.N_mono (Kd.N_mono HO264.out (fun k_ hk => (⟨hk, hk.2.1⟩ : _ ∧ k_ ≠ gb244))) (fun k_ hk => (⟨hk, hk.1.2.2⟩ : _ ∧ k_ ≠ gb245))) (fun _ hk => hk.1.2) (.slice Ao19 y262.length co19)) (fun _ hk => hk.2) (.slice Ao19 y262.length co19)) (fun _ hk => hk.2) (.slice A0_1 l0_1.length c0_1)) (fun _ hk => hk.1.1.1), by refine Zv ?_; exact Kd.V_mono (Kd.V_far (p := ⟨gb245, 1, none⟩) (Kd.V_far (p := ⟨gb245, 0, none⟩) (Kd.V_far (p := ⟨gb244, 0, none⟩) (Kd.V_mono (Kd.V_mono HO0_1.out (fun k_ hk => (⟨hk, hk.1.2.1⟩ : _ ∧ k_ ≠ gb244))) (fun k_ hk => (⟨hk, hk.1.1.2.2⟩ : _ ∧ k_ ≠ gb245))) (fun _ hk => hk.1.2) (.slice Ao19 y262.length co19)) (fun _ hk => hk.2) (.slice Ao19 y262.length co19)) (fun _ hk => hk.2) (.slice A0_1 l0_1.length c0_1)) (fun _ hk => ⟨hk.1.1.1.1, hk.1.1.2⟩), (Z2 HB GE244 GE245)⟩
      ·rw [if_neg c9] at H
       exact absurd H (by simp)
     ·rw [if_neg c8] at H
      exact absurd H (by simp)
    ·rw [if_neg c7] at H
     exact absurd H (by simp)
   ·rw [if_neg c5] at H
    exact absurd H (by simp)
  ·rw [if_neg c4] at H
   exact absurd H (by simp)
 ·rw [if_neg c3] at H
  exact absurd H (by simp)

/-! ### signatoryref06_Deliver: function 22 -/
def signatoryref06_Deliver.f (k : Nat) (l0_0 : List (S28)) (l0_1 : List (S55)) (a1 : Int) : Option (Int × Int × List Int × (List (S28)) × (List (S55)) × Int) := (signatoryref06_asked.f k l0_0 l0_1 a1).bind fun t268 => (if t268 = 0 then (if 0 ≤ a1 then (if a1 < (l0_0.length : Int) then ((signatoryref06_IsCut.f k l0_0 l0_1 ((rd_T28 l0_0 a1).f0) ((rd_T28 l0_0 a1).f1)).bind fun t271 => (if t271 = true then ((signatoryref06_without.f l0_0 l0_1 a1).bind fun bt272 => (some (0, 0, ([] : List Int), bt272.1, bt272.2, 0))) else ((signatoryref06_without.f l0_0 l0_1 a1).bind fun bt278 => (some ((rd_T28 l0_0 a1).f0, (rd_T28 l0_0 a1).f1, (rd_T28 l0_0 a1).f2, bt278.1, bt278.2, 0))))) else (none)) else (none)) else (some (0, 0, ([] : List Int), ([] : List (S28)), ([] : List (S55)), t268)))
theorem signatoryref06_Deliver.mono : ∀ a0 a1 a2 k, LeO (signatoryref06_Deliver.f k a0 a1 a2) (signatoryref06_Deliver.f (k + 1) a0 a1 a2) := by
 intro a0 a1 a2 k
 unfold signatoryref06_Deliver.f
 repeat' first
   | (with_reducible exact signatoryref06_IsCut.mono _ _ _ _ _)
   | (with_reducible exact signatoryref06_asked.mono _ _ _ _)
   | (with_reducible exact LeO.refl _)
   | (with_reducible exact LeO.none _)
   | (with_reducible refine LeO.ite ?_ ?_)
   | (with_reducible refine LeO.bind ?_ (fun _ => ?_))
   | exact signatoryref06_IsCut.mono _ _ _ _ _
   | exact signatoryref06_asked.mono _ _ _ _
   | exact LeO.none _
   | refine LeO.ite ?_ ?_
   | refine LeO.bind ?_ (fun _ => ?_)
set_option maxHeartbeats 8000000 in
set_option maxRecDepth 100000 in
theorem signatoryref06_Deliver.calls (k : Nat) (P0_0_ : Nat → Prop) (A0_0 : Option Addr) (c0_0 : Nat) (l0_0 : List (S28)) (P0_1_ : Nat → Prop) (A0_1 : Option Addr) (c0_1 : Nat) (l0_1 : List (S55)) (a1 : Int) (r1 : Int) (r2 : Int) (r3 : List Int) (r4 : List (S28)) (r5 : List (S55)) (r6 : Int) (w : World) (hs0_0 : Kd.V k28 28 w w.heap.size (fun k_ => P0_0_ k_) (.slice A0_0 l0_0.length c0_0) l0_0) (hs0_1 : Kd.V k55 55 w w.heap.size (fun k_ => P0_1_ k_) (.slice A0_1 l0_1.length c0_1) l0_1) (h : signatoryref06_Deliver.f k l0_0 l0_1 a1 = some (r1, r2, r3, r4, r5, r6)) :
  Calls Try.prog 22 #[.agg #[.slice A0_0 l0_0.length c0_0, .slice A0_1 l0_1.length c0_1], .int .i64 a1] w fun e w' => ∃ v2_ v3_ v4_ : Value, e = .returned (.tuple #[.agg #[.int .i64 r1, .int .i64 r2, v2_], .agg #[v3_, v4_], .int .i64 r6]) ∧ Kd.V (Kd.int .u8) 5 w' w.heap.size (fun k_ => ((P0_0_ k_ ∨ P0_1_ k_) ∨ w.heap.size ≤ k_) ∧ some k_ ≠ (v3_ : Value).ownBlock) v2_ r3 ∧ Kd.N k28 28 w' w.heap.size (fun k_ => ((P0_0_ k_ ∨ P0_1_ k_) ∨ w.heap.size ≤ k_)) v3_ r4 ∧ Kd.V k55 55 w' w.heap.size (fun k_ => ((P0_0_ k_ ∨ P0_1_ k_) ∨ w.heap.size ≤ k_) ∧ some k_ ≠ (v3_ : Value).ownBlock) v4_ r5 ∧ Below w.heap.size w w' := by
 have hu25 := Try.underlying25
 have hu28 := Try.underlying28
 have HO0_0 := Aside0.mk (show Kd.V k28 28 w w.heap.size (fun k_ => ((P0_0_ k_ ∨ P0_1_ k_) ∨ w.heap.size ≤ k_)) (.slice A0_0 l0_0.length c0_0) l0_0 from Kd.V_mono hs0_0 (fun k_ hk => .inl (.inl hk)))
 have HO0_1 := Aside0.mk (show Kd.V k55 55 w w.heap.size (fun k_ => ((P0_0_ k_ ∨ P0_1_ k_) ∨ w.heap.size ≤ k_)) (.slice A0_1 l0_1.length c0_1) l0_1 from Kd.V_mono hs0_1 (fun k_ hk => .inl (.inr hk)))
 have HB := Aside0.mk (Below.refl w.heap.size w)
 have H : ((signatoryref06_asked.f k l0_0 l0_1 a1).bind fun t268 => (if t268 = 0 then (if 0 ≤ a1 then (if a1 < (l0_0.length : Int) then ((signatoryref06_IsCut.f k l0_0 l0_1 ((rd_T28 l0_0 a1).f0) ((rd_T28 l0_0 a1).f1)).bind fun t271 => (if t271 = true then ((signatoryref06_without.f l0_0 l0_1 a1).bind fun bt272 => (some (0, 0, ([] : List Int), bt272.1, bt272.2, 0))) else ((signatoryref06_without.f l0_0 l0_1 a1).bind fun bt278 => (some ((rd_T28 l0_0 a1).f0, (rd_T28 l0_0 a1).f1, (rd_T28 l0_0 a1).f2, bt278.1, bt278.2, 0))))) else (none)) else (none)) else (some (0, 0, ([] : List Int), ([] : List (S28)), ([] : List (S55)), t268)))) = some (r1, r2, r3, r4, r5, r6) := h
 clear h
 replace H := Option.bind_eq_some_iff.mp H
 obtain ⟨t268, A30, H⟩ := H
 replace H : (if t268 = 0 then (if 0 ≤ a1 then (if a1 < (l0_0.length : Int) then ((signatoryref06_IsCut.f k l0_0 l0_1 ((rd_T28 l0_0 a1).f0) ((rd_T28 l0_0 a1).f1)).bind fun t271 => (if t271 = true then ((signatoryref06_without.f l0_0 l0_1 a1).bind fun bt272 => (some (0, 0, ([] : List Int), bt272.1, bt272.2, 0))) else ((signatoryref06_without.f l0_0 l0_1 a1).bind fun bt278 => (some ((rd_T28 l0_0 a1).f0, (rd_T28 l0_0 a1).f1, (rd_T28 l0_0 a1).f2, bt278.1, bt278.2, 0))))) else (none)) else (none)) else (some (0, 0, ([] : List Int), ([] : List (S28)), ([] : List (S55)), t268))) = some (r1, r2, r3, r4, r5, r6) := H
 have A3 := Aside0.mk A30
 clear A30
 by_cases c4 : t268 = 0
 ·rw [if_pos c4] at H
  have c4b0 : (t268 == 0) = true := beq_iff_eq.mpr c4
  have c4b1 : (t268 != 0) = false := bne_eq_false_iff_eq.mpr c4
  clear c4
  by_cases c5 : 0 ≤ a1
  ·rw [if_pos c5] at H
   have c5b0 : decide (0 ≤ a1) = true := decide_eq_true c5
   clear c5
   by_cases c6 : a1 < (l0_0.length : Int)
   ·rw [if_pos c6] at H
    have c6b0 : decide (a1 < (l0_0.length : Int)) = true := decide_eq_true c6
    clear c6
    replace H := Option.bind_eq_some_iff.mp H
    obtain ⟨t271, A70, H⟩ := H
    replace H : (if t271 = true then ((signatoryref06_without.f l0_0 l0_1 a1).bind fun bt272 => (some (0, 0, ([] : List Int), bt272.1, bt272.2, 0))) else ((signatoryref06_without.f l0_0 l0_1 a1).bind fun bt278 => (some ((rd_T28 l0_0 a1).f0, (rd_T28 l0_0 a1).f1, (rd_T28 l0_0 a1).f2, bt278.1, bt278.2, 0)))) = some (r1, r2, r3, r4, r5, r6) := H
    have A7 := Aside0.mk A70
    clear A70
    by_cases c8 : t271 = true
    ·subst c8
     have H1 : ((signatoryref06_without.f l0_0 l0_1 a1).bind fun bt272 => (some (0, 0, ([] : List Int), bt272.1, bt272.2, 0))) = some (r1, r2, r3, r4, r5, r6) := by rw [if_pos rfl] at H; exact H
     clear H
     have H := H1
     clear H1
     replace H := Option.bind_eq_some_iff.mp H
     obtain ⟨⟨t272, t275⟩, A90, H⟩ := H
     replace H : (some (0, 0, ([] : List Int), t272, t275, 0)) = some (r1, r2, r3, r4, r5, r6) := H
     have A9 := Aside0.mk A90
     clear A90
     simp only [Option.some.injEq, Prod.mk.injEq] at H
     obtain ⟨rfl, rfl, rfl, rfl, rfl, rfl⟩ := H
     go_enter Try.func22, Try.ntmps22
     try go_wp2_with (first | ((with_reducible refine gate_dst (N := 2) rfl ?_); refine box_event ?hg (N := 2) ?hd (cs := #[.slice A0_0 l0_0.length c0_0, .slice A0_1 l0_1.length c0_1]) (t := 25) ?hr ?_; (case hd => rfl); (case hg => rfl); (case hr => first | (go_simp; done) | (go_simp; rfl)); intro gb265 hg w10 hbox hb; have n0_ := Aside0.mk (Kd.V_below (Kd.V_elderB (Zv HO0_0.out) gb265 (Nat.le_of_eq hg.symm)) hb); have n1_ := Aside0.mk (Kd.V_below (Kd.V_elderB (Zv HO0_1.out) gb265 (Nat.le_of_eq hg.symm)) hb); have n2_ := Aside0.mk (below_step (Z0 HB) hb); have n3_ := Aside0.mk (hbox); have n4_ := Aside0.mk ((by rw [hg]; exact (below_size (Z0 HB)) : w.heap.size ≤ gb265)); have n5_ := Aside0.mk ((by rw [hg]; exact (below_size (Z0 HB)) : w.heap.size ≤ gb265)); clear HO0_0; clear HO0_1; clear HB; have HO0_0 := n0_; have HO0_1 := n1_; have HB := n2_; have BK265 := n3_; have GW265 := n4_; have GE265 := n5_; clear n0_ n1_ n2_ n3_ n4_ n5_; clear hb hbox hg) | ((with_reducible refine gate_dst (N := 4) rfl ?_); refine box_event ?hg (N := 4) ?hd (cs := #[.int .i64 0, .int .i64 0, .slice none 0 0]) (t := 28) ?hr ?_; (case hd => rfl); (case hg => rfl); (case hr => first | (go_simp; done) | (go_simp; rfl)); intro gb266 hg w11 hbox hb; have n0_ := Aside0.mk (Kd.V_below (Kd.V_elderB (Zv HO0_0.out) gb266 (Nat.le_of_eq hg.symm)) hb); have n1_ := Aside0.mk (Kd.V_below (Kd.V_elderB (Zv HO0_1.out) gb266 (Nat.le_of_eq hg.symm)) hb); have n2_ := Aside0.mk (blk_below (g := gb265) (o := .cells #[.slice A0_0 l0_0.length c0_0, .slice A0_1 l0_1.length c0_1] 25 (0, 0)) (Zb BK265.out) hb); have n3_ := Aside0.mk (below_step (Z1 HB GE265) hb); have n4_ := Aside0.mk (hbox); have n5_ := Aside0.mk ((by rw [hg]; exact (below_size (Z1 HB GE265)) : w.heap.size ≤ gb266)); have n6_ := Aside0.mk ((by rw [hg]; exact (below_size (Z1 HB GE265)) : w.heap.size ≤ gb266)); have n7_ := Aside0.mk ((by rw [hg]; exact Nat.ne_of_lt (blk_lt (g := gb265) (o := .cells #[.slice A0_0 l0_0.length c0_0, .slice A0_1 l0_1.length c0_1] 25 (0, 0)) (Zb BK265.out)) : gb265 ≠ gb266)); have n8_ := Aside0.mk ((by rw [hg]; exact Nat.ne_of_gt (blk_lt (g := gb265) (o := .cells #[.slice A0_0 l0_0.length c0_0, .slice A0_1 l0_1.length c0_1] 25 (0, 0)) (Zb BK265.out)) : gb266 ≠ gb265)); clear HO0_0; clear HO0_1; clear BK265; clear HB; have HO0_0 := n0_; have HO0_1 := n1_; have BK265 := n2_; have HB := n3_; have BK266 := n4_; have GW266 := n5_; have GE266 := n6_; have NB265_266 := n7_; have NB266_265 := n8_; clear n0_ n1_ n2_ n3_ n4_ n5_ n6_ n7_ n8_; clear hb hbox hg) | ((with_reducible refine gate_dst (N := 5) rfl ?_); refine box_event ?hg (N := 5) ?hd (cs := #[.slice none 0 0, .slice none 0 0]) (t := 25) ?hr ?_; (case hd => rfl); (case hg => rfl); (case hr => first | (go_simp; done) | (go_simp; rfl)); intro gb267 hg w12 hbox hb; have n0_ := Aside0.mk (Kd.V_below (Kd.V_elderB (Zv HO0_0.out) gb267 (Nat.le_of_eq hg.symm)) hb); have n1_ := Aside0.mk (Kd.V_below (Kd.V_elderB (Zv HO0_1.out) gb267 (Nat.le_of_eq hg.symm)) hb); have n2_ := Aside0.mk (blk_below (g := gb265) (o := .cells #[.slice A0_0 l0_0.length c0_0, .slice A0_1 l0_1.length c0_1] 25 (0, 0)) (Zb BK265.out) hb); have n3_ := Aside0.mk (blk_below (g := gb266) (o := .cells #[.int .i64 0, .int .i64 0, .slice none 0 0] 28 (0, 0)) (Zb BK266.out) hb); have n4_ := Aside0.mk (below_step (Z2 HB GE265 GE266) hb); have n5_ := Aside0.mk (hbox); have n6_ := Aside0.mk ((by rw [hg]; exact (below_size (Z2 HB GE265 GE266)) : w.heap.size ≤ gb267)); have n7_ := Aside0.mk ((by rw [hg]; exact (below_size (Z2 HB GE265 GE266)) : w.heap.size ≤ gb267)); have n8_ := Aside0.mk ((by rw [hg]; exact Nat.ne_of_lt (blk_lt (g := gb265) (o := .cells #[.slice A0_0 l0_0.length c0_0, .slice A0_1 l0_1.length c0_1] 25 (0, 0)) (Zb BK265.out)) : gb265 ≠ gb267)); have n9_ := Aside0.mk ((by rw [hg]; exact Nat.ne_of_gt (blk_lt (g := gb265) (o := .cells #[.slice A0_0 l0_0.length c0_0, .slice A0_1 l0_1.length c0_1] 25 (0, 0)) (Zb BK265.out)) : gb267 ≠ gb265)); have n10_ := Aside0.mk ((by rw [hg]; exact Nat.ne_of_lt (blk_lt (g := gb266) (o := .cells #[.int .i64 0, .int .i64 0, .slice none 0 0] 28 (0, 0)) (Zb BK266.out)) : gb266 ≠ gb267)); have n11_ := Aside0.mk ((by rw [hg]; exact Nat.ne_of_gt (blk_lt (g := gb266) (o := .cells #[.int .i64 0, .int .i64 0, .slice none 0 0] 28 (0, 0)) (Zb BK266.out)) : gb267 ≠ gb266)); clear HO0_0; clear HO0_1; clear BK265; clear BK266; clear HB; have HO0_0 := n0_; have HO0_1 := n1_; have BK265 := n2_; have BK266 := n3_; have HB := n4_; have BK267 := n5_; have GW267 := n6_; have GE267 := n7_; have NB265_267 := n8_; have NB267_265 := n9_; have NB266_267 := n10_; have NB267_266 := n11_; clear n0_ n1_ n2_ n3_ n4_ n5_ n6_ n7_ n8_ n9_ n10_ n11_; clear hb hbox hg; have hnb13 := NB265_266.out; have hnc13 := NB266_265.out; have hnb14 := NB265_267.out; have hnc14 := NB267_265.out; have hcz15_0 : w12.cell? ⟨gb265, 0, none⟩ = some (.slice A0_0 l0_0.length c0_0) := (blk_cell BK265.out 0).trans rfl; have hcz15_1 : w12.cell? ⟨gb265, 1, none⟩ = some (.slice A0_1 l0_1.length c0_1) := (blk_cell BK265.out 1).trans rfl; have hfz15_0 := blk_frozen BK265.out 0; have hfz15_1 := blk_frozen BK265.out 1) | ((with_reducible refine gate_callee (f := 41) rfl ?_); refine goesL_ (some 11) rfl rfl Try.func41 (by kernel_rfl) rfl #[.agg #[.slice A0_0 l0_0.length c0_0, .slice A0_1 l0_1.length c0_1], .int .i64 a1] rfl (by (try simp only [List.map_toArray, List.map_cons, List.map_nil]); first | done | rfl | (simp only [List.length_drop, List.length_take]; rfl)) ?_; (with_reducible refine (signatoryref06_asked.calls k _ _ l0_0 _ _ l0_1 a1 t268 _ ?side1 ?side2 ?side3 ?side4 A3.out).mono ?_); (case side1 => repeat (first | exact (Kd.V_reads' HO0_0.out).2.2 | (with_reducible refine Kd.C_alloc ?_ _) | (with_reducible refine Kd.C_drewN ?_ _) | (with_reducible refine Kd.C_drew ?_))); (case side2 => exact (Kd.V_reads' HO0_0.out).2.1); (case side3 => repeat (first | exact (Kd.V_reads' HO0_1.out).2.2 | (with_reducible refine Kd.C_alloc ?_ _) | (with_reducible refine Kd.C_drewN ?_ _) | (with_reducible refine Kd.C_drew ?_))); (case side4 => exact (Kd.V_reads' HO0_1.out).2.1); rintro e w16 ⟨rfl, hb⟩; refine ⟨_, rfl, ?_⟩; have n0_ := Aside0.mk (Kd.V_below (Zv HO0_0.out) hb); have n1_ := Aside0.mk (Kd.V_below (Zv HO0_1.out) hb); have n2_ := Aside0.mk (blk_below (g := gb265) (o := .cells #[.slice A0_0 l0_0.length c0_0, .slice A0_1 l0_1.length c0_1] 25 (0, 0)) (Zb BK265.out) hb); have n3_ := Aside0.mk (blk_below (g := gb266) (o := .cells #[.int .i64 0, .int .i64 0, .slice none 0 0] 28 (0, 0)) (Zb BK266.out) hb); have n4_ := Aside0.mk (blk_below (g := gb267) (o := .cells #[.slice none 0 0, .slice none 0 0] 25 (0, 0)) (Zb BK267.out) hb); have n5_ := Aside0.mk (below_step (Z3 HB GE265 GE266 GE267) hb); clear HO0_0; clear HO0_1; clear BK265; clear BK266; clear BK267; clear HB; have HO0_0 := n0_; have HO0_1 := n1_; have BK265 := n2_; have BK266 := n3_; have BK267 := n4_; have HB := n5_; clear n0_ n1_ n2_ n3_ n4_ n5_; (try clear hb); (try clear hb2); (try clear hk); (try clear hi); have hcz17_0 : w16.cell? ⟨gb265, 0, none⟩ = some (.slice A0_0 l0_0.length c0_0) := (blk_cell BK265.out 0).trans rfl; have hcz17_1 : w16.cell? ⟨gb265, 1, none⟩ = some (.slice A0_1 l0_1.length c0_1) := (blk_cell BK265.out 1).trans rfl; have hfz17_0 := blk_frozen BK265.out 0; have hfz17_1 := blk_frozen BK265.out 1; have p269 : 0 ≤ (a1 : Int) := of_decide_eq_true (by first | (with_reducible assumption) | assumption); have q269 : a1 < (l0_0.length : Int) := of_decide_eq_true (by first | (with_reducible assumption) | assumption); obtain ⟨ad269, A269_2, c269_2, e269, hx269_0, hx269_1, hx269_2, hl269_2, hi269_2⟩ := at_T28 (Kd.V_reads' HO0_0.out).2.2 a1 p269 q269; cases e269; obtain ⟨ce269, hce269, hMe269, hcc269⟩ := Kd.V_get HO0_0.out z28 a1 p269 (by first | exact q269 | exact of_decide_eq_true (by first | (with_reducible assumption) | assumption) | (have e_ := (Kd.V_reads' HO0_0.out).1; omega)); obtain ⟨ua269_2, uc269_2, rfl, ul269_2, ge269_2⟩ := k28_openF hMe269; have hv269_2 := hcc269 2 _ rfl; rw [add_field _ _ 2 (by omega)] at hv269_2; replace hv269_2 := Option.some.inj (hv269_2.symm.trans hx269_2); injection hv269_2 with hva_ hvn_ hvc_; rw [hva_] at ge269_2; rw [hvc_] at ul269_2; have HL269_2 := Aside0.mk (show Kd.V (Kd.int .u8) 5 _ w.heap.size _ _ ((rd_T28 l0_0 a1).f2) from Kd.V_mk ul269_2 ge269_2); clear hva_ hvn_ hvc_ ge269_2 ul269_2; clear hcc269 hce269; have HR269_2 := Aside0.mk hi269_2; have HC269_2 := Aside0.mk hl269_2; clear hi269_2 hl269_2; replace p269 := eq_true p269; replace q269 := eq_true q269) | ((with_reducible refine gate_dst (N := 8) rfl ?_); refine box_event ?hg (N := 8) ?hd (cs := #[.int .i64 0, .int .i64 0, .slice none 0 0]) (t := 28) ?hr ?_; (case hd => rfl); (case hg => rfl); (case hr => first | (go_simp; done) | (go_simp; rfl)); intro gb270 hg w18 hbox hb; have n0_ := Aside0.mk (Kd.V_below (Kd.V_elderB (Zv HO0_0.out) gb270 (Nat.le_of_eq hg.symm)) hb); have n1_ := Aside0.mk (Kd.V_below (Kd.V_elderB (Zv HO0_1.out) gb270 (Nat.le_of_eq hg.symm)) hb); have n2_ := Aside0.mk (Kd.V_below (Kd.V_elderB (Zv HL269_2.out) gb270 (Nat.le_of_eq hg.symm)) hb); have n3_ := Aside0.mk (blk_below (g := gb265) (o := .cells #[.slice (some ad269) l0_0.length c0_0, .slice A0_1 l0_1.length c0_1] 25 (0, 0)) (Zb BK265.out) hb); have n4_ := Aside0.mk (blk_below (g := gb266) (o := .cells #[.int .i64 0, .int .i64 0, .slice none 0 0] 28 (0, 0)) (Zb BK266.out) hb); have n5_ := Aside0.mk (blk_below (g := gb267) (o := .cells #[.slice none 0 0, .slice none 0 0] 25 (0, 0)) (Zb BK267.out) hb); have n6_ := Aside0.mk (Kd.C_below (by repeat (first | (with_reducible exact HR269_2.out) | (with_reducible refine Kd.C_alloc ?_ _) | (with_reducible refine Kd.C_drewN ?_ _) | (with_reducible refine Kd.C_drew ?_) | exact HR269_2.out)) hb); have n7_ := Aside0.mk (below_step (Z3 HB GE265 GE266 GE267) hb); have n8_ := Aside0.mk (hbox); have n9_ := Aside0.mk ((by rw [hg]; exact (below_size (Z3 HB GE265 GE266 GE267)) : w.heap.size ≤ gb270)); have n10_ := Aside0.mk ((by rw [hg]; exact (below_size (Z3 HB GE265 GE266 GE267)) : w.heap.size ≤ gb270)); have n11_ := Aside0.mk ((by rw [hg]; exact Nat.ne_of_lt (blk_lt (g := gb265) (o := .cells #[.slice (some ad269) l0_0.length c0_0, .slice A0_1 l0_1.length c0_1] 25 (0, 0)) (Zb BK265.out)) : gb265 ≠ gb270)); have n12_ := Aside0.mk ((by rw [hg]; exact Nat.ne_of_gt (blk_lt (g := gb265) (o := .cells #[.slice (some ad269) l0_0.length c0_0, .slice A0_1 l0_1.length c0_1] 25 (0, 0)) (Zb BK265.out)) : gb270 ≠ gb265)); have n13_ := Aside0.mk ((by rw [hg]; exact Nat.ne_of_lt (blk_lt (g := gb266) (o := .cells #[.int .i64 0, .int .i64 0, .slice none 0 0] 28 (0, 0)) (Zb BK266.out)) : gb266 ≠ gb270)); have n14_ := Aside0.mk ((by rw [hg]; exact Nat.ne_of_gt (blk_lt (g := gb266) (o := .cells #[.int .i64 0, .int .i64 0, .slice none 0 0] 28 (0, 0)) (Zb BK266.out)) : gb270 ≠ gb266)); have n15_ := Aside0.mk ((by rw [hg]; exact Nat.ne_of_lt (blk_lt (g := gb267) (o := .cells #[.slice none 0 0, .slice none 0 0] 25 (0, 0)) (Zb BK267.out)) : gb267 ≠ gb270)); have n16_ := Aside0.mk ((by rw [hg]; exact Nat.ne_of_gt (blk_lt (g := gb267) (o := .cells #[.slice none 0 0, .slice none 0 0] 25 (0, 0)) (Zb BK267.out)) : gb270 ≠ gb267)); clear HO0_0; clear HO0_1; clear HL269_2; clear BK265; clear BK266; clear BK267; clear HR269_2; clear HB; have HO0_0 := n0_; have HO0_1 := n1_; have HL269_2 := n2_; have BK265 := n3_; have BK266 := n4_; have BK267 := n5_; have HR269_2 := n6_; have HB := n7_; have BK270 := n8_; have GW270 := n9_; have GE270 := n10_; have NB265_270 := n11_; have NB270_265 := n12_; have NB266_270 := n13_; have NB270_266 := n14_; have NB267_270 := n15_; have NB270_267 := n16_; clear n0_ n1_ n2_ n3_ n4_ n5_ n6_ n7_ n8_ n9_ n10_ n11_ n12_ n13_ n14_ n15_ n16_; clear hb hbox hg; have hnb19 := NB270_265.out; have hnc19 := NB265_270.out; have hnb20 := NB270_266.out; have hnc20 := NB266_270.out; have hnb21 := NB270_267.out; have hnc21 := NB267_270.out; have hcz22_0 : w18.cell? ⟨gb270, 0, none⟩ = some (.int .i64 0) := (blk_cell BK270.out 0).trans rfl; have hcz22_1 : w18.cell? ⟨gb270, 1, none⟩ = some (.int .i64 0) := (blk_cell BK270.out 1).trans rfl; have hcz22_2 : w18.cell? ⟨gb270, 2, none⟩ = some (.slice none 0 0) := (blk_cell BK270.out 2).trans rfl; have hfz22_0 := blk_frozen BK270.out 0; have hfz22_1 := blk_frozen BK270.out 1; have hfz22_2 := blk_frozen BK270.out 2; have hcz23_0 : w18.cell? ⟨gb265, 0, none⟩ = some (.slice (some ad269) l0_0.length c0_0) := (blk_cell BK265.out 0).trans rfl; have hcz23_1 : w18.cell? ⟨gb265, 1, none⟩ = some (.slice A0_1 l0_1.length c0_1) := (blk_cell BK265.out 1).trans rfl; have hfz23_0 := blk_frozen BK265.out 0; have hfz23_1 := blk_frozen BK265.out 1) | ((with_reducible refine gate_callee (f := 40) rfl ?_); refine goesL_ (some 27) rfl rfl Try.func40 (by kernel_rfl) rfl #[.agg #[.slice (some ad269) l0_0.length c0_0, .slice A0_1 l0_1.length c0_1], .int .i64 ((rd_T28 l0_0 a1).f0), .int .i64 ((rd_T28 l0_0 a1).f1)] rfl (by (try simp only [List.map_toArray, List.map_cons, List.map_nil]); first | done | rfl | (simp only [List.length_drop, List.length_take]; rfl)) ?_; (with_reducible refine (signatoryref06_IsCut.calls k _ _ l0_0 _ _ l0_1 ((rd_T28 l0_0 a1).f0) ((rd_T28 l0_0 a1).f1) true _ ?side1 ?side2 ?side3 ?side4 A7.out).mono ?_); (case side1 => refine (Kd.V_reads' (e := 28) (base := w.heap.size) (ok := fun k_ => ((((((P0_0_ k_ ∨ P0_1_ k_) ∨ w.heap.size ≤ k_) ∧ k_ ≠ gb265) ∧ k_ ≠ gb266) ∧ k_ ≠ gb267) ∧ k_ ≠ gb270)) (n := l0_0.length) (c := c0_0) ?_).2.2; exact (by refine Zv ?_; exact (Kd.V_mono (Kd.V_far (p := ⟨gb270, 2, none⟩) (Kd.V_far (p := ⟨gb270, 1, none⟩) (Kd.V_far (p := ⟨gb270, 0, none⟩) (Kd.V_mono HO0_0.out (fun k_ hk => (⟨hk, hk.2⟩ : _ ∧ k_ ≠ gb270))) (fun _ hk => hk.2) (.int .i64 ((rd_T28 l0_0 a1).f0))) (fun _ hk => hk.2) (.int .i64 ((rd_T28 l0_0 a1).f1))) (fun _ hk => hk.2) (.slice A269_2 ((rd_T28 l0_0 a1).f2).length c269_2)) (fun _ h_ => h_.1)))); (case side2 => exact (Kd.V_reads' HO0_0.out).2.1); (case side3 => refine (Kd.V_reads' (e := 55) (base := w.heap.size) (ok := fun k_ => ((((((P0_0_ k_ ∨ P0_1_ k_) ∨ w.heap.size ≤ k_) ∧ k_ ≠ gb265) ∧ k_ ≠ gb266) ∧ k_ ≠ gb267) ∧ k_ ≠ gb270)) (n := l0_1.length) (c := c0_1) ?_).2.2; exact (by refine Zv ?_; exact (Kd.V_mono (Kd.V_far (p := ⟨gb270, 2, none⟩) (Kd.V_far (p := ⟨gb270, 1, none⟩) (Kd.V_far (p := ⟨gb270, 0, none⟩) (Kd.V_mono HO0_1.out (fun k_ hk => (⟨hk, hk.2⟩ : _ ∧ k_ ≠ gb270))) (fun _ hk => hk.2) (.int .i64 ((rd_T28 l0_0 a1).f0))) (fun _ hk => hk.2) (.int .i64 ((rd_T28 l0_0 a1).f1))) (fun _ hk => hk.2) (.slice A269_2 ((rd_T28 l0_0 a1).f2).length c269_2)) (fun _ h_ => h_.1)))); (case side4 => exact (Kd.V_reads' HO0_1.out).2.1); rintro e w24 ⟨rfl, hb⟩; refine ⟨_, rfl, ?_⟩; have n0_ := Aside0.mk (Kd.V_below (by refine Zv ?_; exact (Kd.V_mono (Kd.V_far (p := ⟨gb270, 2, none⟩) (Kd.V_far (p := ⟨gb270, 1, none⟩) (Kd.V_far (p := ⟨gb270, 0, none⟩) (Kd.V_mono HO0_0.out (fun k_ hk => (⟨hk, hk.2⟩ : _ ∧ k_ ≠ gb270))) (fun _ hk => hk.2) (.int .i64 ((rd_T28 l0_0 a1).f0))) (fun _ hk => hk.2) (.int .i64 ((rd_T28 l0_0 a1).f1))) (fun _ hk => hk.2) (.slice A269_2 ((rd_T28 l0_0 a1).f2).length c269_2)) (fun _ h_ => h_.1))) hb); have n1_ := Aside0.mk (Kd.V_below (by refine Zv ?_; exact (Kd.V_mono (Kd.V_far (p := ⟨gb270, 2, none⟩) (Kd.V_far (p := ⟨gb270, 1, none⟩) (Kd.V_far (p := ⟨gb270, 0, none⟩) (Kd.V_mono HO0_1.out (fun k_ hk => (⟨hk, hk.2⟩ : _ ∧ k_ ≠ gb270))) (fun _ hk => hk.2) (.int .i64 ((rd_T28 l0_0 a1).f0))) (fun _ hk => hk.2) (.int .i64 ((rd_T28 l0_0 a1).f1))) (fun _ hk => hk.2) (.slice A269_2 ((rd_T28 l0_0 a1).f2).length c269_2)) (fun _ h_ => h_.1))) hb); have n2_ := Aside0.mk (Kd.V_below (by refine Zv ?_; exact (Kd.V_mono (Kd.V_far (p := ⟨gb270, 2, none⟩) (Kd.V_far (p := ⟨gb270, 1, none⟩) (Kd.V_far (p := ⟨gb270, 0, none⟩) (Kd.V_mono HL269_2.out (fun k_ hk => (⟨hk, hk.2⟩ : _ ∧ k_ ≠ gb270))) (fun _ hk => hk.2) (.int .i64 ((rd_T28 l0_0 a1).f0))) (fun _ hk => hk.2) (.int .i64 ((rd_T28 l0_0 a1).f1))) (fun _ hk => hk.2) (.slice A269_2 ((rd_T28 l0_0 a1).f2).length c269_2)) (fun _ h_ => h_.1))) hb); have n3_ := Aside0.mk (blk_below (g := gb265) (o := .cells #[.slice (some ad269) l0_0.length c0_0, .slice A0_1 l0_1.length c0_1] 25 (0, 0)) (by refine Zb ?_; refine blk_far ?_ NB265_270.out _; refine Zb ?_; refine blk_far ?_ NB265_270.out _; refine Zb ?_; refine blk_far ?_ NB265_270.out _; refine Zb ?_; exact BK265.out) hb); have n4_ := Aside0.mk (blk_below (g := gb266) (o := .cells #[.int .i64 0, .int .i64 0, .slice none 0 0] 28 (0, 0)) (by refine Zb ?_; refine blk_far ?_ NB266_270.out _; refine Zb ?_; refine blk_far ?_ NB266_270.out _; refine Zb ?_; refine blk_far ?_ NB266_270.out _; refine Zb ?_; exact BK266.out) hb); have n5_ := Aside0.mk (blk_below (g := gb267) (o := .cells #[.slice none 0 0, .slice none 0 0] 25 (0, 0)) (by refine Zb ?_; refine blk_far ?_ NB267_270.out _; refine Zb ?_; refine blk_far ?_ NB267_270.out _; refine Zb ?_; refine blk_far ?_ NB267_270.out _; refine Zb ?_; exact BK267.out) hb); have n6_ := Aside0.mk (Kd.C_below ((Kd.V_reads' (by refine Zv ?_; exact (Kd.V_mono (Kd.V_far (p := ⟨gb270, 2, none⟩) (Kd.V_far (p := ⟨gb270, 1, none⟩) (Kd.V_far (p := ⟨gb270, 0, none⟩) (Kd.V_mono HL269_2.out (fun k_ hk => (⟨hk, hk.2⟩ : _ ∧ k_ ≠ gb270))) (fun _ hk => hk.2) (.int .i64 ((rd_T28 l0_0 a1).f0))) (fun _ hk => hk.2) (.int .i64 ((rd_T28 l0_0 a1).f1))) (fun _ hk => hk.2) (.slice A269_2 ((rd_T28 l0_0 a1).f2).length c269_2)) (fun _ h_ => h_.1)))).2.2) hb); have n7_ := Aside0.mk (blk_below (g := gb270) (o := .cells #[.int .i64 ((rd_T28 l0_0 a1).f0), .int .i64 ((rd_T28 l0_0 a1).f1), .slice A269_2 ((rd_T28 l0_0 a1).f2).length c269_2] 28 (0, 0)) (by refine Zb ?_; refine blk_put (cs := #[.int .i64 ((rd_T28 l0_0 a1).f0), .int .i64 ((rd_T28 l0_0 a1).f1), .slice none 0 0]) ?_ 2 _ rfl; refine Zb ?_; refine blk_put (cs := #[.int .i64 ((rd_T28 l0_0 a1).f0), .int .i64 0, .slice none 0 0]) ?_ 1 _ rfl; refine Zb ?_; refine blk_put (cs := #[.int .i64 0, .int .i64 0, .slice none 0 0]) ?_ 0 _ rfl; refine Zb ?_; exact BK270.out) hb); have n8_ := Aside0.mk (below_step (by repeat (first | (with_reducible first | exact HB.out | apply below_alloc | apply pw_below_drewN | apply below_drew1 | refine below_set ?_ GE265.out | refine below_set ?_ GE266.out | refine below_set ?_ GE267.out | refine below_set ?_ GE270.out) | exact HB.out)) hb); clear HO0_0; clear HO0_1; clear HL269_2; clear BK265; clear BK266; clear BK267; clear HR269_2; clear BK270; clear HB; have HO0_0 := n0_; have HO0_1 := n1_; have HL269_2 := n2_; have BK265 := n3_; have BK266 := n4_; have BK267 := n5_; have HR269_2 := n6_; have BK270 := n7_; have HB := n8_; clear n0_ n1_ n2_ n3_ n4_ n5_ n6_ n7_ n8_; (try clear hb); (try clear hb2); (try clear hk); (try clear hi); have hcz25_0 : w24.cell? ⟨gb270, 0, none⟩ = some (.int .i64 ((rd_T28 l0_0 a1).f0)) := (blk_cell BK270.out 0).trans rfl; have hcz25_1 : w24.cell? ⟨gb270, 1, none⟩ = some (.int .i64 ((rd_T28 l0_0 a1).f1)) := (blk_cell BK270.out 1).trans rfl; have hcz25_2 : w24.cell? ⟨gb270, 2, none⟩ = some (.slice A269_2 ((rd_T28 l0_0 a1).f2).length c269_2) := (blk_cell BK270.out 2).trans rfl; have hfz25_0 := blk_frozen BK270.out 0; have hfz25_1 := blk_frozen BK270.out 1; have hfz25_2 := blk_frozen BK270.out 2))
     have n0_ : Aside0 (Kd.V k28 28 (((w24.setCell ⟨gb270, 0, none⟩ (.int .i64 0)).setCell ⟨gb270, 1, none⟩ (.int .i64 0)).setCell ⟨gb270, 2, none⟩ (.slice none 0 0)) w.heap.size (fun k_ => ((P0_0_ k_ ∨ P0_1_ k_) ∨ w.heap.size ≤ k_) ∧ k_ ≠ gb265 ∧ k_ ≠ gb266 ∧ k_ ≠ gb267 ∧ k_ ≠ gb270) (.slice (some ad269) l0_0.length c0_0) l0_0) := ⟨by refine Zv ?_; exact Kd.V_mono (Kd.V_far (p := ⟨gb270, 2, none⟩) (Kd.V_far (p := ⟨gb270, 1, none⟩) (Kd.V_far (p := ⟨gb270, 0, none⟩) (Kd.V_mono HO0_0.out (fun k_ hk => (⟨hk, hk.2⟩ : _ ∧ k_ ≠ gb270))) (fun _ hk => hk.2) (.int .i64 0)) (fun _ hk => hk.2) (.int .i64 0)) (fun _ hk => hk.2) (.slice none 0 0)) (fun _ hk => ⟨hk.1.1.1.1.1, ⟨hk.1.1.1.1.2, ⟨hk.1.1.1.2, ⟨hk.1.1.2, hk.1.2⟩⟩⟩⟩)⟩
     have n1_ : Aside0 (Kd.V k55 55 (((w24.setCell ⟨gb270, 0, none⟩ (.int .i64 0)).setCell ⟨gb270, 1, none⟩ (.int .i64 0)).setCell ⟨gb270, 2, none⟩ (.slice none 0 0)) w.heap.size (fun k_ => ((P0_0_ k_ ∨ P0_1_ k_) ∨ w.heap.size ≤ k_) ∧ k_ ≠ gb265 ∧ k_ ≠ gb266 ∧ k_ ≠ gb267 ∧ k_ ≠ gb270) (.slice A0_1 l0_1.length c0_1) l0_1) := ⟨by refine Zv ?_; exact Kd.V_mono (Kd.V_far (p := ⟨gb270, 2, none⟩) (Kd.V_far (p := ⟨gb270, 1, none⟩) (Kd.V_far (p := ⟨gb270, 0, none⟩) (Kd.V_mono HO0_1.out (fun k_ hk => (⟨hk, hk.2⟩ : _ ∧ k_ ≠ gb270))) (fun _ hk => hk.2) (.int .i64 0)) (fun _ hk => hk.2) (.int .i64 0)) (fun _ hk => hk.2) (.slice none 0 0)) (fun _ hk => ⟨hk.1.1.1.1.1, ⟨hk.1.1.1.1.2, ⟨hk.1.1.1.2, ⟨hk.1.1.2, hk.1.2⟩⟩⟩⟩)⟩
     have n2_ : Aside0 (Kd.V (Kd.int .u8) 5 (((w24.setCell ⟨gb270, 0, none⟩ (.int .i64 0)).setCell ⟨gb270, 1, none⟩ (.int .i64 0)).setCell ⟨gb270, 2, none⟩ (.slice none 0 0)) w.heap.size (fun k_ => ((P0_0_ k_ ∨ P0_1_ k_) ∨ w.heap.size ≤ k_) ∧ k_ ≠ gb265 ∧ k_ ≠ gb266 ∧ k_ ≠ gb267 ∧ k_ ≠ gb270) (.slice A269_2 ((rd_T28 l0_0 a1).f2).length c269_2) ((rd_T28 l0_0 a1).f2)) := ⟨by refine Zv ?_; exact Kd.V_mono (Kd.V_far (p := ⟨gb270, 2, none⟩) (Kd.V_far (p := ⟨gb270, 1, none⟩) (Kd.V_far (p := ⟨gb270, 0, none⟩) (Kd.V_mono HL269_2.out (fun k_ hk => (⟨hk, hk.2⟩ : _ ∧ k_ ≠ gb270))) (fun _ hk => hk.2) (.int .i64 0)) (fun _ hk => hk.2) (.int .i64 0)) (fun _ hk => hk.2) (.slice none 0 0)) (fun _ hk => ⟨hk.1.1.1.1.1, ⟨hk.1.1.1.1.2, ⟨hk.1.1.1.2, ⟨hk.1.1.2, hk.1.2⟩⟩⟩⟩)⟩
     have n3_ : Aside0 ((((w24.setCell ⟨gb270, 0, none⟩ (.int .i64 0)).setCell ⟨gb270, 1, none⟩ (.int .i64 0)).setCell ⟨gb270, 2, none⟩ (.slice none 0 0)).heap[gb265]? = some (.cells #[.slice (some ad269) l0_0.length c0_0, .slice A0_1 l0_1.length c0_1] 25 (0, 0))) := ⟨by refine Zb ?_; refine blk_far ?_ NB265_270.out _; refine Zb ?_; refine blk_far ?_ NB265_270.out _; refine Zb ?_; refine blk_far ?_ NB265_270.out _; refine Zb ?_; exact BK265.out⟩
     have n4_ : Aside0 ((((w24.setCell ⟨gb270, 0, none⟩ (.int .i64 0)).setCell ⟨gb270, 1, none⟩ (.int .i64 0)).setCell ⟨gb270, 2, none⟩ (.slice none 0 0)).heap[gb266]? = some (.cells #[.int .i64 0, .int .i64 0, .slice none 0 0] 28 (0, 0))) := ⟨by refine Zb ?_; refine blk_far ?_ NB266_270.out _; refine Zb ?_; refine blk_far ?_ NB266_270.out _; refine Zb ?_; refine blk_far ?_ NB266_270.out _; refine Zb ?_; exact BK266.out⟩
     have n5_ : Aside0 ((((w24.setCell ⟨gb270, 0, none⟩ (.int .i64 0)).setCell ⟨gb270, 1, none⟩ (.int .i64 0)).setCell ⟨gb270, 2, none⟩ (.slice none 0 0)).heap[gb267]? = some (.cells #[.slice none 0 0, .slice none 0 0] 25 (0, 0))) := ⟨by refine Zb ?_; refine blk_far ?_ NB267_270.out _; refine Zb ?_; refine blk_far ?_ NB267_270.out _; refine Zb ?_; refine blk_far ?_ NB267_270.out _; refine Zb ?_; exact BK267.out⟩
     have n6_ : Aside0 ((((w24.setCell ⟨gb270, 0, none⟩ (.int .i64 0)).setCell ⟨gb270, 1, none⟩ (.int .i64 0)).setCell ⟨gb270, 2, none⟩ (.slice none 0 0)).heap[gb270]? = some (.cells #[.int .i64 0, .int .i64 0, .slice none 0 0] 28 (0, 0))) := ⟨by refine Zb ?_; refine blk_put (cs := #[.int .i64 0, .int .i64 0, .slice A269_2 ((rd_T28 l0_0 a1).f2).length c269_2]) ?_ 2 _ rfl; refine Zb ?_; refine blk_put (cs := #[.int .i64 0, .int .i64 ((rd_T28 l0_0 a1).f1), .slice A269_2 ((rd_T28 l0_0 a1).f2).length c269_2]) ?_ 1 _ rfl; refine Zb ?_; refine blk_put (cs := #[.int .i64 ((rd_T28 l0_0 a1).f0), .int .i64 ((rd_T28 l0_0 a1).f1), .slice A269_2 ((rd_T28 l0_0 a1).f2).length c269_2]) ?_ 0 _ rfl; refine Zb ?_; exact BK270.out⟩
     have n7_ : Aside0 (Below w.heap.size w (((w24.setCell ⟨gb270, 0, none⟩ (.int .i64 0)).setCell ⟨gb270, 1, none⟩ (.int .i64 0)).setCell ⟨gb270, 2, none⟩ (.slice none 0 0))) := ⟨by repeat (first | (with_reducible first | exact HB.out | apply below_alloc | apply pw_below_drewN | apply below_drew1 | refine below_set ?_ GE265.out | refine below_set ?_ GE266.out | refine below_set ?_ GE267.out | refine below_set ?_ GE270.out) | exact HB.out)⟩
     (try clear HO0_0)
     (try clear HO0_1)
     (try clear HL269_2)
     (try clear BK265)
     (try clear BK266)
     (try clear BK267)
     (try clear BK270)
     (try clear HB)
     generalize (((w24.setCell ⟨gb270, 0, none⟩ (.int .i64 0)).setCell ⟨gb270, 1, none⟩ (.int .i64 0)).setCell ⟨gb270, 2, none⟩ (.slice none 0 0)) = w26 at n0_ n1_ n2_ n3_ n4_ n5_ n6_ n7_ ⊢
     have HO0_0 := n0_
     have HO0_1 := n1_
     have HL269_2 := n2_
     have BK265 := n3_
     have BK266 := n4_
     have BK267 := n5_
     have BK270 := n6_
     have HB := n7_
     clear n0_ n1_ n2_ n3_ n4_ n5_ n6_ n7_
     have n0_ := Aside0.mk (Kd.V_drew HO0_0.out)
     have n1_ := Aside0.mk (Kd.V_drew HO0_1.out)
     have n2_ := Aside0.mk (Kd.V_drew HL269_2.out)
     have n3_ := Aside0.mk (blk_drew BK265.out)
     have n4_ := Aside0.mk (blk_drew BK266.out)
     have n5_ := Aside0.mk (blk_drew BK267.out)
     have n6_ := Aside0.mk (blk_drew BK270.out)
     have n7_ := Aside0.mk (below_drew1 HB.out)
     clear HO0_0
     clear HO0_1
     clear HL269_2
     clear BK265
     clear BK266
     clear BK267
     clear BK270
     clear HB
     have HO0_0 := n0_
     have HO0_1 := n1_
     have HL269_2 := n2_
     have BK265 := n3_
     have BK266 := n4_
     have BK267 := n5_
     have BK270 := n6_
     have HB := n7_
     clear n0_ n1_ n2_ n3_ n4_ n5_ n6_ n7_
     refine start_ (n := 7) (S := fun w' => w'.cell? ⟨gb270, 0, none⟩ = some (.int .i64 0) ∧ w'.cell? ⟨gb270, 1, none⟩ = some (.int .i64 0) ∧ w'.cell? ⟨gb270, 2, none⟩ = some (.slice none 0 0) ∧ w'.cell? ⟨gb265, 0, none⟩ = some (.slice (some ad269) l0_0.length c0_0) ∧ w'.cell? ⟨gb265, 1, none⟩ = some (.slice A0_1 l0_1.length c0_1)) (ds := []) #[false, false, false, false, false, false, false] (by kernel_rfl) rfl rfl ⟨(blk_cell BK270.out 0).trans rfl, (blk_cell BK270.out 1).trans rfl, (blk_cell BK270.out 2).trans rfl, (blk_cell BK265.out 0).trans rfl, (blk_cell BK265.out 1).trans rfl⟩ (fun hHeld => ?_)
     generalize w26.drew = w27 at HO0_0 HO0_1 HL269_2 BK265 BK266 BK267 BK270 HB hHeld ⊢
     refine pure_ (i := 2) (N := some 31) (v := ?_) (a' := ?_) #[false, false, true, false, false, false, false] rfl rfl (by kernel_rfl) (fun _ _ _ h => h) (Or.inl ⟨by rfl, ?_⟩) ?_ ?_
     rotate_left
     ·intro w'
      go_simp
      with_reducible rfl
     rotate_left
     ·simp only [Act.put, List.setIfInBounds_toArray, List.set_cons_zero, List.set_cons_succ, i64_w, i32_w]
      rfl
     refine take_ (i := 0) (N := some 29) (v := ?_) (a' := ?_) #[true, false, true, false, false, false, false] rfl rfl (by kernel_rfl) (fun _ _ _ h => h) (Or.inl ⟨by rfl, ?_⟩) hHeld ?_ ?_
     rotate_left
     ·rintro w' ⟨s0, s1, s2, s3, s4⟩
      go_simp
      with_reducible rfl
     rotate_left
     ·simp only [Act.put, List.setIfInBounds_toArray, List.set_cons_zero, List.set_cons_succ, i64_w, i32_w]
      rfl
     refine take_ (i := 1) (N := some 30) (v := ?_) (a' := ?_) #[true, true, true, false, false, false, false] rfl rfl (by kernel_rfl) (fun _ _ _ h => h) (Or.inl ⟨by rfl, ?_⟩) hHeld ?_ ?_
     rotate_left
     ·rintro w' ⟨s0, s1, s2, s3, s4⟩
      go_simp
      with_reducible rfl
     rotate_left
     ·simp only [Act.put, List.setIfInBounds_toArray, List.set_cons_zero, List.set_cons_succ, i64_w, i32_w]
      rfl
     refine one_ (i := 3) (N := some 32) #[true, true, true, true, false, false, false] rfl rfl (by kernel_rfl) (by decide) (fun K hK => ?_)
     refine goes_ Try.func42 (by kernel_rfl) rfl #[.agg #[.slice (some ad269) l0_0.length c0_0, .slice A0_1 l0_1.length c0_1], .int .i64 a1] (by rfl) rfl rfl (by (try simp only [List.map_toArray, List.map_cons, List.map_nil]); first | done | rfl | (simp only [List.length_drop, List.length_take]; rfl)) ?_
     with_reducible refine (signatoryref06_without.calls (fun k_ => (((P0_0_ k_ ∨ P0_1_ k_) ∨ w.heap.size ≤ k_) ∧ (k_ ≠ gb265 ∧ (k_ ≠ gb266 ∧ (k_ ≠ gb267 ∧ k_ ≠ gb270))))) _ _ l0_0 (fun k_ => (((P0_0_ k_ ∨ P0_1_ k_) ∨ w.heap.size ≤ k_) ∧ (k_ ≠ gb265 ∧ (k_ ≠ gb266 ∧ (k_ ≠ gb267 ∧ k_ ≠ gb270))))) _ _ l0_1 a1 t272 t275 _ ?side1 ?side2 A9.out).mono ?_
     (case side1 => exact HO0_0.out)
     (case side2 => exact HO0_1.out)
     rintro e w28 ⟨v273, v276, rfl, ho0, ho1, hb⟩
     refine ⟨_, rfl, ?_⟩
     have n0_ := Aside0.mk (Kd.V_elder' (Zv HO0_0.out) (Kd.N_base ho0) hb)
     have n1_ := Aside0.mk (Kd.V_elder' (Zv HO0_1.out) (Kd.N_base ho0) hb)
     have n2_ := Aside0.mk (Kd.V_elder' (Zv HL269_2.out) (Kd.N_base ho0) hb)
     have n3_ := Aside0.mk (Kd.N_lower (Kd.N_mono (ok' := fun k_ => ((P0_0_ k_ ∨ P0_1_ k_) ∨ w.heap.size ≤ k_) ∧ k_ ≠ gb265 ∧ k_ ≠ gb266 ∧ k_ ≠ gb267 ∧ k_ ≠ gb270) ho0 (fun k_ hk_ => ⟨Or.elim hk_ (fun hs_ => Or.elim hs_ (fun hs_ => hs_.1) (fun hs_ => hs_.1)) (fun hn_ => (.inr (Nat.le_trans (below_size (by repeat (first | (with_reducible first | exact HB.out | apply below_alloc | apply pw_below_drewN | apply below_drew1 | refine below_set ?_ GE265.out | refine below_set ?_ GE266.out | refine below_set ?_ GE267.out | refine below_set ?_ GE270.out) | exact HB.out))) hn_))), Or.elim hk_ (fun hs_ => Or.elim hs_ (fun hs_ => hs_.2.1) (fun hs_ => hs_.2.1)) (fun hn_ => (Kd.freshB (g := gb265) (o := .cells #[.slice (some ad269) l0_0.length c0_0, .slice A0_1 l0_1.length c0_1] 25 (0, 0)) (Zb BK265.out) k_ hn_)), Or.elim hk_ (fun hs_ => Or.elim hs_ (fun hs_ => hs_.2.2.1) (fun hs_ => hs_.2.2.1)) (fun hn_ => (Kd.freshB (g := gb266) (o := .cells #[.int .i64 0, .int .i64 0, .slice none 0 0] 28 (0, 0)) (Zb BK266.out) k_ hn_)), Or.elim hk_ (fun hs_ => Or.elim hs_ (fun hs_ => hs_.2.2.2.1) (fun hs_ => hs_.2.2.2.1)) (fun hn_ => (Kd.freshB (g := gb267) (o := .cells #[.slice none 0 0, .slice none 0 0] 25 (0, 0)) (Zb BK267.out) k_ hn_)), Or.elim hk_ (fun hs_ => Or.elim hs_ (fun hs_ => hs_.2.2.2.2) (fun hs_ => hs_.2.2.2.2)) (fun hn_ => (Kd.freshB (g := gb270) (o := .cells #[.int .i64 0, .int .i64 0, .slice none 0 0] 28 (0, 0)) (Zb BK270.out) k_ hn_))⟩)) (below_size (by repeat (first | (with_reducible first | exact HB.out | apply below_alloc | apply pw_below_drewN | apply below_drew1 | refine below_set ?_ GE265.out | refine below_set ?_ GE266.out | refine below_set ?_ GE267.out | refine below_set ?_ GE270.out) | exact HB.out))))
     have n4_ := Aside0.mk (Kd.V_lower (Kd.V_mono (ok' := fun k_ => ((P0_0_ k_ ∨ P0_1_ k_) ∨ w.heap.size ≤ k_) ∧ some k_ ≠ (v273 : Value).ownBlock ∧ k_ ≠ gb265 ∧ k_ ≠ gb266 ∧ k_ ≠ gb267 ∧ k_ ≠ gb270) ho1 (fun k_ hk_ => ⟨Or.elim hk_.1 (fun hs_ => Or.elim hs_ (fun hs_ => hs_.1) (fun hs_ => hs_.1)) (fun hn_ => (.inr (Nat.le_trans (below_size (by repeat (first | (with_reducible first | exact HB.out | apply below_alloc | apply pw_below_drewN | apply below_drew1 | refine below_set ?_ GE265.out | refine below_set ?_ GE266.out | refine below_set ?_ GE267.out | refine below_set ?_ GE270.out) | exact HB.out))) hn_))), hk_.2, Or.elim hk_.1 (fun hs_ => Or.elim hs_ (fun hs_ => hs_.2.1) (fun hs_ => hs_.2.1)) (fun hn_ => (Kd.freshB (g := gb265) (o := .cells #[.slice (some ad269) l0_0.length c0_0, .slice A0_1 l0_1.length c0_1] 25 (0, 0)) (Zb BK265.out) k_ hn_)), Or.elim hk_.1 (fun hs_ => Or.elim hs_ (fun hs_ => hs_.2.2.1) (fun hs_ => hs_.2.2.1)) (fun hn_ => (Kd.freshB (g := gb266) (o := .cells #[.int .i64 0, .int .i64 0, .slice none 0 0] 28 (0, 0)) (Zb BK266.out) k_ hn_)), Or.elim hk_.1 (fun hs_ => Or.elim hs_ (fun hs_ => hs_.2.2.2.1) (fun hs_ => hs_.2.2.2.1)) (fun hn_ => (Kd.freshB (g := gb267) (o := .cells #[.slice none 0 0, .slice none 0 0] 25 (0, 0)) (Zb BK267.out) k_ hn_)), Or.elim hk_.1 (fun hs_ => Or.elim hs_ (fun hs_ => hs_.2.2.2.2) (fun hs_ => hs_.2.2.2.2)) (fun hn_ => (Kd.freshB (g := gb270) (o := .cells #[.int .i64 0, .int .i64 0, .slice none 0 0] 28 (0, 0)) (Zb BK270.out) k_ hn_))⟩)) (below_size (by repeat (first | (with_reducible first | exact HB.out | apply below_alloc | apply pw_below_drewN | apply below_drew1 | refine below_set ?_ GE265.out | refine below_set ?_ GE266.out | refine below_set ?_ GE267.out | refine below_set ?_ GE270.out) | exact HB.out))))
     have n5_ := Aside0.mk (blk_below (g := gb265) (o := .cells #[.slice (some ad269) l0_0.length c0_0, .slice A0_1 l0_1.length c0_1] 25 (0, 0)) (Zb BK265.out) hb)
     have n6_ := Aside0.mk (blk_below (g := gb266) (o := .cells #[.int .i64 0, .int .i64 0, .slice none 0 0] 28 (0, 0)) (Zb BK266.out) hb)
     have n7_ := Aside0.mk (blk_below (g := gb267) (o := .cells #[.slice none 0 0, .slice none 0 0] 25 (0, 0)) (Zb BK267.out) hb)
     have n8_ := Aside0.mk (blk_below (g := gb270) (o := .cells #[.int .i64 0, .int .i64 0, .slice none 0 0] 28 (0, 0)) (Zb BK270.out) hb)
     have n9_ := Aside0.mk (below_step (by repeat (first | (with_reducible first | exact HB.out | apply below_alloc | apply pw_below_drewN | apply below_drew1 | refine below_set ?_ GE265.out | refine below_set ?_ GE266.out | refine below_set ?_ GE267.out | refine below_set ?_ GE270.out) | exact HB.out)) hb)
     clear HO0_0
     clear HO0_1
     clear HL269_2
     clear BK265
     clear BK266
     clear BK267
     clear BK270
     clear HB
     have HO0_0 := n0_
     have HO0_1 := n1_
     have HL269_2 := n2_
     have HO274 := n3_
     have HO277 := n4_
     have BK265 := n5_
     have BK266 := n6_
     have BK267 := n7_
     have BK270 := n8_
     have HB := n9_
     clear n0_ n1_ n2_ n3_ n4_ n5_ n6_ n7_ n8_ n9_
     (try clear hb)
     (try clear hb2)
     (try clear hk)
     (try clear hi)
     (try clear ho0)
     (try clear ho1)
     obtain ⟨Ao32, co32, eo32⟩ := Kd.N_slice HO274.out
     (first | subst eo32 | (injection eo32 with f1_ f2_ f3_; have f4_ := f1_.symm; have f5_ := f3_.symm; clear f1_ f2_ f3_; subst f4_; subst f5_))
     obtain ⟨Ao34, co34, eo34⟩ := Kd.V_slice HO277.out
     (first | subst eo34 | (injection eo34 with f1_ f2_ f3_; have f4_ := f1_.symm; have f5_ := f3_.symm; clear f1_ f2_ f3_; subst f4_; subst f5_))
     refine hK.out _ _ ⟨(blk_cell BK270.out 0).trans rfl, (blk_cell BK270.out 1).trans rfl, (blk_cell BK270.out 2).trans rfl, (blk_cell BK265.out 0).trans rfl, (blk_cell BK265.out 1).trans rfl⟩ (fun hHeld => ?_)
     clear hK K
     refine norm_ (a' := ?_) ?_ ?_
     rotate_left
     ·show Act.put _ (some 32) _ = _
      simp only [Act.put, List.setIfInBounds_toArray, List.set_cons_zero, List.set_cons_succ, i64_w, i32_w]
      rfl
     refine one_ (i := 4) (N := none) #[true, true, true, true, true, false, false] rfl rfl (by kernel_rfl) (by decide) (fun K hK => ?_)
     have hs29 : w28.cell? ⟨gb266, 0, none⟩ = some (.int .i64 0) := (blk_cell BK266.out 0).trans rfl
     have hfs29 := blk_frozen BK266.out 0
     have hns29_0 := NB265_266.out
     have hns29_2 := NB267_266.out
     have hns29_3 := NB270_266.out
     have hms29_0 := NB266_265.out
     have hms29_2 := NB266_267.out
     have hms29_3 := NB266_270.out
     have hs30 : w28.cell? ⟨gb266, 1, none⟩ = some (.int .i64 0) := (blk_cell BK266.out 1).trans rfl
     have hfs30 := blk_frozen BK266.out 1
     have hns30_0 := NB265_266.out
     have hns30_2 := NB267_266.out
     have hns30_3 := NB270_266.out
     have hms30_0 := NB266_265.out
     have hms30_2 := NB266_267.out
     have hms30_3 := NB266_270.out
     have hs31 : w28.cell? ⟨gb266, 2, none⟩ = some (.slice none 0 0) := (blk_cell BK266.out 2).trans rfl
     have hfs31 := blk_frozen BK266.out 2
     have hns31_0 := NB265_266.out
     have hns31_2 := NB267_266.out
     have hns31_3 := NB270_266.out
     have hms31_0 := NB266_265.out
     have hms31_2 := NB266_267.out
     have hms31_3 := NB266_270.out
     refine skip_ (w1 := ?_) (by rfl) rfl ?_ ?_
     rotate_left
     ·go_simp
      rfl
     refine hK.out _ _ ⟨((cell_far (p := ⟨gb266, _, none⟩) NB270_266.out _).trans (((cell_far (p := ⟨gb266, _, none⟩) NB270_266.out _).trans (((cell_far (p := ⟨gb266, _, none⟩) NB270_266.out _).trans (hHeld.1)))))), ((cell_far (p := ⟨gb266, _, none⟩) NB270_266.out _).trans (((cell_far (p := ⟨gb266, _, none⟩) NB270_266.out _).trans (((cell_far (p := ⟨gb266, _, none⟩) NB270_266.out _).trans (hHeld.2.1)))))), ((cell_far (p := ⟨gb266, _, none⟩) NB270_266.out _).trans (((cell_far (p := ⟨gb266, _, none⟩) NB270_266.out _).trans (((cell_far (p := ⟨gb266, _, none⟩) NB270_266.out _).trans (hHeld.2.2.1)))))), ((cell_far (p := ⟨gb266, _, none⟩) NB265_266.out _).trans (((cell_far (p := ⟨gb266, _, none⟩) NB265_266.out _).trans (((cell_far (p := ⟨gb266, _, none⟩) NB265_266.out _).trans (hHeld.2.2.2.1)))))), ((cell_far (p := ⟨gb266, _, none⟩) NB265_266.out _).trans (((cell_far (p := ⟨gb266, _, none⟩) NB265_266.out _).trans (((cell_far (p := ⟨gb266, _, none⟩) NB265_266.out _).trans (hHeld.2.2.2.2))))))⟩ (fun hHeld => ?_)
     clear hK K
     refine one_ (i := 5) (N := none) #[true, true, true, true, true, true, false] rfl rfl (by kernel_rfl) (by decide) (fun K hK => ?_)
     have hs33 : w28.cell? ⟨gb267, 0, none⟩ = some (.slice none 0 0) := (blk_cell BK267.out 0).trans rfl
     have hfs33 := blk_frozen BK267.out 0
     have hns33_0 := NB265_267.out
     have hns33_1 := NB266_267.out
     have hns33_3 := NB270_267.out
     have hms33_0 := NB267_265.out
     have hms33_1 := NB267_266.out
     have hms33_3 := NB267_270.out
     have hs35 : w28.cell? ⟨gb267, 1, none⟩ = some (.slice none 0 0) := (blk_cell BK267.out 1).trans rfl
     have hfs35 := blk_frozen BK267.out 1
     have hns35_0 := NB265_267.out
     have hns35_1 := NB266_267.out
     have hns35_3 := NB270_267.out
     have hms35_0 := NB267_265.out
     have hms35_1 := NB267_266.out
     have hms35_3 := NB267_270.out
     refine skip_ (w1 := ?_) (by rfl) rfl ?_ ?_
     rotate_left
     ·go_simp
      rfl
     refine hK.out _ _ ⟨((cell_far (p := ⟨gb267, _, none⟩) NB270_267.out _).trans (((cell_far (p := ⟨gb267, _, none⟩) NB270_267.out _).trans (hHeld.1)))), ((cell_far (p := ⟨gb267, _, none⟩) NB270_267.out _).trans (((cell_far (p := ⟨gb267, _, none⟩) NB270_267.out _).trans (hHeld.2.1)))), ((cell_far (p := ⟨gb267, _, none⟩) NB270_267.out _).trans (((cell_far (p := ⟨gb267, _, none⟩) NB270_267.out _).trans (hHeld.2.2.1)))), ((cell_far (p := ⟨gb267, _, none⟩) NB265_267.out _).trans (((cell_far (p := ⟨gb267, _, none⟩) NB265_267.out _).trans (hHeld.2.2.2.1)))), ((cell_far (p := ⟨gb267, _, none⟩) NB265_267.out _).trans (((cell_far (p := ⟨gb267, _, none⟩) NB265_267.out _).trans (hHeld.2.2.2.2))))⟩ (fun hHeld => ?_)
     clear hK K
     refine pure_ (i := 6) (N := some 6) (v := ?_) (a' := ?_) #[true, true, true, true, true, true, true] rfl rfl (by kernel_rfl) (fun _ _ _ h => h) (Or.inl ⟨by rfl, ?_⟩) ?_ ?_
     rotate_left
     ·intro w'
      go_simp
      with_reducible rfl
     rotate_left
     ·simp only [Act.put, List.setIfInBounds_toArray, List.set_cons_zero, List.set_cons_succ, i64_w, i32_w]
      rfl
     refine done_ (by kernel_rfl) ?_
     try go_wp2
     refine bodyPost_ret (results_list (rs := [.cell 4 28, .cell 5 25, .tmp 6]) rfl (by simp) (.cell gb266 28 #[.int .i64 0, .int .i64 0, .slice none 0 0] (0, 0) _ rfl (by refine Zb ?_; refine blk_far ?_ NB266_267.out _; refine Zb ?_; refine blk_far ?_ NB266_267.out _; refine Zb ?_; refine blk_put (cs := #[.int .i64 0, .int .i64 0, .slice none 0 0]) ?_ 2 _ rfl; refine Zb ?_; refine blk_put (cs := #[.int .i64 0, .int .i64 0, .slice none 0 0]) ?_ 1 _ rfl; refine Zb ?_; refine blk_put (cs := #[.int .i64 0, .int .i64 0, .slice none 0 0]) ?_ 0 _ rfl; refine Zb ?_; exact BK266.out) Try.underlying28 rfl (by kernel_rfl) (.cell gb267 25 #[.slice Ao32 t272.length co32, .slice Ao34 t275.length co34] (0, 0) _ rfl (by refine Zb ?_; refine blk_put (cs := #[.slice Ao32 t272.length co32, .slice none 0 0]) ?_ 1 _ rfl; refine Zb ?_; refine blk_put (cs := #[.slice none 0 0, .slice none 0 0]) ?_ 0 _ rfl; refine Zb ?_; refine blk_far ?_ NB267_266.out _; refine Zb ?_; refine blk_far ?_ NB267_266.out _; refine Zb ?_; refine blk_far ?_ NB267_266.out _; refine Zb ?_; exact BK267.out) Try.underlying25 rfl (by kernel_rfl) (.tmp .nil)))) rfl ?_
     exact ⟨_, _, _, by first | rfl | (simp [errW_none, errW_some] <;> rfl) | (simp [*, errW_none, errW_some] <;> rfl), (Kd.V_nil _ _ _ _ _), by refine Zn ?_; exact Kd.N_mono (Kd.N_far (p := ⟨gb267, 1, none⟩) (Kd.N_far (p := ⟨gb267, 0, none⟩) (Kd.N_far (p := ⟨gb266, 2, none⟩) (Kd.N_far (p := ⟨gb266, 1, none⟩) (Kd.N_far (p := ⟨gb266, 0, none⟩) (Kd.N_mono (Kd.N_mono HO274.out (fun k_ hk => (⟨hk, hk.2.2.1⟩ : _ ∧ k_ ≠ gb266))) (fun k_ hk => (⟨hk, hk.1.2.2.2.1⟩ : _ ∧ k_ ≠ gb267))) (fun _ hk => hk.1.2) (.int .i64 0)) (fun _ hk => hk.1.2) (.int .i64 0)) (fun _ hk => hk.1.2) (.slice none 0 0)) (fun _ hk => hk.2) (.slice Ao32 t272.length co32)) (fun _ hk => hk.2) (.slice Ao34 t275.length co34)) (fun _ hk => hk.1.1.1), by refine Zv ?_; exact Kd.V_mono (Kd.V_far (p := ⟨gb267, 1, none⟩) (Kd.V_far (p := ⟨gb267, 0, none⟩) (Kd.V_far (p := ⟨gb266, 2, none⟩) (Kd.V_far (p := ⟨gb266, 1, none⟩) (Kd.V_far (p := ⟨gb266, 0, none⟩) (Kd.V_mono (Kd.V_mono HO277.out (fun k_ hk => (⟨hk, hk.2.2.2.1⟩ : _ ∧ k_ ≠ gb266))) (fun k_ hk => (⟨hk, hk.1.2.2.2.2.1⟩ : _ ∧ k_ ≠ gb267))) (fun _ hk => hk.1.2) (.int .i64 0)) (fun _ hk => hk.1.2) (.int .i64 0)) (fun _ hk => hk.1.2) (.slice none 0 0)) (fun _ hk => hk.2) (.slice Ao32 t272.length co32)) (fun _ hk => hk.2) (.slice Ao34 t275.length co34)) (fun _ hk => ⟨hk.1.1.1, hk.1.1.2.1⟩), by repeat (first | (with_reducible first | exact HB.out | apply below_alloc | apply pw_below_drewN | apply below_drew1 | refine below_set ?_ GE265.out | refine below_set ?_ GE266.out | refine below_set ?_ GE267.out | refine below_set ?_ GE270.out) | exact HB.out)⟩
    ·replace c8 := Bool.eq_false_iff.mpr c8
     subst c8
     have H1 : ((signatoryref06_without.f l0_0 l0_1 a1).bind fun bt278 => (some ((rd_T28 l0_0 a1).f0, (rd_T28 l0_0 a1).f1, (rd_T28 l0_0 a1).f2, bt278.1, bt278.2, 0))) = some (r1, r2, r3, r4, r5, r6) := by rw [if_neg (show ¬ (false = true) by decide)] at H; exact H
     clear H
     have H := H1
     clear H1
     replace H := Option.bind_eq_some_iff.mp H
     obtain ⟨⟨t278, t281⟩, A360, H⟩ := H
     replace H : (some ((rd_T28 l0_0 a1).f0, (rd_T28 l0_0 a1).f1, (rd_T28 l0_0 a1).f2, t278, t281, 0)) = some (r1, r2, r3, r4, r5, r6) := H
     have A36 := Aside0.mk A360
     clear A360
     simp only [Option.some.injEq, Prod.mk.injEq] at H
     obtain ⟨rfl, rfl, rfl, rfl, rfl, rfl⟩ := H
     go_enter Try.func22, Try.ntmps22
     try go_wp2_with (first | ((with_reducible refine gate_dst (N := 2) rfl ?_); refine box_event ?hg (N := 2) ?hd (cs := #[.slice A0_0 l0_0.length c0_0, .slice A0_1 l0_1.length c0_1]) (t := 25) ?hr ?_; (case hd => rfl); (case hg => rfl); (case hr => first | (go_simp; done) | (go_simp; rfl)); intro gb265 hg w37 hbox hb; have n0_ := Aside0.mk (Kd.V_below (Kd.V_elderB (Zv HO0_0.out) gb265 (Nat.le_of_eq hg.symm)) hb); have n1_ := Aside0.mk (Kd.V_below (Kd.V_elderB (Zv HO0_1.out) gb265 (Nat.le_of_eq hg.symm)) hb); have n2_ := Aside0.mk (below_step (Z0 HB) hb); have n3_ := Aside0.mk (hbox); have n4_ := Aside0.mk ((by rw [hg]; exact (below_size (Z0 HB)) : w.heap.size ≤ gb265)); have n5_ := Aside0.mk ((by rw [hg]; exact (below_size (Z0 HB)) : w.heap.size ≤ gb265)); clear HO0_0; clear HO0_1; clear HB; have HO0_0 := n0_; have HO0_1 := n1_; have HB := n2_; have BK265 := n3_; have GW265 := n4_; have GE265 := n5_; clear n0_ n1_ n2_ n3_ n4_ n5_; clear hb hbox hg) | ((with_reducible refine gate_dst (N := 4) rfl ?_); refine box_event ?hg (N := 4) ?hd (cs := #[.int .i64 0, .int .i64 0, .slice none 0 0]) (t := 28) ?hr ?_; (case hd => rfl); (case hg => rfl); (case hr => first | (go_simp; done) | (go_simp; rfl)); intro gb266 hg w38 hbox hb; have n0_ := Aside0.mk (Kd.V_below (Kd.V_elderB (Zv HO0_0.out) gb266 (Nat.le_of_eq hg.symm)) hb); have n1_ := Aside0.mk (Kd.V_below (Kd.V_elderB (Zv HO0_1.out) gb266 (Nat.le_of_eq hg.symm)) hb); have n2_ := Aside0.mk (blk_below (g := gb265) (o := .cells #[.slice A0_0 l0_0.length c0_0, .slice A0_1 l0_1.length c0_1] 25 (0, 0)) (Zb BK265.out) hb); have n3_ := Aside0.mk (below_step (Z1 HB GE265) hb); have n4_ := Aside0.mk (hbox); have n5_ := Aside0.mk ((by rw [hg]; exact (below_size (Z1 HB GE265)) : w.heap.size ≤ gb266)); have n6_ := Aside0.mk ((by rw [hg]; exact (below_size (Z1 HB GE265)) : w.heap.size ≤ gb266)); have n7_ := Aside0.mk ((by rw [hg]; exact Nat.ne_of_lt (blk_lt (g := gb265) (o := .cells #[.slice A0_0 l0_0.length c0_0, .slice A0_1 l0_1.length c0_1] 25 (0, 0)) (Zb BK265.out)) : gb265 ≠ gb266)); have n8_ := Aside0.mk ((by rw [hg]; exact Nat.ne_of_gt (blk_lt (g := gb265) (o := .cells #[.slice A0_0 l0_0.length c0_0, .slice A0_1 l0_1.length c0_1] 25 (0, 0)) (Zb BK265.out)) : gb266 ≠ gb265)); clear HO0_0; clear HO0_1; clear BK265; clear HB; have HO0_0 := n0_; have HO0_1 := n1_; have BK265 := n2_; have HB := n3_; have BK266 := n4_; have GW266 := n5_; have GE266 := n6_; have NB265_266 := n7_; have NB266_265 := n8_; clear n0_ n1_ n2_ n3_ n4_ n5_ n6_ n7_ n8_; clear hb hbox hg) | ((with_reducible refine gate_dst (N := 5) rfl ?_); refine box_event ?hg (N := 5) ?hd (cs := #[.slice none 0 0, .slice none 0 0]) (t := 25) ?hr ?_; (case hd => rfl); (case hg => rfl); (case hr => first | (go_simp; done) | (go_simp; rfl)); intro gb267 hg w39 hbox hb; have n0_ := Aside0.mk (Kd.V_below (Kd.V_elderB (Zv HO0_0.out) gb267 (Nat.le_of_eq hg.symm)) hb); have n1_ := Aside0.mk (Kd.V_below (Kd.V_elderB (Zv HO0_1.out) gb267 (Nat.le_of_eq hg.symm)) hb); have n2_ := Aside0.mk (blk_below (g := gb265) (o := .cells #[.slice A0_0 l0_0.length c0_0, .slice A0_1 l0_1.length c0_1] 25 (0, 0)) (Zb BK265.out) hb); have n3_ := Aside0.mk (blk_below (g := gb266) (o := .cells #[.int .i64 0, .int .i64 0, .slice none 0 0] 28 (0, 0)) (Zb BK266.out) hb); have n4_ := Aside0.mk (below_step (Z2 HB GE265 GE266) hb); have n5_ := Aside0.mk (hbox); have n6_ := Aside0.mk ((by rw [hg]; exact (below_size (Z2 HB GE265 GE266)) : w.heap.size ≤ gb267)); have n7_ := Aside0.mk ((by rw [hg]; exact (below_size (Z2 HB GE265 GE266)) : w.heap.size ≤ gb267)); have n8_ := Aside0.mk ((by rw [hg]; exact Nat.ne_of_lt (blk_lt (g := gb265) (o := .cells #[.slice A0_0 l0_0.length c0_0, .slice A0_1 l0_1.length c0_1] 25 (0, 0)) (Zb BK265.out)) : gb265 ≠ gb267)); have n9_ := Aside0.mk ((by rw [hg]; exact Nat.ne_of_gt (blk_lt (g := gb265) (o := .cells #[.slice A0_0 l0_0.length c0_0, .slice A0_1 l0_1.length c0_1] 25 (0, 0)) (Zb BK265.out)) : gb267 ≠ gb265)); have n10_ := Aside0.mk ((by rw [hg]; exact Nat.ne_of_lt (blk_lt (g := gb266) (o := .cells #[.int .i64 0, .int .i64 0, .slice none 0 0] 28 (0, 0)) (Zb BK266.out)) : gb266 ≠ gb267)); have n11_ := Aside0.mk ((by rw [hg]; exact Nat.ne_of_gt (blk_lt (g := gb266) (o := .cells #[.int .i64 0, .int .i64 0, .slice none 0 0] 28 (0, 0)) (Zb BK266.out)) : gb267 ≠ gb266)); clear HO0_0; clear HO0_1; clear BK265; clear BK266; clear HB; have HO0_0 := n0_; have HO0_1 := n1_; have BK265 := n2_; have BK266 := n3_; have HB := n4_; have BK267 := n5_; have GW267 := n6_; have GE267 := n7_; have NB265_267 := n8_; have NB267_265 := n9_; have NB266_267 := n10_; have NB267_266 := n11_; clear n0_ n1_ n2_ n3_ n4_ n5_ n6_ n7_ n8_ n9_ n10_ n11_; clear hb hbox hg; have hnb40 := NB265_266.out; have hnc40 := NB266_265.out; have hnb41 := NB265_267.out; have hnc41 := NB267_265.out; have hcz42_0 : w39.cell? ⟨gb265, 0, none⟩ = some (.slice A0_0 l0_0.length c0_0) := (blk_cell BK265.out 0).trans rfl; have hcz42_1 : w39.cell? ⟨gb265, 1, none⟩ = some (.slice A0_1 l0_1.length c0_1) := (blk_cell BK265.out 1).trans rfl; have hfz42_0 := blk_frozen BK265.out 0; have hfz42_1 := blk_frozen BK265.out 1) | ((with_reducible refine gate_callee (f := 41) rfl ?_); refine goesL_ (some 11) rfl rfl Try.func41 (by kernel_rfl) rfl #[.agg #[.slice A0_0 l0_0.length c0_0, .slice A0_1 l0_1.length c0_1], .int .i64 a1] rfl (by (try simp only [List.map_toArray, List.map_cons, List.map_nil]); first | done | rfl | (simp only [List.length_drop, List.length_take]; rfl)) ?_; (with_reducible refine (signatoryref06_asked.calls k _ _ l0_0 _ _ l0_1 a1 t268 _ ?side1 ?side2 ?side3 ?side4 A3.out).mono ?_); (case side1 => repeat (first | exact (Kd.V_reads' HO0_0.out).2.2 | (with_reducible refine Kd.C_alloc ?_ _) | (with_reducible refine Kd.C_drewN ?_ _) | (with_reducible refine Kd.C_drew ?_))); (case side2 => exact (Kd.V_reads' HO0_0.out).2.1); (case side3 => repeat (first | exact (Kd.V_reads' HO0_1.out).2.2 | (with_reducible refine Kd.C_alloc ?_ _) | (with_reducible refine Kd.C_drewN ?_ _) | (with_reducible refine Kd.C_drew ?_))); (case side4 => exact (Kd.V_reads' HO0_1.out).2.1); rintro e w43 ⟨rfl, hb⟩; refine ⟨_, rfl, ?_⟩; have n0_ := Aside0.mk (Kd.V_below (Zv HO0_0.out) hb); have n1_ := Aside0.mk (Kd.V_below (Zv HO0_1.out) hb); have n2_ := Aside0.mk (blk_below (g := gb265) (o := .cells #[.slice A0_0 l0_0.length c0_0, .slice A0_1 l0_1.length c0_1] 25 (0, 0)) (Zb BK265.out) hb); have n3_ := Aside0.mk (blk_below (g := gb266) (o := .cells #[.int .i64 0, .int .i64 0, .slice none 0 0] 28 (0, 0)) (Zb BK266.out) hb); have n4_ := Aside0.mk (blk_below (g := gb267) (o := .cells #[.slice none 0 0, .slice none 0 0] 25 (0, 0)) (Zb BK267.out) hb); have n5_ := Aside0.mk (below_step (Z3 HB GE265 GE266 GE267) hb); clear HO0_0; clear HO0_1; clear BK265; clear BK266; clear BK267; clear HB; have HO0_0 := n0_; have HO0_1 := n1_; have BK265 := n2_; have BK266 := n3_; have BK267 := n4_; have HB := n5_; clear n0_ n1_ n2_ n3_ n4_ n5_; (try clear hb); (try clear hb2); (try clear hk); (try clear hi); have hcz44_0 : w43.cell? ⟨gb265, 0, none⟩ = some (.slice A0_0 l0_0.length c0_0) := (blk_cell BK265.out 0).trans rfl; have hcz44_1 : w43.cell? ⟨gb265, 1, none⟩ = some (.slice A0_1 l0_1.length c0_1) := (blk_cell BK265.out 1).trans rfl; have hfz44_0 := blk_frozen BK265.out 0; have hfz44_1 := blk_frozen BK265.out 1; have p269 : 0 ≤ (a1 : Int) := of_decide_eq_true (by first | (with_reducible assumption) | assumption); have q269 : a1 < (l0_0.length : Int) := of_decide_eq_true (by first | (with_reducible assumption) | assumption); obtain ⟨ad269, A269_2, c269_2, e269, hx269_0, hx269_1, hx269_2, hl269_2, hi269_2⟩ := at_T28 (Kd.V_reads' HO0_0.out).2.2 a1 p269 q269; cases e269; obtain ⟨ce269, hce269, hMe269, hcc269⟩ := Kd.V_get HO0_0.out z28 a1 p269 (by first | exact q269 | exact of_decide_eq_true (by first | (with_reducible assumption) | assumption) | (have e_ := (Kd.V_reads' HO0_0.out).1; omega)); obtain ⟨ua269_2, uc269_2, rfl, ul269_2, ge269_2⟩ := k28_openF hMe269; have hv269_2 := hcc269 2 _ rfl; rw [add_field _ _ 2 (by omega)] at hv269_2; replace hv269_2 := Option.some.inj (hv269_2.symm.trans hx269_2); injection hv269_2 with hva_ hvn_ hvc_; rw [hva_] at ge269_2; rw [hvc_] at ul269_2; have HL269_2 := Aside0.mk (show Kd.V (Kd.int .u8) 5 _ w.heap.size _ _ ((rd_T28 l0_0 a1).f2) from Kd.V_mk ul269_2 ge269_2); clear hva_ hvn_ hvc_ ge269_2 ul269_2; clear hcc269 hce269; have HR269_2 := Aside0.mk hi269_2; have HC269_2 := Aside0.mk hl269_2; clear hi269_2 hl269_2; replace p269 := eq_true p269; replace q269 := eq_true q269) | ((with_reducible refine gate_dst (N := 8) rfl ?_); refine box_event ?hg (N := 8) ?hd (cs := #[.int .i64 0, .int .i64 0, .slice none 0 0]) (t := 28) ?hr ?_; (case hd => rfl); (case hg => rfl); (case hr => first | (go_simp; done) | (go_simp; rfl)); intro gb270 hg w45 hbox hb; have n0_ := Aside0.mk (Kd.V_below (Kd.V_elderB (Zv HO0_0.out) gb270 (Nat.le_of_eq hg.symm)) hb); have n1_ := Aside0.mk (Kd.V_below (Kd.V_elderB (Zv HO0_1.out) gb270 (Nat.le_of_eq hg.symm)) hb); have n2_ := Aside0.mk (Kd.V_below (Kd.V_elderB (Zv HL269_2.out) gb270 (Nat.le_of_eq hg.symm)) hb); have n3_ := Aside0.mk (blk_below (g := gb265) (o := .cells #[.slice (some ad269) l0_0.length c0_0, .slice A0_1 l0_1.length c0_1] 25 (0, 0)) (Zb BK265.out) hb); have n4_ := Aside0.mk (blk_below (g := gb266) (o := .cells #[.int .i64 0, .int .i64 0, .slice none 0 0] 28 (0, 0)) (Zb BK266.out) hb); have n5_ := Aside0.mk (blk_below (g := gb267) (o := .cells #[.slice none 0 0, .slice none 0 0] 25 (0, 0)) (Zb BK267.out) hb); have n6_ := Aside0.mk (Kd.C_below (by repeat (first | (with_reducible exact HR269_2.out) | (with_reducible refine Kd.C_alloc ?_ _) | (with_reducible refine Kd.C_drewN ?_ _) | (with_reducible refine Kd.C_drew ?_) | exact HR269_2.out)) hb); have n7_ := Aside0.mk (below_step (Z3 HB GE265 GE266 GE267) hb); have n8_ := Aside0.mk (hbox); have n9_ := Aside0.mk ((by rw [hg]; exact (below_size (Z3 HB GE265 GE266 GE267)) : w.heap.size ≤ gb270)); have n10_ := Aside0.mk ((by rw [hg]; exact (below_size (Z3 HB GE265 GE266 GE267)) : w.heap.size ≤ gb270)); have n11_ := Aside0.mk ((by rw [hg]; exact Nat.ne_of_lt (blk_lt (g := gb265) (o := .cells #[.slice (some ad269) l0_0.length c0_0, .slice A0_1 l0_1.length c0_1] 25 (0, 0)) (Zb BK265.out)) : gb265 ≠ gb270)); have n12_ := Aside0.mk ((by rw [hg]; exact Nat.ne_of_gt (blk_lt (g := gb265) (o := .cells #[.slice (some ad269) l0_0.length c0_0, .slice A0_1 l0_1.length c0_1] 25 (0, 0)) (Zb BK265.out)) : gb270 ≠ gb265)); have n13_ := Aside0.mk ((by rw [hg]; exact Nat.ne_of_lt (blk_lt (g := gb266) (o := .cells #[.int .i64 0, .int .i64 0, .slice none 0 0] 28 (0, 0)) (Zb BK266.out)) : gb266 ≠ gb270)); have n14_ := Aside0.mk ((by rw [hg]; exact Nat.ne_of_gt (blk_lt (g := gb266) (o := .cells #[.int .i64 0, .int .i64 0, .slice none 0 0] 28 (0, 0)) (Zb BK266.out)) : gb270 ≠ gb266)); have n15_ := Aside0.mk ((by rw [hg]; exact Nat.ne_of_lt (blk_lt (g := gb267) (o := .cells #[.slice none 0 0, .slice none 0 0] 25 (0, 0)) (Zb BK267.out)) : gb267 ≠ gb270)); have n16_ := Aside0.mk ((by rw [hg]; exact Nat.ne_of_gt (blk_lt (g := gb267) (o := .cells #[.slice none 0 0, .slice none 0 0] 25 (0, 0)) (Zb BK267.out)) : gb270 ≠ gb267)); clear HO0_0; clear HO0_1; clear HL269_2; clear BK265; clear BK266; clear BK267; clear HR269_2; clear HB; have HO0_0 := n0_; have HO0_1 := n1_; have HL269_2 := n2_; have BK265 := n3_; have BK266 := n4_; have BK267 := n5_; have HR269_2 := n6_; have HB := n7_; have BK270 := n8_; have GW270 := n9_; have GE270 := n10_; have NB265_270 := n11_; have NB270_265 := n12_; have NB266_270 := n13_; have NB270_266 := n14_; have NB267_270 := n15_; have NB270_267 := n16_; clear n0_ n1_ n2_ n3_ n4_ n5_ n6_ n7_ n8_ n9_ n10_ n11_ n12_ n13_ n14_ n15_ n16_; clear hb hbox hg; have hnb46 := NB270_265.out; have hnc46 := NB265_270.out; have hnb47 := NB270_266.out; have hnc47 := NB266_270.out; have hnb48 := NB270_267.out; have hnc48 := NB267_270.out; have hcz49_0 : w45.cell? ⟨gb270, 0, none⟩ = some (.int .i64 0) := (blk_cell BK270.out 0).trans rfl; have hcz49_1 : w45.cell? ⟨gb270, 1, none⟩ = some (.int .i64 0) := (blk_cell BK270.out 1).trans rfl; have hcz49_2 : w45.cell? ⟨gb270, 2, none⟩ = some (.slice none 0 0) := (blk_cell BK270.out 2).trans rfl; have hfz49_0 := blk_frozen BK270.out 0; have hfz49_1 := blk_frozen BK270.out 1; have hfz49_2 := blk_frozen BK270.out 2; have hcz50_0 : w45.cell? ⟨gb265, 0, none⟩ = some (.slice (some ad269) l0_0.length c0_0) := (blk_cell BK265.out 0).trans rfl; have hcz50_1 : w45.cell? ⟨gb265, 1, none⟩ = some (.slice A0_1 l0_1.length c0_1) := (blk_cell BK265.out 1).trans rfl; have hfz50_0 := blk_frozen BK265.out 0; have hfz50_1 := blk_frozen BK265.out 1) | ((with_reducible refine gate_callee (f := 40) rfl ?_); refine goesL_ (some 27) rfl rfl Try.func40 (by kernel_rfl) rfl #[.agg #[.slice (some ad269) l0_0.length c0_0, .slice A0_1 l0_1.length c0_1], .int .i64 ((rd_T28 l0_0 a1).f0), .int .i64 ((rd_T28 l0_0 a1).f1)] rfl (by (try simp only [List.map_toArray, List.map_cons, List.map_nil]); first | done | rfl | (simp only [List.length_drop, List.length_take]; rfl)) ?_; (with_reducible refine (signatoryref06_IsCut.calls k _ _ l0_0 _ _ l0_1 ((rd_T28 l0_0 a1).f0) ((rd_T28 l0_0 a1).f1) false _ ?side1 ?side2 ?side3 ?side4 A7.out).mono ?_); (case side1 => refine (Kd.V_reads' (e := 28) (base := w.heap.size) (ok := fun k_ => ((((((P0_0_ k_ ∨ P0_1_ k_) ∨ w.heap.size ≤ k_) ∧ k_ ≠ gb265) ∧ k_ ≠ gb266) ∧ k_ ≠ gb267) ∧ k_ ≠ gb270)) (n := l0_0.length) (c := c0_0) ?_).2.2; exact (by refine Zv ?_; exact (Kd.V_mono (Kd.V_far (p := ⟨gb270, 2, none⟩) (Kd.V_far (p := ⟨gb270, 1, none⟩) (Kd.V_far (p := ⟨gb270, 0, none⟩) (Kd.V_mono HO0_0.out (fun k_ hk => (⟨hk, hk.2⟩ : _ ∧ k_ ≠ gb270))) (fun _ hk => hk.2) (.int .i64 ((rd_T28 l0_0 a1).f0))) (fun _ hk => hk.2) (.int .i64 ((rd_T28 l0_0 a1).f1))) (fun _ hk => hk.2) (.slice A269_2 ((rd_T28 l0_0 a1).f2).length c269_2)) (fun _ h_ => h_.1)))); (case side2 => exact (Kd.V_reads' HO0_0.out).2.1); (case side3 => refine (Kd.V_reads' (e := 55) (base := w.heap.size) (ok := fun k_ => ((((((P0_0_ k_ ∨ P0_1_ k_) ∨ w.heap.size ≤ k_) ∧ k_ ≠ gb265) ∧ k_ ≠ gb266) ∧ k_ ≠ gb267) ∧ k_ ≠ gb270)) (n := l0_1.length) (c := c0_1) ?_).2.2; exact (by refine Zv ?_; exact (Kd.V_mono (Kd.V_far (p := ⟨gb270, 2, none⟩) (Kd.V_far (p := ⟨gb270, 1, none⟩) (Kd.V_far (p := ⟨gb270, 0, none⟩) (Kd.V_mono HO0_1.out (fun k_ hk => (⟨hk, hk.2⟩ : _ ∧ k_ ≠ gb270))) (fun _ hk => hk.2) (.int .i64 ((rd_T28 l0_0 a1).f0))) (fun _ hk => hk.2) (.int .i64 ((rd_T28 l0_0 a1).f1))) (fun _ hk => hk.2) (.slice A269_2 ((rd_T28 l0_0 a1).f2).length c269_2)) (fun _ h_ => h_.1)))); (case side4 => exact (Kd.V_reads' HO0_1.out).2.1); rintro e w51 ⟨rfl, hb⟩; refine ⟨_, rfl, ?_⟩; have n0_ := Aside0.mk (Kd.V_below (by refine Zv ?_; exact (Kd.V_mono (Kd.V_far (p := ⟨gb270, 2, none⟩) (Kd.V_far (p := ⟨gb270, 1, none⟩) (Kd.V_far (p := ⟨gb270, 0, none⟩) (Kd.V_mono HO0_0.out (fun k_ hk => (⟨hk, hk.2⟩ : _ ∧ k_ ≠ gb270))) (fun _ hk => hk.2) (.int .i64 ((rd_T28 l0_0 a1).f0))) (fun _ hk => hk.2) (.int .i64 ((rd_T28 l0_0 a1).f1))) (fun _ hk => hk.2) (.slice A269_2 ((rd_T28 l0_0 a1).f2).length c269_2)) (fun _ h_ => h_.1))) hb); have n1_ := Aside0.mk (Kd.V_below (by refine Zv ?_; exact (Kd.V_mono (Kd.V_far (p := ⟨gb270, 2, none⟩) (Kd.V_far (p := ⟨gb270, 1, none⟩) (Kd.V_far (p := ⟨gb270, 0, none⟩) (Kd.V_mono HO0_1.out (fun k_ hk => (⟨hk, hk.2⟩ : _ ∧ k_ ≠ gb270))) (fun _ hk => hk.2) (.int .i64 ((rd_T28 l0_0 a1).f0))) (fun _ hk => hk.2) (.int .i64 ((rd_T28 l0_0 a1).f1))) (fun _ hk => hk.2) (.slice A269_2 ((rd_T28 l0_0 a1).f2).length c269_2)) (fun _ h_ => h_.1))) hb); have n2_ := Aside0.mk (Kd.V_below (by refine Zv ?_; exact (Kd.V_mono (Kd.V_far (p := ⟨gb270, 2, none⟩) (Kd.V_far (p := ⟨gb270, 1, none⟩) (Kd.V_far (p := ⟨gb270, 0, none⟩) (Kd.V_mono HL269_2.out (fun k_ hk => (⟨hk, hk.2⟩ : _ ∧ k_ ≠ gb270))) (fun _ hk => hk.2) (.int .i64 ((rd_T28 l0_0 a1).f0))) (fun _ hk => hk.2) (.int .i64 ((rd_T28 l0_0 a1).f1))) (fun _ hk => hk.2) (.slice A269_2 ((rd_T28 l0_0 a1).f2).length c269_2)) (fun _ h_ => h_.1))) hb); have n3_ := Aside0.mk (blk_below (g := gb265) (o := .cells #[.slice (some ad269) l0_0.length c0_0, .slice A0_1 l0_1.length c0_1] 25 (0, 0)) (by refine Zb ?_; refine blk_far ?_ NB265_270.out _; refine Zb ?_; refine blk_far ?_ NB265_270.out _; refine Zb ?_; refine blk_far ?_ NB265_270.out _; refine Zb ?_; exact BK265.out) hb); have n4_ := Aside0.mk (blk_below (g := gb266) (o := .cells #[.int .i64 0, .int .i64 0, .slice none 0 0] 28 (0, 0)) (by refine Zb ?_; refine blk_far ?_ NB266_270.out _; refine Zb ?_; refine blk_far ?_ NB266_270.out _; refine Zb ?_; refine blk_far ?_ NB266_270.out _; refine Zb ?_; exact BK266.out) hb); have n5_ := Aside0.mk (blk_below (g := gb267) (o := .cells #[.slice none 0 0, .slice none 0 0] 25 (0, 0)) (by refine Zb ?_; refine blk_far ?_ NB267_270.out _; refine Zb ?_; refine blk_far ?_ NB267_270.out _; refine Zb ?_; refine blk_far ?_ NB267_270.out _; refine Zb ?_; exact BK267.out) hb); have n6_ := Aside0.mk (Kd.C_below ((Kd.V_reads' (by refine Zv ?_; exact (Kd.V_mono (Kd.V_far (p := ⟨gb270, 2, none⟩) (Kd.V_far (p := ⟨gb270, 1, none⟩) (Kd.V_far (p := ⟨gb270, 0, none⟩) (Kd.V_mono HL269_2.out (fun k_ hk => (⟨hk, hk.2⟩ : _ ∧ k_ ≠ gb270))) (fun _ hk => hk.2) (.int .i64 ((rd_T28 l0_0 a1).f0))) (fun _ hk => hk.2) (.int .i64 ((rd_T28 l0_0 a1).f1))) (fun _ hk => hk.2) (.slice A269_2 ((rd_T28 l0_0 a1).f2).length c269_2)) (fun _ h_ => h_.1)))).2.2) hb); have n7_ := Aside0.mk (blk_below (g := gb270) (o := .cells #[.int .i64 ((rd_T28 l0_0 a1).f0), .int .i64 ((rd_T28 l0_0 a1).f1), .slice A269_2 ((rd_T28 l0_0 a1).f2).length c269_2] 28 (0, 0)) (by refine Zb ?_; refine blk_put (cs := #[.int .i64 ((rd_T28 l0_0 a1).f0), .int .i64 ((rd_T28 l0_0 a1).f1), .slice none 0 0]) ?_ 2 _ rfl; refine Zb ?_; refine blk_put (cs := #[.int .i64 ((rd_T28 l0_0 a1).f0), .int .i64 0, .slice none 0 0]) ?_ 1 _ rfl; refine Zb ?_; refine blk_put (cs := #[.int .i64 0, .int .i64 0, .slice none 0 0]) ?_ 0 _ rfl; refine Zb ?_; exact BK270.out) hb); have n8_ := Aside0.mk (below_step (by repeat (first | (with_reducible first | exact HB.out | apply below_alloc | apply pw_below_drewN | apply below_drew1 | refine below_set ?_ GE265.out | refine below_set ?_ GE266.out | refine below_set ?_ GE267.out | refine below_set ?_ GE270.out) | exact HB.out)) hb); clear HO0_0; clear HO0_1; clear HL269_2; clear BK265; clear BK266; clear BK267; clear HR269_2; clear BK270; clear HB; have HO0_0 := n0_; have HO0_1 := n1_; have HL269_2 := n2_; have BK265 := n3_; have BK266 := n4_; have BK267 := n5_; have HR269_2 := n6_; have BK270 := n7_; have HB := n8_; clear n0_ n1_ n2_ n3_ n4_ n5_ n6_ n7_ n8_; (try clear hb); (try clear hb2); (try clear hk); (try clear hi)))
     have n0_ := Aside0.mk (Kd.V_drew HO0_0.out)
     have n1_ := Aside0.mk (Kd.V_drew HO0_1.out)
     have n2_ := Aside0.mk (Kd.V_drew HL269_2.out)
     have n3_ := Aside0.mk (blk_drew BK265.out)
     have n4_ := Aside0.mk (blk_drew BK266.out)
     have n5_ := Aside0.mk (blk_drew BK267.out)
     have n6_ := Aside0.mk (blk_drew BK270.out)
     have n7_ := Aside0.mk (Kd.C_drew HR269_2.out)
     have n8_ := Aside0.mk (below_drew1 HB.out)
     clear HO0_0
     clear HO0_1
     clear HL269_2
     clear BK265
     clear BK266
     clear BK267
     clear BK270
     clear HR269_2
     clear HB
     have HO0_0 := n0_
     have HO0_1 := n1_
     have HL269_2 := n2_
     have BK265 := n3_
     have BK266 := n4_
     have BK267 := n5_
     have BK270 := n6_
     have HR269_2 := n7_
     have HB := n8_
     clear n0_ n1_ n2_ n3_ n4_ n5_ n6_ n7_ n8_
     refine start_ (n := 7) (S := fun w' => w'.cell? ⟨gb270, 0, none⟩ = some (.int .i64 ((rd_T28 l0_0 a1).f0)) ∧ w'.cell? ⟨gb270, 1, none⟩ = some (.int .i64 ((rd_T28 l0_0 a1).f1)) ∧ w'.cell? ⟨gb270, 2, none⟩ = some (.slice A269_2 ((rd_T28 l0_0 a1).f2).length c269_2) ∧ w'.cell? ⟨gb265, 0, none⟩ = some (.slice (some ad269) l0_0.length c0_0) ∧ w'.cell? ⟨gb265, 1, none⟩ = some (.slice A0_1 l0_1.length c0_1)) (ds := []) #[false, false, false, false, false, false, false] (by kernel_rfl) rfl rfl ⟨(blk_cell BK270.out 0).trans rfl, (blk_cell BK270.out 1).trans rfl, (blk_cell BK270.out 2).trans rfl, (blk_cell BK265.out 0).trans rfl, (blk_cell BK265.out 1).trans rfl⟩ (fun hHeld => ?_)
     generalize w51.drew = w52 at HO0_0 HO0_1 HL269_2 BK265 BK266 BK267 BK270 HR269_2 HB hHeld ⊢
     refine pure_ (i := 2) (N := some 31) (v := ?_) (a' := ?_) #[false, false, true, false, false, false, false] rfl rfl (by kernel_rfl) (fun _ _ _ h => h) (Or.inl ⟨by rfl, ?_⟩) ?_ ?_
     rotate_left
     ·intro w'
      go_simp
      with_reducible rfl
     rotate_left
     ·simp only [Act.put, List.setIfInBounds_toArray, List.set_cons_zero, List.set_cons_succ, i64_w, i32_w]
      rfl
     refine take_ (i := 0) (N := some 29) (v := ?_) (a' := ?_) #[true, false, true, false, false, false, false] rfl rfl (by kernel_rfl) (fun _ _ _ h => h) (Or.inl ⟨by rfl, ?_⟩) hHeld ?_ ?_
     rotate_left
     ·rintro w' ⟨s0, s1, s2, s3, s4⟩
      go_simp
      with_reducible rfl
     rotate_left
     ·simp only [Act.put, List.setIfInBounds_toArray, List.set_cons_zero, List.set_cons_succ, i64_w, i32_w]
      rfl
     refine take_ (i := 1) (N := some 30) (v := ?_) (a' := ?_) #[true, true, true, false, false, false, false] rfl rfl (by kernel_rfl) (fun _ _ _ h => h) (Or.inl ⟨by rfl, ?_⟩) hHeld ?_ ?_
     rotate_left
     ·rintro w' ⟨s0, s1, s2, s3, s4⟩
      go_simp
      with_reducible rfl
     rotate_left
     ·simp only [Act.put, List.setIfInBounds_toArray, List.set_cons_zero, List.set_cons_succ, i64_w, i32_w]
      rfl
     refine one_ (i := 3) (N := some 32) #[true, true, true, true, false, false, false] rfl rfl (by kernel_rfl) (by decide) (fun K hK => ?_)
     refine goes_ Try.func42 (by kernel_rfl) rfl #[.agg #[.slice (some ad269) l0_0.length c0_0, .slice A0_1 l0_1.length c0_1], .int .i64 a1] (by rfl) rfl rfl (by (try simp only [List.map_toArray, List.map_cons, List.map_nil]); first | done | rfl | (simp only [List.length_drop, List.length_take]; rfl)) ?_
     with_reducible refine (signatoryref06_without.calls (fun k_ => ((((((P0_0_ k_ ∨ P0_1_ k_) ∨ w.heap.size ≤ k_) ∧ k_ ≠ gb265) ∧ k_ ≠ gb266) ∧ k_ ≠ gb267) ∧ k_ ≠ gb270)) _ _ l0_0 (fun k_ => ((((((P0_0_ k_ ∨ P0_1_ k_) ∨ w.heap.size ≤ k_) ∧ k_ ≠ gb265) ∧ k_ ≠ gb266) ∧ k_ ≠ gb267) ∧ k_ ≠ gb270)) _ _ l0_1 a1 t278 t281 _ ?side1 ?side2 A36.out).mono ?_
     (case side1 => exact HO0_0.out)
     (case side2 => exact HO0_1.out)
     rintro e w53 ⟨v279, v282, rfl, ho0, ho1, hb⟩
     refine ⟨_, rfl, ?_⟩
     have n0_ := Aside0.mk (Kd.V_elder' (Zv HO0_0.out) (Kd.N_base ho0) hb)
     have n1_ := Aside0.mk (Kd.V_elder' (Zv HO0_1.out) (Kd.N_base ho0) hb)
     have n2_ := Aside0.mk (Kd.V_elder' (Zv HL269_2.out) (Kd.N_base ho0) hb)
     have n3_ := Aside0.mk (Kd.N_lower (Kd.N_mono (ok' := fun k_ => ((P0_0_ k_ ∨ P0_1_ k_) ∨ w.heap.size ≤ k_) ∧ k_ ≠ gb265 ∧ k_ ≠ gb266 ∧ k_ ≠ gb267 ∧ k_ ≠ gb270) ho0 (fun k_ hk_ => ⟨Or.elim hk_ (fun hs_ => Or.elim hs_ (fun hs_ => hs_.1.1.1.1) (fun hs_ => hs_.1.1.1.1)) (fun hn_ => (.inr (Nat.le_trans (below_size (by repeat (first | (with_reducible first | exact HB.out | apply below_alloc | apply pw_below_drewN | apply below_drew1 | refine below_set ?_ GE265.out | refine below_set ?_ GE266.out | refine below_set ?_ GE267.out | refine below_set ?_ GE270.out) | exact HB.out))) hn_))), Or.elim hk_ (fun hs_ => Or.elim hs_ (fun hs_ => hs_.1.1.1.2) (fun hs_ => hs_.1.1.1.2)) (fun hn_ => (Kd.freshB (g := gb265) (o := .cells #[.slice (some ad269) l0_0.length c0_0, .slice A0_1 l0_1.length c0_1] 25 (0, 0)) (Zb BK265.out) k_ hn_)), Or.elim hk_ (fun hs_ => Or.elim hs_ (fun hs_ => hs_.1.1.2) (fun hs_ => hs_.1.1.2)) (fun hn_ => (Kd.freshB (g := gb266) (o := .cells #[.int .i64 0, .int .i64 0, .slice none 0 0] 28 (0, 0)) (Zb BK266.out) k_ hn_)), Or.elim hk_ (fun hs_ => Or.elim hs_ (fun hs_ => hs_.1.2) (fun hs_ => hs_.1.2)) (fun hn_ => (Kd.freshB (g := gb267) (o := .cells #[.slice none 0 0, .slice none 0 0] 25 (0, 0)) (Zb BK267.out) k_ hn_)), Or.elim hk_ (fun hs_ => Or.elim hs_ (fun hs_ => hs_.2) (fun hs_ => hs_.2)) (fun hn_ => (Kd.freshB (g := gb270) (o := .cells #[.int .i64 ((rd_T28 l0_0 a1).f0), .int .i64 ((rd_T28 l0_0 a1).f1), .slice A269_2 ((rd_T28 l0_0 a1).f2).length c269_2] 28 (0, 0)) (Zb BK270.out) k_ hn_))⟩)) (below_size (by repeat (first | (with_reducible first | exact HB.out | apply below_alloc | apply pw_below_drewN | apply below_drew1 | refine below_set ?_ GE265.out | refine below_set ?_ GE266.out | refine below_set ?_ GE267.out | refine below_set ?_ GE270.out) | exact HB.out))))
     have n4_ := Aside0.mk (Kd.V_lower (Kd.V_mono (ok' := fun k_ => ((P0_0_ k_ ∨ P0_1_ k_) ∨ w.heap.size ≤ k_) ∧ some k_ ≠ (v279 : Value).ownBlock ∧ k_ ≠ gb265 ∧ k_ ≠ gb266 ∧ k_ ≠ gb267 ∧ k_ ≠ gb270) ho1 (fun k_ hk_ => ⟨Or.elim hk_.1 (fun hs_ => Or.elim hs_ (fun hs_ => hs_.1.1.1.1) (fun hs_ => hs_.1.1.1.1)) (fun hn_ => (.inr (Nat.le_trans (below_size (by repeat (first | (with_reducible first | exact HB.out | apply below_alloc | apply pw_below_drewN | apply below_drew1 | refine below_set ?_ GE265.out | refine below_set ?_ GE266.out | refine below_set ?_ GE267.out | refine below_set ?_ GE270.out) | exact HB.out))) hn_))), hk_.2, Or.elim hk_.1 (fun hs_ => Or.elim hs_ (fun hs_ => hs_.1.1.1.2) (fun hs_ => hs_.1.1.1.2)) (fun hn_ => (Kd.freshB (g := gb265) (o := .cells #[.slice (some ad269) l0_0.length c0_0, .slice A0_1 l0_1.length c0_1] 25 (0, 0)) (Zb BK265.out) k_ hn_)), Or.elim hk_.1 (fun hs_ => Or.elim hs_ (fun hs_ => hs_.1.1.2) (fun hs_ => hs_.1.1.2)) (fun hn_ => (Kd.freshB (g := gb266) (o := .cells #[.int .i64 0, .int .i64 0, .slice none 0 0] 28 (0, 0)) (Zb BK266.out) k_ hn_)), Or.elim hk_.1 (fun hs_ => Or.elim hs_ (fun hs_ => hs_.1.2) (fun hs_ => hs_.1.2)) (fun hn_ => (Kd.freshB (g := gb267) (o := .cells #[.slice none 0 0, .slice none 0 0] 25 (0, 0)) (Zb BK267.out) k_ hn_)), Or.elim hk_.1 (fun hs_ => Or.elim hs_ (fun hs_ => hs_.2) (fun hs_ => hs_.2)) (fun hn_ => (Kd.freshB (g := gb270) (o := .cells #[.int .i64 ((rd_T28 l0_0 a1).f0), .int .i64 ((rd_T28 l0_0 a1).f1), .slice A269_2 ((rd_T28 l0_0 a1).f2).length c269_2] 28 (0, 0)) (Zb BK270.out) k_ hn_))⟩)) (below_size (by repeat (first | (with_reducible first | exact HB.out | apply below_alloc | apply pw_below_drewN | apply below_drew1 | refine below_set ?_ GE265.out | refine below_set ?_ GE266.out | refine below_set ?_ GE267.out | refine below_set ?_ GE270.out) | exact HB.out))))
     have n5_ := Aside0.mk (blk_below (g := gb265) (o := .cells #[.slice (some ad269) l0_0.length c0_0, .slice A0_1 l0_1.length c0_1] 25 (0, 0)) (Zb BK265.out) hb)
     have n6_ := Aside0.mk (blk_below (g := gb266) (o := .cells #[.int .i64 0, .int .i64 0, .slice none 0 0] 28 (0, 0)) (Zb BK266.out) hb)
     have n7_ := Aside0.mk (blk_below (g := gb267) (o := .cells #[.slice none 0 0, .slice none 0 0] 25 (0, 0)) (Zb BK267.out) hb)
     have n8_ := Aside0.mk (Kd.C_below (by repeat (first | (with_reducible exact HR269_2.out) | (with_reducible refine Kd.C_alloc ?_ _) | (with_reducible refine Kd.C_drewN ?_ _) | (with_reducible refine Kd.C_drew ?_) | exact HR269_2.out)) hb)
     have n9_ := Aside0.mk (blk_below (g := gb270) (o := .cells #[.int .i64 ((rd_T28 l0_0 a1).f0), .int .i64 ((rd_T28 l0_0 a1).f1), .slice A269_2 ((rd_T28 l0_0 a1).f2).length c269_2] 28 (0, 0)) (Zb BK270.out) hb)
     have n10_ := Aside0.mk (below_step (by repeat (first | (with_reducible first | exact HB.out | apply below_alloc | apply pw_below_drewN | apply below_drew1 | refine below_set ?_ GE265.out | refine below_set ?_ GE266.out | refine below_set ?_ GE267.out | refine below_set ?_ GE270.out) | exact HB.out)) hb)
     clear HO0_0
     clear HO0_1
     clear HL269_2
     clear BK265
     clear BK266
     clear BK267
     clear HR269_2
     clear BK270
     clear HB
     have HO0_0 := n0_
     have HO0_1 := n1_
     have HL269_2 := n2_
     have HO280 := n3_
     have HO283 := n4_
     have BK265 := n5_
     have BK266 := n6_
     have BK267 := n7_
     have HR269_2 := n8_
     have BK270 := n9_
     have HB := n10_
     clear n0_ n1_ n2_ n3_ n4_ n5_ n6_ n7_ n8_ n9_ n10_
     (try clear hb)
     (try clear hb2)
     (try clear hk)
     (try clear hi)
     (try clear ho0)
     (try clear ho1)
     obtain ⟨Ao57, co57, eo57⟩ := Kd.N_slice HO280.out
     (first | subst eo57 | (injection eo57 with f1_ f2_ f3_; have f4_ := f1_.symm; have f5_ := f3_.symm; clear f1_ f2_ f3_; subst f4_; subst f5_))
     obtain ⟨Ao59, co59, eo59⟩ := Kd.V_slice HO283.out
     (first | subst eo59 | (injection eo59 with f1_ f2_ f3_; have f4_ := f1_.symm; have f5_ := f3_.symm; clear f1_ f2_ f3_; subst f4_; subst f5_))
     refine hK.out _ _ ⟨(blk_cell BK270.out 0).trans rfl, (blk_cell BK270.out 1).trans rfl, (blk_cell BK270.out 2).trans rfl, (blk_cell BK265.out 0).trans rfl, (blk_cell BK265.out 1).trans rfl⟩ (fun hHeld => ?_)
     clear hK K
     refine norm_ (a' := ?_) ?_ ?_
     rotate_left
     ·show Act.put _ (some 32) _ = _
      simp only [Act.put, List.setIfInBounds_toArray, List.set_cons_zero, List.set_cons_succ, i64_w, i32_w]
      rfl
     refine one_ (i := 4) (N := none) #[true, true, true, true, true, false, false] rfl rfl (by kernel_rfl) (by decide) (fun K hK => ?_)
     have hs54 : w53.cell? ⟨gb266, 0, none⟩ = some (.int .i64 0) := (blk_cell BK266.out 0).trans rfl
     have hfs54 := blk_frozen BK266.out 0
     have hns54_0 := NB265_266.out
     have hns54_2 := NB267_266.out
     have hns54_3 := NB270_266.out
     have hms54_0 := NB266_265.out
     have hms54_2 := NB266_267.out
     have hms54_3 := NB266_270.out
     have hs55 : w53.cell? ⟨gb266, 1, none⟩ = some (.int .i64 0) := (blk_cell BK266.out 1).trans rfl
     have hfs55 := blk_frozen BK266.out 1
     have hns55_0 := NB265_266.out
     have hns55_2 := NB267_266.out
     have hns55_3 := NB270_266.out
     have hms55_0 := NB266_265.out
     have hms55_2 := NB266_267.out
     have hms55_3 := NB266_270.out
     have hs56 : w53.cell? ⟨gb266, 2, none⟩ = some (.slice none 0 0) := (blk_cell BK266.out 2).trans rfl
     have hfs56 := blk_frozen BK266.out 2
     have hns56_0 := NB265_266.out
     have hns56_2 := NB267_266.out
     have hns56_3 := NB270_266.out
     have hms56_0 := NB266_265.out
     have hms56_2 := NB266_267.out
     have hms56_3 := NB266_270.out
     refine skip_ (w1 := ?_) (by rfl) rfl ?_ ?_
     rotate_left
     ·go_simp
      rfl
     refine hK.out _ _ ⟨((cell_far (p := ⟨gb266, _, none⟩) NB270_266.out _).trans (((cell_far (p := ⟨gb266, _, none⟩) NB270_266.out _).trans (((cell_far (p := ⟨gb266, _, none⟩) NB270_266.out _).trans (hHeld.1)))))), ((cell_far (p := ⟨gb266, _, none⟩) NB270_266.out _).trans (((cell_far (p := ⟨gb266, _, none⟩) NB270_266.out _).trans (((cell_far (p := ⟨gb266, _, none⟩) NB270_266.out _).trans (hHeld.2.1)))))), ((cell_far (p := ⟨gb266, _, none⟩) NB270_266.out _).trans (((cell_far (p := ⟨gb266, _, none⟩) NB270_266.out _).trans (((cell_far (p := ⟨gb266, _, none⟩) NB270_266.out _).trans (hHeld.2.2.1)))))), ((cell_far (p := ⟨gb266, _, none⟩) NB265_266.out _).trans (((cell_far (p := ⟨gb266, _, none⟩) NB265_266.out _).trans (((cell_far (p := ⟨gb266, _, none⟩) NB265_266.out _).trans (hHeld.2.2.2.1)))))), ((cell_far (p := ⟨gb266, _, none⟩) NB265_266.out _).trans (((cell_far (p := ⟨gb266, _, none⟩) NB265_266.out _).trans (((cell_far (p := ⟨gb266, _, none⟩) NB265_266.out _).trans (hHeld.2.2.2.2))))))⟩ (fun hHeld => ?_)
     clear hK K
     refine one_ (i := 5) (N := none) #[true, true, true, true, true, true, false] rfl rfl (by kernel_rfl) (by decide) (fun K hK => ?_)
     have hs58 : w53.cell? ⟨gb267, 0, none⟩ = some (.slice none 0 0) := (blk_cell BK267.out 0).trans rfl
     have hfs58 := blk_frozen BK267.out 0
     have hns58_0 := NB265_267.out
     have hns58_1 := NB266_267.out
     have hns58_3 := NB270_267.out
     have hms58_0 := NB267_265.out
     have hms58_1 := NB267_266.out
     have hms58_3 := NB267_270.out
     have hs60 : w53.cell? ⟨gb267, 1, none⟩ = some (.slice none 0 0) := (blk_cell BK267.out 1).trans rfl
     have hfs60 := blk_frozen BK267.out 1
     have hns60_0 := NB265_267.out
     have hns60_1 := NB266_267.out
     have hns60_3 := NB270_267.out
     have hms60_0 := NB267_265.out
     have hms60_1 := NB267_266.out
     have hms60_3 := NB267_270.out
     refine skip_ (w1 := ?_) (by rfl) rfl ?_ ?_
     rotate_left
     ·go_simp
      rfl
     refine hK.out _ _ ⟨((cell_far (p := ⟨gb267, _, none⟩) NB270_267.out _).trans (((cell_far (p := ⟨gb267, _, none⟩) NB270_267.out _).trans (hHeld.1)))), ((cell_far (p := ⟨gb267, _, none⟩) NB270_267.out _).trans (((cell_far (p := ⟨gb267, _, none⟩) NB270_267.out _).trans (hHeld.2.1)))), ((cell_far (p := ⟨gb267, _, none⟩) NB270_267.out _).trans (((cell_far (p := ⟨gb267, _, none⟩) NB270_267.out _).trans (hHeld.2.2.1)))), ((cell_far (p := ⟨gb267, _, none⟩) NB265_267.out _).trans (((cell_far (p := ⟨gb267, _, none⟩) NB265_267.out _).trans (hHeld.2.2.2.1)))), ((cell_far (p := ⟨gb267, _, none⟩) NB265_267.out _).trans (((cell_far (p := ⟨gb267, _, none⟩) NB265_267.out _).trans (hHeld.2.2.2.2))))⟩ (fun hHeld => ?_)
     clear hK K
     refine pure_ (i := 6) (N := some 6) (v := ?_) (a' := ?_) #[true, true, true, true, true, true, true] rfl rfl (by kernel_rfl) (fun _ _ _ h => h) (Or.inl ⟨by rfl, ?_⟩) ?_ ?_
     rotate_left
     ·intro w'
      go_simp
      with_reducible rfl
     rotate_left
     ·simp only [Act.put, List.setIfInBounds_toArray, List.set_cons_zero, List.set_cons_succ, i64_w, i32_w]
      rfl
     refine done_ (by kernel_rfl) ?_
     try go_wp2
     refine bodyPost_ret (results_list (rs := [.cell 4 28, .cell 5 25, .tmp 6]) rfl (by simp) (.cell gb266 28 #[.int .i64 ((rd_T28 l0_0 a1).f0), .int .i64 ((rd_T28 l0_0 a1).f1), .slice A269_2 ((rd_T28 l0_0 a1).f2).length c269_2] (0, 0) _ rfl (by refine Zb ?_; refine blk_far ?_ NB266_267.out _; refine Zb ?_; refine blk_far ?_ NB266_267.out _; refine Zb ?_; refine blk_put (cs := #[.int .i64 ((rd_T28 l0_0 a1).f0), .int .i64 ((rd_T28 l0_0 a1).f1), .slice none 0 0]) ?_ 2 _ rfl; refine Zb ?_; refine blk_put (cs := #[.int .i64 ((rd_T28 l0_0 a1).f0), .int .i64 0, .slice none 0 0]) ?_ 1 _ rfl; refine Zb ?_; refine blk_put (cs := #[.int .i64 0, .int .i64 0, .slice none 0 0]) ?_ 0 _ rfl; refine Zb ?_; exact BK266.out) Try.underlying28 rfl (by kernel_rfl) (.cell gb267 25 #[.slice Ao57 t278.length co57, .slice Ao59 t281.length co59] (0, 0) _ rfl (by refine Zb ?_; refine blk_put (cs := #[.slice Ao57 t278.length co57, .slice none 0 0]) ?_ 1 _ rfl; refine Zb ?_; refine blk_put (cs := #[.slice none 0 0, .slice none 0 0]) ?_ 0 _ rfl; refine Zb ?_; refine blk_far ?_ NB267_266.out _; refine Zb ?_; refine blk_far ?_ NB267_266.out _; refine Zb ?_; refine blk_far ?_ NB267_266.out _; refine Zb ?_; exact BK267.out) Try.underlying25 rfl (by kernel_rfl) (.tmp .nil)))) rfl ?_
     exact ⟨_, _, _, by first | rfl | (simp [errW_none, errW_some] <;> rfl) | (simp [*, errW_none, errW_some] <;> rfl), by refine Zv ?_; exact Kd.V_mono (Kd.V_far (p := ⟨gb267, 1, none⟩) (Kd.V_far (p := ⟨gb267, 0, none⟩) (Kd.V_far (p := ⟨gb266, 2, none⟩) (Kd.V_far (p := ⟨gb266, 1, none⟩) (Kd.V_far (p := ⟨gb266, 0, none⟩) (Kd.V_mono (Kd.V_mono HL269_2.out (fun k_ hk => (⟨hk, hk.1.1.1.2⟩ : _ ∧ k_ ≠ gb266))) (fun k_ hk => (⟨hk, hk.1.1.1.2⟩ : _ ∧ k_ ≠ gb267))) (fun _ hk => hk.1.2) (.int .i64 ((rd_T28 l0_0 a1).f0))) (fun _ hk => hk.1.2) (.int .i64 ((rd_T28 l0_0 a1).f1))) (fun _ hk => hk.1.2) (.slice A269_2 ((rd_T28 l0_0 a1).f2).length c269_2)) (fun _ hk => hk.2) (.slice Ao57 t278.length co57)) (fun _ hk => hk.2) (.slice Ao59 t281.length co59)) (fun _ hk => ⟨hk.1.1.1.1.1.1.1, hk.1.1.2⟩), by refine Zn ?_; exact Kd.N_mono (Kd.N_far (p := ⟨gb267, 1, none⟩) (Kd.N_far (p := ⟨gb267, 0, none⟩) (Kd.N_far (p := ⟨gb266, 2, none⟩) (Kd.N_far (p := ⟨gb266, 1, none⟩) (Kd.N_far (p := ⟨gb266, 0, none⟩) (Kd.N_mono (Kd.N_mono HO280.out (fun k_ hk => (⟨hk, hk.2.2.1⟩ : _ ∧ k_ ≠ gb266))) (fun k_ hk => (⟨hk, hk.1.2.2.2.1⟩ : _ ∧ k_ ≠ gb267))) (fun _ hk => hk.1.2) (.int .i64 ((rd_T28 l0_0 a1).f0))) (fun _ hk => hk.1.2) (.int .i64 ((rd_T28 l0_0 a1).f1))) (fun _ hk => hk.1.2) (.slice A269_2 ((rd_T28 l0_0 a1).f2).length c269_2)) (fun _ hk => hk.2) (.slice Ao57 t278.length co57)) (fun _ hk => hk.2) (.slice Ao59 t281.length co59)) (fun _ hk => hk.1.1.1), by refine Zv ?_; exact Kd.V_mono (Kd.V_far (p := ⟨gb267, 1, none⟩) (Kd.V_far (p := ⟨gb267, 0, none⟩) (Kd.V_far (p := ⟨gb266, 2, none⟩) (Kd.V_far (p := ⟨gb266, 1, none⟩) (Kd.V_far (p := ⟨gb266, 0, none⟩) (Kd.V_mono (Kd.V_mono HO283.out (fun k_ hk => (⟨hk, hk.2.2.2.1⟩ : _ ∧ k_ ≠ gb266))) (fun k_ hk => (⟨hk, hk.1.2.2.2.2.1⟩ : _ ∧ k_ ≠ gb267))) (fun _ hk => hk.1.2) (.int .i64 ((rd_T28 l0_0 a1).f0))) (fun _ hk => hk.1.2) (.int .i64 ((rd_T28 l0_0 a1).f1))) (fun _ hk => hk.1.2) (.slice A269_2 ((rd_T28 l0_0 a1).f2).length c269_2)) (fun _ hk => hk.2) (.slice Ao57 t278.length co57)) (fun _ hk => hk.2) (.slice Ao59 t281.length co59)) (fun _ hk => ⟨hk.1.1.1, hk.1.1.2.1⟩), by repeat (first | (with_reducible first | exact HB.out | apply below_alloc | apply pw_below_drewN | apply below_drew1 | refine below_set ?_ GE265.out | refine below_set ?_ GE266.out | refine below_set ?_ GE267.out | refine below_set ?_ GE270.out) | exact HB.out)⟩
   ·rw [if_neg c6] at H
    exact absurd H (by simp)
  ·rw [if_neg c5] at H
   exact absurd H (by simp)
 ·rw [if_neg c4] at H
  have c4b0 : (t268 == 0) = false := beq_eq_false_iff_ne.mpr c4
  have c4b1 : (t268 != 0) = true := bne_iff_ne.mpr c4
  simp only [Option.some.injEq, Prod.mk.injEq] at H
  obtain ⟨rfl, rfl, rfl, rfl, rfl, rfl⟩ := H
  go_enter Try.func22, Try.ntmps22
  go_wp2_with (first | ((with_reducible refine gate_dst (N := 2) rfl ?_); refine box_event ?hg (N := 2) ?hd (cs := #[.slice A0_0 l0_0.length c0_0, .slice A0_1 l0_1.length c0_1]) (t := 25) ?hr ?_; (case hd => rfl); (case hg => rfl); (case hr => first | (go_simp; done) | (go_simp; rfl)); intro gb265 hg w61 hbox hb; have n0_ := Aside0.mk (Kd.V_below (Kd.V_elderB (Zv HO0_0.out) gb265 (Nat.le_of_eq hg.symm)) hb); have n1_ := Aside0.mk (Kd.V_below (Kd.V_elderB (Zv HO0_1.out) gb265 (Nat.le_of_eq hg.symm)) hb); have n2_ := Aside0.mk (below_step (Z0 HB) hb); have n3_ := Aside0.mk (hbox); have n4_ := Aside0.mk ((by rw [hg]; exact (below_size (Z0 HB)) : w.heap.size ≤ gb265)); have n5_ := Aside0.mk ((by rw [hg]; exact (below_size (Z0 HB)) : w.heap.size ≤ gb265)); clear HO0_0; clear HO0_1; clear HB; have HO0_0 := n0_; have HO0_1 := n1_; have HB := n2_; have BK265 := n3_; have GW265 := n4_; have GE265 := n5_; clear n0_ n1_ n2_ n3_ n4_ n5_; clear hb hbox hg) | ((with_reducible refine gate_dst (N := 4) rfl ?_); refine box_event ?hg (N := 4) ?hd (cs := #[.int .i64 0, .int .i64 0, .slice none 0 0]) (t := 28) ?hr ?_; (case hd => rfl); (case hg => rfl); (case hr => first | (go_simp; done) | (go_simp; rfl)); intro gb266 hg w62 hbox hb; have n0_ := Aside0.mk (Kd.V_below (Kd.V_elderB (Zv HO0_0.out) gb266 (Nat.le_of_eq hg.symm)) hb); have n1_ := Aside0.mk (Kd.V_below (Kd.V_elderB (Zv HO0_1.out) gb266 (Nat.le_of_eq hg.symm)) hb); have n2_ := Aside0.mk (blk_below (g := gb265) (o := .cells #[.slice A0_0 l0_0.length c0_0, .slice A0_1 l0_1.length c0_1] 25 (0, 0)) (Zb BK265.out) hb); have n3_ := Aside0.mk (below_step (Z1 HB GE265) hb); have n4_ := Aside0.mk (hbox); have n5_ := Aside0.mk ((by rw [hg]; exact (below_size (Z1 HB GE265)) : w.heap.size ≤ gb266)); have n6_ := Aside0.mk ((by rw [hg]; exact (below_size (Z1 HB GE265)) : w.heap.size ≤ gb266)); have n7_ := Aside0.mk ((by rw [hg]; exact Nat.ne_of_lt (blk_lt (g := gb265) (o := .cells #[.slice A0_0 l0_0.length c0_0, .slice A0_1 l0_1.length c0_1] 25 (0, 0)) (Zb BK265.out)) : gb265 ≠ gb266)); have n8_ := Aside0.mk ((by rw [hg]; exact Nat.ne_of_gt (blk_lt (g := gb265) (o := .cells #[.slice A0_0 l0_0.length c0_0, .slice A0_1 l0_1.length c0_1] 25 (0, 0)) (Zb BK265.out)) : gb266 ≠ gb265)); clear HO0_0; clear HO0_1; clear BK265; clear HB; have HO0_0 := n0_; have HO0_1 := n1_; have BK265 := n2_; have HB := n3_; have BK266 := n4_; have GW266 := n5_; have GE266 := n6_; have NB265_266 := n7_; have NB266_265 := n8_; clear n0_ n1_ n2_ n3_ n4_ n5_ n6_ n7_ n8_; clear hb hbox hg) | ((with_reducible refine gate_dst (N := 5) rfl ?_); refine box_event ?hg (N := 5) ?hd (cs := #[.slice none 0 0, .slice none 0 0]) (t := 25) ?hr ?_; (case hd => rfl); (case hg => rfl); (case hr => first | (go_simp; done) | (go_simp; rfl)); intro gb267 hg w63 hbox hb; have n0_ := Aside0.mk (Kd.V_below (Kd.V_elderB (Zv HO0_0.out) gb267 (Nat.le_of_eq hg.symm)) hb); have n1_ := Aside0.mk (Kd.V_below (Kd.V_elderB (Zv HO0_1.out) gb267 (Nat.le_of_eq hg.symm)) hb); have n2_ := Aside0.mk (blk_below (g := gb265) (o := .cells #[.slice A0_0 l0_0.length c0_0, .slice A0_1 l0_1.length c0_1] 25 (0, 0)) (Zb BK265.out) hb); have n3_ := Aside0.mk (blk_below (g := gb266) (o := .cells #[.int .i64 0, .int .i64 0, .slice none 0 0] 28 (0, 0)) (Zb BK266.out) hb); have n4_ := Aside0.mk (below_step (Z2 HB GE265 GE266) hb); have n5_ := Aside0.mk (hbox); have n6_ := Aside0.mk ((by rw [hg]; exact (below_size (Z2 HB GE265 GE266)) : w.heap.size ≤ gb267)); have n7_ := Aside0.mk ((by rw [hg]; exact (below_size (Z2 HB GE265 GE266)) : w.heap.size ≤ gb267)); have n8_ := Aside0.mk ((by rw [hg]; exact Nat.ne_of_lt (blk_lt (g := gb265) (o := .cells #[.slice A0_0 l0_0.length c0_0, .slice A0_1 l0_1.length c0_1] 25 (0, 0)) (Zb BK265.out)) : gb265 ≠ gb267)); have n9_ := Aside0.mk ((by rw [hg]; exact Nat.ne_of_gt (blk_lt (g := gb265) (o := .cells #[.slice A0_0 l0_0.length c0_0, .slice A0_1 l0_1.length c0_1] 25 (0, 0)) (Zb BK265.out)) : gb267 ≠ gb265)); have n10_ := Aside0.mk ((by rw [hg]; exact Nat.ne_of_lt (blk_lt (g := gb266) (o := .cells #[.int .i64 0, .int .i64 0, .slice none 0 0] 28 (0, 0)) (Zb BK266.out)) : gb266 ≠ gb267)); have n11_ := Aside0.mk ((by rw [hg]; exact Nat.ne_of_gt (blk_lt (g := gb266) (o := .cells #[.int .i64 0, .int .i64 0, .slice none 0 0] 28 (0, 0)) (Zb BK266.out)) : gb267 ≠ gb266)); clear HO0_0; clear HO0_1; clear BK265; clear BK266; clear HB; have HO0_0 := n0_; have HO0_1 := n1_; have BK265 := n2_; have BK266 := n3_; have HB := n4_; have BK267 := n5_; have GW267 := n6_; have GE267 := n7_; have NB265_267 := n8_; have NB267_265 := n9_; have NB266_267 := n10_; have NB267_266 := n11_; clear n0_ n1_ n2_ n3_ n4_ n5_ n6_ n7_ n8_ n9_ n10_ n11_; clear hb hbox hg; have hnb64 := NB265_266.out; have hnc64 := NB266_265.out; have hnb65 := NB265_267.out; have hnc65 := NB267_265.out; have hcz66_0 : w63.cell? ⟨gb265, 0, none⟩ = some (.slice A0_0 l0_0.length c0_0) := (blk_cell BK265.out 0).trans rfl; have hcz66_1 : w63.cell? ⟨gb265, 1, none⟩ = some (.slice A0_1 l0_1.length c0_1) := (blk_cell BK265.out 1).trans rfl; have hfz66_0 := blk_frozen BK265.out 0; have hfz66_1 := blk_frozen BK265.out 1) | ((with_reducible refine gate_callee (f := 41) rfl ?_); refine goesL_ (some 11) rfl rfl Try.func41 (by kernel_rfl) rfl #[.agg #[.slice A0_0 l0_0.length c0_0, .slice A0_1 l0_1.length c0_1], .int .i64 a1] rfl (by (try simp only [List.map_toArray, List.map_cons, List.map_nil]); first | done | rfl | (simp only [List.length_drop, List.length_take]; rfl)) ?_; (with_reducible refine (signatoryref06_asked.calls k _ _ l0_0 _ _ l0_1 a1 t268 _ ?side1 ?side2 ?side3 ?side4 A3.out).mono ?_); (case side1 => repeat (first | exact (Kd.V_reads' HO0_0.out).2.2 | (with_reducible refine Kd.C_alloc ?_ _) | (with_reducible refine Kd.C_drewN ?_ _) | (with_reducible refine Kd.C_drew ?_))); (case side2 => exact (Kd.V_reads' HO0_0.out).2.1); (case side3 => repeat (first | exact (Kd.V_reads' HO0_1.out).2.2 | (with_reducible refine Kd.C_alloc ?_ _) | (with_reducible refine Kd.C_drewN ?_ _) | (with_reducible refine Kd.C_drew ?_))); (case side4 => exact (Kd.V_reads' HO0_1.out).2.1); rintro e w67 ⟨rfl, hb⟩; refine ⟨_, rfl, ?_⟩; have n0_ := Aside0.mk (Kd.V_below (Zv HO0_0.out) hb); have n1_ := Aside0.mk (Kd.V_below (Zv HO0_1.out) hb); have n2_ := Aside0.mk (blk_below (g := gb265) (o := .cells #[.slice A0_0 l0_0.length c0_0, .slice A0_1 l0_1.length c0_1] 25 (0, 0)) (Zb BK265.out) hb); have n3_ := Aside0.mk (blk_below (g := gb266) (o := .cells #[.int .i64 0, .int .i64 0, .slice none 0 0] 28 (0, 0)) (Zb BK266.out) hb); have n4_ := Aside0.mk (blk_below (g := gb267) (o := .cells #[.slice none 0 0, .slice none 0 0] 25 (0, 0)) (Zb BK267.out) hb); have n5_ := Aside0.mk (below_step (Z3 HB GE265 GE266 GE267) hb); clear HO0_0; clear HO0_1; clear BK265; clear BK266; clear BK267; clear HB; have HO0_0 := n0_; have HO0_1 := n1_; have BK265 := n2_; have BK266 := n3_; have BK267 := n4_; have HB := n5_; clear n0_ n1_ n2_ n3_ n4_ n5_; (try clear hb); (try clear hb2); (try clear hk); (try clear hi); have hnb68 := NB266_267.out; have hnc68 := NB267_266.out; have hcz69_0 : w67.cell? ⟨gb266, 0, none⟩ = some (.int .i64 0) := (blk_cell BK266.out 0).trans rfl; have hcz69_1 : w67.cell? ⟨gb266, 1, none⟩ = some (.int .i64 0) := (blk_cell BK266.out 1).trans rfl; have hcz69_2 : w67.cell? ⟨gb266, 2, none⟩ = some (.slice none 0 0) := (blk_cell BK266.out 2).trans rfl; have hfz69_0 := blk_frozen BK266.out 0; have hfz69_1 := blk_frozen BK266.out 1; have hfz69_2 := blk_frozen BK266.out 2; have hcz70_0 : w67.cell? ⟨gb267, 0, none⟩ = some (.slice none 0 0) := (blk_cell BK267.out 0).trans rfl; have hcz70_1 : w67.cell? ⟨gb267, 1, none⟩ = some (.slice none 0 0) := (blk_cell BK267.out 1).trans rfl; have hfz70_0 := blk_frozen BK267.out 0; have hfz70_1 := blk_frozen BK267.out 1))
  refine bodyPost_ret (results_list (rs := [.cell 4 28, .cell 5 25, .tmp 6]) rfl (by simp) (.cell gb266 28 #[.int .i64 0, .int .i64 0, .slice none 0 0] (0, 0) _ rfl (by refine Zb ?_; refine blk_far ?_ NB266_267.out _; refine Zb ?_; refine blk_far ?_ NB266_267.out _; refine Zb ?_; refine blk_put (cs := #[.int .i64 0, .int .i64 0, .slice none 0 0]) ?_ 2 _ rfl; refine Zb ?_; refine blk_put (cs := #[.int .i64 0, .int .i64 0, .slice none 0 0]) ?_ 1 _ rfl; refine Zb ?_; refine blk_put (cs := #[.int .i64 0, .int .i64 0, .slice none 0 0]) ?_ 0 _ rfl; refine Zb ?_; exact BK266.out) Try.underlying28 rfl (by kernel_rfl) (.cell gb267 25 #[.slice none 0 0, .slice none 0 0] (0, 0) _ rfl (by refine Zb ?_; refine blk_put (cs := #[.slice none 0 0, .slice none 0 0]) ?_ 1 _ rfl; refine Zb ?_; refine blk_put (cs := #[.slice none 0 0, .slice none 0 0]) ?_ 0 _ rfl; refine Zb ?_; refine blk_far ?_ NB267_266.out _; refine Zb ?_; refine blk_far ?_ NB267_266.out _; refine Zb ?_; refine blk_far ?_ NB267_266.out _; refine Zb ?_; exact BK267.out) Try.underlying25 rfl (by kernel_rfl) (.tmp .nil)))) rfl ?_
  exact ⟨_, _, _, by first | rfl | (simp [errW_none, errW_some] <;> rfl) | (simp [*, errW_none, errW_some] <;> rfl), (Kd.V_nil _ _ _ _ _), by first | exact Kd.S_nil _ _ _ _ _ | exact Kd.N_nil _ _ _ _ _ | exact Kd.V_nil _ _ _ _ _ | exact Kd.Q_nil _ _ _ _ _ | exact Kd.R_nil _ _ _ _ _, (Kd.V_nil _ _ _ _ _), (Z3 HB GE265 GE266 GE267)⟩

/-! ### network_Lose: function 23 -/
def network_Lose.f (k : Nat) (l0_0 : List (S28)) (l0_1 : List (S55)) (a1 : Int) : Option ((List (S28)) × (List (S55)) × Int) := (network_at.f k l0_0 l0_1 a1).bind fun bt286 => (if bt286.2.2.2 = 0 then ((network_without.f l0_0 l0_1 a1).bind fun bt292 => (some (bt292.1, bt292.2, 0))) else (some (([] : List (S28)), ([] : List (S55)), bt286.2.2.2)))
theorem network_Lose.mono : ∀ a0 a1 a2 k, LeO (network_Lose.f k a0 a1 a2) (network_Lose.f (k + 1) a0 a1 a2) := by
 intro a0 a1 a2 k
 unfold network_Lose.f
 repeat' first
   | (with_reducible exact network_at.mono _ _ _ _)
   | (with_reducible exact LeO.refl _)
   | (with_reducible exact LeO.none _)
   | (with_reducible refine LeO.ite ?_ ?_)
   | (with_reducible refine LeO.bind ?_ (fun _ => ?_))
   | exact network_at.mono _ _ _ _
   | exact LeO.none _
   | refine LeO.ite ?_ ?_
   | refine LeO.bind ?_ (fun _ => ?_)
set_option maxHeartbeats 8000000 in
set_option maxRecDepth 100000 in
theorem network_Lose.calls (k : Nat) (P0_0_ : Nat → Prop) (A0_0 : Option Addr) (c0_0 : Nat) (l0_0 : List (S28)) (P0_1_ : Nat → Prop) (A0_1 : Option Addr) (c0_1 : Nat) (l0_1 : List (S55)) (a1 : Int) (r1 : List (S28)) (r2 : List (S55)) (r3 : Int) (w : World) (hs0_0 : Kd.V k28 28 w w.heap.size (fun k_ => P0_0_ k_) (.slice A0_0 l0_0.length c0_0) l0_0) (hs0_1 : Kd.V k55 55 w w.heap.size (fun k_ => P0_1_ k_) (.slice A0_1 l0_1.length c0_1) l0_1) (h : network_Lose.f k l0_0 l0_1 a1 = some (r1, r2, r3)) :
  Calls Try.prog 23 #[.agg #[.slice A0_0 l0_0.length c0_0, .slice A0_1 l0_1.length c0_1], .int .i64 a1] w fun e w' => ∃ v0_ v1_ : Value, e = .returned (.tuple #[.agg #[v0_, v1_], .int .i64 r3]) ∧ Kd.V k28 28 w' w.heap.size (fun k_ => ((P0_0_ k_ ∨ P0_1_ k_) ∨ w.heap.size ≤ k_)) v0_ r1 ∧ Kd.V k55 55 w' w.heap.size (fun k_ => ((P0_0_ k_ ∨ P0_1_ k_) ∨ w.heap.size ≤ k_)) v1_ r2 ∧ Below w.heap.size w w' := by
 have hu25 := Try.underlying25
 have HO0_0 := Aside0.mk (show Kd.V k28 28 w w.heap.size (fun k_ => ((P0_0_ k_ ∨ P0_1_ k_) ∨ w.heap.size ≤ k_)) (.slice A0_0 l0_0.length c0_0) l0_0 from Kd.V_mono hs0_0 (fun k_ hk => .inl (.inl hk)))
 have HO0_1 := Aside0.mk (show Kd.V k55 55 w w.heap.size (fun k_ => ((P0_0_ k_ ∨ P0_1_ k_) ∨ w.heap.size ≤ k_)) (.slice A0_1 l0_1.length c0_1) l0_1 from Kd.V_mono hs0_1 (fun k_ hk => .inl (.inr hk)))
 have HB := Aside0.mk (Below.refl w.heap.size w)
 have H : ((network_at.f k l0_0 l0_1 a1).bind fun bt286 => (if bt286.2.2.2 = 0 then ((network_without.f l0_0 l0_1 a1).bind fun bt292 => (some (bt292.1, bt292.2, 0))) else (some (([] : List (S28)), ([] : List (S55)), bt286.2.2.2)))) = some (r1, r2, r3) := h
 clear h
 replace H := Option.bind_eq_some_iff.mp H
 obtain ⟨⟨t286, t287, t288, t291⟩, A30, H⟩ := H
 replace H : (if t291 = 0 then ((network_without.f l0_0 l0_1 a1).bind fun bt292 => (some (bt292.1, bt292.2, 0))) else (some (([] : List (S28)), ([] : List (S55)), t291))) = some (r1, r2, r3) := H
 have A3 := Aside0.mk A30
 clear A30
 by_cases c4 : t291 = 0
 ·rw [if_pos c4] at H
  have c4b0 : (t291 == 0) = true := beq_iff_eq.mpr c4
  have c4b1 : (t291 != 0) = false := bne_eq_false_iff_eq.mpr c4
  clear c4
  replace H := Option.bind_eq_some_iff.mp H
  obtain ⟨⟨t292, t295⟩, A50, H⟩ := H
  replace H : (some (t292, t295, 0)) = some (r1, r2, r3) := H
  have A5 := Aside0.mk A50
  clear A50
  simp only [Option.some.injEq, Prod.mk.injEq] at H
  obtain ⟨rfl, rfl, rfl⟩ := H
  go_enter Try.func23, Try.ntmps23
  go_wp2_with (first | ((with_reducible refine gate_dst (N := 2) rfl ?_); refine box_event ?hg (N := 2) ?hd (cs := #[.slice A0_0 l0_0.length c0_0, .slice A0_1 l0_1.length c0_1]) (t := 25) ?hr ?_; (case hd => rfl); (case hg => rfl); (case hr => first | (go_simp; done) | (go_simp; rfl)); intro gb284 hg w6 hbox hb; have n0_ := Aside0.mk (Kd.V_below (Kd.V_elderB (Zv HO0_0.out) gb284 (Nat.le_of_eq hg.symm)) hb); have n1_ := Aside0.mk (Kd.V_below (Kd.V_elderB (Zv HO0_1.out) gb284 (Nat.le_of_eq hg.symm)) hb); have n2_ := Aside0.mk (below_step (Z0 HB) hb); have n3_ := Aside0.mk (hbox); have n4_ := Aside0.mk ((by rw [hg]; exact (below_size (Z0 HB)) : w.heap.size ≤ gb284)); have n5_ := Aside0.mk ((by rw [hg]; exact (below_size (Z0 HB)) : w.heap.size ≤ gb284)); clear HO0_0; clear HO0_1; clear HB; have HO0_0 := n0_; have HO0_1 := n1_; have HB := n2_; have BK284 := n3_; have GW284 := n4_; have GE284 := n5_; clear n0_ n1_ n2_ n3_ n4_ n5_; clear hb hbox hg) | ((with_reducible refine gate_dst (N := 4) rfl ?_); refine box_event ?hg (N := 4) ?hd (cs := #[.slice none 0 0, .slice none 0 0]) (t := 25) ?hr ?_; (case hd => rfl); (case hg => rfl); (case hr => first | (go_simp; done) | (go_simp; rfl)); intro gb285 hg w7 hbox hb; have n0_ := Aside0.mk (Kd.V_below (Kd.V_elderB (Zv HO0_0.out) gb285 (Nat.le_of_eq hg.symm)) hb); have n1_ := Aside0.mk (Kd.V_below (Kd.V_elderB (Zv HO0_1.out) gb285 (Nat.le_of_eq hg.symm)) hb); have n2_ := Aside0.mk (blk_below (g := gb284) (o := .cells #[.slice A0_0 l0_0.length c0_0, .slice A0_1 l0_1.length c0_1] 25 (0, 0)) (Zb BK284.out) hb); have n3_ := Aside0.mk (below_step (Z1 HB GE284) hb); have n4_ := Aside0.mk (hbox); have n5_ := Aside0.mk ((by rw [hg]; exact (below_size (Z1 HB GE284)) : w.heap.size ≤ gb285)); have n6_ := Aside0.mk ((by rw [hg]; exact (below_size (Z1 HB GE284)) : w.heap.size ≤ gb285)); have n7_ := Aside0.mk ((by rw [hg]; exact Nat.ne_of_lt (blk_lt (g := gb284) (o := .cells #[.slice A0_0 l0_0.length c0_0, .slice A0_1 l0_1.length c0_1] 25 (0, 0)) (Zb BK284.out)) : gb284 ≠ gb285)); have n8_ := Aside0.mk ((by rw [hg]; exact Nat.ne_of_gt (blk_lt (g := gb284) (o := .cells #[.slice A0_0 l0_0.length c0_0, .slice A0_1 l0_1.length c0_1] 25 (0, 0)) (Zb BK284.out)) : gb285 ≠ gb284)); clear HO0_0; clear HO0_1; clear BK284; clear HB; have HO0_0 := n0_; have HO0_1 := n1_; have BK284 := n2_; have HB := n3_; have BK285 := n4_; have GW285 := n5_; have GE285 := n6_; have NB284_285 := n7_; have NB285_284 := n8_; clear n0_ n1_ n2_ n3_ n4_ n5_ n6_ n7_ n8_; clear hb hbox hg; have hnb8 := NB284_285.out; have hnc8 := NB285_284.out; have hcz9_0 : w7.cell? ⟨gb284, 0, none⟩ = some (.slice A0_0 l0_0.length c0_0) := (blk_cell BK284.out 0).trans rfl; have hcz9_1 : w7.cell? ⟨gb284, 1, none⟩ = some (.slice A0_1 l0_1.length c0_1) := (blk_cell BK284.out 1).trans rfl; have hfz9_0 := blk_frozen BK284.out 0; have hfz9_1 := blk_frozen BK284.out 1) | ((with_reducible refine gate_callee (f := 35) rfl ?_); refine goesL_ (some 9) rfl rfl Try.func35 (by kernel_rfl) rfl #[.agg #[.slice A0_0 l0_0.length c0_0, .slice A0_1 l0_1.length c0_1], .int .i64 a1] rfl (by (try simp only [List.map_toArray, List.map_cons, List.map_nil]); first | done | rfl | (simp only [List.length_drop, List.length_take]; rfl)) ?_; (with_reducible refine (network_at.calls k (fun k_ => ((((P0_0_ k_ ∨ P0_1_ k_) ∨ w.heap.size ≤ k_) ∧ k_ ≠ gb284) ∧ k_ ≠ gb285)) _ _ l0_0 _ _ l0_1 a1 t286 t287 t288 t291 _ ?side1 ?side2 ?side3 A3.out).mono ?_); (case side1 => exact HO0_0.out); (case side2 => repeat (first | exact (Kd.V_reads' HO0_1.out).2.2 | (with_reducible refine Kd.C_alloc ?_ _) | (with_reducible refine Kd.C_drewN ?_ _) | (with_reducible refine Kd.C_drew ?_))); (case side3 => exact (Kd.V_reads' HO0_1.out).2.1); rintro e w10 ⟨v289, rfl, ho0, hb⟩; refine ⟨_, rfl, ?_⟩; have n0_ := Aside0.mk (Kd.V_below (Zv HO0_0.out) hb); have n1_ := Aside0.mk (Kd.V_below (Zv HO0_1.out) hb); have n2_ := Aside0.mk (Kd.V_lower (Kd.V_mono (ok' := fun k_ => ((P0_0_ k_ ∨ P0_1_ k_) ∨ w.heap.size ≤ k_) ∧ k_ ≠ gb284 ∧ k_ ≠ gb285) ho0 (fun k_ hk_ => ⟨Or.elim hk_ (fun hs_ => hs_.1.1) (fun hn_ => (.inr (Nat.le_trans (below_size (Z2 HB GE284 GE285)) hn_))), Or.elim hk_ (fun hs_ => hs_.1.2) (fun hn_ => (Kd.freshB (g := gb284) (o := .cells #[.slice A0_0 l0_0.length c0_0, .slice A0_1 l0_1.length c0_1] 25 (0, 0)) (Zb BK284.out) k_ hn_)), Or.elim hk_ (fun hs_ => hs_.2) (fun hn_ => (Kd.freshB (g := gb285) (o := .cells #[.slice none 0 0, .slice none 0 0] 25 (0, 0)) (Zb BK285.out) k_ hn_))⟩)) (below_size (Z2 HB GE284 GE285))); have n3_ := Aside0.mk (blk_below (g := gb284) (o := .cells #[.slice A0_0 l0_0.length c0_0, .slice A0_1 l0_1.length c0_1] 25 (0, 0)) (Zb BK284.out) hb); have n4_ := Aside0.mk (blk_below (g := gb285) (o := .cells #[.slice none 0 0, .slice none 0 0] 25 (0, 0)) (Zb BK285.out) hb); have n5_ := Aside0.mk (below_step (Z2 HB GE284 GE285) hb); clear HO0_0; clear HO0_1; clear BK284; clear BK285; clear HB; have HO0_0 := n0_; have HO0_1 := n1_; have HO290 := n2_; have BK284 := n3_; have BK285 := n4_; have HB := n5_; clear n0_ n1_ n2_ n3_ n4_ n5_; (try clear hb); (try clear hb2); (try clear hk); (try clear hi); (try clear ho0); have hcz11_0 : w10.cell? ⟨gb284, 0, none⟩ = some (.slice A0_0 l0_0.length c0_0) := (blk_cell BK284.out 0).trans rfl; have hcz11_1 : w10.cell? ⟨gb284, 1, none⟩ = some (.slice A0_1 l0_1.length c0_1) := (blk_cell BK284.out 1).trans rfl; have hfz11_0 := blk_frozen BK284.out 0; have hfz11_1 := blk_frozen BK284.out 1) | ((with_reducible refine gate_callee (f := 38) rfl ?_); refine goesL_ (some 18) rfl rfl Try.func38 (by kernel_rfl) rfl #[.agg #[.slice A0_0 l0_0.length c0_0, .slice A0_1 l0_1.length c0_1], .int .i64 a1] rfl (by (try simp only [List.map_toArray, List.map_cons, List.map_nil]); first | done | rfl | (simp only [List.length_drop, List.length_take]; rfl)) ?_; (with_reducible refine (network_without.calls (fun k_ => ((((P0_0_ k_ ∨ P0_1_ k_) ∨ w.heap.size ≤ k_) ∧ k_ ≠ gb284) ∧ k_ ≠ gb285)) _ _ l0_0 (fun k_ => ((((P0_0_ k_ ∨ P0_1_ k_) ∨ w.heap.size ≤ k_) ∧ k_ ≠ gb284) ∧ k_ ≠ gb285)) _ _ l0_1 a1 t292 t295 _ ?side1 ?side2 A5.out).mono ?_); (case side1 => exact HO0_0.out); (case side2 => exact HO0_1.out); rintro e w12 ⟨v293, v296, rfl, ho0, ho1, hb⟩; refine ⟨_, rfl, ?_⟩; have n0_ := Aside0.mk (Kd.V_below (Zv HO0_0.out) hb); have n1_ := Aside0.mk (Kd.V_below (Zv HO0_1.out) hb); have n2_ := Aside0.mk (Kd.V_below (Zv HO290.out) hb); have n3_ := Aside0.mk (Kd.V_lower (Kd.V_mono (ok' := fun k_ => ((P0_0_ k_ ∨ P0_1_ k_) ∨ w.heap.size ≤ k_) ∧ k_ ≠ gb284 ∧ k_ ≠ gb285) ho0 (fun k_ hk_ => ⟨Or.elim hk_ (fun hs_ => Or.elim hs_ (fun hs_ => hs_.1.1) (fun hs_ => hs_.1.1)) (fun hn_ => (.inr (Nat.le_trans (below_size (Z2 HB GE284 GE285)) hn_))), Or.elim hk_ (fun hs_ => Or.elim hs_ (fun hs_ => hs_.1.2) (fun hs_ => hs_.1.2)) (fun hn_ => (Kd.freshB (g := gb284) (o := .cells #[.slice A0_0 l0_0.length c0_0, .slice A0_1 l0_1.length c0_1] 25 (0, 0)) (Zb BK284.out) k_ hn_)), Or.elim hk_ (fun hs_ => Or.elim hs_ (fun hs_ => hs_.2) (fun hs_ => hs_.2)) (fun hn_ => (Kd.freshB (g := gb285) (o := .cells #[.slice none 0 0, .slice none 0 0] 25 (0, 0)) (Zb BK285.out) k_ hn_))⟩)) (below_size (Z2 HB GE284 GE285))); have n4_ := Aside0.mk (Kd.V_lower (Kd.V_mono (ok' := fun k_ => ((P0_0_ k_ ∨ P0_1_ k_) ∨ w.heap.size ≤ k_) ∧ k_ ≠ gb284 ∧ k_ ≠ gb285) ho1 (fun k_ hk_ => ⟨Or.elim hk_ (fun hs_ => Or.elim hs_ (fun hs_ => hs_.1.1) (fun hs_ => hs_.1.1)) (fun hn_ => (.inr (Nat.le_trans (below_size (Z2 HB GE284 GE285)) hn_))), Or.elim hk_ (fun hs_ => Or.elim hs_ (fun hs_ => hs_.1.2) (fun hs_ => hs_.1.2)) (fun hn_ => (Kd.freshB (g := gb284) (o := .cells #[.slice A0_0 l0_0.length c0_0, .slice A0_1 l0_1.length c0_1] 25 (0, 0)) (Zb BK284.out) k_ hn_)), Or.elim hk_ (fun hs_ => Or.elim hs_ (fun hs_ => hs_.2) (fun hs_ => hs_.2)) (fun hn_ => (Kd.freshB (g := gb285) (o := .cells #[.slice none 0 0, .slice none 0 0] 25 (0, 0)) (Zb BK285.out) k_ hn_))⟩)) (below_size (Z2 HB GE284 GE285))); have n5_ := Aside0.mk (blk_below (g := gb284) (o := .cells #[.slice A0_0 l0_0.length c0_0, .slice A0_1 l0_1.length c0_1] 25 (0, 0)) (Zb BK284.out) hb); have n6_ := Aside0.mk (blk_below (g := gb285) (o := .cells #[.slice none 0 0, .slice none 0 0] 25 (0, 0)) (Zb BK285.out) hb); have n7_ := Aside0.mk (below_step (Z2 HB GE284 GE285) hb); clear HO0_0; clear HO0_1; clear HO290; clear BK284; clear BK285; clear HB; have HO0_0 := n0_; have HO0_1 := n1_; have HO290 := n2_; have HO294 := n3_; have HO297 := n4_; have BK284 := n5_; have BK285 := n6_; have HB := n7_; clear n0_ n1_ n2_ n3_ n4_ n5_ n6_ n7_; (try clear hb); (try clear hb2); (try clear hk); (try clear hi); (try clear ho0); (try clear ho1); obtain ⟨Ao13, co13, eo13⟩ := Kd.V_slice HO294.out; subst eo13; have hcz14_0 : w12.cell? ⟨gb285, 0, none⟩ = some (.slice none 0 0) := (blk_cell BK285.out 0).trans rfl; have hcz14_1 : w12.cell? ⟨gb285, 1, none⟩ = some (.slice none 0 0) := (blk_cell BK285.out 1).trans rfl; have hfz14_0 := blk_frozen BK285.out 0; have hfz14_1 := blk_frozen BK285.out 1; obtain ⟨Ao15, co15, eo15⟩ := Kd.V_slice HO297.out; subst eo15))
  refine bodyPost_ret (results_ct rfl _ _ gb285 25 #[.slice Ao13 t292.length co13, .slice Ao15 t295.length co15] (0, 0) _ rfl (by refine Zb ?_; refine blk_put (cs := #[.slice Ao13 t292.length co13, .slice none 0 0]) ?_ 1 _ rfl; refine Zb ?_; refine blk_put (cs := #[.slice none 0 0, .slice none 0 0]) ?_ 0 _ rfl; refine Zb ?_; exact BK285.out) Try.underlying25 rfl (by kernel_rfl)) rfl ?_
  exact ⟨_, _, by first | rfl | (simp [errW_none, errW_some] <;> rfl) | (simp [*, errW_none, errW_some] <;> rfl), by refine Zv ?_; exact Kd.V_mono (Kd.V_far (p := ⟨gb285, 1, none⟩) (Kd.V_far (p := ⟨gb285, 0, none⟩) (Kd.V_mono HO294.out (fun k_ hk => (⟨hk, hk.2.2⟩ : _ ∧ k_ ≠ gb285))) (fun _ hk => hk.2) (.slice Ao13 t292.length co13)) (fun _ hk => hk.2) (.slice Ao15 t295.length co15)) (fun _ hk => hk.1.1), by refine Zv ?_; exact Kd.V_mono (Kd.V_far (p := ⟨gb285, 1, none⟩) (Kd.V_far (p := ⟨gb285, 0, none⟩) (Kd.V_mono HO297.out (fun k_ hk => (⟨hk, hk.2.2⟩ : _ ∧ k_ ≠ gb285))) (fun _ hk => hk.2) (.slice Ao13 t292.length co13)) (fun _ hk => hk.2) (.slice Ao15 t295.length co15)) (fun _ hk => hk.1.1), (Z2 HB GE284 GE285)⟩
 ·rw [if_neg c4] at H
  have c4b0 : (t291 == 0) = false := beq_eq_false_iff_ne.mpr c4
  have c4b1 : (t291 != 0) = true := bne_iff_ne.mpr c4
  simp only [Option.some.injEq, Prod.mk.injEq] at H
  obtain ⟨rfl, rfl, rfl⟩ := H
  go_enter Try.func23, Try.ntmps23
  go_wp2_with (first | ((with_reducible refine gate_dst (N := 2) rfl ?_); refine box_event ?hg (N := 2) ?hd (cs := #[.slice A0_0 l0_0.length c0_0, .slice A0_1 l0_1.length c0_1]) (t := 25) ?hr ?_; (case hd => rfl); (case hg => rfl); (case hr => first | (go_simp; done) | (go_simp; rfl)); intro gb284 hg w16 hbox hb; have n0_ := Aside0.mk (Kd.V_below (Kd.V_elderB (Zv HO0_0.out) gb284 (Nat.le_of_eq hg.symm)) hb); have n1_ := Aside0.mk (Kd.V_below (Kd.V_elderB (Zv HO0_1.out) gb284 (Nat.le_of_eq hg.symm)) hb); have n2_ := Aside0.mk (below_step (Z0 HB) hb); have n3_ := Aside0.mk (hbox); have n4_ := Aside0.mk ((by rw [hg]; exact (below_size (Z0 HB)) : w.heap.size ≤ gb284)); have n5_ := Aside0.mk ((by rw [hg]; exact (below_size (Z0 HB)) : w.heap.size ≤ gb284)); clear HO0_0; clear HO0_1; clear HB; have HO0_0 := n0_; have HO0_1 := n1_; have HB := n2_; have BK284 := n3_; have GW284 := n4_; have GE284 := n5_; clear n0_ n1_ n2_ n3_ n4_ n5_; clear hb hbox hg) | ((with_reducible refine gate_dst (N := 4) rfl ?_); refine box_event ?hg (N := 4) ?hd (cs := #[.slice none 0 0, .slice none 0 0]) (t := 25) ?hr ?_; (case hd => rfl); (case hg => rfl); (case hr => first | (go_simp; done) | (go_simp; rfl)); intro gb285 hg w17 hbox hb; have n0_ := Aside0.mk (Kd.V_below (Kd.V_elderB (Zv HO0_0.out) gb285 (Nat.le_of_eq hg.symm)) hb); have n1_ := Aside0.mk (Kd.V_below (Kd.V_elderB (Zv HO0_1.out) gb285 (Nat.le_of_eq hg.symm)) hb); have n2_ := Aside0.mk (blk_below (g := gb284) (o := .cells #[.slice A0_0 l0_0.length c0_0, .slice A0_1 l0_1.length c0_1] 25 (0, 0)) (Zb BK284.out) hb); have n3_ := Aside0.mk (below_step (Z1 HB GE284) hb); have n4_ := Aside0.mk (hbox); have n5_ := Aside0.mk ((by rw [hg]; exact (below_size (Z1 HB GE284)) : w.heap.size ≤ gb285)); have n6_ := Aside0.mk ((by rw [hg]; exact (below_size (Z1 HB GE284)) : w.heap.size ≤ gb285)); have n7_ := Aside0.mk ((by rw [hg]; exact Nat.ne_of_lt (blk_lt (g := gb284) (o := .cells #[.slice A0_0 l0_0.length c0_0, .slice A0_1 l0_1.length c0_1] 25 (0, 0)) (Zb BK284.out)) : gb284 ≠ gb285)); have n8_ := Aside0.mk ((by rw [hg]; exact Nat.ne_of_gt (blk_lt (g := gb284) (o := .cells #[.slice A0_0 l0_0.length c0_0, .slice A0_1 l0_1.length c0_1] 25 (0, 0)) (Zb BK284.out)) : gb285 ≠ gb284)); clear HO0_0; clear HO0_1; clear BK284; clear HB; have HO0_0 := n0_; have HO0_1 := n1_; have BK284 := n2_; have HB := n3_; have BK285 := n4_; have GW285 := n5_; have GE285 := n6_; have NB284_285 := n7_; have NB285_284 := n8_; clear n0_ n1_ n2_ n3_ n4_ n5_ n6_ n7_ n8_; clear hb hbox hg; have hnb18 := NB284_285.out; have hnc18 := NB285_284.out; have hcz19_0 : w17.cell? ⟨gb284, 0, none⟩ = some (.slice A0_0 l0_0.length c0_0) := (blk_cell BK284.out 0).trans rfl; have hcz19_1 : w17.cell? ⟨gb284, 1, none⟩ = some (.slice A0_1 l0_1.length c0_1) := (blk_cell BK284.out 1).trans rfl; have hfz19_0 := blk_frozen BK284.out 0; have hfz19_1 := blk_frozen BK284.out 1) | ((with_reducible refine gate_callee (f := 35) rfl ?_); refine goesL_ (some 9) rfl rfl Try.func35 (by kernel_rfl) rfl #[.agg #[.slice A0_0 l0_0.length c0_0, .slice A0_1 l0_1.length c0_1], .int .i64 a1] rfl (by (try simp only [List.map_toArray, List.map_cons, List.map_nil]); first | done | rfl | (simp only [List.length_drop, List.length_take]; rfl)) ?_; (with_reducible refine (network_at.calls k (fun k_ => ((((P0_0_ k_ ∨ P0_1_ k_) ∨ w.heap.size ≤ k_) ∧ k_ ≠ gb284) ∧ k_ ≠ gb285)) _ _ l0_0 _ _ l0_1 a1 t286 t287 t288 t291 _ ?side1 ?side2 ?side3 A3.out).mono ?_); (case side1 => exact HO0_0.out); (case side2 => repeat (first | exact (Kd.V_reads' HO0_1.out).2.2 | (with_reducible refine Kd.C_alloc ?_ _) | (with_reducible refine Kd.C_drewN ?_ _) | (with_reducible refine Kd.C_drew ?_))); (case side3 => exact (Kd.V_reads' HO0_1.out).2.1); rintro e w20 ⟨v289, rfl, ho0, hb⟩; refine ⟨_, rfl, ?_⟩; have n0_ := Aside0.mk (Kd.V_below (Zv HO0_0.out) hb); have n1_ := Aside0.mk (Kd.V_below (Zv HO0_1.out) hb); have n2_ := Aside0.mk (Kd.V_lower (Kd.V_mono (ok' := fun k_ => ((P0_0_ k_ ∨ P0_1_ k_) ∨ w.heap.size ≤ k_) ∧ k_ ≠ gb284 ∧ k_ ≠ gb285) ho0 (fun k_ hk_ => ⟨Or.elim hk_ (fun hs_ => hs_.1.1) (fun hn_ => (.inr (Nat.le_trans (below_size (Z2 HB GE284 GE285)) hn_))), Or.elim hk_ (fun hs_ => hs_.1.2) (fun hn_ => (Kd.freshB (g := gb284) (o := .cells #[.slice A0_0 l0_0.length c0_0, .slice A0_1 l0_1.length c0_1] 25 (0, 0)) (Zb BK284.out) k_ hn_)), Or.elim hk_ (fun hs_ => hs_.2) (fun hn_ => (Kd.freshB (g := gb285) (o := .cells #[.slice none 0 0, .slice none 0 0] 25 (0, 0)) (Zb BK285.out) k_ hn_))⟩)) (below_size (Z2 HB GE284 GE285))); have n3_ := Aside0.mk (blk_below (g := gb284) (o := .cells #[.slice A0_0 l0_0.length c0_0, .slice A0_1 l0_1.length c0_1] 25 (0, 0)) (Zb BK284.out) hb); have n4_ := Aside0.mk (blk_below (g := gb285) (o := .cells #[.slice none 0 0, .slice none 0 0] 25 (0, 0)) (Zb BK285.out) hb); have n5_ := Aside0.mk (below_step (Z2 HB GE284 GE285) hb); clear HO0_0; clear HO0_1; clear BK284; clear BK285; clear HB; have HO0_0 := n0_; have HO0_1 := n1_; have HO290 := n2_; have BK284 := n3_; have BK285 := n4_; have HB := n5_; clear n0_ n1_ n2_ n3_ n4_ n5_; (try clear hb); (try clear hb2); (try clear hk); (try clear hi); (try clear ho0); have hcz21_0 : w20.cell? ⟨gb285, 0, none⟩ = some (.slice none 0 0) := (blk_cell BK285.out 0).trans rfl; have hcz21_1 : w20.cell? ⟨gb285, 1, none⟩ = some (.slice none 0 0) := (blk_cell BK285.out 1).trans rfl; have hfz21_0 := blk_frozen BK285.out 0; have hfz21_1 := blk_frozen BK285.out 1))
  refine bodyPost_ret (results_ct rfl _ _ gb285 25 #[.slice none 0 0, .slice none 0 0] (0, 0) _ rfl (by refine Zb ?_; refine blk_put (cs := #[.slice none 0 0, .slice none 0 0]) ?_ 1 _ rfl; refine Zb ?_; refine blk_put (cs := #[.slice none 0 0, .slice none 0 0]) ?_ 0 _ rfl; refine Zb ?_; exact BK285.out) Try.underlying25 rfl (by kernel_rfl)) rfl ?_
  exact ⟨_, _, by first | rfl | (simp [errW_none, errW_some] <;> rfl) | (simp [*, errW_none, errW_some] <;> rfl), (Kd.V_nil _ _ _ _ _), (Kd.V_nil _ _ _ _ _), (Z2 HB GE284 GE285)⟩

end Go.Proofs.Ythlehlbokaeigaa.Q
