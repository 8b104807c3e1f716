-- Written by wip/tools/extprint.py of this repo (a program of this claim's own, over the kit's printer) out of the translation; Lean checks it.
import Derived.Test.YthlehlbokaeigaaQ0
import Derived.Test.YthlehlbokaeigaaQ2
import Derived.Test.YthlehlbokaeigaaQ3
import Derived.Test.YthlehlbokaeigaaQ6
namespace Go.Proofs.Ythlehlbokaeigaa.Q
open Go.RowKit Go.Proofs.YthlehlbokaeigaaW.PrintWords Go.Proofs.YthlehlbokaeigaaW.PrintLast Go.Proofs.YthlehlbokaeigaaW.PrintMore
attribute [local go_sem] max2_int min2_int max_two min_two max_three min_three max_four min_four   -- for this text's walks alone
set_option linter.unusedVariables false
set_option linter.unusedSimpArgs false

/-! ### network_Deliver: function 18 -/
def network_Deliver.f (k : Nat) (l0_0 : List (S28)) (l0_1 : List (S55)) (a1 : Int) : Option (Int × Int × List Int × (List (S28)) × (List (S55)) × Int) := (network_at.f k l0_0 l0_1 a1).bind fun bt166 => (if bt166.2.2.2 = 0 then ((network_between.f bt166.1 bt166.2.1).bind fun bt172 => ((slices_Contains_2_int_2_int.f k l0_1 bt172.1 bt172.2).bind fun t174 => (if t174 = true then ((network_without.f l0_0 l0_1 a1).bind fun bt175 => (some (0, 0, ([] : List Int), bt175.1, bt175.2, 0))) else ((network_without.f l0_0 l0_1 a1).bind fun bt181 => (some (bt166.1, bt166.2.1, bt166.2.2.1, bt181.1, bt181.2, 0)))))) else (some (bt166.1, bt166.2.1, bt166.2.2.1, ([] : List (S28)), ([] : List (S55)), bt166.2.2.2)))
theorem network_Deliver.mono : ∀ a0 a1 a2 k, LeO (network_Deliver.f k a0 a1 a2) (network_Deliver.f (k + 1) a0 a1 a2) := by
 intro a0 a1 a2 k
 unfold network_Deliver.f
 repeat' first
   | (with_reducible exact network_at.mono _ _ _ _)
   | (with_reducible exact slices_Contains_2_int_2_int.mono _ _ _ _)
   | (with_reducible exact LeO.refl _)
   | (with_reducible exact LeO.none _)
   | (with_reducible refine LeO.ite ?_ ?_)
   | (with_reducible refine LeO.bind ?_ (fun _ => ?_))
   | exact network_at.mono _ _ _ _
   | exact slices_Contains_2_int_2_int.mono _ _ _ _
   | exact LeO.none _
   | refine LeO.ite ?_ ?_
   | refine LeO.bind ?_ (fun _ => ?_)
def network_Deliver.T4 : Bool × List (List Nat × List Nat) := (true, [([], []), ([0], [0]), ([], []), ([2], [2]), ([], []), ([4], [4]), ([3, 5], [3, 5]), ([1, 6, 6], [1, 6])])
def network_Deliver.B4 : List Nat := [0, 1, 0, 4, 0, 16, 60, 127]
theorem network_Deliver.tab4 : rtab .any (opsOf Try.f18 4) = network_Deliver.T4 := by kernel_rfl
theorem network_Deliver.bits4 : waitsOk network_Deliver.T4.2 network_Deliver.B4 = true := by kernel_rfl
set_option maxHeartbeats 8000000 in
set_option maxRecDepth 100000 in
theorem network_Deliver.calls (k : Nat) (P0_0_ : Nat → Prop) (A0_0 : Option Addr) (c0_0 : Nat) (l0_0 : List (S28)) (P0_1_ : Nat → Prop) (A0_1 : Option Addr) (c0_1 : Nat) (l0_1 : List (S55)) (a1 : Int) (r1 : Int) (r2 : Int) (r3 : List Int) (r4 : List (S28)) (r5 : List (S55)) (r6 : Int) (w : World) (hs0_0 : Kd.V k28 28 w w.heap.size (fun k_ => P0_0_ k_) (.slice A0_0 l0_0.length c0_0) l0_0) (hs0_1 : Kd.V k55 55 w w.heap.size (fun k_ => P0_1_ k_) (.slice A0_1 l0_1.length c0_1) l0_1) (h : network_Deliver.f k l0_0 l0_1 a1 = some (r1, r2, r3, r4, r5, r6)) :
  Calls Try.prog 18 #[.agg #[.slice A0_0 l0_0.length c0_0, .slice A0_1 l0_1.length c0_1], .int .i64 a1] w fun e w' => ∃ v2_ v3_ v4_ : Value, e = .returned (.tuple #[.agg #[.int .i64 r1, .int .i64 r2, v2_], .agg #[v3_, v4_], .int .i64 r6]) ∧ Kd.V (Kd.int .u8) 5 w' w.heap.size (fun k_ => ((P0_0_ k_ ∨ P0_1_ k_) ∨ w.heap.size ≤ k_)) v2_ r3 ∧ Kd.V k28 28 w' w.heap.size (fun k_ => ((P0_0_ k_ ∨ P0_1_ k_) ∨ w.heap.size ≤ k_)) v3_ r4 ∧ Kd.V k55 55 w' w.heap.size (fun k_ => ((P0_0_ k_ ∨ P0_1_ k_) ∨ w.heap.size ≤ k_)) v4_ r5 ∧ Below w.heap.size w w' := by
 have hu25 := Try.underlying25
 have hu28 := Try.underlying28
 have HO0_0 := Aside0.mk (show Kd.V k28 28 w w.heap.size (fun k_ => ((P0_0_ k_ ∨ P0_1_ k_) ∨ w.heap.size ≤ k_)) (.slice A0_0 l0_0.length c0_0) l0_0 from Kd.V_mono hs0_0 (fun k_ hk => .inl (.inl hk)))
 have HO0_1 := Aside0.mk (show Kd.V k55 55 w w.heap.size (fun k_ => ((P0_0_ k_ ∨ P0_1_ k_) ∨ w.heap.size ≤ k_)) (.slice A0_1 l0_1.length c0_1) l0_1 from Kd.V_mono hs0_1 (fun k_ hk => .inl (.inr hk)))
 have HB := Aside0.mk (Below.refl w.heap.size w)
 have H : ((network_at.f k l0_0 l0_1 a1).bind fun bt166 => (if bt166.2.2.2 = 0 then ((network_between.f bt166.1 bt166.2.1).bind fun bt172 => ((slices_Contains_2_int_2_int.f k l0_1 bt172.1 bt172.2).bind fun t174 => (if t174 = true then ((network_without.f l0_0 l0_1 a1).bind fun bt175 => (some (0, 0, ([] : List Int), bt175.1, bt175.2, 0))) else ((network_without.f l0_0 l0_1 a1).bind fun bt181 => (some (bt166.1, bt166.2.1, bt166.2.2.1, bt181.1, bt181.2, 0)))))) else (some (bt166.1, bt166.2.1, bt166.2.2.1, ([] : List (S28)), ([] : List (S55)), bt166.2.2.2)))) = some (r1, r2, r3, r4, r5, r6) := h
 clear h
 replace H := Option.bind_eq_some_iff.mp H
 obtain ⟨⟨t166, t167, t168, t171⟩, A30, H⟩ := H
 replace H : (if t171 = 0 then ((network_between.f t166 t167).bind fun bt172 => ((slices_Contains_2_int_2_int.f k l0_1 bt172.1 bt172.2).bind fun t174 => (if t174 = true then ((network_without.f l0_0 l0_1 a1).bind fun bt175 => (some (0, 0, ([] : List Int), bt175.1, bt175.2, 0))) else ((network_without.f l0_0 l0_1 a1).bind fun bt181 => (some (t166, t167, t168, bt181.1, bt181.2, 0)))))) else (some (t166, t167, t168, ([] : List (S28)), ([] : List (S55)), t171))) = some (r1, r2, r3, r4, r5, r6) := H
 have A3 := Aside0.mk A30
 clear A30
 by_cases c4 : t171 = 0
 ·rw [if_pos c4] at H
  have c4b0 : (t171 == 0) = true := beq_iff_eq.mpr c4
  have c4b1 : (t171 != 0) = false := bne_eq_false_iff_eq.mpr c4
  clear c4
  replace H := Option.bind_eq_some_iff.mp H
  obtain ⟨⟨t172, t173⟩, A50, H⟩ := H
  replace H : ((slices_Contains_2_int_2_int.f k l0_1 t172 t173).bind fun t174 => (if t174 = true then ((network_without.f l0_0 l0_1 a1).bind fun bt175 => (some (0, 0, ([] : List Int), bt175.1, bt175.2, 0))) else ((network_without.f l0_0 l0_1 a1).bind fun bt181 => (some (t166, t167, t168, bt181.1, bt181.2, 0))))) = some (r1, r2, r3, r4, r5, r6) := H
  have A5 := Aside0.mk A50
  clear A50
  replace H := Option.bind_eq_some_iff.mp H
  obtain ⟨t174, A60, H⟩ := H
  replace H : (if t174 = true then ((network_without.f l0_0 l0_1 a1).bind fun bt175 => (some (0, 0, ([] : List Int), bt175.1, bt175.2, 0))) else ((network_without.f l0_0 l0_1 a1).bind fun bt181 => (some (t166, t167, t168, bt181.1, bt181.2, 0)))) = some (r1, r2, r3, r4, r5, r6) := H
  have A6 := Aside0.mk A60
  clear A60
  by_cases c7 : t174 = true
  ·subst c7
   have H1 : ((network_without.f l0_0 l0_1 a1).bind fun bt175 => (some (0, 0, ([] : List Int), bt175.1, bt175.2, 0))) = some (r1, r2, r3, r4, r5, r6) := by rw [if_pos rfl] at H; exact H
   clear H
   have H := H1
   clear H1
   replace H := Option.bind_eq_some_iff.mp H
   obtain ⟨⟨t175, t178⟩, A80, H⟩ := H
   replace H : (some (0, 0, ([] : List Int), t175, t178, 0)) = some (r1, r2, r3, r4, r5, r6) := H
   have A8 := Aside0.mk A80
   clear A80
   simp only [Option.some.injEq, Prod.mk.injEq] at H
   obtain ⟨rfl, rfl, rfl, rfl, rfl, rfl⟩ := H
   go_enter Try.func18, Try.ntmps18
   try go_wp2_with (first | ((with_reducible refine gate_dst (N := 2) rfl ?_); refine box_event ?hg (N := 2) ?hd (cs := #[.slice A0_0 l0_0.length c0_0, .slice A0_1 l0_1.length c0_1]) (t := 25) ?hr ?_; (case hd => rfl); (case hg => rfl); (case hr => first | (go_simp; done) | (go_simp; rfl)); intro gb163 hg w9 hbox hb; have n0_ := Aside0.mk (Kd.V_below (Kd.V_elderB (Zv HO0_0.out) gb163 (Nat.le_of_eq hg.symm)) hb); have n1_ := Aside0.mk (Kd.V_below (Kd.V_elderB (Zv HO0_1.out) gb163 (Nat.le_of_eq hg.symm)) hb); have n2_ := Aside0.mk (below_step (Z0 HB) hb); have n3_ := Aside0.mk (hbox); have n4_ := Aside0.mk ((by rw [hg]; exact (below_size (Z0 HB)) : w.heap.size ≤ gb163)); have n5_ := Aside0.mk ((by rw [hg]; exact (below_size (Z0 HB)) : w.heap.size ≤ gb163)); clear HO0_0; clear HO0_1; clear HB; have HO0_0 := n0_; have HO0_1 := n1_; have HB := n2_; have BK163 := n3_; have GW163 := n4_; have GE163 := n5_; clear n0_ n1_ n2_ n3_ n4_ n5_; clear hb hbox hg) | ((with_reducible refine gate_dst (N := 4) rfl ?_); refine box_event ?hg (N := 4) ?hd (cs := #[.int .i64 0, .int .i64 0, .slice none 0 0]) (t := 28) ?hr ?_; (case hd => rfl); (case hg => rfl); (case hr => first | (go_simp; done) | (go_simp; rfl)); intro gb164 hg w10 hbox hb; have n0_ := Aside0.mk (Kd.V_below (Kd.V_elderB (Zv HO0_0.out) gb164 (Nat.le_of_eq hg.symm)) hb); have n1_ := Aside0.mk (Kd.V_below (Kd.V_elderB (Zv HO0_1.out) gb164 (Nat.le_of_eq hg.symm)) hb); have n2_ := Aside0.mk (blk_below (g := gb163) (o := .cells #[.slice A0_0 l0_0.length c0_0, .slice A0_1 l0_1.length c0_1] 25 (0, 0)) (Zb BK163.out) hb); have n3_ := Aside0.mk (below_step (Z1 HB GE163) hb); have n4_ := Aside0.mk (hbox); have n5_ := Aside0.mk ((by rw [hg]; exact (below_size (Z1 HB GE163)) : w.heap.size ≤ gb164)); have n6_ := Aside0.mk ((by rw [hg]; exact (below_size (Z1 HB GE163)) : w.heap.size ≤ gb164)); have n7_ := Aside0.mk ((by rw [hg]; exact Nat.ne_of_lt (blk_lt (g := gb163) (o := .cells #[.slice A0_0 l0_0.length c0_0, .slice A0_1 l0_1.length c0_1] 25 (0, 0)) (Zb BK163.out)) : gb163 ≠ gb164)); have n8_ := Aside0.mk ((by rw [hg]; exact Nat.ne_of_gt (blk_lt (g := gb163) (o := .cells #[.slice A0_0 l0_0.length c0_0, .slice A0_1 l0_1.length c0_1] 25 (0, 0)) (Zb BK163.out)) : gb164 ≠ gb163)); clear HO0_0; clear HO0_1; clear BK163; clear HB; have HO0_0 := n0_; have HO0_1 := n1_; have BK163 := n2_; have HB := n3_; have BK164 := n4_; have GW164 := n5_; have GE164 := n6_; have NB163_164 := n7_; have NB164_163 := n8_; clear n0_ n1_ n2_ n3_ n4_ n5_ n6_ n7_ n8_; clear hb hbox hg) | ((with_reducible refine gate_dst (N := 5) rfl ?_); refine box_event ?hg (N := 5) ?hd (cs := #[.slice none 0 0, .slice none 0 0]) (t := 25) ?hr ?_; (case hd => rfl); (case hg => rfl); (case hr => first | (go_simp; done) | (go_simp; rfl)); intro gb165 hg w11 hbox hb; have n0_ := Aside0.mk (Kd.V_below (Kd.V_elderB (Zv HO0_0.out) gb165 (Nat.le_of_eq hg.symm)) hb); have n1_ := Aside0.mk (Kd.V_below (Kd.V_elderB (Zv HO0_1.out) gb165 (Nat.le_of_eq hg.symm)) hb); have n2_ := Aside0.mk (blk_below (g := gb163) (o := .cells #[.slice A0_0 l0_0.length c0_0, .slice A0_1 l0_1.length c0_1] 25 (0, 0)) (Zb BK163.out) hb); have n3_ := Aside0.mk (blk_below (g := gb164) (o := .cells #[.int .i64 0, .int .i64 0, .slice none 0 0] 28 (0, 0)) (Zb BK164.out) hb); have n4_ := Aside0.mk (below_step (Z2 HB GE163 GE164) hb); have n5_ := Aside0.mk (hbox); have n6_ := Aside0.mk ((by rw [hg]; exact (below_size (Z2 HB GE163 GE164)) : w.heap.size ≤ gb165)); have n7_ := Aside0.mk ((by rw [hg]; exact (below_size (Z2 HB GE163 GE164)) : w.heap.size ≤ gb165)); have n8_ := Aside0.mk ((by rw [hg]; exact Nat.ne_of_lt (blk_lt (g := gb163) (o := .cells #[.slice A0_0 l0_0.length c0_0, .slice A0_1 l0_1.length c0_1] 25 (0, 0)) (Zb BK163.out)) : gb163 ≠ gb165)); have n9_ := Aside0.mk ((by rw [hg]; exact Nat.ne_of_gt (blk_lt (g := gb163) (o := .cells #[.slice A0_0 l0_0.length c0_0, .slice A0_1 l0_1.length c0_1] 25 (0, 0)) (Zb BK163.out)) : gb165 ≠ gb163)); have n10_ := Aside0.mk ((by rw [hg]; exact Nat.ne_of_lt (blk_lt (g := gb164) (o := .cells #[.int .i64 0, .int .i64 0, .slice none 0 0] 28 (0, 0)) (Zb BK164.out)) : gb164 ≠ gb165)); have n11_ := Aside0.mk ((by rw [hg]; exact Nat.ne_of_gt (blk_lt (g := gb164) (o := .cells #[.int .i64 0, .int .i64 0, .slice none 0 0] 28 (0, 0)) (Zb BK164.out)) : gb165 ≠ gb164)); clear HO0_0; clear HO0_1; clear BK163; clear BK164; clear HB; have HO0_0 := n0_; have HO0_1 := n1_; have BK163 := n2_; have BK164 := n3_; have HB := n4_; have BK165 := n5_; have GW165 := n6_; have GE165 := n7_; have NB163_165 := n8_; have NB165_163 := n9_; have NB164_165 := n10_; have NB165_164 := n11_; clear n0_ n1_ n2_ n3_ n4_ n5_ n6_ n7_ n8_ n9_ n10_ n11_; clear hb hbox hg; have hnb12 := NB163_164.out; have hnc12 := NB164_163.out; have hnb13 := NB163_165.out; have hnc13 := NB165_163.out; have hcz14_0 : w11.cell? ⟨gb163, 0, none⟩ = some (.slice A0_0 l0_0.length c0_0) := (blk_cell BK163.out 0).trans rfl; have hcz14_1 : w11.cell? ⟨gb163, 1, none⟩ = some (.slice A0_1 l0_1.length c0_1) := (blk_cell BK163.out 1).trans rfl; have hfz14_0 := blk_frozen BK163.out 0; have hfz14_1 := blk_frozen BK163.out 1) | ((with_reducible refine gate_callee (f := 35) rfl ?_); refine goesL_ (some 10) rfl rfl Try.func35 (by kernel_rfl) rfl #[.agg #[.slice A0_0 l0_0.length c0_0, .slice A0_1 l0_1.length c0_1], .int .i64 a1] rfl (by (try simp only [List.map_toArray, List.map_cons, List.map_nil]); first | done | rfl | (simp only [List.length_drop, List.length_take]; rfl)) ?_; (with_reducible refine (network_at.calls k (fun k_ => (((((P0_0_ k_ ∨ P0_1_ k_) ∨ w.heap.size ≤ k_) ∧ k_ ≠ gb163) ∧ k_ ≠ gb164) ∧ k_ ≠ gb165)) _ _ l0_0 _ _ l0_1 a1 t166 t167 t168 t171 _ ?side1 ?side2 ?side3 A3.out).mono ?_); (case side1 => exact HO0_0.out); (case side2 => repeat (first | exact (Kd.V_reads' HO0_1.out).2.2 | (with_reducible refine Kd.C_alloc ?_ _) | (with_reducible refine Kd.C_drewN ?_ _) | (with_reducible refine Kd.C_drew ?_))); (case side3 => exact (Kd.V_reads' HO0_1.out).2.1); rintro e w15 ⟨v169, rfl, ho0, hb⟩; refine ⟨_, rfl, ?_⟩; have n0_ := Aside0.mk (Kd.V_below (Zv HO0_0.out) hb); have n1_ := Aside0.mk (Kd.V_below (Zv HO0_1.out) hb); have n2_ := Aside0.mk (Kd.V_lower (Kd.V_mono (ok' := fun k_ => ((P0_0_ k_ ∨ P0_1_ k_) ∨ w.heap.size ≤ k_) ∧ k_ ≠ gb163 ∧ k_ ≠ gb164 ∧ k_ ≠ gb165) ho0 (fun k_ hk_ => ⟨Or.elim hk_ (fun hs_ => hs_.1.1.1) (fun hn_ => (.inr (Nat.le_trans (below_size (Z3 HB GE163 GE164 GE165)) hn_))), Or.elim hk_ (fun hs_ => hs_.1.1.2) (fun hn_ => (Kd.freshB (g := gb163) (o := .cells #[.slice A0_0 l0_0.length c0_0, .slice A0_1 l0_1.length c0_1] 25 (0, 0)) (Zb BK163.out) k_ hn_)), Or.elim hk_ (fun hs_ => hs_.1.2) (fun hn_ => (Kd.freshB (g := gb164) (o := .cells #[.int .i64 0, .int .i64 0, .slice none 0 0] 28 (0, 0)) (Zb BK164.out) k_ hn_)), Or.elim hk_ (fun hs_ => hs_.2) (fun hn_ => (Kd.freshB (g := gb165) (o := .cells #[.slice none 0 0, .slice none 0 0] 25 (0, 0)) (Zb BK165.out) k_ hn_))⟩)) (below_size (Z3 HB GE163 GE164 GE165))); have n3_ := Aside0.mk (blk_below (g := gb163) (o := .cells #[.slice A0_0 l0_0.length c0_0, .slice A0_1 l0_1.length c0_1] 25 (0, 0)) (Zb BK163.out) hb); have n4_ := Aside0.mk (blk_below (g := gb164) (o := .cells #[.int .i64 0, .int .i64 0, .slice none 0 0] 28 (0, 0)) (Zb BK164.out) hb); have n5_ := Aside0.mk (blk_below (g := gb165) (o := .cells #[.slice none 0 0, .slice none 0 0] 25 (0, 0)) (Zb BK165.out) hb); have n6_ := Aside0.mk (below_step (Z3 HB GE163 GE164 GE165) hb); clear HO0_0; clear HO0_1; clear BK163; clear BK164; clear BK165; clear HB; have HO0_0 := n0_; have HO0_1 := n1_; have HO170 := n2_; have BK163 := n3_; have BK164 := n4_; have BK165 := n5_; have HB := n6_; clear n0_ n1_ n2_ n3_ n4_ n5_ n6_; (try clear hb); (try clear hb2); (try clear hk); (try clear hi); (try clear ho0); have hnb16 := NB164_165.out; have hnc16 := NB165_164.out; have hcz17_0 : w15.cell? ⟨gb164, 0, none⟩ = some (.int .i64 0) := (blk_cell BK164.out 0).trans rfl; have hcz17_1 : w15.cell? ⟨gb164, 1, none⟩ = some (.int .i64 0) := (blk_cell BK164.out 1).trans rfl; have hcz17_2 : w15.cell? ⟨gb164, 2, none⟩ = some (.slice none 0 0) := (blk_cell BK164.out 2).trans rfl; have hfz17_0 := blk_frozen BK164.out 0; have hfz17_1 := blk_frozen BK164.out 1; have hfz17_2 := blk_frozen BK164.out 2; obtain ⟨Ao18, co18, eo18⟩ := Kd.V_slice HO170.out; subst eo18))
   have n0_ : Aside0 (Kd.V k28 28 (((w15.setCell ⟨gb164, 0, none⟩ (.int .i64 t166)).setCell ⟨gb164, 1, none⟩ (.int .i64 t167)).setCell ⟨gb164, 2, none⟩ (.slice Ao18 t168.length co18)) w.heap.size (fun k_ => ((P0_0_ k_ ∨ P0_1_ k_) ∨ w.heap.size ≤ k_) ∧ k_ ≠ gb163 ∧ k_ ≠ gb164 ∧ k_ ≠ gb165) (.slice A0_0 l0_0.length c0_0) l0_0) := ⟨by refine Zv ?_; exact Kd.V_mono (Kd.V_far (p := ⟨gb164, 2, none⟩) (Kd.V_far (p := ⟨gb164, 1, none⟩) (Kd.V_far (p := ⟨gb164, 0, none⟩) (Kd.V_mono HO0_0.out (fun k_ hk => (⟨hk, hk.1.2⟩ : _ ∧ k_ ≠ gb164))) (fun _ hk => hk.2) (.int .i64 t166)) (fun _ hk => hk.2) (.int .i64 t167)) (fun _ hk => hk.2) (.slice Ao18 t168.length co18)) (fun _ hk => ⟨hk.1.1.1.1, ⟨hk.1.1.1.2, ⟨hk.1.1.2, hk.1.2⟩⟩⟩)⟩
   have n1_ : Aside0 (Kd.V k55 55 (((w15.setCell ⟨gb164, 0, none⟩ (.int .i64 t166)).setCell ⟨gb164, 1, none⟩ (.int .i64 t167)).setCell ⟨gb164, 2, none⟩ (.slice Ao18 t168.length co18)) w.heap.size (fun k_ => ((P0_0_ k_ ∨ P0_1_ k_) ∨ w.heap.size ≤ k_) ∧ k_ ≠ gb163 ∧ k_ ≠ gb164 ∧ k_ ≠ gb165) (.slice A0_1 l0_1.length c0_1) l0_1) := ⟨by refine Zv ?_; exact Kd.V_mono (Kd.V_far (p := ⟨gb164, 2, none⟩) (Kd.V_far (p := ⟨gb164, 1, none⟩) (Kd.V_far (p := ⟨gb164, 0, none⟩) (Kd.V_mono HO0_1.out (fun k_ hk => (⟨hk, hk.1.2⟩ : _ ∧ k_ ≠ gb164))) (fun _ hk => hk.2) (.int .i64 t166)) (fun _ hk => hk.2) (.int .i64 t167)) (fun _ hk => hk.2) (.slice Ao18 t168.length co18)) (fun _ hk => ⟨hk.1.1.1.1, ⟨hk.1.1.1.2, ⟨hk.1.1.2, hk.1.2⟩⟩⟩)⟩
   have n2_ : Aside0 (Kd.V (Kd.int .u8) 5 (((w15.setCell ⟨gb164, 0, none⟩ (.int .i64 t166)).setCell ⟨gb164, 1, none⟩ (.int .i64 t167)).setCell ⟨gb164, 2, none⟩ (.slice Ao18 t168.length co18)) w.heap.size (fun k_ => ((P0_0_ k_ ∨ P0_1_ k_) ∨ w.heap.size ≤ k_) ∧ k_ ≠ gb163 ∧ k_ ≠ gb164 ∧ k_ ≠ gb165) (.slice Ao18 t168.length co18) t168) := ⟨by refine Zv ?_; exact Kd.V_mono (Kd.V_far (p := ⟨gb164, 2, none⟩) (Kd.V_far (p := ⟨gb164, 1, none⟩) (Kd.V_far (p := ⟨gb164, 0, none⟩) (Kd.V_mono HO170.out (fun k_ hk => (⟨hk, hk.2.2.1⟩ : _ ∧ k_ ≠ gb164))) (fun _ hk => hk.2) (.int .i64 t166)) (fun _ hk => hk.2) (.int .i64 t167)) (fun _ hk => hk.2) (.slice Ao18 t168.length co18)) (fun _ hk => ⟨hk.1.1, ⟨hk.1.2.1, ⟨hk.1.2.2.1, hk.1.2.2.2⟩⟩⟩)⟩
   have n3_ : Aside0 ((((w15.setCell ⟨gb164, 0, none⟩ (.int .i64 t166)).setCell ⟨gb164, 1, none⟩ (.int .i64 t167)).setCell ⟨gb164, 2, none⟩ (.slice Ao18 t168.length co18)).heap[gb163]? = some (.cells #[.slice A0_0 l0_0.length c0_0, .slice A0_1 l0_1.length c0_1] 25 (0, 0))) := ⟨by refine Zb ?_; refine blk_far ?_ NB163_164.out _; refine Zb ?_; refine blk_far ?_ NB163_164.out _; refine Zb ?_; refine blk_far ?_ NB163_164.out _; refine Zb ?_; exact BK163.out⟩
   have n4_ : Aside0 ((((w15.setCell ⟨gb164, 0, none⟩ (.int .i64 t166)).setCell ⟨gb164, 1, none⟩ (.int .i64 t167)).setCell ⟨gb164, 2, none⟩ (.slice Ao18 t168.length co18)).heap[gb164]? = some (.cells #[.int .i64 t166, .int .i64 t167, .slice Ao18 t168.length co18] 28 (0, 0))) := ⟨by refine Zb ?_; refine blk_put (cs := #[.int .i64 t166, .int .i64 t167, .slice none 0 0]) ?_ 2 _ rfl; refine Zb ?_; refine blk_put (cs := #[.int .i64 t166, .int .i64 0, .slice none 0 0]) ?_ 1 _ rfl; refine Zb ?_; refine blk_put (cs := #[.int .i64 0, .int .i64 0, .slice none 0 0]) ?_ 0 _ rfl; refine Zb ?_; exact BK164.out⟩
   have n5_ : Aside0 ((((w15.setCell ⟨gb164, 0, none⟩ (.int .i64 t166)).setCell ⟨gb164, 1, none⟩ (.int .i64 t167)).setCell ⟨gb164, 2, none⟩ (.slice Ao18 t168.length co18)).heap[gb165]? = some (.cells #[.slice none 0 0, .slice none 0 0] 25 (0, 0))) := ⟨by refine Zb ?_; refine blk_far ?_ NB165_164.out _; refine Zb ?_; refine blk_far ?_ NB165_164.out _; refine Zb ?_; refine blk_far ?_ NB165_164.out _; refine Zb ?_; exact BK165.out⟩
   have n6_ : Aside0 (Below w.heap.size w (((w15.setCell ⟨gb164, 0, none⟩ (.int .i64 t166)).setCell ⟨gb164, 1, none⟩ (.int .i64 t167)).setCell ⟨gb164, 2, none⟩ (.slice Ao18 t168.length co18))) := ⟨(Z3 HB GE163 GE164 GE165)⟩
   (try clear HO0_0)
   (try clear HO0_1)
   (try clear HO170)
   (try clear BK163)
   (try clear BK164)
   (try clear BK165)
   (try clear HB)
   generalize (((w15.setCell ⟨gb164, 0, none⟩ (.int .i64 t166)).setCell ⟨gb164, 1, none⟩ (.int .i64 t167)).setCell ⟨gb164, 2, none⟩ (.slice Ao18 t168.length co18)) = w19 at n0_ n1_ n2_ n3_ n4_ n5_ n6_ ⊢
   have HO0_0 := n0_
   have HO0_1 := n1_
   have HO170 := n2_
   have BK163 := n3_
   have BK164 := n4_
   have BK165 := n5_
   have HB := n6_
   clear n0_ n1_ n2_ n3_ n4_ n5_ n6_
   have n0_ := Aside0.mk (Kd.V_drew HO0_0.out)
   have n1_ := Aside0.mk (Kd.V_drew HO0_1.out)
   have n2_ := Aside0.mk (Kd.V_drew HO170.out)
   have n3_ := Aside0.mk (blk_drew BK163.out)
   have n4_ := Aside0.mk (blk_drew BK164.out)
   have n5_ := Aside0.mk (blk_drew BK165.out)
   have n6_ := Aside0.mk (below_drew1 HB.out)
   clear HO0_0
   clear HO0_1
   clear HO170
   clear BK163
   clear BK164
   clear BK165
   clear HB
   have HO0_0 := n0_
   have HO0_1 := n1_
   have HO170 := n2_
   have BK163 := n3_
   have BK164 := n4_
   have BK165 := n5_
   have HB := n6_
   clear n0_ n1_ n2_ n3_ n4_ n5_ n6_
   refine start_ (n := 8) (S := fun w' => w'.cell? ⟨gb163, 0, none⟩ = some (.slice A0_0 l0_0.length c0_0) ∧ w'.cell? ⟨gb163, 1, none⟩ = some (.slice A0_1 l0_1.length c0_1) ∧ w'.cell? ⟨gb164, 0, none⟩ = some (.int .i64 t166) ∧ w'.cell? ⟨gb164, 1, none⟩ = some (.int .i64 t167) ∧ w'.cell? ⟨gb164, 2, none⟩ = some (.slice Ao18 t168.length co18)) (ds := []) #[false, false, false, false, false, false, false, false] (by kernel_rfl) rfl rfl ⟨(blk_cell BK163.out 0).trans rfl, (blk_cell BK163.out 1).trans rfl, (blk_cell BK164.out 0).trans rfl, (blk_cell BK164.out 1).trans rfl, (blk_cell BK164.out 2).trans rfl⟩ (fun hHeld => ?_); refine with_tabW network_Deliver.tab4 network_Deliver.bits4 (fun HT_ HW_ => ?_)
   generalize w19.drew = w20 at HO0_0 HO0_1 HO170 BK163 BK164 BK165 HB hHeld ⊢
   refine pure_ (i := 0) (N := some 18) (v := ?_) (a' := ?_) #[true, false, false, false, false, false, false, false] rfl rfl (any_of HT_.out (by kernel_rfl)) (fun _ _ _ h => h) (Or.inl ⟨by rfl, ?_⟩) ?_ ?_
   rotate_left
   ·intro w'
    go_simp
    with_reducible rfl
   rotate_left
   ·simp only [Act.put, List.setIfInBounds_toArray, List.set_cons_zero, List.set_cons_succ, i64_w, i32_w]
    rfl
   refine pure_ (i := 2) (N := some 20) (v := ?_) (a' := ?_) #[true, false, true, false, false, false, false, false] rfl rfl (any_of HT_.out (by kernel_rfl)) (fun _ _ _ h => h) (Or.inl ⟨by rfl, ?_⟩) ?_ ?_
   rotate_left
   ·intro w'
    go_simp
    with_reducible rfl
   rotate_left
   ·simp only [Act.put, List.setIfInBounds_toArray, List.set_cons_zero, List.set_cons_succ, i64_w, i32_w]
    rfl
   refine pure_ (i := 4) (N := some 22) (v := ?_) (a' := ?_) #[true, false, true, false, true, false, false, false] rfl rfl (any_of HT_.out (by kernel_rfl)) (fun _ _ _ h => h) (Or.inl ⟨by rfl, ?_⟩) ?_ ?_
   rotate_left
   ·intro w'
    go_simp
    with_reducible rfl
   rotate_left
   ·simp only [Act.put, List.setIfInBounds_toArray, List.set_cons_zero, List.set_cons_succ, i64_w, i32_w]
    rfl
   refine take_ (i := 1) (N := some 19) (v := ?_) (a' := ?_) #[true, true, true, false, true, false, false, false] rfl rfl (take_ofW HT_.out HW_.out (by kernel_rfl)) (fun _ _ _ h => h) (Or.inl ⟨by rfl, ?_⟩) hHeld ?_ ?_
   rotate_left
   ·rintro w' ⟨s0, s1, s2, s3, s4⟩
    go_simp
    with_reducible rfl
   rotate_left
   ·simp only [Act.put, List.setIfInBounds_toArray, List.set_cons_zero, List.set_cons_succ, i64_w, i32_w]
    rfl
   refine take_ (i := 3) (N := some 21) (v := ?_) (a' := ?_) #[true, true, true, true, true, false, false, false] rfl rfl (take_ofW HT_.out HW_.out (by kernel_rfl)) (fun _ _ _ h => h) (Or.inl ⟨by rfl, ?_⟩) hHeld ?_ ?_
   rotate_left
   ·rintro w' ⟨s0, s1, s2, s3, s4⟩
    go_simp
    with_reducible rfl
   rotate_left
   ·simp only [Act.put, List.setIfInBounds_toArray, List.set_cons_zero, List.set_cons_succ, i64_w, i32_w]
    rfl
   refine take_ (i := 5) (N := some 23) (v := ?_) (a' := ?_) #[true, true, true, true, true, true, false, false] rfl rfl (take_ofW HT_.out HW_.out (by kernel_rfl)) (fun _ _ _ h => h) (Or.inl ⟨by rfl, ?_⟩) hHeld ?_ ?_
   rotate_left
   ·rintro w' ⟨s0, s1, s2, s3, s4⟩
    go_simp
    with_reducible rfl
   rotate_left
   ·simp only [Act.put, List.setIfInBounds_toArray, List.set_cons_zero, List.set_cons_succ, i64_w, i32_w]
    rfl
   refine one_ (i := 6) (N := some 24) #[true, true, true, true, true, true, true, false] rfl rfl (one_of HT_.out (by kernel_rfl)) (by decide) (fun K hK => ?_)
   refine goes_ Try.func37 (by kernel_rfl) rfl #[.int .i64 t166, .int .i64 t167] (by rfl) rfl rfl (by (try simp only [List.map_toArray, List.map_cons, List.map_nil]); first | done | rfl | (simp only [List.length_drop, List.length_take]; rfl)) ?_
   with_reducible refine (network_between.calls t166 t167 t172 t173 _ A5.out).mono ?_
   rintro e w21 ⟨rfl, hb⟩
   refine ⟨_, rfl, ?_⟩
   have n0_ := Aside0.mk (Kd.V_below (Zv HO0_0.out) hb)
   have n1_ := Aside0.mk (Kd.V_below (Zv HO0_1.out) hb)
   have n2_ := Aside0.mk (Kd.V_below (Zv HO170.out) hb)
   have n3_ := Aside0.mk (blk_below (g := gb163) (o := .cells #[.slice A0_0 l0_0.length c0_0, .slice A0_1 l0_1.length c0_1] 25 (0, 0)) (Zb BK163.out) hb)
   have n4_ := Aside0.mk (blk_below (g := gb164) (o := .cells #[.int .i64 t166, .int .i64 t167, .slice Ao18 t168.length co18] 28 (0, 0)) (Zb BK164.out) hb)
   have n5_ := Aside0.mk (blk_below (g := gb165) (o := .cells #[.slice none 0 0, .slice none 0 0] 25 (0, 0)) (Zb BK165.out) hb)
   have n6_ := Aside0.mk (below_step (Z3 HB GE163 GE164 GE165) hb)
   clear HO0_0
   clear HO0_1
   clear HO170
   clear BK163
   clear BK164
   clear BK165
   clear HB
   have HO0_0 := n0_
   have HO0_1 := n1_
   have HO170 := n2_
   have BK163 := n3_
   have BK164 := n4_
   have BK165 := n5_
   have HB := n6_
   clear n0_ n1_ n2_ n3_ n4_ n5_ n6_
   (try clear hb)
   (try clear hb2)
   (try clear hk)
   (try clear hi)
   refine hK.out _ _ ⟨(blk_cell BK163.out 0).trans rfl, (blk_cell BK163.out 1).trans rfl, (blk_cell BK164.out 0).trans rfl, (blk_cell BK164.out 1).trans rfl, (blk_cell BK164.out 2).trans rfl⟩ (fun hHeld => ?_)
   clear hK K
   refine norm_ (a' := ?_) ?_ ?_
   rotate_left
   ·show Act.put _ (some 24) _ = _
    simp only [Act.put, List.setIfInBounds_toArray, List.set_cons_zero, List.set_cons_succ, i64_w, i32_w]
    rfl
   refine one_ (i := 7) (N := some 25) #[true, true, true, true, true, true, true, true] rfl rfl (one_of HT_.out (by kernel_rfl)) (by decide) (fun K hK => ?_)
   refine goes_ Try.func36 (by kernel_rfl) rfl #[.slice A0_1 l0_1.length c0_1, .agg #[.int .i64 t172, .int .i64 t173]] (by rfl) rfl rfl (by (try simp only [List.map_toArray, List.map_cons, List.map_nil]); first | done | rfl | (simp only [List.length_drop, List.length_take]; rfl)) ?_
   with_reducible refine (slices_Contains_2_int_2_int.calls k _ _ l0_1 t172 t173 true _ ?side1 ?side2 A6.out).mono ?_
   (case side1 => repeat (first | exact (Kd.V_reads' HO0_1.out).2.2 | (with_reducible refine Kd.C_alloc ?_ _) | (with_reducible refine Kd.C_drewN ?_ _) | (with_reducible refine Kd.C_drew ?_)))
   (case side2 => exact (Kd.V_reads' HO0_1.out).2.1)
   rintro e w22 ⟨rfl, hb⟩
   refine ⟨_, rfl, ?_⟩
   have n0_ := Aside0.mk (Kd.V_below (Zv HO0_0.out) hb)
   have n1_ := Aside0.mk (Kd.V_below (Zv HO0_1.out) hb)
   have n2_ := Aside0.mk (Kd.V_below (Zv HO170.out) hb)
   have n3_ := Aside0.mk (blk_below (g := gb163) (o := .cells #[.slice A0_0 l0_0.length c0_0, .slice A0_1 l0_1.length c0_1] 25 (0, 0)) (Zb BK163.out) hb)
   have n4_ := Aside0.mk (blk_below (g := gb164) (o := .cells #[.int .i64 t166, .int .i64 t167, .slice Ao18 t168.length co18] 28 (0, 0)) (Zb BK164.out) hb)
   have n5_ := Aside0.mk (blk_below (g := gb165) (o := .cells #[.slice none 0 0, .slice none 0 0] 25 (0, 0)) (Zb BK165.out) hb)
   have n6_ := Aside0.mk (below_step (Z3 HB GE163 GE164 GE165) hb)
   clear HO0_0
   clear HO0_1
   clear HO170
   clear BK163
   clear BK164
   clear BK165
   clear HB
   have HO0_0 := n0_
   have HO0_1 := n1_
   have HO170 := n2_
   have BK163 := n3_
   have BK164 := n4_
   have BK165 := n5_
   have HB := n6_
   clear n0_ n1_ n2_ n3_ n4_ n5_ n6_
   (try clear hb)
   (try clear hb2)
   (try clear hk)
   (try clear hi)
   refine hK.out _ _ ⟨(blk_cell BK163.out 0).trans rfl, (blk_cell BK163.out 1).trans rfl, (blk_cell BK164.out 0).trans rfl, (blk_cell BK164.out 1).trans rfl, (blk_cell BK164.out 2).trans rfl⟩ (fun hHeld => ?_)
   clear hK K
   refine norm_ (a' := ?_) ?_ ?_
   rotate_left
   ·show Act.put _ (some 25) _ = _
    simp only [Act.put, List.setIfInBounds_toArray, List.set_cons_zero, List.set_cons_succ, i64_w, i32_w]
    rfl
   refine done_ (done_of HT_.out (by kernel_rfl)) ?_
   have hcz23_0 : w22.cell? ⟨gb164, 0, none⟩ = some (.int .i64 t166) := (blk_cell BK164.out 0).trans rfl
   have hcz23_1 : w22.cell? ⟨gb164, 1, none⟩ = some (.int .i64 t167) := (blk_cell BK164.out 1).trans rfl
   have hcz23_2 : w22.cell? ⟨gb164, 2, none⟩ = some (.slice Ao18 t168.length co18) := (blk_cell BK164.out 2).trans rfl
   have hfz23_0 := blk_frozen BK164.out 0
   have hfz23_1 := blk_frozen BK164.out 1
   have hfz23_2 := blk_frozen BK164.out 2
   try go_wp2
   have n0_ : Aside0 (Kd.V k28 28 (((w22.setCell ⟨gb164, 0, none⟩ (.int .i64 0)).setCell ⟨gb164, 1, none⟩ (.int .i64 0)).setCell ⟨gb164, 2, none⟩ (.slice none 0 0)) w.heap.size (fun k_ => ((P0_0_ k_ ∨ P0_1_ k_) ∨ w.heap.size ≤ k_) ∧ k_ ≠ gb163 ∧ k_ ≠ gb164 ∧ k_ ≠ gb165) (.slice A0_0 l0_0.length c0_0) l0_0) := ⟨by refine Zv ?_; exact Kd.V_mono (Kd.V_far (p := ⟨gb164, 2, none⟩) (Kd.V_far (p := ⟨gb164, 1, none⟩) (Kd.V_far (p := ⟨gb164, 0, none⟩) (Kd.V_mono HO0_0.out (fun k_ hk => (⟨hk, hk.2.2.1⟩ : _ ∧ k_ ≠ gb164))) (fun _ hk => hk.2) (.int .i64 0)) (fun _ hk => hk.2) (.int .i64 0)) (fun _ hk => hk.2) (.slice none 0 0)) (fun _ hk => ⟨hk.1.1, ⟨hk.1.2.1, ⟨hk.1.2.2.1, hk.1.2.2.2⟩⟩⟩)⟩
   have n1_ : Aside0 (Kd.V k55 55 (((w22.setCell ⟨gb164, 0, none⟩ (.int .i64 0)).setCell ⟨gb164, 1, none⟩ (.int .i64 0)).setCell ⟨gb164, 2, none⟩ (.slice none 0 0)) w.heap.size (fun k_ => ((P0_0_ k_ ∨ P0_1_ k_) ∨ w.heap.size ≤ k_) ∧ k_ ≠ gb163 ∧ k_ ≠ gb164 ∧ k_ ≠ gb165) (.slice A0_1 l0_1.length c0_1) l0_1) := ⟨by refine Zv ?_; exact Kd.V_mono (Kd.V_far (p := ⟨gb164, 2, none⟩) (Kd.V_far (p := ⟨gb164, 1, none⟩) (Kd.V_far (p := ⟨gb164, 0, none⟩) (Kd.V_mono HO0_1.out (fun k_ hk => (⟨hk, hk.2.2.1⟩ : _ ∧ k_ ≠ gb164))) (fun _ hk => hk.2) (.int .i64 0)) (fun _ hk => hk.2) (.int .i64 0)) (fun _ hk => hk.2) (.slice none 0 0)) (fun _ hk => ⟨hk.1.1, ⟨hk.1.2.1, ⟨hk.1.2.2.1, hk.1.2.2.2⟩⟩⟩)⟩
   have n2_ : Aside0 (Kd.V (Kd.int .u8) 5 (((w22.setCell ⟨gb164, 0, none⟩ (.int .i64 0)).setCell ⟨gb164, 1, none⟩ (.int .i64 0)).setCell ⟨gb164, 2, none⟩ (.slice none 0 0)) w.heap.size (fun k_ => ((P0_0_ k_ ∨ P0_1_ k_) ∨ w.heap.size ≤ k_) ∧ k_ ≠ gb163 ∧ k_ ≠ gb164 ∧ k_ ≠ gb165) (.slice Ao18 t168.length co18) t168) := ⟨by refine Zv ?_; exact Kd.V_mono (Kd.V_far (p := ⟨gb164, 2, none⟩) (Kd.V_far (p := ⟨gb164, 1, none⟩) (Kd.V_far (p := ⟨gb164, 0, none⟩) (Kd.V_mono HO170.out (fun k_ hk => (⟨hk, hk.2.2.1⟩ : _ ∧ k_ ≠ gb164))) (fun _ hk => hk.2) (.int .i64 0)) (fun _ hk => hk.2) (.int .i64 0)) (fun _ hk => hk.2) (.slice none 0 0)) (fun _ hk => ⟨hk.1.1, ⟨hk.1.2.1, ⟨hk.1.2.2.1, hk.1.2.2.2⟩⟩⟩)⟩
   have n3_ : Aside0 ((((w22.setCell ⟨gb164, 0, none⟩ (.int .i64 0)).setCell ⟨gb164, 1, none⟩ (.int .i64 0)).setCell ⟨gb164, 2, none⟩ (.slice none 0 0)).heap[gb163]? = some (.cells #[.slice A0_0 l0_0.length c0_0, .slice A0_1 l0_1.length c0_1] 25 (0, 0))) := ⟨by refine Zb ?_; refine blk_far ?_ NB163_164.out _; refine Zb ?_; refine blk_far ?_ NB163_164.out _; refine Zb ?_; refine blk_far ?_ NB163_164.out _; refine Zb ?_; exact BK163.out⟩
   have n4_ : Aside0 ((((w22.setCell ⟨gb164, 0, none⟩ (.int .i64 0)).setCell ⟨gb164, 1, none⟩ (.int .i64 0)).setCell ⟨gb164, 2, none⟩ (.slice none 0 0)).heap[gb164]? = some (.cells #[.int .i64 0, .int .i64 0, .slice none 0 0] 28 (0, 0))) := ⟨by refine Zb ?_; refine blk_put (cs := #[.int .i64 0, .int .i64 0, .slice Ao18 t168.length co18]) ?_ 2 _ rfl; refine Zb ?_; refine blk_put (cs := #[.int .i64 0, .int .i64 t167, .slice Ao18 t168.length co18]) ?_ 1 _ rfl; refine Zb ?_; refine blk_put (cs := #[.int .i64 t166, .int .i64 t167, .slice Ao18 t168.length co18]) ?_ 0 _ rfl; refine Zb ?_; exact BK164.out⟩
   have n5_ : Aside0 ((((w22.setCell ⟨gb164, 0, none⟩ (.int .i64 0)).setCell ⟨gb164, 1, none⟩ (.int .i64 0)).setCell ⟨gb164, 2, none⟩ (.slice none 0 0)).heap[gb165]? = some (.cells #[.slice none 0 0, .slice none 0 0] 25 (0, 0))) := ⟨by refine Zb ?_; refine blk_far ?_ NB165_164.out _; refine Zb ?_; refine blk_far ?_ NB165_164.out _; refine Zb ?_; refine blk_far ?_ NB165_164.out _; refine Zb ?_; exact BK165.out⟩
   have n6_ : Aside0 (Below w.heap.size w (((w22.setCell ⟨gb164, 0, none⟩ (.int .i64 0)).setCell ⟨gb164, 1, none⟩ (.int .i64 0)).setCell ⟨gb164, 2, none⟩ (.slice none 0 0))) := ⟨(Z3 HB GE163 GE164 GE165)⟩
   (try clear HO0_0)
   (try clear HO0_1)
   (try clear HO170)
   (try clear BK163)
   (try clear BK164)
   (try clear BK165)
   (try clear HB)
   generalize (((w22.setCell ⟨gb164, 0, none⟩ (.int .i64 0)).setCell ⟨gb164, 1, none⟩ (.int .i64 0)).setCell ⟨gb164, 2, none⟩ (.slice none 0 0)) = w24 at n0_ n1_ n2_ n3_ n4_ n5_ n6_ ⊢
   have HO0_0 := n0_
   have HO0_1 := n1_
   have HO170 := n2_
   have BK163 := n3_
   have BK164 := n4_
   have BK165 := n5_
   have HB := n6_
   clear n0_ n1_ n2_ n3_ n4_ n5_ n6_
   have n0_ := Aside0.mk (Kd.V_drew HO0_0.out)
   have n1_ := Aside0.mk (Kd.V_drew HO0_1.out)
   have n2_ := Aside0.mk (Kd.V_drew HO170.out)
   have n3_ := Aside0.mk (blk_drew BK163.out)
   have n4_ := Aside0.mk (blk_drew BK164.out)
   have n5_ := Aside0.mk (blk_drew BK165.out)
   have n6_ := Aside0.mk (below_drew1 HB.out)
   clear HO0_0
   clear HO0_1
   clear HO170
   clear BK163
   clear BK164
   clear BK165
   clear HB
   have HO0_0 := n0_
   have HO0_1 := n1_
   have HO170 := n2_
   have BK163 := n3_
   have BK164 := n4_
   have BK165 := n5_
   have HB := n6_
   clear n0_ n1_ n2_ n3_ n4_ n5_ n6_
   refine start_ (n := 7) (S := fun w' => w'.cell? ⟨gb164, 0, none⟩ = some (.int .i64 0) ∧ w'.cell? ⟨gb164, 1, none⟩ = some (.int .i64 0) ∧ w'.cell? ⟨gb164, 2, none⟩ = some (.slice none 0 0) ∧ w'.cell? ⟨gb163, 0, none⟩ = some (.slice A0_0 l0_0.length c0_0) ∧ w'.cell? ⟨gb163, 1, none⟩ = some (.slice A0_1 l0_1.length c0_1)) (ds := []) #[false, false, false, false, false, false, false] (by kernel_rfl) rfl rfl ⟨(blk_cell BK164.out 0).trans rfl, (blk_cell BK164.out 1).trans rfl, (blk_cell BK164.out 2).trans rfl, (blk_cell BK163.out 0).trans rfl, (blk_cell BK163.out 1).trans rfl⟩ (fun hHeld => ?_)
   generalize w24.drew = w25 at HO0_0 HO0_1 HO170 BK163 BK164 BK165 HB hHeld ⊢
   refine pure_ (i := 2) (N := some 29) (v := ?_) (a' := ?_) #[false, false, true, false, false, false, false] rfl rfl (by kernel_rfl) (fun _ _ _ h => h) (Or.inl ⟨by rfl, ?_⟩) ?_ ?_
   rotate_left
   ·intro w'
    go_simp
    with_reducible rfl
   rotate_left
   ·simp only [Act.put, List.setIfInBounds_toArray, List.set_cons_zero, List.set_cons_succ, i64_w, i32_w]
    rfl
   refine take_ (i := 0) (N := some 27) (v := ?_) (a' := ?_) #[true, false, true, false, false, false, false] rfl rfl (by kernel_rfl) (fun _ _ _ h => h) (Or.inl ⟨by rfl, ?_⟩) hHeld ?_ ?_
   rotate_left
   ·rintro w' ⟨s0, s1, s2, s3, s4⟩
    go_simp
    with_reducible rfl
   rotate_left
   ·simp only [Act.put, List.setIfInBounds_toArray, List.set_cons_zero, List.set_cons_succ, i64_w, i32_w]
    rfl
   refine take_ (i := 1) (N := some 28) (v := ?_) (a' := ?_) #[true, true, true, false, false, false, false] rfl rfl (by kernel_rfl) (fun _ _ _ h => h) (Or.inl ⟨by rfl, ?_⟩) hHeld ?_ ?_
   rotate_left
   ·rintro w' ⟨s0, s1, s2, s3, s4⟩
    go_simp
    with_reducible rfl
   rotate_left
   ·simp only [Act.put, List.setIfInBounds_toArray, List.set_cons_zero, List.set_cons_succ, i64_w, i32_w]
    rfl
   refine one_ (i := 3) (N := some 30) #[true, true, true, true, false, false, false] rfl rfl (by kernel_rfl) (by decide) (fun K hK => ?_)
   refine goes_ Try.func38 (by kernel_rfl) rfl #[.agg #[.slice A0_0 l0_0.length c0_0, .slice A0_1 l0_1.length c0_1], .int .i64 a1] (by rfl) rfl rfl (by (try simp only [List.map_toArray, List.map_cons, List.map_nil]); first | done | rfl | (simp only [List.length_drop, List.length_take]; rfl)) ?_
   with_reducible refine (network_without.calls (fun k_ => (((P0_0_ k_ ∨ P0_1_ k_) ∨ w.heap.size ≤ k_) ∧ (k_ ≠ gb163 ∧ (k_ ≠ gb164 ∧ k_ ≠ gb165)))) _ _ l0_0 (fun k_ => (((P0_0_ k_ ∨ P0_1_ k_) ∨ w.heap.size ≤ k_) ∧ (k_ ≠ gb163 ∧ (k_ ≠ gb164 ∧ k_ ≠ gb165)))) _ _ l0_1 a1 t175 t178 _ ?side1 ?side2 A8.out).mono ?_
   (case side1 => exact HO0_0.out)
   (case side2 => exact HO0_1.out)
   rintro e w26 ⟨v176, v179, rfl, ho0, ho1, hb⟩
   refine ⟨_, rfl, ?_⟩
   have n0_ := Aside0.mk (Kd.V_below (Zv HO0_0.out) hb)
   have n1_ := Aside0.mk (Kd.V_below (Zv HO0_1.out) hb)
   have n2_ := Aside0.mk (Kd.V_below (Zv HO170.out) hb)
   have n3_ := Aside0.mk (Kd.V_lower (Kd.V_mono (ok' := fun k_ => ((P0_0_ k_ ∨ P0_1_ k_) ∨ w.heap.size ≤ k_) ∧ k_ ≠ gb163 ∧ k_ ≠ gb164 ∧ k_ ≠ gb165) ho0 (fun k_ hk_ => ⟨Or.elim hk_ (fun hs_ => Or.elim hs_ (fun hs_ => hs_.1) (fun hs_ => hs_.1)) (fun hn_ => (.inr (Nat.le_trans (below_size (Z3 HB GE163 GE164 GE165)) hn_))), Or.elim hk_ (fun hs_ => Or.elim hs_ (fun hs_ => hs_.2.1) (fun hs_ => hs_.2.1)) (fun hn_ => (Kd.freshB (g := gb163) (o := .cells #[.slice A0_0 l0_0.length c0_0, .slice A0_1 l0_1.length c0_1] 25 (0, 0)) (Zb BK163.out) k_ hn_)), Or.elim hk_ (fun hs_ => Or.elim hs_ (fun hs_ => hs_.2.2.1) (fun hs_ => hs_.2.2.1)) (fun hn_ => (Kd.freshB (g := gb164) (o := .cells #[.int .i64 0, .int .i64 0, .slice none 0 0] 28 (0, 0)) (Zb BK164.out) k_ hn_)), Or.elim hk_ (fun hs_ => Or.elim hs_ (fun hs_ => hs_.2.2.2) (fun hs_ => hs_.2.2.2)) (fun hn_ => (Kd.freshB (g := gb165) (o := .cells #[.slice none 0 0, .slice none 0 0] 25 (0, 0)) (Zb BK165.out) k_ hn_))⟩)) (below_size (Z3 HB GE163 GE164 GE165)))
   have n4_ := Aside0.mk (Kd.V_lower (Kd.V_mono (ok' := fun k_ => ((P0_0_ k_ ∨ P0_1_ k_) ∨ w.heap.size ≤ k_) ∧ k_ ≠ gb163 ∧ k_ ≠ gb164 ∧ k_ ≠ gb165) ho1 (fun k_ hk_ => ⟨Or.elim hk_ (fun hs_ => Or.elim hs_ (fun hs_ => hs_.1) (fun hs_ => hs_.1)) (fun hn_ => (.inr (Nat.le_trans (below_size (Z3 HB GE163 GE164 GE165)) hn_))), Or.elim hk_ (fun hs_ => Or.elim hs_ (fun hs_ => hs_.2.1) (fun hs_ => hs_.2.1)) (fun hn_ => (Kd.freshB (g := gb163) (o := .cells #[.slice A0_0 l0_0.length c0_0, .slice A0_1 l0_1.length c0_1] 25 (0, 0)) (Zb BK163.out) k_ hn_)), Or.elim hk_ (fun hs_ => Or.elim hs_ (fun hs_ => hs_.2.2.1) (fun hs_ => hs_.2.2.1)) (fun hn_ => (Kd.freshB (g := gb164) (o := .cells #[.int .i64 0, .int .i64 0, .slice none 0 0] 28 (0, 0)) (Zb BK164.out) k_ hn_)), Or.elim hk_ (fun hs_ => Or.elim hs_ (fun hs_ => hs_.2.2.2) (fun hs_ => hs_.2.2.2)) (fun hn_ => (Kd.freshB (g := gb165) (o := .cells #[.slice none 0 0, .slice none 0 0] 25 (0, 0)) (Zb BK165.out) k_ hn_))⟩)) (below_size (Z3 HB GE163 GE164 GE165)))
   have n5_ := Aside0.mk (blk_below (g := gb163) (o := .cells #[.slice A0_0 l0_0.length c0_0, .slice A0_1 l0_1.length c0_1] 25 (0, 0)) (Zb BK163.out) hb)
   have n6_ := Aside0.mk (blk_below (g := gb164) (o := .cells #[.int .i64 0, .int .i64 0, .slice none 0 0] 28 (0, 0)) (Zb BK164.out) hb)
   have n7_ := Aside0.mk (blk_below (g := gb165) (o := .cells #[.slice none 0 0, .slice none 0 0] 25 (0, 0)) (Zb BK165.out) hb)
   have n8_ := Aside0.mk (below_step (Z3 HB GE163 GE164 GE165) hb)
   clear HO0_0
   clear HO0_1
   clear HO170
   clear BK163
   clear BK164
   clear BK165
   clear HB
   have HO0_0 := n0_
   have HO0_1 := n1_
   have HO170 := n2_
   have HO177 := n3_
   have HO180 := n4_
   have BK163 := n5_
   have BK164 := n6_
   have BK165 := n7_
   have HB := n8_
   clear n0_ n1_ n2_ n3_ n4_ n5_ n6_ n7_ n8_
   (try clear hb)
   (try clear hb2)
   (try clear hk)
   (try clear hi)
   (try clear ho0)
   (try clear ho1)
   obtain ⟨Ao27, co27, eo27⟩ := Kd.V_slice HO177.out
   (first | subst eo27 | (injection eo27 with f1_ f2_ f3_; have f4_ := f1_.symm; have f5_ := f3_.symm; clear f1_ f2_ f3_; subst f4_; subst f5_))
   obtain ⟨Ao29, co29, eo29⟩ := Kd.V_slice HO180.out
   (first | subst eo29 | (injection eo29 with f1_ f2_ f3_; have f4_ := f1_.symm; have f5_ := f3_.symm; clear f1_ f2_ f3_; subst f4_; subst f5_))
   refine hK.out _ _ ⟨(blk_cell BK164.out 0).trans rfl, (blk_cell BK164.out 1).trans rfl, (blk_cell BK164.out 2).trans rfl, (blk_cell BK163.out 0).trans rfl, (blk_cell BK163.out 1).trans rfl⟩ (fun hHeld => ?_)
   clear hK K
   refine norm_ (a' := ?_) ?_ ?_
   rotate_left
   ·show Act.put _ (some 30) _ = _
    simp only [Act.put, List.setIfInBounds_toArray, List.set_cons_zero, List.set_cons_succ, i64_w, i32_w]
    rfl
   refine one_ (i := 4) (N := none) #[true, true, true, true, true, false, false] rfl rfl (by kernel_rfl) (by decide) (fun K hK => ?_)
   have hso0 := hHeld.1
   have hfo0 := blk_frozen BK164.out 0
   have hso1 := hHeld.2.1
   have hfo1 := blk_frozen BK164.out 1
   have hso2 := hHeld.2.2.1
   have hfo2 := blk_frozen BK164.out 2
   refine skip_ (w1 := ?_) (by rfl) rfl ?_ ?_
   rotate_left
   ·go_simp
    rw [set_same hso0, set_same hso1, set_same hso2]
   refine hK.out _ _ hHeld (fun hHeld => ?_)
   clear hK K hso0 hfo0 hso1 hfo1 hso2 hfo2
   refine one_ (i := 5) (N := none) #[true, true, true, true, true, true, false] rfl rfl (by kernel_rfl) (by decide) (fun K hK => ?_)
   have hs28 : w26.cell? ⟨gb165, 0, none⟩ = some (.slice none 0 0) := (blk_cell BK165.out 0).trans rfl
   have hfs28 := blk_frozen BK165.out 0
   have hns28_0 := NB163_165.out
   have hns28_1 := NB164_165.out
   have hms28_0 := NB165_163.out
   have hms28_1 := NB165_164.out
   have hs30 : w26.cell? ⟨gb165, 1, none⟩ = some (.slice none 0 0) := (blk_cell BK165.out 1).trans rfl
   have hfs30 := blk_frozen BK165.out 1
   have hns30_0 := NB163_165.out
   have hns30_1 := NB164_165.out
   have hms30_0 := NB165_163.out
   have hms30_1 := NB165_164.out
   refine skip_ (w1 := ?_) (by rfl) rfl ?_ ?_
   rotate_left
   ·go_simp
    rfl
   refine hK.out _ _ ⟨((cell_far (p := ⟨gb165, _, none⟩) NB164_165.out _).trans (((cell_far (p := ⟨gb165, _, none⟩) NB164_165.out _).trans (hHeld.1)))), ((cell_far (p := ⟨gb165, _, none⟩) NB164_165.out _).trans (((cell_far (p := ⟨gb165, _, none⟩) NB164_165.out _).trans (hHeld.2.1)))), ((cell_far (p := ⟨gb165, _, none⟩) NB164_165.out _).trans (((cell_far (p := ⟨gb165, _, none⟩) NB164_165.out _).trans (hHeld.2.2.1)))), ((cell_far (p := ⟨gb165, _, none⟩) NB163_165.out _).trans (((cell_far (p := ⟨gb165, _, none⟩) NB163_165.out _).trans (hHeld.2.2.2.1)))), ((cell_far (p := ⟨gb165, _, none⟩) NB163_165.out _).trans (((cell_far (p := ⟨gb165, _, none⟩) NB163_165.out _).trans (hHeld.2.2.2.2))))⟩ (fun hHeld => ?_)
   clear hK K
   refine pure_ (i := 6) (N := some 6) (v := ?_) (a' := ?_) #[true, true, true, true, true, true, true] rfl rfl (by kernel_rfl) (fun _ _ _ h => h) (Or.inl ⟨by rfl, ?_⟩) ?_ ?_
   rotate_left
   ·intro w'
    go_simp
    with_reducible rfl
   rotate_left
   ·simp only [Act.put, List.setIfInBounds_toArray, List.set_cons_zero, List.set_cons_succ, i64_w, i32_w]
    rfl
   refine done_ (by kernel_rfl) ?_
   try go_wp2
   refine bodyPost_ret (results_list (rs := [.cell 4 28, .cell 5 25, .tmp 6]) rfl (by simp) (.cell gb164 28 #[.int .i64 0, .int .i64 0, .slice none 0 0] (0, 0) _ rfl (by refine Zb ?_; refine blk_far ?_ NB164_165.out _; refine Zb ?_; refine blk_far ?_ NB164_165.out _; refine Zb ?_; exact BK164.out) Try.underlying28 rfl (by kernel_rfl) (.cell gb165 25 #[.slice Ao27 t175.length co27, .slice Ao29 t178.length co29] (0, 0) _ rfl (by refine Zb ?_; refine blk_put (cs := #[.slice Ao27 t175.length co27, .slice none 0 0]) ?_ 1 _ rfl; refine Zb ?_; refine blk_put (cs := #[.slice none 0 0, .slice none 0 0]) ?_ 0 _ rfl; refine Zb ?_; exact BK165.out) Try.underlying25 rfl (by kernel_rfl) (.tmp .nil)))) rfl ?_
   exact ⟨_, _, _, by first | rfl | (simp [errW_none, errW_some] <;> rfl) | (simp [*, errW_none, errW_some] <;> rfl), (Kd.V_nil _ _ _ _ _), by refine Zv ?_; exact Kd.V_mono (Kd.V_far (p := ⟨gb165, 1, none⟩) (Kd.V_far (p := ⟨gb165, 0, none⟩) (Kd.V_mono HO177.out (fun k_ hk => (⟨hk, hk.2.2.2⟩ : _ ∧ k_ ≠ gb165))) (fun _ hk => hk.2) (.slice Ao27 t175.length co27)) (fun _ hk => hk.2) (.slice Ao29 t178.length co29)) (fun _ hk => hk.1.1), by refine Zv ?_; exact Kd.V_mono (Kd.V_far (p := ⟨gb165, 1, none⟩) (Kd.V_far (p := ⟨gb165, 0, none⟩) (Kd.V_mono HO180.out (fun k_ hk => (⟨hk, hk.2.2.2⟩ : _ ∧ k_ ≠ gb165))) (fun _ hk => hk.2) (.slice Ao27 t175.length co27)) (fun _ hk => hk.2) (.slice Ao29 t178.length co29)) (fun _ hk => hk.1.1), (Z3 HB GE163 GE164 GE165)⟩
  ·replace c7 := Bool.eq_false_iff.mpr c7
   subst c7
   have H1 : ((network_without.f l0_0 l0_1 a1).bind fun bt181 => (some (t166, t167, t168, bt181.1, bt181.2, 0))) = some (r1, r2, r3, r4, r5, r6) := by rw [if_neg (show ¬ (false = true) by decide)] at H; exact H
   clear H
   have H := H1
   clear H1
   replace H := Option.bind_eq_some_iff.mp H
   obtain ⟨⟨t181, t184⟩, A310, H⟩ := H
   replace H : (some (t166, t167, t168, t181, t184, 0)) = some (r1, r2, r3, r4, r5, r6) := H
   have A31 := Aside0.mk A310
   clear A310
   simp only [Option.some.injEq, Prod.mk.injEq] at H
   obtain ⟨rfl, rfl, rfl, rfl, rfl, rfl⟩ := H
   go_enter Try.func18, Try.ntmps18
   try go_wp2_with (first | ((with_reducible refine gate_dst (N := 2) rfl ?_); refine box_event ?hg (N := 2) ?hd (cs := #[.slice A0_0 l0_0.length c0_0, .slice A0_1 l0_1.length c0_1]) (t := 25) ?hr ?_; (case hd => rfl); (case hg => rfl); (case hr => first | (go_simp; done) | (go_simp; rfl)); intro gb163 hg w32 hbox hb; have n0_ := Aside0.mk (Kd.V_below (Kd.V_elderB (Zv HO0_0.out) gb163 (Nat.le_of_eq hg.symm)) hb); have n1_ := Aside0.mk (Kd.V_below (Kd.V_elderB (Zv HO0_1.out) gb163 (Nat.le_of_eq hg.symm)) hb); have n2_ := Aside0.mk (below_step (Z0 HB) hb); have n3_ := Aside0.mk (hbox); have n4_ := Aside0.mk ((by rw [hg]; exact (below_size (Z0 HB)) : w.heap.size ≤ gb163)); have n5_ := Aside0.mk ((by rw [hg]; exact (below_size (Z0 HB)) : w.heap.size ≤ gb163)); clear HO0_0; clear HO0_1; clear HB; have HO0_0 := n0_; have HO0_1 := n1_; have HB := n2_; have BK163 := n3_; have GW163 := n4_; have GE163 := n5_; clear n0_ n1_ n2_ n3_ n4_ n5_; clear hb hbox hg) | ((with_reducible refine gate_dst (N := 4) rfl ?_); refine box_event ?hg (N := 4) ?hd (cs := #[.int .i64 0, .int .i64 0, .slice none 0 0]) (t := 28) ?hr ?_; (case hd => rfl); (case hg => rfl); (case hr => first | (go_simp; done) | (go_simp; rfl)); intro gb164 hg w33 hbox hb; have n0_ := Aside0.mk (Kd.V_below (Kd.V_elderB (Zv HO0_0.out) gb164 (Nat.le_of_eq hg.symm)) hb); have n1_ := Aside0.mk (Kd.V_below (Kd.V_elderB (Zv HO0_1.out) gb164 (Nat.le_of_eq hg.symm)) hb); have n2_ := Aside0.mk (blk_below (g := gb163) (o := .cells #[.slice A0_0 l0_0.length c0_0, .slice A0_1 l0_1.length c0_1] 25 (0, 0)) (Zb BK163.out) hb); have n3_ := Aside0.mk (below_step (Z1 HB GE163) hb); have n4_ := Aside0.mk (hbox); have n5_ := Aside0.mk ((by rw [hg]; exact (below_size (Z1 HB GE163)) : w.heap.size ≤ gb164)); have n6_ := Aside0.mk ((by rw [hg]; exact (below_size (Z1 HB GE163)) : w.heap.size ≤ gb164)); have n7_ := Aside0.mk ((by rw [hg]; exact Nat.ne_of_lt (blk_lt (g := gb163) (o := .cells #[.slice A0_0 l0_0.length c0_0, .slice A0_1 l0_1.length c0_1] 25 (0, 0)) (Zb BK163.out)) : gb163 ≠ gb164)); have n8_ := Aside0.mk ((by rw [hg]; exact Nat.ne_of_gt (blk_lt (g := gb163) (o := .cells #[.slice A0_0 l0_0.length c0_0, .slice A0_1 l0_1.length c0_1] 25 (0, 0)) (Zb BK163.out)) : gb164 ≠ gb163)); clear HO0_0; clear HO0_1; clear BK163; clear HB; have HO0_0 := n0_; have HO0_1 := n1_; have BK163 := n2_; have HB := n3_; have BK164 := n4_; have GW164 := n5_; have GE164 := n6_; have NB163_164 := n7_; have NB164_163 := n8_; clear n0_ n1_ n2_ n3_ n4_ n5_ n6_ n7_ n8_; clear hb hbox hg) | ((with_reducible refine gate_dst (N := 5) rfl ?_); refine box_event ?hg (N := 5) ?hd (cs := #[.slice none 0 0, .slice none 0 0]) (t := 25) ?hr ?_; (case hd => rfl); (case hg => rfl); (case hr => first | (go_simp; done) | (go_simp; rfl)); intro gb165 hg w34 hbox hb; have n0_ := Aside0.mk (Kd.V_below (Kd.V_elderB (Zv HO0_0.out) gb165 (Nat.le_of_eq hg.symm)) hb); have n1_ := Aside0.mk (Kd.V_below (Kd.V_elderB (Zv HO0_1.out) gb165 (Nat.le_of_eq hg.symm)) hb); have n2_ := Aside0.mk (blk_below (g := gb163) (o := .cells #[.slice A0_0 l0_0.length c0_0, .slice A0_1 l0_1.length c0_1] 25 (0, 0)) (Zb BK163.out) hb); have n3_ := Aside0.mk (blk_below (g := gb164) (o := .cells #[.int .i64 0, .int .i64 0, .slice none 0 0] 28 (0, 0)) (Zb BK164.out) hb); have n4_ := Aside0.mk (below_step (Z2 HB GE163 GE164) hb); have n5_ := Aside0.mk (hbox); have n6_ := Aside0.mk ((by rw [hg]; exact (below_size (Z2 HB GE163 GE164)) : w.heap.size ≤ gb165)); have n7_ := Aside0.mk ((by rw [hg]; exact (below_size (Z2 HB GE163 GE164)) : w.heap.size ≤ gb165)); have n8_ := Aside0.mk ((by rw [hg]; exact Nat.ne_of_lt (blk_lt (g := gb163) (o := .cells #[.slice A0_0 l0_0.length c0_0, .slice A0_1 l0_1.length c0_1] 25 (0, 0)) (Zb BK163.out)) : gb163 ≠ gb165)); have n9_ := Aside0.mk ((by rw [hg]; exact Nat.ne_of_gt (blk_lt (g := gb163) (o := .cells #[.slice A0_0 l0_0.length c0_0, .slice A0_1 l0_1.length c0_1] 25 (0, 0)) (Zb BK163.out)) : gb165 ≠ gb163)); have n10_ := Aside0.mk ((by rw [hg]; exact Nat.ne_of_lt (blk_lt (g := gb164) (o := .cells #[.int .i64 0, .int .i64 0, .slice none 0 0] 28 (0, 0)) (Zb BK164.out)) : gb164 ≠ gb165)); have n11_ := Aside0.mk ((by rw [hg]; exact Nat.ne_of_gt (blk_lt (g := gb164) (o := .cells #[.int .i64 0, .int .i64 0, .slice none 0 0] 28 (0, 0)) (Zb BK164.out)) : gb165 ≠ gb164)); clear HO0_0; clear HO0_1; clear BK163; clear BK164; clear HB; have HO0_0 := n0_; have HO0_1 := n1_; have BK163 := n2_; have BK164 := n3_; have HB := n4_; have BK165 := n5_; have GW165 := n6_; have GE165 := n7_; have NB163_165 := n8_; have NB165_163 := n9_; have NB164_165 := n10_; have NB165_164 := n11_; clear n0_ n1_ n2_ n3_ n4_ n5_ n6_ n7_ n8_ n9_ n10_ n11_; clear hb hbox hg; have hnb35 := NB163_164.out; have hnc35 := NB164_163.out; have hnb36 := NB163_165.out; have hnc36 := NB165_163.out; have hcz37_0 : w34.cell? ⟨gb163, 0, none⟩ = some (.slice A0_0 l0_0.length c0_0) := (blk_cell BK163.out 0).trans rfl; have hcz37_1 : w34.cell? ⟨gb163, 1, none⟩ = some (.slice A0_1 l0_1.length c0_1) := (blk_cell BK163.out 1).trans rfl; have hfz37_0 := blk_frozen BK163.out 0; have hfz37_1 := blk_frozen BK163.out 1) | ((with_reducible refine gate_callee (f := 35) rfl ?_); refine goesL_ (some 10) rfl rfl Try.func35 (by kernel_rfl) rfl #[.agg #[.slice A0_0 l0_0.length c0_0, .slice A0_1 l0_1.length c0_1], .int .i64 a1] rfl (by (try simp only [List.map_toArray, List.map_cons, List.map_nil]); first | done | rfl | (simp only [List.length_drop, List.length_take]; rfl)) ?_; (with_reducible refine (network_at.calls k (fun k_ => (((((P0_0_ k_ ∨ P0_1_ k_) ∨ w.heap.size ≤ k_) ∧ k_ ≠ gb163) ∧ k_ ≠ gb164) ∧ k_ ≠ gb165)) _ _ l0_0 _ _ l0_1 a1 t166 t167 t168 t171 _ ?side1 ?side2 ?side3 A3.out).mono ?_); (case side1 => exact HO0_0.out); (case side2 => repeat (first | exact (Kd.V_reads' HO0_1.out).2.2 | (with_reducible refine Kd.C_alloc ?_ _) | (with_reducible refine Kd.C_drewN ?_ _) | (with_reducible refine Kd.C_drew ?_))); (case side3 => exact (Kd.V_reads' HO0_1.out).2.1); rintro e w38 ⟨v169, rfl, ho0, hb⟩; refine ⟨_, rfl, ?_⟩; have n0_ := Aside0.mk (Kd.V_below (Zv HO0_0.out) hb); have n1_ := Aside0.mk (Kd.V_below (Zv HO0_1.out) hb); have n2_ := Aside0.mk (Kd.V_lower (Kd.V_mono (ok' := fun k_ => ((P0_0_ k_ ∨ P0_1_ k_) ∨ w.heap.size ≤ k_) ∧ k_ ≠ gb163 ∧ k_ ≠ gb164 ∧ k_ ≠ gb165) ho0 (fun k_ hk_ => ⟨Or.elim hk_ (fun hs_ => hs_.1.1.1) (fun hn_ => (.inr (Nat.le_trans (below_size (Z3 HB GE163 GE164 GE165)) hn_))), Or.elim hk_ (fun hs_ => hs_.1.1.2) (fun hn_ => (Kd.freshB (g := gb163) (o := .cells #[.slice A0_0 l0_0.length c0_0, .slice A0_1 l0_1.length c0_1] 25 (0, 0)) (Zb BK163.out) k_ hn_)), Or.elim hk_ (fun hs_ => hs_.1.2) (fun hn_ => (Kd.freshB (g := gb164) (o := .cells #[.int .i64 0, .int .i64 0, .slice none 0 0] 28 (0, 0)) (Zb BK164.out) k_ hn_)), Or.elim hk_ (fun hs_ => hs_.2) (fun hn_ => (Kd.freshB (g := gb165) (o := .cells #[.slice none 0 0, .slice none 0 0] 25 (0, 0)) (Zb BK165.out) k_ hn_))⟩)) (below_size (Z3 HB GE163 GE164 GE165))); have n3_ := Aside0.mk (blk_below (g := gb163) (o := .cells #[.slice A0_0 l0_0.length c0_0, .slice A0_1 l0_1.length c0_1] 25 (0, 0)) (Zb BK163.out) hb); have n4_ := Aside0.mk (blk_below (g := gb164) (o := .cells #[.int .i64 0, .int .i64 0, .slice none 0 0] 28 (0, 0)) (Zb BK164.out) hb); have n5_ := Aside0.mk (blk_below (g := gb165) (o := .cells #[.slice none 0 0, .slice none 0 0] 25 (0, 0)) (Zb BK165.out) hb); have n6_ := Aside0.mk (below_step (Z3 HB GE163 GE164 GE165) hb); clear HO0_0; clear HO0_1; clear BK163; clear BK164; clear BK165; clear HB; have HO0_0 := n0_; have HO0_1 := n1_; have HO170 := n2_; have BK163 := n3_; have BK164 := n4_; have BK165 := n5_; have HB := n6_; clear n0_ n1_ n2_ n3_ n4_ n5_ n6_; (try clear hb); (try clear hb2); (try clear hk); (try clear hi); (try clear ho0); have hnb39 := NB164_165.out; have hnc39 := NB165_164.out; have hcz40_0 : w38.cell? ⟨gb164, 0, none⟩ = some (.int .i64 0) := (blk_cell BK164.out 0).trans rfl; have hcz40_1 : w38.cell? ⟨gb164, 1, none⟩ = some (.int .i64 0) := (blk_cell BK164.out 1).trans rfl; have hcz40_2 : w38.cell? ⟨gb164, 2, none⟩ = some (.slice none 0 0) := (blk_cell BK164.out 2).trans rfl; have hfz40_0 := blk_frozen BK164.out 0; have hfz40_1 := blk_frozen BK164.out 1; have hfz40_2 := blk_frozen BK164.out 2; obtain ⟨Ao41, co41, eo41⟩ := Kd.V_slice HO170.out; subst eo41))
   have n0_ : Aside0 (Kd.V k28 28 (((w38.setCell ⟨gb164, 0, none⟩ (.int .i64 t166)).setCell ⟨gb164, 1, none⟩ (.int .i64 t167)).setCell ⟨gb164, 2, none⟩ (.slice Ao41 t168.length co41)) w.heap.size (fun k_ => ((P0_0_ k_ ∨ P0_1_ k_) ∨ w.heap.size ≤ k_) ∧ k_ ≠ gb163 ∧ k_ ≠ gb164 ∧ k_ ≠ gb165) (.slice A0_0 l0_0.length c0_0) l0_0) := ⟨by refine Zv ?_; exact Kd.V_mono (Kd.V_far (p := ⟨gb164, 2, none⟩) (Kd.V_far (p := ⟨gb164, 1, none⟩) (Kd.V_far (p := ⟨gb164, 0, none⟩) (Kd.V_mono HO0_0.out (fun k_ hk => (⟨hk, hk.1.2⟩ : _ ∧ k_ ≠ gb164))) (fun _ hk => hk.2) (.int .i64 t166)) (fun _ hk => hk.2) (.int .i64 t167)) (fun _ hk => hk.2) (.slice Ao41 t168.length co41)) (fun _ hk => ⟨hk.1.1.1.1, ⟨hk.1.1.1.2, ⟨hk.1.1.2, hk.1.2⟩⟩⟩)⟩
   have n1_ : Aside0 (Kd.V k55 55 (((w38.setCell ⟨gb164, 0, none⟩ (.int .i64 t166)).setCell ⟨gb164, 1, none⟩ (.int .i64 t167)).setCell ⟨gb164, 2, none⟩ (.slice Ao41 t168.length co41)) w.heap.size (fun k_ => ((P0_0_ k_ ∨ P0_1_ k_) ∨ w.heap.size ≤ k_) ∧ k_ ≠ gb163 ∧ k_ ≠ gb164 ∧ k_ ≠ gb165) (.slice A0_1 l0_1.length c0_1) l0_1) := ⟨by refine Zv ?_; exact Kd.V_mono (Kd.V_far (p := ⟨gb164, 2, none⟩) (Kd.V_far (p := ⟨gb164, 1, none⟩) (Kd.V_far (p := ⟨gb164, 0, none⟩) (Kd.V_mono HO0_1.out (fun k_ hk => (⟨hk, hk.1.2⟩ : _ ∧ k_ ≠ gb164))) (fun _ hk => hk.2) (.int .i64 t166)) (fun _ hk => hk.2) (.int .i64 t167)) (fun _ hk => hk.2) (.slice Ao41 t168.length co41)) (fun _ hk => ⟨hk.1.1.1.1, ⟨hk.1.1.1.2, ⟨hk.1.1.2, hk.1.2⟩⟩⟩)⟩
   have n2_ : Aside0 (Kd.V (Kd.int .u8) 5 (((w38.setCell ⟨gb164, 0, none⟩ (.int .i64 t166)).setCell ⟨gb164, 1, none⟩ (.int .i64 t167)).setCell ⟨gb164, 2, none⟩ (.slice Ao41 t168.length co41)) w.heap.size (fun k_ => ((P0_0_ k_ ∨ P0_1_ k_) ∨ w.heap.size ≤ k_) ∧ k_ ≠ gb163 ∧ k_ ≠ gb164 ∧ k_ ≠ gb165) (.slice Ao41 t168.length co41) t168) := ⟨by refine Zv ?_; exact Kd.V_mono (Kd.V_far (p := ⟨gb164, 2, none⟩) (Kd.V_far (p := ⟨gb164, 1, none⟩) (Kd.V_far (p := ⟨gb164, 0, none⟩) (Kd.V_mono HO170.out (fun k_ hk => (⟨hk, hk.2.2.1⟩ : _ ∧ k_ ≠ gb164))) (fun _ hk => hk.2) (.int .i64 t166)) (fun _ hk => hk.2) (.int .i64 t167)) (fun _ hk => hk.2) (.slice Ao41 t168.length co41)) (fun _ hk => ⟨hk.1.1, ⟨hk.1.2.1, ⟨hk.1.2.2.1, hk.1.2.2.2⟩⟩⟩)⟩
   have n3_ : Aside0 ((((w38.setCell ⟨gb164, 0, none⟩ (.int .i64 t166)).setCell ⟨gb164, 1, none⟩ (.int .i64 t167)).setCell ⟨gb164, 2, none⟩ (.slice Ao41 t168.length co41)).heap[gb163]? = some (.cells #[.slice A0_0 l0_0.length c0_0, .slice A0_1 l0_1.length c0_1] 25 (0, 0))) := ⟨by refine Zb ?_; refine blk_far ?_ NB163_164.out _; refine Zb ?_; refine blk_far ?_ NB163_164.out _; refine Zb ?_; refine blk_far ?_ NB163_164.out _; refine Zb ?_; exact BK163.out⟩
   have n4_ : Aside0 ((((w38.setCell ⟨gb164, 0, none⟩ (.int .i64 t166)).setCell ⟨gb164, 1, none⟩ (.int .i64 t167)).setCell ⟨gb164, 2, none⟩ (.slice Ao41 t168.length co41)).heap[gb164]? = some (.cells #[.int .i64 t166, .int .i64 t167, .slice Ao41 t168.length co41] 28 (0, 0))) := ⟨by refine Zb ?_; refine blk_put (cs := #[.int .i64 t166, .int .i64 t167, .slice none 0 0]) ?_ 2 _ rfl; refine Zb ?_; refine blk_put (cs := #[.int .i64 t166, .int .i64 0, .slice none 0 0]) ?_ 1 _ rfl; refine Zb ?_; refine blk_put (cs := #[.int .i64 0, .int .i64 0, .slice none 0 0]) ?_ 0 _ rfl; refine Zb ?_; exact BK164.out⟩
   have n5_ : Aside0 ((((w38.setCell ⟨gb164, 0, none⟩ (.int .i64 t166)).setCell ⟨gb164, 1, none⟩ (.int .i64 t167)).setCell ⟨gb164, 2, none⟩ (.slice Ao41 t168.length co41)).heap[gb165]? = some (.cells #[.slice none 0 0, .slice none 0 0] 25 (0, 0))) := ⟨by refine Zb ?_; refine blk_far ?_ NB165_164.out _; refine Zb ?_; refine blk_far ?_ NB165_164.out _; refine Zb ?_; refine blk_far ?_ NB165_164.out _; refine Zb ?_; exact BK165.out⟩
   have n6_ : Aside0 (Below w.heap.size w (((w38.setCell ⟨gb164, 0, none⟩ (.int .i64 t166)).setCell ⟨gb164, 1, none⟩ (.int .i64 t167)).setCell ⟨gb164, 2, none⟩ (.slice Ao41 t168.length co41))) := ⟨(Z3 HB GE163 GE164 GE165)⟩
   (try clear HO0_0)
   (try clear HO0_1)
   (try clear HO170)
   (try clear BK163)
   (try clear BK164)
   (try clear BK165)
   (try clear HB)
   generalize (((w38.setCell ⟨gb164, 0, none⟩ (.int .i64 t166)).setCell ⟨gb164, 1, none⟩ (.int .i64 t167)).setCell ⟨gb164, 2, none⟩ (.slice Ao41 t168.length co41)) = w42 at n0_ n1_ n2_ n3_ n4_ n5_ n6_ ⊢
   have HO0_0 := n0_
   have HO0_1 := n1_
   have HO170 := n2_
   have BK163 := n3_
   have BK164 := n4_
   have BK165 := n5_
   have HB := n6_
   clear n0_ n1_ n2_ n3_ n4_ n5_ n6_
   have n0_ := Aside0.mk (Kd.V_drew HO0_0.out)
   have n1_ := Aside0.mk (Kd.V_drew HO0_1.out)
   have n2_ := Aside0.mk (Kd.V_drew HO170.out)
   have n3_ := Aside0.mk (blk_drew BK163.out)
   have n4_ := Aside0.mk (blk_drew BK164.out)
   have n5_ := Aside0.mk (blk_drew BK165.out)
   have n6_ := Aside0.mk (below_drew1 HB.out)
   clear HO0_0
   clear HO0_1
   clear HO170
   clear BK163
   clear BK164
   clear BK165
   clear HB
   have HO0_0 := n0_
   have HO0_1 := n1_
   have HO170 := n2_
   have BK163 := n3_
   have BK164 := n4_
   have BK165 := n5_
   have HB := n6_
   clear n0_ n1_ n2_ n3_ n4_ n5_ n6_
   refine start_ (n := 8) (S := fun w' => w'.cell? ⟨gb163, 0, none⟩ = some (.slice A0_0 l0_0.length c0_0) ∧ w'.cell? ⟨gb163, 1, none⟩ = some (.slice A0_1 l0_1.length c0_1) ∧ w'.cell? ⟨gb164, 0, none⟩ = some (.int .i64 t166) ∧ w'.cell? ⟨gb164, 1, none⟩ = some (.int .i64 t167) ∧ w'.cell? ⟨gb164, 2, none⟩ = some (.slice Ao41 t168.length co41)) (ds := []) #[false, false, false, false, false, false, false, false] (by kernel_rfl) rfl rfl ⟨(blk_cell BK163.out 0).trans rfl, (blk_cell BK163.out 1).trans rfl, (blk_cell BK164.out 0).trans rfl, (blk_cell BK164.out 1).trans rfl, (blk_cell BK164.out 2).trans rfl⟩ (fun hHeld => ?_); refine with_tabW network_Deliver.tab4 network_Deliver.bits4 (fun HT_ HW_ => ?_)
   generalize w42.drew = w43 at HO0_0 HO0_1 HO170 BK163 BK164 BK165 HB hHeld ⊢
   refine pure_ (i := 0) (N := some 18) (v := ?_) (a' := ?_) #[true, false, false, false, false, false, false, false] rfl rfl (any_of HT_.out (by kernel_rfl)) (fun _ _ _ h => h) (Or.inl ⟨by rfl, ?_⟩) ?_ ?_
   rotate_left
   ·intro w'
    go_simp
    with_reducible rfl
   rotate_left
   ·simp only [Act.put, List.setIfInBounds_toArray, List.set_cons_zero, List.set_cons_succ, i64_w, i32_w]
    rfl
   refine pure_ (i := 2) (N := some 20) (v := ?_) (a' := ?_) #[true, false, true, false, false, false, false, false] rfl rfl (any_of HT_.out (by kernel_rfl)) (fun _ _ _ h => h) (Or.inl ⟨by rfl, ?_⟩) ?_ ?_
   rotate_left
   ·intro w'
    go_simp
    with_reducible rfl
   rotate_left
   ·simp only [Act.put, List.setIfInBounds_toArray, List.set_cons_zero, List.set_cons_succ, i64_w, i32_w]
    rfl
   refine pure_ (i := 4) (N := some 22) (v := ?_) (a' := ?_) #[true, false, true, false, true, false, false, false] rfl rfl (any_of HT_.out (by kernel_rfl)) (fun _ _ _ h => h) (Or.inl ⟨by rfl, ?_⟩) ?_ ?_
   rotate_left
   ·intro w'
    go_simp
    with_reducible rfl
   rotate_left
   ·simp only [Act.put, List.setIfInBounds_toArray, List.set_cons_zero, List.set_cons_succ, i64_w, i32_w]
    rfl
   refine take_ (i := 1) (N := some 19) (v := ?_) (a' := ?_) #[true, true, true, false, true, false, false, false] rfl rfl (take_ofW HT_.out HW_.out (by kernel_rfl)) (fun _ _ _ h => h) (Or.inl ⟨by rfl, ?_⟩) hHeld ?_ ?_
   rotate_left
   ·rintro w' ⟨s0, s1, s2, s3, s4⟩
    go_simp
    with_reducible rfl
   rotate_left
   ·simp only [Act.put, List.setIfInBounds_toArray, List.set_cons_zero, List.set_cons_succ, i64_w, i32_w]
    rfl
   refine take_ (i := 3) (N := some 21) (v := ?_) (a' := ?_) #[true, true, true, true, true, false, false, false] rfl rfl (take_ofW HT_.out HW_.out (by kernel_rfl)) (fun _ _ _ h => h) (Or.inl ⟨by rfl, ?_⟩) hHeld ?_ ?_
   rotate_left
   ·rintro w' ⟨s0, s1, s2, s3, s4⟩
    go_simp
    with_reducible rfl
   rotate_left
   ·simp only [Act.put, List.setIfInBounds_toArray, List.set_cons_zero, List.set_cons_succ, i64_w, i32_w]
    rfl
   refine take_ (i := 5) (N := some 23) (v := ?_) (a' := ?_) #[true, true, true, true, true, true, false, false] rfl rfl (take_ofW HT_.out HW_.out (by kernel_rfl)) (fun _ _ _ h => h) (Or.inl ⟨by rfl, ?_⟩) hHeld ?_ ?_
   rotate_left
   ·rintro w' ⟨s0, s1, s2, s3, s4⟩
    go_simp
    with_reducible rfl
   rotate_left
   ·simp only [Act.put, List.setIfInBounds_toArray, List.set_cons_zero, List.set_cons_succ, i64_w, i32_w]
    rfl
   refine one_ (i := 6) (N := some 24) #[true, true, true, true, true, true, true, false] rfl rfl (one_of HT_.out (by kernel_rfl)) (by decide) (fun K hK => ?_)
   refine goes_ Try.func37 (by kernel_rfl) rfl #[.int .i64 t166, .int .i64 t167] (by rfl) rfl rfl (by (try simp only [List.map_toArray, List.map_cons, List.map_nil]); first | done | rfl | (simp only [List.length_drop, List.length_take]; rfl)) ?_
   with_reducible refine (network_between.calls t166 t167 t172 t173 _ A5.out).mono ?_
   rintro e w44 ⟨rfl, hb⟩
   refine ⟨_, rfl, ?_⟩
   have n0_ := Aside0.mk (Kd.V_below (Zv HO0_0.out) hb)
   have n1_ := Aside0.mk (Kd.V_below (Zv HO0_1.out) hb)
   have n2_ := Aside0.mk (Kd.V_below (Zv HO170.out) hb)
   have n3_ := Aside0.mk (blk_below (g := gb163) (o := .cells #[.slice A0_0 l0_0.length c0_0, .slice A0_1 l0_1.length c0_1] 25 (0, 0)) (Zb BK163.out) hb)
   have n4_ := Aside0.mk (blk_below (g := gb164) (o := .cells #[.int .i64 t166, .int .i64 t167, .slice Ao41 t168.length co41] 28 (0, 0)) (Zb BK164.out) hb)
   have n5_ := Aside0.mk (blk_below (g := gb165) (o := .cells #[.slice none 0 0, .slice none 0 0] 25 (0, 0)) (Zb BK165.out) hb)
   have n6_ := Aside0.mk (below_step (Z3 HB GE163 GE164 GE165) hb)
   clear HO0_0
   clear HO0_1
   clear HO170
   clear BK163
   clear BK164
   clear BK165
   clear HB
   have HO0_0 := n0_
   have HO0_1 := n1_
   have HO170 := n2_
   have BK163 := n3_
   have BK164 := n4_
   have BK165 := n5_
   have HB := n6_
   clear n0_ n1_ n2_ n3_ n4_ n5_ n6_
   (try clear hb)
   (try clear hb2)
   (try clear hk)
   (try clear hi)
   refine hK.out _ _ ⟨(blk_cell BK163.out 0).trans rfl, (blk_cell BK163.out 1).trans rfl, (blk_cell BK164.out 0).trans rfl, (blk_cell BK164.out 1).trans rfl, (blk_cell BK164.out 2).trans rfl⟩ (fun hHeld => ?_)
   clear hK K
   refine norm_ (a' := ?_) ?_ ?_
   rotate_left
   ·show Act.put _ (some 24) _ = _
    simp only [Act.put, List.setIfInBounds_toArray, List.set_cons_zero, List.set_cons_succ, i64_w, i32_w]
    rfl
   refine one_ (i := 7) (N := some 25) #[true, true, true, true, true, true, true, true] rfl rfl (one_of HT_.out (by kernel_rfl)) (by decide) (fun K hK => ?_)
   refine goes_ Try.func36 (by kernel_rfl) rfl #[.slice A0_1 l0_1.length c0_1, .agg #[.int .i64 t172, .int .i64 t173]] (by rfl) rfl rfl (by (try simp only [List.map_toArray, List.map_cons, List.map_nil]); first | done | rfl | (simp only [List.length_drop, List.length_take]; rfl)) ?_
   with_reducible refine (slices_Contains_2_int_2_int.calls k _ _ l0_1 t172 t173 false _ ?side1 ?side2 A6.out).mono ?_
   (case side1 => repeat (first | exact (Kd.V_reads' HO0_1.out).2.2 | (with_reducible refine Kd.C_alloc ?_ _) | (with_reducible refine Kd.C_drewN ?_ _) | (with_reducible refine Kd.C_drew ?_)))
   (case side2 => exact (Kd.V_reads' HO0_1.out).2.1)
   rintro e w45 ⟨rfl, hb⟩
   refine ⟨_, rfl, ?_⟩
   have n0_ := Aside0.mk (Kd.V_below (Zv HO0_0.out) hb)
   have n1_ := Aside0.mk (Kd.V_below (Zv HO0_1.out) hb)
   have n2_ := Aside0.mk (Kd.V_below (Zv HO170.out) hb)
   have n3_ := Aside0.mk (blk_below (g := gb163) (o := .cells #[.slice A0_0 l0_0.length c0_0, .slice A0_1 l0_1.length c0_1] 25 (0, 0)) (Zb BK163.out) hb)
   have n4_ := Aside0.mk (blk_below (g := gb164) (o := .cells #[.int .i64 t166, .int .i64 t167, .slice Ao41 t168.length co41] 28 (0, 0)) (Zb BK164.out) hb)
   have n5_ := Aside0.mk (blk_below (g := gb165) (o := .cells #[.slice none 0 0, .slice none 0 0] 25 (0, 0)) (Zb BK165.out) hb)
   have n6_ := Aside0.mk (below_step (Z3 HB GE163 GE164 GE165) hb)
   clear HO0_0
   clear HO0_1
   clear HO170
   clear BK163
   clear BK164
   clear BK165
   clear HB
   have HO0_0 := n0_
   have HO0_1 := n1_
   have HO170 := n2_
   have BK163 := n3_
   have BK164 := n4_
   have BK165 := n5_
   have HB := n6_
   clear n0_ n1_ n2_ n3_ n4_ n5_ n6_
   (try clear hb)
   (try clear hb2)
   (try clear hk)
   (try clear hi)
   refine hK.out _ _ ⟨(blk_cell BK163.out 0).trans rfl, (blk_cell BK163.out 1).trans rfl, (blk_cell BK164.out 0).trans rfl, (blk_cell BK164.out 1).trans rfl, (blk_cell BK164.out 2).trans rfl⟩ (fun hHeld => ?_)
   clear hK K
   refine norm_ (a' := ?_) ?_ ?_
   rotate_left
   ·show Act.put _ (some 25) _ = _
    simp only [Act.put, List.setIfInBounds_toArray, List.set_cons_zero, List.set_cons_succ, i64_w, i32_w]
    rfl
   refine done_ (done_of HT_.out (by kernel_rfl)) ?_
   try go_wp2
   have n0_ := Aside0.mk (Kd.V_drew HO0_0.out)
   have n1_ := Aside0.mk (Kd.V_drew HO0_1.out)
   have n2_ := Aside0.mk (Kd.V_drew HO170.out)
   have n3_ := Aside0.mk (blk_drew BK163.out)
   have n4_ := Aside0.mk (blk_drew BK164.out)
   have n5_ := Aside0.mk (blk_drew BK165.out)
   have n6_ := Aside0.mk (below_drew1 HB.out)
   clear HO0_0
   clear HO0_1
   clear HO170
   clear BK163
   clear BK164
   clear BK165
   clear HB
   have HO0_0 := n0_
   have HO0_1 := n1_
   have HO170 := n2_
   have BK163 := n3_
   have BK164 := n4_
   have BK165 := n5_
   have HB := n6_
   clear n0_ n1_ n2_ n3_ n4_ n5_ n6_
   refine start_ (n := 7) (S := fun w' => w'.cell? ⟨gb164, 0, none⟩ = some (.int .i64 t166) ∧ w'.cell? ⟨gb164, 1, none⟩ = some (.int .i64 t167) ∧ w'.cell? ⟨gb164, 2, none⟩ = some (.slice Ao41 t168.length co41) ∧ w'.cell? ⟨gb163, 0, none⟩ = some (.slice A0_0 l0_0.length c0_0) ∧ w'.cell? ⟨gb163, 1, none⟩ = some (.slice A0_1 l0_1.length c0_1)) (ds := []) #[false, false, false, false, false, false, false] (by kernel_rfl) rfl rfl ⟨(blk_cell BK164.out 0).trans rfl, (blk_cell BK164.out 1).trans rfl, (blk_cell BK164.out 2).trans rfl, (blk_cell BK163.out 0).trans rfl, (blk_cell BK163.out 1).trans rfl⟩ (fun hHeld => ?_)
   generalize w45.drew = w46 at HO0_0 HO0_1 HO170 BK163 BK164 BK165 HB hHeld ⊢
   refine pure_ (i := 2) (N := some 29) (v := ?_) (a' := ?_) #[false, false, true, false, false, false, false] rfl rfl (by kernel_rfl) (fun _ _ _ h => h) (Or.inl ⟨by rfl, ?_⟩) ?_ ?_
   rotate_left
   ·intro w'
    go_simp
    with_reducible rfl
   rotate_left
   ·simp only [Act.put, List.setIfInBounds_toArray, List.set_cons_zero, List.set_cons_succ, i64_w, i32_w]
    rfl
   refine take_ (i := 0) (N := some 27) (v := ?_) (a' := ?_) #[true, false, true, false, false, false, false] rfl rfl (by kernel_rfl) (fun _ _ _ h => h) (Or.inl ⟨by rfl, ?_⟩) hHeld ?_ ?_
   rotate_left
   ·rintro w' ⟨s0, s1, s2, s3, s4⟩
    go_simp
    with_reducible rfl
   rotate_left
   ·simp only [Act.put, List.setIfInBounds_toArray, List.set_cons_zero, List.set_cons_succ, i64_w, i32_w]
    rfl
   refine take_ (i := 1) (N := some 28) (v := ?_) (a' := ?_) #[true, true, true, false, false, false, false] rfl rfl (by kernel_rfl) (fun _ _ _ h => h) (Or.inl ⟨by rfl, ?_⟩) hHeld ?_ ?_
   rotate_left
   ·rintro w' ⟨s0, s1, s2, s3, s4⟩
    go_simp
    with_reducible rfl
   rotate_left
   ·simp only [Act.put, List.setIfInBounds_toArray, List.set_cons_zero, List.set_cons_succ, i64_w, i32_w]
    rfl
   refine one_ (i := 3) (N := some 30) #[true, true, true, true, false, false, false] rfl rfl (by kernel_rfl) (by decide) (fun K hK => ?_)
   refine goes_ Try.func38 (by kernel_rfl) rfl #[.agg #[.slice A0_0 l0_0.length c0_0, .slice A0_1 l0_1.length c0_1], .int .i64 a1] (by rfl) rfl rfl (by (try simp only [List.map_toArray, List.map_cons, List.map_nil]); first | done | rfl | (simp only [List.length_drop, List.length_take]; rfl)) ?_
   with_reducible refine (network_without.calls (fun k_ => (((P0_0_ k_ ∨ P0_1_ k_) ∨ w.heap.size ≤ k_) ∧ (k_ ≠ gb163 ∧ (k_ ≠ gb164 ∧ k_ ≠ gb165)))) _ _ l0_0 (fun k_ => (((P0_0_ k_ ∨ P0_1_ k_) ∨ w.heap.size ≤ k_) ∧ (k_ ≠ gb163 ∧ (k_ ≠ gb164 ∧ k_ ≠ gb165)))) _ _ l0_1 a1 t181 t184 _ ?side1 ?side2 A31.out).mono ?_
   (case side1 => exact HO0_0.out)
   (case side2 => exact HO0_1.out)
   rintro e w47 ⟨v182, v185, rfl, ho0, ho1, hb⟩
   refine ⟨_, rfl, ?_⟩
   have n0_ := Aside0.mk (Kd.V_below (Zv HO0_0.out) hb)
   have n1_ := Aside0.mk (Kd.V_below (Zv HO0_1.out) hb)
   have n2_ := Aside0.mk (Kd.V_below (Zv HO170.out) hb)
   have n3_ := Aside0.mk (Kd.V_lower (Kd.V_mono (ok' := fun k_ => ((P0_0_ k_ ∨ P0_1_ k_) ∨ w.heap.size ≤ k_) ∧ k_ ≠ gb163 ∧ k_ ≠ gb164 ∧ k_ ≠ gb165) ho0 (fun k_ hk_ => ⟨Or.elim hk_ (fun hs_ => Or.elim hs_ (fun hs_ => hs_.1) (fun hs_ => hs_.1)) (fun hn_ => (.inr (Nat.le_trans (below_size (Z3 HB GE163 GE164 GE165)) hn_))), Or.elim hk_ (fun hs_ => Or.elim hs_ (fun hs_ => hs_.2.1) (fun hs_ => hs_.2.1)) (fun hn_ => (Kd.freshB (g := gb163) (o := .cells #[.slice A0_0 l0_0.length c0_0, .slice A0_1 l0_1.length c0_1] 25 (0, 0)) (Zb BK163.out) k_ hn_)), Or.elim hk_ (fun hs_ => Or.elim hs_ (fun hs_ => hs_.2.2.1) (fun hs_ => hs_.2.2.1)) (fun hn_ => (Kd.freshB (g := gb164) (o := .cells #[.int .i64 t166, .int .i64 t167, .slice Ao41 t168.length co41] 28 (0, 0)) (Zb BK164.out) k_ hn_)), Or.elim hk_ (fun hs_ => Or.elim hs_ (fun hs_ => hs_.2.2.2) (fun hs_ => hs_.2.2.2)) (fun hn_ => (Kd.freshB (g := gb165) (o := .cells #[.slice none 0 0, .slice none 0 0] 25 (0, 0)) (Zb BK165.out) k_ hn_))⟩)) (below_size (Z3 HB GE163 GE164 GE165)))
   have n4_ := Aside0.mk (Kd.V_lower (Kd.V_mono (ok' := fun k_ => ((P0_0_ k_ ∨ P0_1_ k_) ∨ w.heap.size ≤ k_) ∧ k_ ≠ gb163 ∧ k_ ≠ gb164 ∧ k_ ≠ gb165) ho1 (fun k_ hk_ => ⟨Or.elim hk_ (fun hs_ => Or.elim hs_ (fun hs_ => hs_.1) (fun hs_ => hs_.1)) (fun hn_ => (.inr (Nat.le_trans (below_size (Z3 HB GE163 GE164 GE165)) hn_))), Or.elim hk_ (fun hs_ => Or.elim hs_ (fun hs_ => hs_.2.1) (fun hs_ => hs_.2.1)) (fun hn_ => (Kd.freshB (g := gb163) (o := .cells #[.slice A0_0 l0_0.length c0_0, .slice A0_1 l0_1.length c0_1] 25 (0, 0)) (Zb BK163.out) k_ hn_)), Or.elim hk_ (fun hs_ => Or.elim hs_ (fun hs_ => hs_.2.2.1) (fun hs_ => hs_.2.2.1)) (fun hn_ => (Kd.freshB (g := gb164) (o := .cells #[.int .i64 t166, .int .i64 t167, .slice Ao41 t168.length co41] 28 (0, 0)) (Zb BK164.out) k_ hn_)), Or.elim hk_ (fun hs_ => Or.elim hs_ (fun hs_ => hs_.2.2.2) (fun hs_ => hs_.2.2.2)) (fun hn_ => (Kd.freshB (g := gb165) (o := .cells #[.slice none 0 0, .slice none 0 0] 25 (0, 0)) (Zb BK165.out) k_ hn_))⟩)) (below_size (Z3 HB GE163 GE164 GE165)))
   have n5_ := Aside0.mk (blk_below (g := gb163) (o := .cells #[.slice A0_0 l0_0.length c0_0, .slice A0_1 l0_1.length c0_1] 25 (0, 0)) (Zb BK163.out) hb)
   have n6_ := Aside0.mk (blk_below (g := gb164) (o := .cells #[.int .i64 t166, .int .i64 t167, .slice Ao41 t168.length co41] 28 (0, 0)) (Zb BK164.out) hb)
   have n7_ := Aside0.mk (blk_below (g := gb165) (o := .cells #[.slice none 0 0, .slice none 0 0] 25 (0, 0)) (Zb BK165.out) hb)
   have n8_ := Aside0.mk (below_step (Z3 HB GE163 GE164 GE165) hb)
   clear HO0_0
   clear HO0_1
   clear HO170
   clear BK163
   clear BK164
   clear BK165
   clear HB
   have HO0_0 := n0_
   have HO0_1 := n1_
   have HO170 := n2_
   have HO183 := n3_
   have HO186 := n4_
   have BK163 := n5_
   have BK164 := n6_
   have BK165 := n7_
   have HB := n8_
   clear n0_ n1_ n2_ n3_ n4_ n5_ n6_ n7_ n8_
   (try clear hb)
   (try clear hb2)
   (try clear hk)
   (try clear hi)
   (try clear ho0)
   (try clear ho1)
   obtain ⟨Ao48, co48, eo48⟩ := Kd.V_slice HO183.out
   (first | subst eo48 | (injection eo48 with f1_ f2_ f3_; have f4_ := f1_.symm; have f5_ := f3_.symm; clear f1_ f2_ f3_; subst f4_; subst f5_))
   obtain ⟨Ao50, co50, eo50⟩ := Kd.V_slice HO186.out
   (first | subst eo50 | (injection eo50 with f1_ f2_ f3_; have f4_ := f1_.symm; have f5_ := f3_.symm; clear f1_ f2_ f3_; subst f4_; subst f5_))
   refine hK.out _ _ ⟨(blk_cell BK164.out 0).trans rfl, (blk_cell BK164.out 1).trans rfl, (blk_cell BK164.out 2).trans rfl, (blk_cell BK163.out 0).trans rfl, (blk_cell BK163.out 1).trans rfl⟩ (fun hHeld => ?_)
   clear hK K
   refine norm_ (a' := ?_) ?_ ?_
   rotate_left
   ·show Act.put _ (some 30) _ = _
    simp only [Act.put, List.setIfInBounds_toArray, List.set_cons_zero, List.set_cons_succ, i64_w, i32_w]
    rfl
   refine one_ (i := 4) (N := none) #[true, true, true, true, true, false, false] rfl rfl (by kernel_rfl) (by decide) (fun K hK => ?_)
   have hso0 := hHeld.1
   have hfo0 := blk_frozen BK164.out 0
   have hso1 := hHeld.2.1
   have hfo1 := blk_frozen BK164.out 1
   have hso2 := hHeld.2.2.1
   have hfo2 := blk_frozen BK164.out 2
   refine skip_ (w1 := ?_) (by rfl) rfl ?_ ?_
   rotate_left
   ·go_simp
    rw [set_same hso0, set_same hso1, set_same hso2]
   refine hK.out _ _ hHeld (fun hHeld => ?_)
   clear hK K hso0 hfo0 hso1 hfo1 hso2 hfo2
   refine one_ (i := 5) (N := none) #[true, true, true, true, true, true, false] rfl rfl (by kernel_rfl) (by decide) (fun K hK => ?_)
   have hs49 : w47.cell? ⟨gb165, 0, none⟩ = some (.slice none 0 0) := (blk_cell BK165.out 0).trans rfl
   have hfs49 := blk_frozen BK165.out 0
   have hns49_0 := NB163_165.out
   have hns49_1 := NB164_165.out
   have hms49_0 := NB165_163.out
   have hms49_1 := NB165_164.out
   have hs51 : w47.cell? ⟨gb165, 1, none⟩ = some (.slice none 0 0) := (blk_cell BK165.out 1).trans rfl
   have hfs51 := blk_frozen BK165.out 1
   have hns51_0 := NB163_165.out
   have hns51_1 := NB164_165.out
   have hms51_0 := NB165_163.out
   have hms51_1 := NB165_164.out
   refine skip_ (w1 := ?_) (by rfl) rfl ?_ ?_
   rotate_left
   ·go_simp
    rfl
   refine hK.out _ _ ⟨((cell_far (p := ⟨gb165, _, none⟩) NB164_165.out _).trans (((cell_far (p := ⟨gb165, _, none⟩) NB164_165.out _).trans (hHeld.1)))), ((cell_far (p := ⟨gb165, _, none⟩) NB164_165.out _).trans (((cell_far (p := ⟨gb165, _, none⟩) NB164_165.out _).trans (hHeld.2.1)))), ((cell_far (p := ⟨gb165, _, none⟩) NB164_165.out _).trans (((cell_far (p := ⟨gb165, _, none⟩) NB164_165.out _).trans (hHeld.2.2.1)))), ((cell_far (p := ⟨gb165, _, none⟩) NB163_165.out _).trans (((cell_far (p := ⟨gb165, _, none⟩) NB163_165.out _).trans (hHeld.2.2.2.1)))), ((cell_far (p := ⟨gb165, _, none⟩) NB163_165.out _).trans (((cell_far (p := ⟨gb165, _, none⟩) NB163_165.out _).trans (hHeld.2.2.2.2))))⟩ (fun hHeld => ?_)
   clear hK K
   refine pure_ (i := 6) (N := some 6) (v := ?_) (a' := ?_) #[true, true, true, true, true, true, true] rfl rfl (by kernel_rfl) (fun _ _ _ h => h) (Or.inl ⟨by rfl, ?_⟩) ?_ ?_
   rotate_left
   ·intro w'
    go_simp
    with_reducible rfl
   rotate_left
   ·simp only [Act.put, List.setIfInBounds_toArray, List.set_cons_zero, List.set_cons_succ, i64_w, i32_w]
    rfl
   refine done_ (by kernel_rfl) ?_
   try go_wp2
   refine bodyPost_ret (results_list (rs := [.cell 4 28, .cell 5 25, .tmp 6]) rfl (by simp) (.cell gb164 28 #[.int .i64 t166, .int .i64 t167, .slice Ao41 t168.length co41] (0, 0) _ rfl (by refine Zb ?_; refine blk_far ?_ NB164_165.out _; refine Zb ?_; refine blk_far ?_ NB164_165.out _; refine Zb ?_; exact BK164.out) Try.underlying28 rfl (by kernel_rfl) (.cell gb165 25 #[.slice Ao48 t181.length co48, .slice Ao50 t184.length co50] (0, 0) _ rfl (by refine Zb ?_; refine blk_put (cs := #[.slice Ao48 t181.length co48, .slice none 0 0]) ?_ 1 _ rfl; refine Zb ?_; refine blk_put (cs := #[.slice none 0 0, .slice none 0 0]) ?_ 0 _ rfl; refine Zb ?_; exact BK165.out) Try.underlying25 rfl (by kernel_rfl) (.tmp .nil)))) rfl ?_
   exact ⟨_, _, _, by first | rfl | (simp [errW_none, errW_some] <;> rfl) | (simp [*, errW_none, errW_some] <;> rfl), by refine Zv ?_; exact Kd.V_mono (Kd.V_far (p := ⟨gb165, 1, none⟩) (Kd.V_far (p := ⟨gb165, 0, none⟩) (Kd.V_mono HO170.out (fun k_ hk => (⟨hk, hk.2.2.2⟩ : _ ∧ k_ ≠ gb165))) (fun _ hk => hk.2) (.slice Ao48 t181.length co48)) (fun _ hk => hk.2) (.slice Ao50 t184.length co50)) (fun _ hk => hk.1.1), by refine Zv ?_; exact Kd.V_mono (Kd.V_far (p := ⟨gb165, 1, none⟩) (Kd.V_far (p := ⟨gb165, 0, none⟩) (Kd.V_mono HO183.out (fun k_ hk => (⟨hk, hk.2.2.2⟩ : _ ∧ k_ ≠ gb165))) (fun _ hk => hk.2) (.slice Ao48 t181.length co48)) (fun _ hk => hk.2) (.slice Ao50 t184.length co50)) (fun _ hk => hk.1.1), by refine Zv ?_; exact Kd.V_mono (Kd.V_far (p := ⟨gb165, 1, none⟩) (Kd.V_far (p := ⟨gb165, 0, none⟩) (Kd.V_mono HO186.out (fun k_ hk => (⟨hk, hk.2.2.2⟩ : _ ∧ k_ ≠ gb165))) (fun _ hk => hk.2) (.slice Ao48 t181.length co48)) (fun _ hk => hk.2) (.slice Ao50 t184.length co50)) (fun _ hk => hk.1.1), (Z3 HB GE163 GE164 GE165)⟩
 ·rw [if_neg c4] at H
  have c4b0 : (t171 == 0) = false := beq_eq_false_iff_ne.mpr c4
  have c4b1 : (t171 != 0) = true := bne_iff_ne.mpr c4
  simp only [Option.some.injEq, Prod.mk.injEq] at H
  obtain ⟨rfl, rfl, rfl, rfl, rfl, rfl⟩ := H
  go_enter Try.func18, Try.ntmps18
  try go_wp2_with (first | ((with_reducible refine gate_dst (N := 2) rfl ?_); refine box_event ?hg (N := 2) ?hd (cs := #[.slice A0_0 l0_0.length c0_0, .slice A0_1 l0_1.length c0_1]) (t := 25) ?hr ?_; (case hd => rfl); (case hg => rfl); (case hr => first | (go_simp; done) | (go_simp; rfl)); intro gb163 hg w52 hbox hb; have n0_ := Aside0.mk (Kd.V_below (Kd.V_elderB (Zv HO0_0.out) gb163 (Nat.le_of_eq hg.symm)) hb); have n1_ := Aside0.mk (Kd.V_below (Kd.V_elderB (Zv HO0_1.out) gb163 (Nat.le_of_eq hg.symm)) hb); have n2_ := Aside0.mk (below_step (Z0 HB) hb); have n3_ := Aside0.mk (hbox); have n4_ := Aside0.mk ((by rw [hg]; exact (below_size (Z0 HB)) : w.heap.size ≤ gb163)); have n5_ := Aside0.mk ((by rw [hg]; exact (below_size (Z0 HB)) : w.heap.size ≤ gb163)); clear HO0_0; clear HO0_1; clear HB; have HO0_0 := n0_; have HO0_1 := n1_; have HB := n2_; have BK163 := n3_; have GW163 := n4_; have GE163 := n5_; clear n0_ n1_ n2_ n3_ n4_ n5_; clear hb hbox hg) | ((with_reducible refine gate_dst (N := 4) rfl ?_); refine box_event ?hg (N := 4) ?hd (cs := #[.int .i64 0, .int .i64 0, .slice none 0 0]) (t := 28) ?hr ?_; (case hd => rfl); (case hg => rfl); (case hr => first | (go_simp; done) | (go_simp; rfl)); intro gb164 hg w53 hbox hb; have n0_ := Aside0.mk (Kd.V_below (Kd.V_elderB (Zv HO0_0.out) gb164 (Nat.le_of_eq hg.symm)) hb); have n1_ := Aside0.mk (Kd.V_below (Kd.V_elderB (Zv HO0_1.out) gb164 (Nat.le_of_eq hg.symm)) hb); have n2_ := Aside0.mk (blk_below (g := gb163) (o := .cells #[.slice A0_0 l0_0.length c0_0, .slice A0_1 l0_1.length c0_1] 25 (0, 0)) (Zb BK163.out) hb); have n3_ := Aside0.mk (below_step (Z1 HB GE163) hb); have n4_ := Aside0.mk (hbox); have n5_ := Aside0.mk ((by rw [hg]; exact (below_size (Z1 HB GE163)) : w.heap.size ≤ gb164)); have n6_ := Aside0.mk ((by rw [hg]; exact (below_size (Z1 HB GE163)) : w.heap.size ≤ gb164)); have n7_ := Aside0.mk ((by rw [hg]; exact Nat.ne_of_lt (blk_lt (g := gb163) (o := .cells #[.slice A0_0 l0_0.length c0_0, .slice A0_1 l0_1.length c0_1] 25 (0, 0)) (Zb BK163.out)) : gb163 ≠ gb164)); have n8_ := Aside0.mk ((by rw [hg]; exact Nat.ne_of_gt (blk_lt (g := gb163) (o := .cells #[.slice A0_0 l0_0.length c0_0, .slice A0_1 l0_1.length c0_1] 25 (0, 0)) (Zb BK163.out)) : gb164 ≠ gb163)); clear HO0_0; clear HO0_1; clear BK163; clear HB; have HO0_0 := n0_; have HO0_1 := n1_; have BK163 := n2_; have HB := n3_; have BK164 := n4_; have GW164 := n5_; have GE164 := n6_; have NB163_164 := n7_; have NB164_163 := n8_; clear n0_ n1_ n2_ n3_ n4_ n5_ n6_ n7_ n8_; clear hb hbox hg) | ((with_reducible refine gate_dst (N := 5) rfl ?_); refine box_event ?hg (N := 5) ?hd (cs := #[.slice none 0 0, .slice none 0 0]) (t := 25) ?hr ?_; (case hd => rfl); (case hg => rfl); (case hr => first | (go_simp; done) | (go_simp; rfl)); intro gb165 hg w54 hbox hb; have n0_ := Aside0.mk (Kd.V_below (Kd.V_elderB (Zv HO0_0.out) gb165 (Nat.le_of_eq hg.symm)) hb); have n1_ := Aside0.mk (Kd.V_below (Kd.V_elderB (Zv HO0_1.out) gb165 (Nat.le_of_eq hg.symm)) hb); have n2_ := Aside0.mk (blk_below (g := gb163) (o := .cells #[.slice A0_0 l0_0.length c0_0, .slice A0_1 l0_1.length c0_1] 25 (0, 0)) (Zb BK163.out) hb); have n3_ := Aside0.mk (blk_below (g := gb164) (o := .cells #[.int .i64 0, .int .i64 0, .slice none 0 0] 28 (0, 0)) (Zb BK164.out) hb); have n4_ := Aside0.mk (below_step (Z2 HB GE163 GE164) hb); have n5_ := Aside0.mk (hbox); have n6_ := Aside0.mk ((by rw [hg]; exact (below_size (Z2 HB GE163 GE164)) : w.heap.size ≤ gb165)); have n7_ := Aside0.mk ((by rw [hg]; exact (below_size (Z2 HB GE163 GE164)) : w.heap.size ≤ gb165)); have n8_ := Aside0.mk ((by rw [hg]; exact Nat.ne_of_lt (blk_lt (g := gb163) (o := .cells #[.slice A0_0 l0_0.length c0_0, .slice A0_1 l0_1.length c0_1] 25 (0, 0)) (Zb BK163.out)) : gb163 ≠ gb165)); have n9_ := Aside0.mk ((by rw [hg]; exact Nat.ne_of_gt (blk_lt (g := gb163) (o := .cells #[.slice A0_0 l0_0.length c0_0, .slice A0_1 l0_1.length c0_1] 25 (0, 0)) (Zb BK163.out)) : gb165 ≠ gb163)); have n10_ := Aside0.mk ((by rw [hg]; exact Nat.ne_of_lt (blk_lt (g := gb164) (o := .cells #[.int .i64 0, .int .i64 0, .slice none 0 0] 28 (0, 0)) (Zb BK164.out)) : gb164 ≠ gb165)); have n11_ := Aside0.mk ((by rw [hg]; exact Nat.ne_of_gt (blk_lt (g := gb164) (o := .cells #[.int .i64 0, .int .i64 0, .slice none 0 0] 28 (0, 0)) (Zb BK164.out)) : gb165 ≠ gb164)); clear HO0_0; clear HO0_1; clear BK163; clear BK164; clear HB; have HO0_0 := n0_; have HO0_1 := n1_; have BK163 := n2_; have BK164 := n3_; have HB := n4_; have BK165 := n5_; have GW165 := n6_; have GE165 := n7_; have NB163_165 := n8_; have NB165_163 := n9_; have NB164_165 := n10_; have NB165_164 := n11_; clear n0_ n1_ n2_ n3_ n4_ n5_ n6_ n7_ n8_ n9_ n10_ n11_; clear hb hbox hg; have hnb55 := NB163_164.out; have hnc55 := NB164_163.out; have hnb56 := NB163_165.out; have hnc56 := NB165_163.out; have hcz57_0 : w54.cell? ⟨gb163, 0, none⟩ = some (.slice A0_0 l0_0.length c0_0) := (blk_cell BK163.out 0).trans rfl; have hcz57_1 : w54.cell? ⟨gb163, 1, none⟩ = some (.slice A0_1 l0_1.length c0_1) := (blk_cell BK163.out 1).trans rfl; have hfz57_0 := blk_frozen BK163.out 0; have hfz57_1 := blk_frozen BK163.out 1) | ((with_reducible refine gate_callee (f := 35) rfl ?_); refine goesL_ (some 10) rfl rfl Try.func35 (by kernel_rfl) rfl #[.agg #[.slice A0_0 l0_0.length c0_0, .slice A0_1 l0_1.length c0_1], .int .i64 a1] rfl (by (try simp only [List.map_toArray, List.map_cons, List.map_nil]); first | done | rfl | (simp only [List.length_drop, List.length_take]; rfl)) ?_; (with_reducible refine (network_at.calls k (fun k_ => (((((P0_0_ k_ ∨ P0_1_ k_) ∨ w.heap.size ≤ k_) ∧ k_ ≠ gb163) ∧ k_ ≠ gb164) ∧ k_ ≠ gb165)) _ _ l0_0 _ _ l0_1 a1 t166 t167 t168 t171 _ ?side1 ?side2 ?side3 A3.out).mono ?_); (case side1 => exact HO0_0.out); (case side2 => repeat (first | exact (Kd.V_reads' HO0_1.out).2.2 | (with_reducible refine Kd.C_alloc ?_ _) | (with_reducible refine Kd.C_drewN ?_ _) | (with_reducible refine Kd.C_drew ?_))); (case side3 => exact (Kd.V_reads' HO0_1.out).2.1); rintro e w58 ⟨v169, rfl, ho0, hb⟩; refine ⟨_, rfl, ?_⟩; have n0_ := Aside0.mk (Kd.V_below (Zv HO0_0.out) hb); have n1_ := Aside0.mk (Kd.V_below (Zv HO0_1.out) hb); have n2_ := Aside0.mk (Kd.V_lower (Kd.V_mono (ok' := fun k_ => ((P0_0_ k_ ∨ P0_1_ k_) ∨ w.heap.size ≤ k_) ∧ k_ ≠ gb163 ∧ k_ ≠ gb164 ∧ k_ ≠ gb165) ho0 (fun k_ hk_ => ⟨Or.elim hk_ (fun hs_ => hs_.1.1.1) (fun hn_ => (.inr (Nat.le_trans (below_size (Z3 HB GE163 GE164 GE165)) hn_))), Or.elim hk_ (fun hs_ => hs_.1.1.2) (fun hn_ => (Kd.freshB (g := gb163) (o := .cells #[.slice A0_0 l0_0.length c0_0, .slice A0_1 l0_1.length c0_1] 25 (0, 0)) (Zb BK163.out) k_ hn_)), Or.elim hk_ (fun hs_ => hs_.1.2) (fun hn_ => (Kd.freshB (g := gb164) (o := .cells #[.int .i64 0, .int .i64 0, .slice none 0 0] 28 (0, 0)) (Zb BK164.out) k_ hn_)), Or.elim hk_ (fun hs_ => hs_.2) (fun hn_ => (Kd.freshB (g := gb165) (o := .cells #[.slice none 0 0, .slice none 0 0] 25 (0, 0)) (Zb BK165.out) k_ hn_))⟩)) (below_size (Z3 HB GE163 GE164 GE165))); have n3_ := Aside0.mk (blk_below (g := gb163) (o := .cells #[.slice A0_0 l0_0.length c0_0, .slice A0_1 l0_1.length c0_1] 25 (0, 0)) (Zb BK163.out) hb); have n4_ := Aside0.mk (blk_below (g := gb164) (o := .cells #[.int .i64 0, .int .i64 0, .slice none 0 0] 28 (0, 0)) (Zb BK164.out) hb); have n5_ := Aside0.mk (blk_below (g := gb165) (o := .cells #[.slice none 0 0, .slice none 0 0] 25 (0, 0)) (Zb BK165.out) hb); have n6_ := Aside0.mk (below_step (Z3 HB GE163 GE164 GE165) hb); clear HO0_0; clear HO0_1; clear BK163; clear BK164; clear BK165; clear HB; have HO0_0 := n0_; have HO0_1 := n1_; have HO170 := n2_; have BK163 := n3_; have BK164 := n4_; have BK165 := n5_; have HB := n6_; clear n0_ n1_ n2_ n3_ n4_ n5_ n6_; (try clear hb); (try clear hb2); (try clear hk); (try clear hi); (try clear ho0); have hnb59 := NB164_165.out; have hnc59 := NB165_164.out; have hcz60_0 : w58.cell? ⟨gb164, 0, none⟩ = some (.int .i64 0) := (blk_cell BK164.out 0).trans rfl; have hcz60_1 : w58.cell? ⟨gb164, 1, none⟩ = some (.int .i64 0) := (blk_cell BK164.out 1).trans rfl; have hcz60_2 : w58.cell? ⟨gb164, 2, none⟩ = some (.slice none 0 0) := (blk_cell BK164.out 2).trans rfl; have hfz60_0 := blk_frozen BK164.out 0; have hfz60_1 := blk_frozen BK164.out 1; have hfz60_2 := blk_frozen BK164.out 2; obtain ⟨Ao61, co61, eo61⟩ := Kd.V_slice HO170.out; subst eo61))
  have n0_ : Aside0 (Kd.V k28 28 (((w58.setCell ⟨gb164, 0, none⟩ (.int .i64 t166)).setCell ⟨gb164, 1, none⟩ (.int .i64 t167)).setCell ⟨gb164, 2, none⟩ (.slice Ao61 t168.length co61)) w.heap.size (fun k_ => ((P0_0_ k_ ∨ P0_1_ k_) ∨ w.heap.size ≤ k_) ∧ k_ ≠ gb163 ∧ k_ ≠ gb164 ∧ k_ ≠ gb165) (.slice A0_0 l0_0.length c0_0) l0_0) := ⟨by refine Zv ?_; exact Kd.V_mono (Kd.V_far (p := ⟨gb164, 2, none⟩) (Kd.V_far (p := ⟨gb164, 1, none⟩) (Kd.V_far (p := ⟨gb164, 0, none⟩) (Kd.V_mono HO0_0.out (fun k_ hk => (⟨hk, hk.1.2⟩ : _ ∧ k_ ≠ gb164))) (fun _ hk => hk.2) (.int .i64 t166)) (fun _ hk => hk.2) (.int .i64 t167)) (fun _ hk => hk.2) (.slice Ao61 t168.length co61)) (fun _ hk => ⟨hk.1.1.1.1, ⟨hk.1.1.1.2, ⟨hk.1.1.2, hk.1.2⟩⟩⟩)⟩
  have n1_ : Aside0 (Kd.V k55 55 (((w58.setCell ⟨gb164, 0, none⟩ (.int .i64 t166)).setCell ⟨gb164, 1, none⟩ (.int .i64 t167)).setCell ⟨gb164, 2, none⟩ (.slice Ao61 t168.length co61)) w.heap.size (fun k_ => ((P0_0_ k_ ∨ P0_1_ k_) ∨ w.heap.size ≤ k_) ∧ k_ ≠ gb163 ∧ k_ ≠ gb164 ∧ k_ ≠ gb165) (.slice A0_1 l0_1.length c0_1) l0_1) := ⟨by refine Zv ?_; exact Kd.V_mono (Kd.V_far (p := ⟨gb164, 2, none⟩) (Kd.V_far (p := ⟨gb164, 1, none⟩) (Kd.V_far (p := ⟨gb164, 0, none⟩) (Kd.V_mono HO0_1.out (fun k_ hk => (⟨hk, hk.1.2⟩ : _ ∧ k_ ≠ gb164))) (fun _ hk => hk.2) (.int .i64 t166)) (fun _ hk => hk.2) (.int .i64 t167)) (fun _ hk => hk.2) (.slice Ao61 t168.length co61)) (fun _ hk => ⟨hk.1.1.1.1, ⟨hk.1.1.1.2, ⟨hk.1.1.2, hk.1.2⟩⟩⟩)⟩
  have n2_ : Aside0 (Kd.V (Kd.int .u8) 5 (((w58.setCell ⟨gb164, 0, none⟩ (.int .i64 t166)).setCell ⟨gb164, 1, none⟩ (.int .i64 t167)).setCell ⟨gb164, 2, none⟩ (.slice Ao61 t168.length co61)) w.heap.size (fun k_ => ((P0_0_ k_ ∨ P0_1_ k_) ∨ w.heap.size ≤ k_) ∧ k_ ≠ gb163 ∧ k_ ≠ gb164 ∧ k_ ≠ gb165) (.slice Ao61 t168.length co61) t168) := ⟨by refine Zv ?_; exact Kd.V_mono (Kd.V_far (p := ⟨gb164, 2, none⟩) (Kd.V_far (p := ⟨gb164, 1, none⟩) (Kd.V_far (p := ⟨gb164, 0, none⟩) (Kd.V_mono HO170.out (fun k_ hk => (⟨hk, hk.2.2.1⟩ : _ ∧ k_ ≠ gb164))) (fun _ hk => hk.2) (.int .i64 t166)) (fun _ hk => hk.2) (.int .i64 t167)) (fun _ hk => hk.2) (.slice Ao61 t168.length co61)) (fun _ hk => ⟨hk.1.1, ⟨hk.1.2.1, ⟨hk.1.2.2.1, hk.1.2.2.2⟩⟩⟩)⟩
  have n3_ : Aside0 ((((w58.setCell ⟨gb164, 0, none⟩ (.int .i64 t166)).setCell ⟨gb164, 1, none⟩ (.int .i64 t167)).setCell ⟨gb164, 2, none⟩ (.slice Ao61 t168.length co61)).heap[gb163]? = some (.cells #[.slice A0_0 l0_0.length c0_0, .slice A0_1 l0_1.length c0_1] 25 (0, 0))) := ⟨by refine Zb ?_; refine blk_far ?_ NB163_164.out _; refine Zb ?_; refine blk_far ?_ NB163_164.out _; refine Zb ?_; refine blk_far ?_ NB163_164.out _; refine Zb ?_; exact BK163.out⟩
  have n4_ : Aside0 ((((w58.setCell ⟨gb164, 0, none⟩ (.int .i64 t166)).setCell ⟨gb164, 1, none⟩ (.int .i64 t167)).setCell ⟨gb164, 2, none⟩ (.slice Ao61 t168.length co61)).heap[gb164]? = some (.cells #[.int .i64 t166, .int .i64 t167, .slice Ao61 t168.length co61] 28 (0, 0))) := ⟨by refine Zb ?_; refine blk_put (cs := #[.int .i64 t166, .int .i64 t167, .slice none 0 0]) ?_ 2 _ rfl; refine Zb ?_; refine blk_put (cs := #[.int .i64 t166, .int .i64 0, .slice none 0 0]) ?_ 1 _ rfl; refine Zb ?_; refine blk_put (cs := #[.int .i64 0, .int .i64 0, .slice none 0 0]) ?_ 0 _ rfl; refine Zb ?_; exact BK164.out⟩
  have n5_ : Aside0 ((((w58.setCell ⟨gb164, 0, none⟩ (.int .i64 t166)).setCell ⟨gb164, 1, none⟩ (.int .i64 t167)).setCell ⟨gb164, 2, none⟩ (.slice Ao61 t168.length co61)).heap[gb165]? = some (.cells #[.slice none 0 0, .slice none 0 0] 25 (0, 0))) := ⟨by refine Zb ?_; refine blk_far ?_ NB165_164.out _; refine Zb ?_; refine blk_far ?_ NB165_164.out _; refine Zb ?_; refine blk_far ?_ NB165_164.out _; refine Zb ?_; exact BK165.out⟩
  have n6_ : Aside0 (Below w.heap.size w (((w58.setCell ⟨gb164, 0, none⟩ (.int .i64 t166)).setCell ⟨gb164, 1, none⟩ (.int .i64 t167)).setCell ⟨gb164, 2, none⟩ (.slice Ao61 t168.length co61))) := ⟨(Z3 HB GE163 GE164 GE165)⟩
  (try clear HO0_0)
  (try clear HO0_1)
  (try clear HO170)
  (try clear BK163)
  (try clear BK164)
  (try clear BK165)
  (try clear HB)
  generalize (((w58.setCell ⟨gb164, 0, none⟩ (.int .i64 t166)).setCell ⟨gb164, 1, none⟩ (.int .i64 t167)).setCell ⟨gb164, 2, none⟩ (.slice Ao61 t168.length co61)) = w62 at n0_ n1_ n2_ n3_ n4_ n5_ n6_ ⊢
  have HO0_0 := n0_
  have HO0_1 := n1_
  have HO170 := n2_
  have BK163 := n3_
  have BK164 := n4_
  have BK165 := n5_
  have HB := n6_
  clear n0_ n1_ n2_ n3_ n4_ n5_ n6_
  have n0_ := Aside0.mk (Kd.V_drew HO0_0.out)
  have n1_ := Aside0.mk (Kd.V_drew HO0_1.out)
  have n2_ := Aside0.mk (Kd.V_drew HO170.out)
  have n3_ := Aside0.mk (blk_drew BK163.out)
  have n4_ := Aside0.mk (blk_drew BK164.out)
  have n5_ := Aside0.mk (blk_drew BK165.out)
  have n6_ := Aside0.mk (below_drew1 HB.out)
  clear HO0_0
  clear HO0_1
  clear HO170
  clear BK163
  clear BK164
  clear BK165
  clear HB
  have HO0_0 := n0_
  have HO0_1 := n1_
  have HO170 := n2_
  have BK163 := n3_
  have BK164 := n4_
  have BK165 := n5_
  have HB := n6_
  clear n0_ n1_ n2_ n3_ n4_ n5_ n6_
  refine start_ (n := 6) (S := fun w' => w'.cell? ⟨gb164, 0, none⟩ = some (.int .i64 t166) ∧ w'.cell? ⟨gb164, 1, none⟩ = some (.int .i64 t167) ∧ w'.cell? ⟨gb164, 2, none⟩ = some (.slice Ao61 t168.length co61) ∧ w'.cell? ⟨gb165, 0, none⟩ = some (.slice none 0 0) ∧ w'.cell? ⟨gb165, 1, none⟩ = some (.slice none 0 0)) (ds := []) #[false, false, false, false, false, false] (by kernel_rfl) rfl rfl ⟨(blk_cell BK164.out 0).trans rfl, (blk_cell BK164.out 1).trans rfl, (blk_cell BK164.out 2).trans rfl, (blk_cell BK165.out 0).trans rfl, (blk_cell BK165.out 1).trans rfl⟩ (fun hHeld => ?_)
  generalize w62.drew = w63 at HO0_0 HO0_1 HO170 BK163 BK164 BK165 HB hHeld ⊢
  refine pure_ (i := 2) (N := some 17) (v := ?_) (a' := ?_) #[false, false, true, false, false, false] rfl rfl (by kernel_rfl) (fun _ _ _ h => h) (Or.inl ⟨by rfl, ?_⟩) ?_ ?_
  rotate_left
  ·intro w'
   go_simp
   with_reducible rfl
  rotate_left
  ·simp only [Act.put, List.setIfInBounds_toArray, List.set_cons_zero, List.set_cons_succ, i64_w, i32_w]
   rfl
  refine take_ (i := 0) (N := some 15) (v := ?_) (a' := ?_) #[true, false, true, false, false, false] rfl rfl (by kernel_rfl) (fun _ _ _ h => h) (Or.inl ⟨by rfl, ?_⟩) hHeld ?_ ?_
  rotate_left
  ·rintro w' ⟨s0, s1, s2, s3, s4⟩
   go_simp
   with_reducible rfl
  rotate_left
  ·simp only [Act.put, List.setIfInBounds_toArray, List.set_cons_zero, List.set_cons_succ, i64_w, i32_w]
   rfl
  refine take_ (i := 1) (N := some 16) (v := ?_) (a' := ?_) #[true, true, true, false, false, false] rfl rfl (by kernel_rfl) (fun _ _ _ h => h) (Or.inl ⟨by rfl, ?_⟩) hHeld ?_ ?_
  rotate_left
  ·rintro w' ⟨s0, s1, s2, s3, s4⟩
   go_simp
   with_reducible rfl
  rotate_left
  ·simp only [Act.put, List.setIfInBounds_toArray, List.set_cons_zero, List.set_cons_succ, i64_w, i32_w]
   rfl
  refine one_ (i := 3) (N := none) #[true, true, true, true, false, false] rfl rfl (by kernel_rfl) (by decide) (fun K hK => ?_)
  have hso0 := hHeld.1
  have hfo0 := blk_frozen BK164.out 0
  have hso1 := hHeld.2.1
  have hfo1 := blk_frozen BK164.out 1
  have hso2 := hHeld.2.2.1
  have hfo2 := blk_frozen BK164.out 2
  refine skip_ (w1 := ?_) (by rfl) rfl ?_ ?_
  rotate_left
  ·go_simp
   rw [set_same hso0, set_same hso1, set_same hso2]
  refine hK.out _ _ hHeld (fun hHeld => ?_)
  clear hK K hso0 hfo0 hso1 hfo1 hso2 hfo2
  refine one_ (i := 4) (N := none) #[true, true, true, true, true, false] rfl rfl (by kernel_rfl) (by decide) (fun K hK => ?_)
  have hso0 := hHeld.2.2.2.1
  have hfo0 := blk_frozen BK165.out 0
  have hso1 := hHeld.2.2.2.2
  have hfo1 := blk_frozen BK165.out 1
  refine skip_ (w1 := ?_) (by rfl) rfl ?_ ?_
  rotate_left
  ·go_simp
   rw [set_same hso0, set_same hso1]
  refine hK.out _ _ hHeld (fun hHeld => ?_)
  clear hK K hso0 hfo0 hso1 hfo1
  refine pure_ (i := 5) (N := some 6) (v := ?_) (a' := ?_) #[true, true, true, true, true, true] rfl rfl (by kernel_rfl) (fun _ _ _ h => h) (Or.inl ⟨by rfl, ?_⟩) ?_ ?_
  rotate_left
  ·intro w'
   go_simp
   with_reducible rfl
  rotate_left
  ·simp only [Act.put, List.setIfInBounds_toArray, List.set_cons_zero, List.set_cons_succ, i64_w, i32_w]
   rfl
  refine done_ (by kernel_rfl) ?_
  try go_wp2
  refine bodyPost_ret (results_list (rs := [.cell 4 28, .cell 5 25, .tmp 6]) rfl (by simp) (.cell gb164 28 #[.int .i64 t166, .int .i64 t167, .slice Ao61 t168.length co61] (0, 0) _ rfl (Zb BK164.out) Try.underlying28 rfl (by kernel_rfl) (.cell gb165 25 #[.slice none 0 0, .slice none 0 0] (0, 0) _ rfl (Zb BK165.out) Try.underlying25 rfl (by kernel_rfl) (.tmp .nil)))) rfl ?_
  exact ⟨_, _, _, by first | rfl | (simp [errW_none, errW_some] <;> rfl) | (simp [*, errW_none, errW_some] <;> rfl), by refine Zv ?_; exact Kd.V_mono HO170.out (fun _ hk => hk.1), (Kd.V_nil _ _ _ _ _), (Kd.V_nil _ _ _ _ _), (Z3 HB GE163 GE164 GE165)⟩

-- NOT PRINTED: function 39 (network_cuts)

end Go.Proofs.Ythlehlbokaeigaa.Q
