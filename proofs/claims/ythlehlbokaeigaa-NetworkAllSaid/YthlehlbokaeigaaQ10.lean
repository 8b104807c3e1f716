-- Written by wip/tools/extprint.py of this repo (a program of this claim's own, over the kit's printer) out of the translation; Lean checks it.
import Derived.Test.YthlehlbokaeigaaQ0
import Derived.Test.YthlehlbokaeigaaQ4
import Derived.Test.YthlehlbokaeigaaQ6
import Derived.Test.YthlehlbokaeigaaQ7
import Derived.Test.YthlehlbokaeigaaQ9
namespace Go.Proofs.Ythlehlbokaeigaa.Q
open Go.RowKit Go.Proofs.YthlehlbokaeigaaW.PrintWords Go.Proofs.YthlehlbokaeigaaW.PrintLast Go.Proofs.YthlehlbokaeigaaW.PrintMore
attribute [local go_sem] max2_int min2_int max_two min_two max_three min_three max_four min_four   -- for this text's walks alone
set_option linter.unusedVariables false
set_option linter.unusedSimpArgs false


/-- Where a shared row that is not empty lies: not in a block that it may not lead to. -/
theorem V_blk {α : Type} {d : Kd α} {e base n c g : Nat} {ok : Nat → Prop} {W : World} {ad : Addr} {xs : List α} {i : Int} (h : Kd.V d e W base ok (.slice (some ad) n c) xs) (hok : ∀ k, ok k → k ≠ g) (hs : 0 < d.sz := by decide)
  (hn : (i < (n : Int)) = True := by assumption) (hi : (0 ≤ i) = True := by assumption) : ad.block ≠ g := by
 rintro rfl
 have hn0 : 0 < n := by have h1 := of_eq_true hn; have h2 := of_eq_true hi; omega
 obtain ⟨A, c', hv, hl, hf⟩ := h
 injection hv with hA hn1 hc
 subst hA
 have hlen : 0 < xs.length := by rw [← hn1]; exact hn0
 have h1 := Kd.F_step (W1 := { W with heap := W.heap.setIfInBounds ad.block (.cells #[] 0 (0, 0)) }) hf (fun k hk _ => by
  have hne := hok k hk
  simp only [Array.getElem?_setIfInBounds]
  rw [if_neg (Ne.symm hne)])
 obtain ⟨p, hp, hr⟩ := (Kd.F_now h1).2.2 hlen
 obtain rfl := Option.some.inj hp
 obtain ⟨x, hx⟩ : ∃ x, xs[0]? = some x := ⟨_, List.getElem?_eq_getElem hlen⟩
 obtain ⟨cs, hcl, _, hcell⟩ := hr 0 x hx
 have hc0 : 0 < cs.length := by omega
 have hq := hcell 0 _ (List.getElem?_eq_getElem hc0)
 unfold World.cell? at hq
 simp only [Addr.add, Array.getElem?_setIfInBounds] at hq
 split at hq <;> simp_all
theorem Zb {p q : Prop} (h : q) (g : q → p := by intro h_; (with_reducible repeat (first | refine blk_drewN ?_ _ | refine blk_drew ?_ | refine blk_alloc ?_ _)); exact h_) : p := g h
theorem Zv {p q : Prop} (h : q) (g : q → p := by intro h_; (with_reducible repeat (first | apply Kd.V_alloc | apply Kd.V_drewN | apply Kd.V_drew)); exact h_) : p := g h
theorem Zn {p q : Prop} (h : q) (g : q → p := by intro h_; (with_reducible repeat (first | apply Kd.N_alloc | apply Kd.N_drewN | apply Kd.N_drew)); exact h_) : p := g h
theorem Z0 {p q : Prop} (h : Aside0 q) (g : q → p := by intro h_; repeat (first | (with_reducible first | exact h_ | apply below_alloc | apply pw_below_drewN | apply below_drew1) | exact h_)) : p := g h.out
theorem Z1 {p q a : Prop} (h : Aside0 q) (ha : Aside0 a) (g : q → a → p := by intro h_ a_; repeat (first | (with_reducible first | exact h_ | apply below_alloc | apply pw_below_drewN | apply below_drew1 | refine below_set ?_ a_) | exact h_)) : p := g h.out ha.out
theorem Z2 {p q a b : Prop} (h : Aside0 q) (ha : Aside0 a) (hb : Aside0 b) (g : q → a → b → p := by intro h_ a_ b_; repeat (first | (with_reducible first | exact h_ | apply below_alloc | apply pw_below_drewN | apply below_drew1 | refine below_set ?_ a_ | refine below_set ?_ b_) | exact h_)) : p := g h.out ha.out hb.out
theorem Z3 {p q a b c : Prop} (h : Aside0 q) (ha : Aside0 a) (hb : Aside0 b) (hc : Aside0 c) (g : q → a → b → c → p := by intro h_ a_ b_ c_; repeat (first | (with_reducible first | exact h_ | apply below_alloc | apply pw_below_drewN | apply below_drew1 | refine below_set ?_ a_ | refine below_set ?_ b_ | refine below_set ?_ c_) | exact h_)) : p := g h.out ha.out hb.out hc.out
/-! ### signatorylaw06_NetworkAll: function 4 -/
mutual
def signatorylaw06_NetworkAll.l0 : Nat → List (S28) → List Int → List (S28) → Int → List (S28) → List (S55) → Option (Bool)
 | 0, _, _, _, _, _, _ => none
 | k + 1, x0, x1, x6, x7, x221000, x221001 => if x7 < (x0.length : Int) then (if 0 ≤ x7 then ((network_Send.f k x221000 x221001 ((rd_T28 x0 x7).f0) ((rd_T28 x0 x7).f1) ((rd_T28 x0 x7).f2)).bind fun bt222 => (if bt222.2.2 = 0 then (if x6.length < 3518437208883 then (signatorylaw06_NetworkAll.l0 k x0 x1 (x6 ++ [(⟨(rd_T28 x0 x7).f0, (rd_T28 x0 x7).f1, (rd_T28 x0 x7).f2⟩ : S28)]) (wrap64 (x7 + 1)) bt222.1 bt222.2.1) else (none)) else (signatorylaw06_NetworkAll.l0 k x0 x1 x6 (wrap64 (x7 + 1)) x221000 x221001))) else (none)) else (signatorylaw06_NetworkAll.l1 k x1 x6 0 x221000 x221001)
def signatorylaw06_NetworkAll.l1 : Nat → List Int → List (S28) → Int → List (S28) → List (S55) → Option (Bool)
 | 0, _, _, _, _, _ => none
 | k + 1, x1, x6, x10, x221000, x221001 => if (x6.length : Int) > 0 then (if x10 < (x1.length : Int) then (if 0 ≤ x10 then (if (x6.length : Int) = 0 then (none) else (signatorylaw06_NetworkAll.j2 k x1 x6 x10 (Int.tmod (wrap64 (rd x1 x10)) (x6.length : Int)) x221000 x221001)) else (none)) else (signatorylaw06_NetworkAll.j2 k x1 x6 x10 0 x221000 x221001)) else (some ((x221000.length : Int) == 0))
def signatorylaw06_NetworkAll.j2 : Nat → List Int → List (S28) → Int → Int → List (S28) → List (S55) → Option (Bool)
 | 0, _, _, _, _, _, _ => none
 | k + 1, x1, x6, x10, x11, x221000, x221001 => (network_Deliver.f k x221000 x221001 x11).bind fun bt235 => (if bt235.2.2.2.2.2 = 0 then (if 0 ≤ x11 then (if x11 < (x6.length : Int) then ((signatoryref06_SamePacket.f bt235.1 bt235.2.1 bt235.2.2.1 ((rd_T28 x6 x11).f0) ((rd_T28 x6 x11).f1) ((rd_T28 x6 x11).f2)).bind fun t250 => (if t250 = true then ((some (([] : List (S28)) : List (S28))).bind fun y251 => (if x11 ≤ (x6.length : Int) then ((some (x6.take (x11 : Int).toNat : List (S28))).bind fun y254 => (if y251.length + y254.length < 3518437208883 then ((some (y251 ++ y254 : List (S28))).bind fun y259 => (if 0 ≤ (wrap64 (x11 + 1)) then (if (wrap64 (x11 + 1)) ≤ (x6.length : Int) then ((some (x6.drop ((wrap64 (x11 + 1)) : Int).toNat : List (S28))).bind fun y262 => (if y259.length + y262.length < 3518437208883 then (signatorylaw06_NetworkAll.l1 k x1 (y259 ++ y262) (wrap64 (x10 + 1)) bt235.2.2.2.1 bt235.2.2.2.2.1) else (none))) else (none)) else (none))) else (none))) else (none))) else (some false))) else (none)) else (none)) else (some false))
end
def signatorylaw06_NetworkAll.f (k : Nat) (l0 : List (S28)) (l1 : List Int) : Option (Bool) := (signatorylaw06_sane.f k).bind fun t213 => (if t213 = true then (if (l0.length : Int) > 12 then (some true) else ((network_New.f).bind fun bt214 => (signatorylaw06_NetworkAll.l0 k l0 l1 ([] : List (S28)) 0 bt214.1 bt214.2))) else (some false))
theorem signatorylaw06_NetworkAll.mono_l : ∀ k, (∀ y0 y1 y2 y3 y4 y5, LeO (signatorylaw06_NetworkAll.l0 k y0 y1 y2 y3 y4 y5) (signatorylaw06_NetworkAll.l0 (k + 1) y0 y1 y2 y3 y4 y5)) ∧ (∀ y0 y1 y2 y3 y4, LeO (signatorylaw06_NetworkAll.l1 k y0 y1 y2 y3 y4) (signatorylaw06_NetworkAll.l1 (k + 1) y0 y1 y2 y3 y4)) ∧ (∀ y0 y1 y2 y3 y4 y5, LeO (signatorylaw06_NetworkAll.j2 k y0 y1 y2 y3 y4 y5) (signatorylaw06_NetworkAll.j2 (k + 1) y0 y1 y2 y3 y4 y5))
 | 0 => ⟨fun _ _ _ _ _ _ r h => by simp [signatorylaw06_NetworkAll.l0] at h, fun _ _ _ _ _ r h => by simp [signatorylaw06_NetworkAll.l1] at h, fun _ _ _ _ _ _ r h => by simp [signatorylaw06_NetworkAll.j2] at h⟩
 | k + 1 => by
  obtain ⟨ih0, ih1, ih2⟩ := signatorylaw06_NetworkAll.mono_l k
  refine ⟨?_, ?_, ?_⟩
  ·intro y0 y1 y2 y3 y4 y5
   unfold signatorylaw06_NetworkAll.l0
   repeat' first
   | (with_reducible exact ih0 _ _ _ _ _ _)
   | (with_reducible exact ih1 _ _ _ _ _)
   | (with_reducible exact ih2 _ _ _ _ _ _)
   | (with_reducible exact network_Deliver.mono _ _ _ _)
   | (with_reducible exact network_Send.mono _ _ _ _ _ _)
   | (with_reducible exact signatorylaw06_sane.mono _)
   | (with_reducible exact LeO.refl _)
   | (with_reducible exact LeO.none _)
   | (with_reducible refine LeO.ite ?_ ?_)
   | (with_reducible refine LeO.bind ?_ (fun _ => ?_))
   | exact ih0 _ _ _ _ _ _
   | exact ih1 _ _ _ _ _
   | exact ih2 _ _ _ _ _ _
   | exact network_Deliver.mono _ _ _ _
   | exact network_Send.mono _ _ _ _ _ _
   | exact signatorylaw06_sane.mono _
   | exact LeO.none _
   | refine LeO.ite ?_ ?_
   | refine LeO.bind ?_ (fun _ => ?_)
  ·intro y0 y1 y2 y3 y4
   unfold signatorylaw06_NetworkAll.l1
   repeat' first
   | (with_reducible exact ih0 _ _ _ _ _ _)
   | (with_reducible exact ih1 _ _ _ _ _)
   | (with_reducible exact ih2 _ _ _ _ _ _)
   | (with_reducible exact network_Deliver.mono _ _ _ _)
   | (with_reducible exact network_Send.mono _ _ _ _ _ _)
   | (with_reducible exact signatorylaw06_sane.mono _)
   | (with_reducible exact LeO.refl _)
   | (with_reducible exact LeO.none _)
   | (with_reducible refine LeO.ite ?_ ?_)
   | (with_reducible refine LeO.bind ?_ (fun _ => ?_))
   | exact ih0 _ _ _ _ _ _
   | exact ih1 _ _ _ _ _
   | exact ih2 _ _ _ _ _ _
   | exact network_Deliver.mono _ _ _ _
   | exact network_Send.mono _ _ _ _ _ _
   | exact signatorylaw06_sane.mono _
   | exact LeO.none _
   | refine LeO.ite ?_ ?_
   | refine LeO.bind ?_ (fun _ => ?_)
  ·intro y0 y1 y2 y3 y4 y5
   unfold signatorylaw06_NetworkAll.j2
   repeat' first
   | (with_reducible exact ih0 _ _ _ _ _ _)
   | (with_reducible exact ih1 _ _ _ _ _)
   | (with_reducible exact ih2 _ _ _ _ _ _)
   | (with_reducible exact network_Deliver.mono _ _ _ _)
   | (with_reducible exact network_Send.mono _ _ _ _ _ _)
   | (with_reducible exact signatorylaw06_sane.mono _)
   | (with_reducible exact LeO.refl _)
   | (with_reducible exact LeO.none _)
   | (with_reducible refine LeO.ite ?_ ?_)
   | (with_reducible refine LeO.bind ?_ (fun _ => ?_))
   | exact ih0 _ _ _ _ _ _
   | exact ih1 _ _ _ _ _
   | exact ih2 _ _ _ _ _ _
   | exact network_Deliver.mono _ _ _ _
   | exact network_Send.mono _ _ _ _ _ _
   | exact signatorylaw06_sane.mono _
   | exact LeO.none _
   | refine LeO.ite ?_ ?_
   | refine LeO.bind ?_ (fun _ => ?_)
theorem signatorylaw06_NetworkAll.mono : ∀ a0 a1 k, LeO (signatorylaw06_NetworkAll.f k a0 a1) (signatorylaw06_NetworkAll.f (k + 1) a0 a1) := by
 intro a0 a1 k
 obtain ⟨ih0, ih1, ih2⟩ := signatorylaw06_NetworkAll.mono_l k
 unfold signatorylaw06_NetworkAll.f
 repeat' first
   | (with_reducible exact ih0 _ _ _ _ _ _)
   | (with_reducible exact ih1 _ _ _ _ _)
   | (with_reducible exact ih2 _ _ _ _ _ _)
   | (with_reducible exact network_Deliver.mono _ _ _ _)
   | (with_reducible exact network_Send.mono _ _ _ _ _ _)
   | (with_reducible exact signatorylaw06_sane.mono _)
   | (with_reducible exact LeO.refl _)
   | (with_reducible exact LeO.none _)
   | (with_reducible refine LeO.ite ?_ ?_)
   | (with_reducible refine LeO.bind ?_ (fun _ => ?_))
   | exact ih0 _ _ _ _ _ _
   | exact ih1 _ _ _ _ _
   | exact ih2 _ _ _ _ _ _
   | exact network_Deliver.mono _ _ _ _
   | exact network_Send.mono _ _ _ _ _ _
   | exact signatorylaw06_sane.mono _
   | exact LeO.none _
   | refine LeO.ite ?_ ?_
   | refine LeO.bind ?_ (fun _ => ?_)
def signatorylaw06_NetworkAll.T10 : Bool × List (List Nat × List Nat) := (true, [([], []), ([], []), ([], []), ([1, 2], [1, 2]), ([3], [3]), ([0, 4], [0, 4]), ([5], [5]), ([6], [6]), ([6], [6]), ([], []), ([9, 7, 5, 0, 1, 2, 3, 4, 5, 6, 7, 9], [7, 9]), ([8, 10, 0, 1, 2, 3, 4, 5, 6, 7, 8, 9, 10], [8])])
def signatorylaw06_NetworkAll.B10 : List Nat := [0, 0, 0, 6, 14, 31, 63, 127, 127, 0, 767, 2047]
theorem signatorylaw06_NetworkAll.tab10 : rtab .any (opsOf Try.f4 10) = signatorylaw06_NetworkAll.T10 := by kernel_rfl
theorem signatorylaw06_NetworkAll.bits10 : waitsOk signatorylaw06_NetworkAll.T10.2 signatorylaw06_NetworkAll.B10 = true := by kernel_rfl
def signatorylaw06_NetworkAll.T21 : Bool × List (List Nat × List Nat) := (true, [([], []), ([0], [0]), ([1], [1]), ([2], [2]), ([2], [2]), ([2], [2]), ([4, 5, 2], [2, 4, 5]), ([6, 2], [2, 6]), ([3, 7, 2, 2], [2, 3, 7]), ([8, 2], [2, 8]), ([2, 9], [2, 9])])
def signatorylaw06_NetworkAll.B21 : List Nat := [0, 1, 3, 7, 7, 7, 55, 119, 255, 511, 1023]
theorem signatorylaw06_NetworkAll.tab21 : rtab .any (opsOf Try.f4 21) = signatorylaw06_NetworkAll.T21 := by kernel_rfl
theorem signatorylaw06_NetworkAll.bits21 : waitsOk signatorylaw06_NetworkAll.T21.2 signatorylaw06_NetworkAll.B21 = true := by kernel_rfl
def signatorylaw06_NetworkAll.T24 : Bool × List (List Nat × List Nat) := (true, [([], []), ([], []), ([], []), ([1, 2], [1, 2]), ([0, 3], [0, 3]), ([], []), ([], []), ([6], [6]), ([5, 7], [5, 7]), ([4, 8, 4], [4, 8]), ([9, 9, 0, 1, 2, 3, 4, 5, 6, 7, 8, 9], [1, 5, 9])])
def signatorylaw06_NetworkAll.B24 : List Nat := [0, 0, 0, 6, 15, 0, 0, 64, 224, 511, 1023]
theorem signatorylaw06_NetworkAll.tab24 : rtab .any (opsOf Try.f4 24) = signatorylaw06_NetworkAll.T24 := by kernel_rfl
theorem signatorylaw06_NetworkAll.bits24 : waitsOk signatorylaw06_NetworkAll.T24.2 signatorylaw06_NetworkAll.B24 = true := by kernel_rfl
set_option maxHeartbeats 8000000 in
set_option maxRecDepth 100000 in
theorem signatorylaw06_NetworkAll.calls (k : Nat) (P0_ : Nat → Prop) (A0 : Option Addr) (c0 : Nat) (l0 : List (S28)) (A1 : Option Addr) (c1 : Nat) (l1 : List Int) (r : Bool) (w : World) (hs0 : Kd.V k28 28 w w.heap.size (fun k_ => P0_ k_) (.slice A0 l0.length c0) l0) (hr1 : Kd.C (Kd.int .u8) w A1 l1.length l1) (hc1 : l1.length ≤ c1) (h : signatorylaw06_NetworkAll.f k l0 l1 = some r) :
  Calls Try.prog 4 #[.slice A0 l0.length c0, .slice A1 l1.length c1] w fun e w' => e = .returned (.bool r) ∧ Below w.heap.size w w' := by
 have hu25 := Try.underlying25
 have hu28 := Try.underlying28
 have HO0 := Aside0.mk (show Kd.V k28 28 w w.heap.size (fun k_ => (P0_ k_ ∨ w.heap.size ≤ k_)) (.slice A0 l0.length c0) l0 from Kd.V_mono hs0 (fun k_ hk => .inl hk))
 have HR1 := Aside0.mk hr1
 have HC1 := Aside0.mk hc1
 clear hr1 hc1
 have HB := Aside0.mk (Below.refl w.heap.size w)
 have H : ((signatorylaw06_sane.f k).bind fun t213 => (if t213 = true then (if (l0.length : Int) > 12 then (some true) else ((network_New.f).bind fun bt214 => (signatorylaw06_NetworkAll.l0 k l0 l1 ([] : List (S28)) 0 bt214.1 bt214.2))) else (some false))) = some r := h
 clear h
 replace H := Option.bind_eq_some_iff.mp H
 obtain ⟨t213, A30, H⟩ := H
 replace H : (if t213 = true then (if (l0.length : Int) > 12 then (some true) else ((network_New.f).bind fun bt214 => (signatorylaw06_NetworkAll.l0 k l0 l1 ([] : List (S28)) 0 bt214.1 bt214.2))) else (some false)) = some r := H
 have A3 := Aside0.mk A30
 clear A30
 by_cases c4 : t213 = true
 ·subst c4
  have H1 : (if (l0.length : Int) > 12 then (some true) else ((network_New.f).bind fun bt214 => (signatorylaw06_NetworkAll.l0 k l0 l1 ([] : List (S28)) 0 bt214.1 bt214.2))) = some r := by rw [if_pos rfl] at H; exact H
  clear H
  have H := H1
  clear H1
  by_cases c5 : (l0.length : Int) > 12
  ·rw [if_pos c5] at H
   have c5b0 : decide (12 < (l0.length : Int)) = true := decide_eq_true c5
   have c5b1 : decide (12 < l0.length) = true := decide_eq_true (by omega)
   clear c5
   obtain rfl := Option.some.inj H
   go_enter Try.func4, Try.ntmps4
   go_wp2_with (first | ((with_reducible refine gate_callee (f := 9) rfl ?_); refine goesL_ (some 15) rfl rfl Try.func9 (by kernel_rfl) rfl #[] rfl (by (try simp only [List.map_toArray, List.map_cons, List.map_nil]); first | done | rfl | (simp only [List.length_drop, List.length_take]; rfl)) ?_; (with_reducible refine (signatorylaw06_sane.calls k  true _ A3.out).mono ?_); rintro e w6 ⟨rfl, hb⟩; refine ⟨_, rfl, ?_⟩; have n0_ := Aside0.mk (Kd.V_below (Zv HO0.out) hb); have n1_ := Aside0.mk (below_step (Z0 HB) hb); clear HO0; clear HB; have HO0 := n0_; have HB := n1_; clear n0_ n1_; (try clear hb); (try clear hb2); (try clear hk); (try clear hi)))
   go_ret
   exact ⟨by first | rfl | (simp [errW_none, errW_some] <;> rfl) | (simp [*, errW_none, errW_some] <;> rfl), (Z0 HB)⟩
  ·rw [if_neg c5] at H
   have c5b0 : decide (12 < (l0.length : Int)) = false := decide_eq_false c5
   have c5b1 : decide (12 < l0.length) = false := decide_eq_false (by omega)
   clear c5
   replace H := Option.bind_eq_some_iff.mp H
   obtain ⟨⟨t214, t217⟩, A70, H⟩ := H
   replace H : (signatorylaw06_NetworkAll.l0 k l0 l1 ([] : List (S28)) 0 t214 t217) = some r := H
   have A7 := Aside0.mk A70
   clear A70
   have H' := Aside0.mk H
   clear H
   go_enter Try.func4, Try.ntmps4
   go_wp2_with (first | ((with_reducible refine gate_callee (f := 9) rfl ?_); refine goesL_ (some 15) rfl rfl Try.func9 (by kernel_rfl) rfl #[] rfl (by (try simp only [List.map_toArray, List.map_cons, List.map_nil]); first | done | rfl | (simp only [List.length_drop, List.length_take]; rfl)) ?_; (with_reducible refine (signatorylaw06_sane.calls k  true _ A3.out).mono ?_); rintro e w8 ⟨rfl, hb⟩; refine ⟨_, rfl, ?_⟩; have n0_ := Aside0.mk (Kd.V_below (Zv HO0.out) hb); have n1_ := Aside0.mk (below_step (Z0 HB) hb); clear HO0; clear HB; have HO0 := n0_; have HB := n1_; clear n0_ n1_; (try clear hb); (try clear hb2); (try clear hk); (try clear hi)) | ((with_reducible refine gate_callee (f := 16) rfl ?_); refine goesL_ (some 20) rfl rfl Try.func16 (by kernel_rfl) rfl #[] rfl (by (try simp only [List.map_toArray, List.map_cons, List.map_nil]); first | done | rfl | (simp only [List.length_drop, List.length_take]; rfl)) ?_; (with_reducible refine (network_New.calls  t214 t217 _ A7.out).mono ?_); rintro e w9 ⟨v215, v218, rfl, ho0, ho1, hb⟩; refine ⟨_, rfl, ?_⟩; have n0_ := Aside0.mk (Kd.V_mono (Kd.V_told (Kd.V_told (Kd.V_old (Zv HO0.out) hb) (Kd.S_base ho0)) (Kd.R_base ho1)) (fun _ h_ => h_.1)); have n1_ := Aside0.mk (Kd.N_lower (Kd.N_mono (ok' := fun k_ => (P0_ k_ ∨ w.heap.size ≤ k_) ∧ some k_ ≠ (v218 : Value).ownBlock) (Kd.S_N (Kd.S_bound (Kd.S_apart' ho0 (Kd.R_typed ho1) (by decide)))) (fun k_ hk_ => ⟨(.inr (Nat.le_trans (below_size (Z0 HB)) hk_.2.1)), hk_.1.2⟩)) (below_size (Z0 HB))); have n2_ := Aside0.mk (Kd.R_lower (Kd.R_newM (M := fun k_ => (w.heap.size ≤ k_)) ho1 (below_size (Z0 HB)) (fun k_ h_ => h_)) (below_size (Z0 HB))); have n3_ := Aside0.mk (below_step (Z0 HB) hb); clear HO0; clear HB; have HO0 := n0_; have HO216 := n1_; have HO219 := n2_; have HB := n3_; clear n0_ n1_ n2_ n3_; (try clear hb); (try clear hb2); (try clear hk); (try clear hi); (try clear ho0); (try clear ho1)) | ((with_reducible refine gate_dst (N := 5) rfl ?_); refine box_event ?hg (N := 5) ?hd (cs := #[.slice none 0 0, .slice none 0 0]) (t := 25) ?hr ?_; (case hd => rfl); (case hg => rfl); (case hr => first | (go_simp; done) | (go_simp; rfl)); intro gb220 hg w10 hbox hb; have n0_ := Aside0.mk (Kd.V_below (Kd.V_elderB (Zv HO0.out) gb220 (Nat.le_of_eq hg.symm)) hb); have n1_ := Aside0.mk (Kd.N_below (Kd.N_elderB (Zn HO216.out) gb220 (Nat.le_of_eq hg.symm)) hb); have n2_ := Aside0.mk (Kd.R_below (by (with_reducible repeat (first | apply Kd.R_alloc | apply Kd.R_drewN | apply Kd.R_drew)); exact HO219.out) hb); have n3_ := Aside0.mk (below_step (Z0 HB) hb); have n4_ := Aside0.mk (hbox); have n5_ := Aside0.mk ((by rw [hg]; exact (below_size (Z0 HB)) : w.heap.size ≤ gb220)); have n6_ := Aside0.mk ((by rw [hg]; exact (below_size (Z0 HB)) : w.heap.size ≤ gb220)); clear HO0; clear HO216; clear HO219; clear HB; have HO0 := n0_; have HO216 := n1_; have HO219 := n2_; have HB := n3_; have BK220 := n4_; have GW220 := n5_; have GE220 := n6_; clear n0_ n1_ n2_ n3_ n4_ n5_ n6_; clear hb hbox hg; obtain ⟨Ao11, co11, eo11⟩ := Kd.N_slice HO216.out; subst eo11; have hcz12_0 : w10.cell? ⟨gb220, 0, none⟩ = some (.slice none 0 0) := (blk_cell BK220.out 0).trans rfl; have hcz12_1 : w10.cell? ⟨gb220, 1, none⟩ = some (.slice none 0 0) := (blk_cell BK220.out 1).trans rfl; have hfz12_0 := blk_frozen BK220.out 0; have hfz12_1 := blk_frozen BK220.out 1; obtain ⟨Ao13, co13, eo13⟩ := Kd.R_slice HO219.out; subst eo13))
   go_loopg [6, 7] k (fun kq v6 v7 w' => ∃ (x6_1 : List (S28)) (x7_1 : Int) (x221000_1 : List (S28)) (x221001_1 : List (S55)) (u221000 : Value) (u221001 : Value), v7 = .int .i64 x7_1 ∧ Aside0 (signatorylaw06_NetworkAll.l0 kq l0 l1 x6_1 x7_1 x221000_1 x221001_1 = some r) ∧ Aside0 (kq ≤ k) ∧ Aside0 (Kd.V k28 28 w' w.heap.size (fun k_ => (P0_ k_ ∨ w.heap.size ≤ k_) ∧ some k_ ≠ (v6 : Value).ownBlock ∧ k_ ≠ gb220) (.slice A0 l0.length c0) l0) ∧ Aside0 (Kd.N k28 28 w' w.heap.size (fun k_ => (P0_ k_ ∨ w.heap.size ≤ k_) ∧ k_ ≠ gb220) v6 x6_1) ∧ Aside0 (Kd.V k28 28 w' w.heap.size (fun k_ => (P0_ k_ ∨ w.heap.size ≤ k_) ∧ some k_ ≠ (v6 : Value).ownBlock ∧ k_ ≠ gb220) u221000 x221000_1) ∧ Aside0 (Kd.V k55 55 w' w.heap.size (fun k_ => (P0_ k_ ∨ w.heap.size ≤ k_) ∧ some k_ ≠ (v6 : Value).ownBlock ∧ k_ ≠ gb220) u221001 x221001_1) ∧ Aside0 (w'.heap[gb220]? = some (.cells #[u221000, u221001] 25 (0, 0))) ∧ Aside0 (Below w.heap.size w w'))
   case atStart => exact ⟨(([] : List (S28))), (0), (t214), (t217), (.slice Ao11 t214.length co11), (.slice Ao13 t217.length co13), (by first | rfl | (simp; done) | (simp [*]; done)), H', ⟨Nat.le_refl _⟩, ⟨by refine Zv ?_; exact Kd.V_mono (Kd.V_far (p := ⟨gb220, 1, none⟩) (Kd.V_far (p := ⟨gb220, 0, none⟩) (Kd.V_mono HO0.out (fun k_ hk => (⟨hk, hk.2⟩ : _ ∧ k_ ≠ gb220))) (fun _ hk => hk.2) (.slice Ao11 t214.length co11)) (fun _ hk => hk.2) (.slice Ao13 t217.length co13)) (fun _ hk => ⟨hk.1.1.1.1, ⟨(by simp [Value.ownBlock]), hk.1.2⟩⟩)⟩, ⟨by first | exact Kd.S_nil _ _ _ _ _ | exact Kd.N_nil _ _ _ _ _ | exact Kd.V_nil _ _ _ _ _ | exact Kd.Q_nil _ _ _ _ _ | exact Kd.R_nil _ _ _ _ _⟩, ⟨Kd.N_V (by refine Zn ?_; exact Kd.N_mono (Kd.N_far (p := ⟨gb220, 1, none⟩) (Kd.N_far (p := ⟨gb220, 0, none⟩) (Kd.N_mono HO216.out (fun k_ hk => (⟨hk, hk.2⟩ : _ ∧ k_ ≠ gb220))) (fun _ hk => hk.2) (.slice Ao11 t214.length co11)) (fun _ hk => hk.2) (.slice Ao13 t217.length co13)) (fun _ hk => ⟨hk.1.1.1, ⟨(by simp [Value.ownBlock]), hk.1.2⟩⟩))⟩, ⟨Kd.V_mono (Kd.R_V (by (with_reducible repeat (first | apply Kd.R_alloc | apply Kd.R_drewN | apply Kd.R_drew)); exact Kd.R_mono (ok' := fun k_ => w.heap.size ≤ k_ ∧ some k_ ≠ (Value.slice none 0 0).ownBlock ∧ k_ ≠ gb220) (Kd.R_far (p := ⟨gb220, 1, none⟩) (Kd.R_far (p := ⟨gb220, 0, none⟩) (Kd.R_types (Kd.R_types HO219.out BK220.out (by decide)) BK220.out (by decide)) (fun _ hk => hk.2) (.slice Ao11 t214.length co11)) (fun _ hk => hk.2) (.slice Ao13 t217.length co13)) (fun _ hk => ⟨hk.1.1.1, ⟨(by simp [Value.ownBlock]), hk.1.2⟩⟩))) (fun k_ hk => by first | exact ⟨(.inr (hk.1)), hk.2⟩ | exact (.inr (hk)))⟩, ⟨by refine Zb ?_; refine blk_put (cs := #[.slice Ao11 t214.length co11, .slice none 0 0]) ?_ 1 _ rfl; refine Zb ?_; refine blk_put (cs := #[.slice none 0 0, .slice none 0 0]) ?_ 0 _ rfl; refine Zb ?_; exact BK220.out⟩, ⟨(Z1 HB GE220)⟩⟩
   case round =>
    clear H'
    try clear c1
    try clear p2
    try clear c4
    try clear c5
    try clear c5b0
    try clear c5b1
    try clear c9
    try clear hcz12_0
    try clear hcz12_1
    try clear hfz12_0
    try clear hfz12_1
    obtain ⟨x6_1, x7_1, x221000_1, x221001_1, u221000, u221001, rfl, HA, HK1, HO_0, HO_6, HO_221000, HO_221001, BK220, HB⟩ := hrel
    cases gk with
    | zero => exact absurd HA.out (by simp [signatorylaw06_NetworkAll.l0])
    | succ k1 =>
     have H := HA.out
     clear HA
     simp only [signatorylaw06_NetworkAll.l0] at H
     by_cases c14 : x7_1 < (l0.length : Int)
     ·rw [if_pos c14] at H
      have c14b0 : decide (x7_1 < (l0.length : Int)) = true := decide_eq_true c14
      clear c14
      by_cases c15 : 0 ≤ x7_1
      ·rw [if_pos c15] at H
       have c15b0 : decide (0 ≤ x7_1) = true := decide_eq_true c15
       clear c15
       replace H := Option.bind_eq_some_iff.mp H
       obtain ⟨⟨t222, t225, t228⟩, A160, H⟩ := H
       replace H : (if t228 = 0 then (if x6_1.length < 3518437208883 then (signatorylaw06_NetworkAll.l0 k1 l0 l1 (x6_1 ++ [(⟨(rd_T28 l0 x7_1).f0, (rd_T28 l0 x7_1).f1, (rd_T28 l0 x7_1).f2⟩ : S28)]) (wrap64 (x7_1 + 1)) t222 t225) else (none)) else (signatorylaw06_NetworkAll.l0 k1 l0 l1 x6_1 (wrap64 (x7_1 + 1)) x221000_1 x221001_1)) = some r := H
       have A16 := Aside0.mk A160
       clear A160
       by_cases c17 : t228 = 0
       ·rw [if_pos c17] at H
        have c17b0 : (t228 == 0) = true := beq_iff_eq.mpr c17
        have c17b1 : (t228 != 0) = false := bne_eq_false_iff_eq.mpr c17
        clear c17
        by_cases c18 : x6_1.length < 3518437208883
        ·rw [if_pos c18] at H
         have LMc18 := Aside0.mk c18
         clear c18
         obtain ⟨y231, hy231⟩ : ∃ y_ : List (S28), y_ = (x6_1 ++ [(⟨(rd_T28 l0 x7_1).f0, (rd_T28 l0 x7_1).f1, (rd_T28 l0 x7_1).f2⟩ : S28)]) := ⟨_, rfl⟩
         replace H : (signatorylaw06_NetworkAll.l0 k1 l0 l1 y231 (wrap64 (x7_1 + 1)) t222 t225) = some r := by first | (rw [hy231]; with_reducible exact H) | (have H2_ := (Option.bind_some _ _).symm.trans H; rw [hy231]; with_reducible exact H2_) | (have H2_ := (Option.bind_some _ _).symm.trans H; with_reducible exact H2_) | with_reducible exact H | (rw [hy231]; exact H) | exact H
         have Ny231 := Aside0.mk hy231
         clear hy231
         have H' := Aside0.mk H
         clear H
         obtain ⟨Ao19, co19, eo19⟩ := Kd.V_slice HO_221000.out
         subst eo19
         obtain ⟨Ao20, co20, eo20⟩ := Kd.V_slice HO_221001.out
         subst eo20
         try go_wp2
         have n0_ := Aside0.mk (Kd.V_drew HO_0.out)
         have n1_ := Aside0.mk (Kd.N_drew HO_6.out)
         have n2_ := Aside0.mk (Kd.V_drew HO_221000.out)
         have n3_ := Aside0.mk (Kd.V_drew HO_221001.out)
         have n4_ := Aside0.mk (blk_drew BK220.out)
         have n5_ := Aside0.mk (below_drew1 HB.out)
         clear HO_0
         clear HO_6
         clear HO_221000
         clear HO_221001
         clear BK220
         clear HB
         have HO_0 := n0_
         have HO_6 := n1_
         have HO_221000 := n2_
         have HO_221001 := n3_
         have BK220 := n4_
         have HB := n5_
         clear n0_ n1_ n2_ n3_ n4_ n5_
         have p221 : 0 ≤ (x7_1 : Int) := of_decide_eq_true (by first | (with_reducible assumption) | assumption)
         have q221 : x7_1 < (l0.length : Int) := of_decide_eq_true (by first | (with_reducible assumption) | assumption)
         obtain ⟨ad221, A221_2, c221_2, e221, hx221_0, hx221_1, hx221_2, hl221_2, hi221_2⟩ := at_T28 (Kd.V_reads' HO_0.out).2.2 x7_1 p221 q221
         cases e221
         obtain ⟨ce221, hce221, hMe221, hcc221⟩ := Kd.V_get HO_0.out z28 x7_1 p221 (by first | exact q221 | exact of_decide_eq_true (by first | (with_reducible assumption) | assumption) | (have e_ := (Kd.V_reads' HO_0.out).1; omega))
         obtain ⟨ua221_2, uc221_2, rfl, ul221_2, ge221_2⟩ := k28_openF hMe221
         have hv221_2 := hcc221 2 _ rfl
         rw [add_field _ _ 2 (by omega)] at hv221_2
         replace hv221_2 := Option.some.inj (hv221_2.symm.trans hx221_2)
         injection hv221_2 with hva_ hvn_ hvc_
         rw [hva_] at ge221_2
         rw [hvc_] at ul221_2
         have HL221_2 := Aside0.mk (show Kd.V (Kd.int .u8) 5 _ w.heap.size _ _ ((rd_T28 l0 x7_1).f2) from Kd.V_mk ul221_2 ge221_2)
         clear hva_ hvn_ hvc_ ge221_2 ul221_2
         clear hcc221 hce221
         have HR221_2 := Aside0.mk hi221_2
         have HC221_2 := Aside0.mk hl221_2
         clear hi221_2 hl221_2
         replace p221 := eq_true p221
         replace q221 := eq_true q221
         refine start_ (n := 12) (S := fun w' => w'.cell? ⟨gb220, 0, none⟩ = some (.slice Ao19 x221000_1.length co19) ∧ w'.cell? ⟨gb220, 1, none⟩ = some (.slice Ao20 x221001_1.length co20) ∧ w'.cell? (ad221.add ((x7_1).toNat * 3)) = some (.int .i64 ((rd_T28 l0 x7_1).f0)) ∧ w'.cell? ⟨(ad221.add ((x7_1).toNat * 3)).block, (ad221.add ((x7_1).toNat * 3)).off + 1, none⟩ = some (.int .i64 ((rd_T28 l0 x7_1).f1)) ∧ w'.cell? ⟨(ad221.add ((x7_1).toNat * 3)).block, (ad221.add ((x7_1).toNat * 3)).off + 2, none⟩ = some (.slice A221_2 ((rd_T28 l0 x7_1).f2).length c221_2)) (ds := []) #[false, false, false, false, false, false, false, false, false, false, false, false] (by kernel_rfl) rfl rfl ⟨(blk_cell BK220.out 0).trans rfl, (blk_cell BK220.out 1).trans rfl, hx221_0, hx221_1, hx221_2⟩ (fun hHeld => ?_); refine with_tabW signatorylaw06_NetworkAll.tab10 signatorylaw06_NetworkAll.bits10 (fun HT_ HW_ => ?_)
         generalize wr.drew = w21 at HO_0 HO_6 HO_221000 HO_221001 BK220 HB HL221_2 HR221_2 hx221_0 hx221_1 hx221_2 hHeld ⊢
         refine pure_ (i := 1) (N := some 29) (v := ?_) (a' := ?_) #[false, true, false, false, false, false, false, false, false, false, false, false] rfl rfl (any_of HT_.out (by kernel_rfl)) (fun _ _ _ h => h) (Or.inl ⟨by rfl, ?_⟩) ?_ ?_
         rotate_left
         ·intro w'
          go_simp
          with_reducible rfl
         rotate_left
         ·simp only [Act.put, List.setIfInBounds_toArray, List.set_cons_zero, List.set_cons_succ, i64_w, i32_w]
          rfl
         refine pure_ (i := 2) (N := some 30) (v := ?_) (a' := ?_) #[false, true, true, false, false, false, false, false, false, false, false, false] rfl rfl (any_of HT_.out (by kernel_rfl)) (fun _ _ _ h => h) (Or.inl ⟨by rfl, ?_⟩) ?_ ?_
         rotate_left
         ·intro w'
          go_simp
          with_reducible rfl
         rotate_left
         ·simp only [Act.put, List.setIfInBounds_toArray, List.set_cons_zero, List.set_cons_succ, i64_w, i32_w]
          rfl
         refine pure_ (i := 3) (N := some 31) (v := ?_) (a' := ?_) #[false, true, true, true, false, false, false, false, false, false, false, false] rfl rfl (any_of HT_.out (by kernel_rfl)) (fun _ _ _ h => h) (Or.inl ⟨by rfl, ?_⟩) ?_ ?_
         rotate_left
         ·intro w'
          go_simp
          with_reducible rfl
         rotate_left
         ·simp only [Act.put, List.setIfInBounds_toArray, List.set_cons_zero, List.set_cons_succ, i64_w, i32_w]
          rfl
         refine take_ (i := 0) (N := some 28) (v := ?_) (a' := ?_) #[true, true, true, true, false, false, false, false, false, false, false, false] rfl rfl (take_ofW HT_.out HW_.out (by kernel_rfl)) (fun _ _ _ h => h) (Or.inl ⟨by rfl, ?_⟩) hHeld ?_ ?_
         rotate_left
         ·rintro w' ⟨s0, s1, s2, s3, s4⟩
          go_simp
          with_reducible rfl
         rotate_left
         ·simp only [Act.put, List.setIfInBounds_toArray, List.set_cons_zero, List.set_cons_succ, i64_w, i32_w]
          rfl
         refine take_ (i := 4) (N := some 32) (v := ?_) (a' := ?_) #[true, true, true, true, true, false, false, false, false, false, false, false] rfl rfl (take_ofW HT_.out HW_.out (by kernel_rfl)) (fun _ _ _ h => h) (Or.inl ⟨by rfl, ?_⟩) hHeld ?_ ?_
         rotate_left
         ·rintro w' ⟨s0, s1, s2, s3, s4⟩
          go_simp
          with_reducible rfl
         rotate_left
         ·simp only [Act.put, List.setIfInBounds_toArray, List.set_cons_zero, List.set_cons_succ, i64_w, i32_w]
          rfl
         refine join_ (σ := Value × Value × Nat) 2 #[true, true, true, true, true, true, true, true, true, true, false, false] (fun s_ => [(33, .tuple #[.agg #[s_.1, s_.2.1], .int .i64 t228]), (8, .pointer (some ⟨s_.2.2, 0, none⟩)), (27, .tuple #[.agg #[s_.1, s_.2.1], .int .i64 t228]), (34, .agg #[s_.1, s_.2.1]), (35, .int .i64 t228)]) (fun s_ w' => (w'.cell? ⟨gb220, 0, none⟩ = some (.slice Ao19 x221000_1.length co19) ∧ w'.cell? ⟨gb220, 1, none⟩ = some (.slice Ao20 x221001_1.length co20) ∧ w'.cell? (ad221.add ((x7_1).toNat * 3)) = some (.int .i64 ((rd_T28 l0 x7_1).f0)) ∧ w'.cell? ⟨(ad221.add ((x7_1).toNat * 3)).block, (ad221.add ((x7_1).toNat * 3)).off + 1, none⟩ = some (.int .i64 ((rd_T28 l0 x7_1).f1)) ∧ w'.cell? ⟨(ad221.add ((x7_1).toNat * 3)).block, (ad221.add ((x7_1).toNat * 3)).off + 2, none⟩ = some (.slice A221_2 ((rd_T28 l0 x7_1).f2).length c221_2)) ∧ (Kd.V (Kd.int .u8) 5 w' w.heap.size (fun k_ => (P0_ k_ ∨ w.heap.size ≤ k_) ∧ some k_ ≠ (u6 : Value).ownBlock ∧ k_ ≠ gb220 ∧ k_ ≠ s_.2.2) (.slice A221_2 ((rd_T28 l0 x7_1).f2).length c221_2) ((rd_T28 l0 x7_1).f2)) ∧ (Kd.V k28 28 w' w.heap.size (fun k_ => (P0_ k_ ∨ w.heap.size ≤ k_) ∧ some k_ ≠ (u6 : Value).ownBlock ∧ k_ ≠ gb220 ∧ k_ ≠ s_.2.2) s_.1 t222) ∧ (Kd.V k55 55 w' w.heap.size (fun k_ => (P0_ k_ ∨ w.heap.size ≤ k_) ∧ some k_ ≠ (u6 : Value).ownBlock ∧ k_ ≠ gb220 ∧ k_ ≠ s_.2.2) s_.2.1 t225) ∧ (Kd.V k28 28 w' w.heap.size (fun k_ => (P0_ k_ ∨ w.heap.size ≤ k_) ∧ some k_ ≠ (u6 : Value).ownBlock ∧ k_ ≠ gb220 ∧ k_ ≠ s_.2.2) (.slice (some ad221) l0.length c0) l0) ∧ (Kd.V k28 28 w' w.heap.size (fun k_ => (P0_ k_ ∨ w.heap.size ≤ k_) ∧ some k_ ≠ (u6 : Value).ownBlock ∧ k_ ≠ gb220 ∧ k_ ≠ s_.2.2) (.slice Ao19 x221000_1.length co19) x221000_1) ∧ (Kd.V k55 55 w' w.heap.size (fun k_ => (P0_ k_ ∨ w.heap.size ≤ k_) ∧ some k_ ≠ (u6 : Value).ownBlock ∧ k_ ≠ gb220 ∧ k_ ≠ s_.2.2) (.slice Ao20 x221001_1.length co20) x221001_1) ∧ (Kd.N k28 28 w' w.heap.size (fun k_ => (P0_ k_ ∨ w.heap.size ≤ k_) ∧ k_ ≠ gb220 ∧ k_ ≠ s_.2.2) u6 x6_1) ∧ (w'.heap[gb220]? = some (.cells #[.slice Ao19 x221000_1.length co19, .slice Ao20 x221001_1.length co20] 25 (0, 0))) ∧ (w'.heap[s_.2.2]? = some (.cells #[.slice none 0 0, .slice none 0 0] 25 (0, 0))) ∧ (w.heap.size ≤ s_.2.2) ∧ (w.heap.size ≤ s_.2.2) ∧ (gb220 ≠ s_.2.2) ∧ (s_.2.2 ≠ gb220) ∧ (Below w.heap.size w w')) ?_ ?_
         rotate_left
         ·intro hCont
          refine two_ (i := 5) (j := 9) (Ni := some 33) (Nj := some 8) #[true, true, true, true, true, true, false, false, false, false, false, false] #[true, true, true, true, true, false, false, false, false, true, false, false] rfl rfl rfl rfl (two_of HT_.out (by kernel_rfl)) (by decide) (by decide) (fun K hK => ?_) (fun K hK => ?_)
          ·skip
           refine goes_ Try.func11 (by kernel_rfl) rfl #[.agg #[.slice Ao19 x221000_1.length co19, .slice Ao20 x221001_1.length co20], .agg #[.int .i64 ((rd_T28 l0 x7_1).f0), .int .i64 ((rd_T28 l0 x7_1).f1), .slice A221_2 ((rd_T28 l0 x7_1).f2).length c221_2]] (by rfl) rfl rfl (by (try simp only [List.map_toArray, List.map_cons, List.map_nil]); first | done | rfl | (simp only [List.length_drop, List.length_take]; rfl)) ?_
           with_reducible refine (network_Send.calls k1 (fun k_ => ((P0_ k_ ∨ w.heap.size ≤ k_) ∧ (some k_ ≠ (u6 : Value).ownBlock ∧ k_ ≠ gb220))) _ _ x221000_1 (fun k_ => ((P0_ k_ ∨ w.heap.size ≤ k_) ∧ (some k_ ≠ (u6 : Value).ownBlock ∧ k_ ≠ gb220))) _ _ x221001_1 ((rd_T28 l0 x7_1).f0) ((rd_T28 l0 x7_1).f1) (fun k_ => ((P0_ k_ ∨ w.heap.size ≤ k_) ∧ (some k_ ≠ (u6 : Value).ownBlock ∧ k_ ≠ gb220))) _ _ ((rd_T28 l0 x7_1).f2) t222 t225 t228 _ ?side1 ?side2 ?side3 A16.out).mono ?_
           (case side1 => exact HO_221000.out)
           (case side2 => exact HO_221001.out)
           (case side3 => exact HL221_2.out)
           rintro e w22 ⟨v223, v226, rfl, ho0, ho1, hb⟩
           have HS2_ := (hb.cell (World.block_lt_of_cell? _ _ (hHeld.2.2.1))).trans (hHeld.2.2.1)
           have HS3_ := (hb.cell (World.block_lt_of_cell? _ _ (hHeld.2.2.2.1))).trans (hHeld.2.2.2.1)
           have HS4_ := (hb.cell (World.block_lt_of_cell? _ _ (hHeld.2.2.2.2))).trans (hHeld.2.2.2.2)
           refine ⟨_, rfl, ?_⟩
           have n0_ := Aside0.mk (Kd.V_below (Zv HO_0.out) hb)
           have n1_ := Aside0.mk (Kd.N_below (Zn HO_6.out) hb)
           have n2_ := Aside0.mk (Kd.V_below (Zv HO_221000.out) hb)
           have n3_ := Aside0.mk (Kd.V_below (Zv HO_221001.out) hb)
           have n4_ := Aside0.mk (Kd.V_below (Zv HL221_2.out) hb)
           have n5_ := Aside0.mk (Kd.V_lower (Kd.V_mono (ok' := fun k_ => (P0_ k_ ∨ w.heap.size ≤ k_) ∧ some k_ ≠ (u6 : Value).ownBlock ∧ k_ ≠ gb220) ho0 (fun k_ hk_ => ⟨Or.elim hk_ (fun hs_ => Or.elim hs_ (fun hs_ => hs_.1) (fun hs_ => Or.elim hs_ (fun hs_ => hs_.1) (fun hs_ => hs_.1))) (fun hn_ => (.inr (Nat.le_trans (below_size (Z1 HB GE220)) hn_))), Or.elim hk_ (fun hs_ => Or.elim hs_ (fun hs_ => hs_.2.1) (fun hs_ => Or.elim hs_ (fun hs_ => hs_.2.1) (fun hs_ => hs_.2.1))) (fun hn_ => (Kd.fresh' (Kd.N_lt (Zn HO_6.out)) k_ hn_)), Or.elim hk_ (fun hs_ => Or.elim hs_ (fun hs_ => hs_.2.2) (fun hs_ => Or.elim hs_ (fun hs_ => hs_.2.2) (fun hs_ => hs_.2.2))) (fun hn_ => (Kd.freshB (g := gb220) (o := .cells #[.slice Ao19 x221000_1.length co19, .slice Ao20 x221001_1.length co20] 25 (0, 0)) (Zb BK220.out) k_ hn_))⟩)) (below_size (Z1 HB GE220)))
           have n6_ := Aside0.mk (Kd.V_lower (Kd.V_mono (ok' := fun k_ => (P0_ k_ ∨ w.heap.size ≤ k_) ∧ some k_ ≠ (u6 : Value).ownBlock ∧ k_ ≠ gb220) ho1 (fun k_ hk_ => ⟨Or.elim hk_ (fun hs_ => Or.elim hs_ (fun hs_ => hs_.1) (fun hs_ => Or.elim hs_ (fun hs_ => hs_.1) (fun hs_ => hs_.1))) (fun hn_ => (.inr (Nat.le_trans (below_size (Z1 HB GE220)) hn_))), Or.elim hk_ (fun hs_ => Or.elim hs_ (fun hs_ => hs_.2.1) (fun hs_ => Or.elim hs_ (fun hs_ => hs_.2.1) (fun hs_ => hs_.2.1))) (fun hn_ => (Kd.fresh' (Kd.N_lt (Zn HO_6.out)) k_ hn_)), Or.elim hk_ (fun hs_ => Or.elim hs_ (fun hs_ => hs_.2.2) (fun hs_ => Or.elim hs_ (fun hs_ => hs_.2.2) (fun hs_ => hs_.2.2))) (fun hn_ => (Kd.freshB (g := gb220) (o := .cells #[.slice Ao19 x221000_1.length co19, .slice Ao20 x221001_1.length co20] 25 (0, 0)) (Zb BK220.out) k_ hn_))⟩)) (below_size (Z1 HB GE220)))
           have n7_ := Aside0.mk (blk_below (g := gb220) (o := .cells #[.slice Ao19 x221000_1.length co19, .slice Ao20 x221001_1.length co20] 25 (0, 0)) (Zb BK220.out) hb)
           have n8_ := Aside0.mk (Kd.C_below (by repeat (first | (with_reducible exact HR221_2.out) | (with_reducible refine Kd.C_alloc ?_ _) | (with_reducible refine Kd.C_drewN ?_ _) | (with_reducible refine Kd.C_drew ?_) | exact HR221_2.out)) hb)
           have n9_ := Aside0.mk (below_step (Z1 HB GE220) hb)
           clear HO_0
           clear HO_6
           clear HO_221000
           clear HO_221001
           clear HL221_2
           clear BK220
           clear HR221_2
           clear HB
           have HO_0 := n0_
           have HO_6 := n1_
           have HO_221000 := n2_
           have HO_221001 := n3_
           have HL221_2 := n4_
           have HO224 := n5_
           have HO227 := n6_
           have BK220 := n7_
           have HR221_2 := n8_
           have HB := n9_
           clear n0_ n1_ n2_ n3_ n4_ n5_ n6_ n7_ n8_ n9_
           (try clear hb)
           (try clear hb2)
           (try clear hk)
           (try clear hi)
           (try clear ho0)
           (try clear ho1)
           refine hK.out _ _ ⟨(blk_cell BK220.out 0).trans rfl, (blk_cell BK220.out 1).trans rfl, HS2_, HS3_, HS4_⟩ (fun hHeld => ?_)
           clear hK K
           refine norm_ (a' := ?_) ?_ ?_
           rotate_left
           ·show Act.put _ (some 33) _ = _
            simp only [Act.put, List.setIfInBounds_toArray, List.set_cons_zero, List.set_cons_succ, i64_w, i32_w]
            rfl
           refine pure_ (i := 6) (N := some 27) (v := ?_) (a' := ?_) #[true, true, true, true, true, true, true, false, false, false, false, false] rfl rfl (any_of HT_.out (by kernel_rfl)) (fun _ _ _ h => h) (Or.inl ⟨by rfl, ?_⟩) ?_ ?_
           rotate_left
           ·intro w'
            go_simp
            with_reducible rfl
           rotate_left
           ·simp only [Act.put, List.setIfInBounds_toArray, List.set_cons_zero, List.set_cons_succ, i64_w, i32_w]
            rfl
           refine pure_ (i := 7) (N := some 34) (v := ?_) (a' := ?_) #[true, true, true, true, true, true, true, true, false, false, false, false] rfl rfl (any_of HT_.out (by kernel_rfl)) (fun _ _ _ h => h) (Or.inl ⟨by rfl, ?_⟩) ?_ ?_
           rotate_left
           ·intro w'
            go_simp
            with_reducible rfl
           rotate_left
           ·simp only [Act.put, List.setIfInBounds_toArray, List.set_cons_zero, List.set_cons_succ, i64_w, i32_w]
            rfl
           refine pure_ (i := 8) (N := some 35) (v := ?_) (a' := ?_) #[true, true, true, true, true, true, true, true, true, false, false, false] rfl rfl (any_of HT_.out (by kernel_rfl)) (fun _ _ _ h => h) (Or.inl ⟨by rfl, ?_⟩) ?_ ?_
           rotate_left
           ·intro w'
            go_simp
            with_reducible rfl
           rotate_left
           ·simp only [Act.put, List.setIfInBounds_toArray, List.set_cons_zero, List.set_cons_succ, i64_w, i32_w]
            rfl
           refine one_ (i := 9) (N := some 8) #[true, true, true, true, true, true, true, true, true, true, false, false] rfl rfl (one_of HT_.out (by kernel_rfl)) (by decide) (fun K hK => ?_)
           refine box_step ?hg (N := 8) ?hd (cs := #[.slice none 0 0, .slice none 0 0]) (t := 25) ?hr ?_; (case hd => rfl); (case hg => rfl); (case hr => first | (go_simp; done) | (go_simp; rfl))
           intro gb229 hg w23 hbox hb
           have HS2_ := (hb.cell (World.block_lt_of_cell? _ _ (hHeld.2.2.1))).trans (hHeld.2.2.1)
           have HS3_ := (hb.cell (World.block_lt_of_cell? _ _ (hHeld.2.2.2.1))).trans (hHeld.2.2.2.1)
           have HS4_ := (hb.cell (World.block_lt_of_cell? _ _ (hHeld.2.2.2.2))).trans (hHeld.2.2.2.2)
           have n0_ := Aside0.mk (Kd.V_below (Kd.V_elderB (Zv HO_0.out) gb229 (Nat.le_of_eq hg.symm)) hb)
           have n1_ := Aside0.mk (Kd.N_below (Kd.N_elderB (Zn HO_6.out) gb229 (Nat.le_of_eq hg.symm)) hb)
           have n2_ := Aside0.mk (Kd.V_below (Kd.V_elderB (Zv HO_221000.out) gb229 (Nat.le_of_eq hg.symm)) hb)
           have n3_ := Aside0.mk (Kd.V_below (Kd.V_elderB (Zv HO_221001.out) gb229 (Nat.le_of_eq hg.symm)) hb)
           have n4_ := Aside0.mk (Kd.V_below (Kd.V_elderB (Zv HL221_2.out) gb229 (Nat.le_of_eq hg.symm)) hb)
           have n5_ := Aside0.mk (Kd.V_below (Kd.V_elderB (Zv HO224.out) gb229 (Nat.le_of_eq hg.symm)) hb)
           have n6_ := Aside0.mk (Kd.V_below (Kd.V_elderB (Zv HO227.out) gb229 (Nat.le_of_eq hg.symm)) hb)
           have n7_ := Aside0.mk (blk_below (g := gb220) (o := .cells #[.slice Ao19 x221000_1.length co19, .slice Ao20 x221001_1.length co20] 25 (0, 0)) (Zb BK220.out) hb)
           have n8_ := Aside0.mk (Kd.C_below (by repeat (first | (with_reducible exact HR221_2.out) | (with_reducible refine Kd.C_alloc ?_ _) | (with_reducible refine Kd.C_drewN ?_ _) | (with_reducible refine Kd.C_drew ?_) | exact HR221_2.out)) hb)
           have n9_ := Aside0.mk (below_step (Z1 HB GE220) hb)
           have n10_ := Aside0.mk (hbox)
           have n11_ := Aside0.mk ((by rw [hg]; exact (below_size (Z1 HB GE220)) : w.heap.size ≤ gb229))
           have n12_ := Aside0.mk ((by rw [hg]; exact (below_size (Z1 HB GE220)) : w.heap.size ≤ gb229))
           have n13_ := Aside0.mk ((by rw [hg]; exact Nat.ne_of_lt (blk_lt (g := gb220) (o := .cells #[.slice Ao19 x221000_1.length co19, .slice Ao20 x221001_1.length co20] 25 (0, 0)) (Zb BK220.out)) : gb220 ≠ gb229))
           have n14_ := Aside0.mk ((by rw [hg]; exact Nat.ne_of_gt (blk_lt (g := gb220) (o := .cells #[.slice Ao19 x221000_1.length co19, .slice Ao20 x221001_1.length co20] 25 (0, 0)) (Zb BK220.out)) : gb229 ≠ gb220))
           clear HO_0
           clear HO_6
           clear HO_221000
           clear HO_221001
           clear HL221_2
           clear HO224
           clear HO227
           clear BK220
           clear HR221_2
           clear HB
           have HO_0 := n0_
           have HO_6 := n1_
           have HO_221000 := n2_
           have HO_221001 := n3_
           have HL221_2 := n4_
           have HO224 := n5_
           have HO227 := n6_
           have BK220 := n7_
           have HR221_2 := n8_
           have HB := n9_
           have BK229 := n10_
           have GW229 := n11_
           have GE229 := n12_
           have NB220_229 := n13_
           have NB229_220 := n14_
           clear n0_ n1_ n2_ n3_ n4_ n5_ n6_ n7_ n8_ n9_ n10_ n11_ n12_ n13_ n14_
           clear hb hbox hg
           refine hK.out _ _ ⟨(blk_cell BK220.out 0).trans rfl, (blk_cell BK220.out 1).trans rfl, HS2_, HS3_, HS4_⟩ (fun hHeld => ?_)
           clear hK K
           refine norm_ (a' := ?_) ?_ ?_
           rotate_left
           ·show Act.put _ (some 8) _ = _
            simp only [Act.put, List.setIfInBounds_toArray, List.set_cons_zero, List.set_cons_succ, i64_w, i32_w]
            rfl
           exact norm_ (by simp only [putAll, Act.put, List.setIfInBounds_toArray, List.set_cons_zero, List.set_cons_succ]) (hCont (v223, v226, gb229) _ ⟨hHeld, (by refine Zv ?_; exact Kd.V_mono HL221_2.out (fun _ hk => ⟨hk.1.1, ⟨hk.1.2.1, ⟨hk.1.2.2, hk.2⟩⟩⟩)), (by refine Zv ?_; exact Kd.V_mono HO224.out (fun _ hk => ⟨hk.1.1, ⟨hk.1.2.1, ⟨hk.1.2.2, hk.2⟩⟩⟩)), (by refine Zv ?_; exact Kd.V_mono HO227.out (fun _ hk => ⟨hk.1.1, ⟨hk.1.2.1, ⟨hk.1.2.2, hk.2⟩⟩⟩)), (by refine Zv ?_; exact Kd.V_mono HO_0.out (fun _ hk => ⟨hk.1.1, ⟨hk.1.2.1, ⟨hk.1.2.2, hk.2⟩⟩⟩)), (by refine Zv ?_; exact Kd.V_mono HO_221000.out (fun _ hk => ⟨hk.1.1, ⟨hk.1.2.1, ⟨hk.1.2.2, hk.2⟩⟩⟩)), (by refine Zv ?_; exact Kd.V_mono HO_221001.out (fun _ hk => ⟨hk.1.1, ⟨hk.1.2.1, ⟨hk.1.2.2, hk.2⟩⟩⟩)), (by refine Zn ?_; exact Kd.N_mono HO_6.out (fun _ hk => ⟨hk.1.1, ⟨hk.1.2, hk.2⟩⟩)), (Zb BK220.out), (Zb BK229.out), GW229.out, GE229.out, NB220_229.out, NB229_220.out, (Z2 HB GE220 GE229)⟩)
          ·skip
           refine box_step ?hg (N := 8) ?hd (cs := #[.slice none 0 0, .slice none 0 0]) (t := 25) ?hr ?_; (case hd => rfl); (case hg => rfl); (case hr => first | (go_simp; done) | (go_simp; rfl))
           intro gb229 hg w22 hbox hb
           have HS2_ := (hb.cell (World.block_lt_of_cell? _ _ (hHeld.2.2.1))).trans (hHeld.2.2.1)
           have HS3_ := (hb.cell (World.block_lt_of_cell? _ _ (hHeld.2.2.2.1))).trans (hHeld.2.2.2.1)
           have HS4_ := (hb.cell (World.block_lt_of_cell? _ _ (hHeld.2.2.2.2))).trans (hHeld.2.2.2.2)
           have n0_ := Aside0.mk (Kd.V_below (Kd.V_elderB (Zv HO_0.out) gb229 (Nat.le_of_eq hg.symm)) hb)
           have n1_ := Aside0.mk (Kd.N_below (Kd.N_elderB (Zn HO_6.out) gb229 (Nat.le_of_eq hg.symm)) hb)
           have n2_ := Aside0.mk (Kd.V_below (Kd.V_elderB (Zv HO_221000.out) gb229 (Nat.le_of_eq hg.symm)) hb)
           have n3_ := Aside0.mk (Kd.V_below (Kd.V_elderB (Zv HO_221001.out) gb229 (Nat.le_of_eq hg.symm)) hb)
           have n4_ := Aside0.mk (Kd.V_below (Kd.V_elderB (Zv HL221_2.out) gb229 (Nat.le_of_eq hg.symm)) hb)
           have n5_ := Aside0.mk (blk_below (g := gb220) (o := .cells #[.slice Ao19 x221000_1.length co19, .slice Ao20 x221001_1.length co20] 25 (0, 0)) (Zb BK220.out) hb)
           have n6_ := Aside0.mk (Kd.C_below (by repeat (first | (with_reducible exact HR221_2.out) | (with_reducible refine Kd.C_alloc ?_ _) | (with_reducible refine Kd.C_drewN ?_ _) | (with_reducible refine Kd.C_drew ?_) | exact HR221_2.out)) hb)
           have n7_ := Aside0.mk (below_step (Z1 HB GE220) hb)
           have n8_ := Aside0.mk (hbox)
           have n9_ := Aside0.mk ((by rw [hg]; exact (below_size (Z1 HB GE220)) : w.heap.size ≤ gb229))
           have n10_ := Aside0.mk ((by rw [hg]; exact (below_size (Z1 HB GE220)) : w.heap.size ≤ gb229))
           have n11_ := Aside0.mk ((by rw [hg]; exact Nat.ne_of_lt (blk_lt (g := gb220) (o := .cells #[.slice Ao19 x221000_1.length co19, .slice Ao20 x221001_1.length co20] 25 (0, 0)) (Zb BK220.out)) : gb220 ≠ gb229))
           have n12_ := Aside0.mk ((by rw [hg]; exact Nat.ne_of_gt (blk_lt (g := gb220) (o := .cells #[.slice Ao19 x221000_1.length co19, .slice Ao20 x221001_1.length co20] 25 (0, 0)) (Zb BK220.out)) : gb229 ≠ gb220))
           clear HO_0
           clear HO_6
           clear HO_221000
           clear HO_221001
           clear HL221_2
           clear BK220
           clear HR221_2
           clear HB
           have HO_0 := n0_
           have HO_6 := n1_
           have HO_221000 := n2_
           have HO_221001 := n3_
           have HL221_2 := n4_
           have BK220 := n5_
           have HR221_2 := n6_
           have HB := n7_
           have BK229 := n8_
           have GW229 := n9_
           have GE229 := n10_
           have NB220_229 := n11_
           have NB229_220 := n12_
           clear n0_ n1_ n2_ n3_ n4_ n5_ n6_ n7_ n8_ n9_ n10_ n11_ n12_
           clear hb hbox hg
           refine hK.out _ _ ⟨(blk_cell BK220.out 0).trans rfl, (blk_cell BK220.out 1).trans rfl, HS2_, HS3_, HS4_⟩ (fun hHeld => ?_)
           clear hK K
           refine norm_ (a' := ?_) ?_ ?_
           rotate_left
           ·show Act.put _ (some 8) _ = _
            simp only [Act.put, List.setIfInBounds_toArray, List.set_cons_zero, List.set_cons_succ, i64_w, i32_w]
            rfl
           refine one_ (i := 5) (N := some 33) #[true, true, true, true, true, true, false, false, false, true, false, false] rfl rfl (one_of HT_.out (by kernel_rfl)) (by decide) (fun K hK => ?_)
           refine goes_ Try.func11 (by kernel_rfl) rfl #[.agg #[.slice Ao19 x221000_1.length co19, .slice Ao20 x221001_1.length co20], .agg #[.int .i64 ((rd_T28 l0 x7_1).f0), .int .i64 ((rd_T28 l0 x7_1).f1), .slice A221_2 ((rd_T28 l0 x7_1).f2).length c221_2]] (by rfl) rfl rfl (by (try simp only [List.map_toArray, List.map_cons, List.map_nil]); first | done | rfl | (simp only [List.length_drop, List.length_take]; rfl)) ?_
           with_reducible refine (network_Send.calls k1 (fun k_ => (((P0_ k_ ∨ w.heap.size ≤ k_) ∧ (some k_ ≠ (u6 : Value).ownBlock ∧ k_ ≠ gb220)) ∧ k_ ≠ gb229)) _ _ x221000_1 (fun k_ => (((P0_ k_ ∨ w.heap.size ≤ k_) ∧ (some k_ ≠ (u6 : Value).ownBlock ∧ k_ ≠ gb220)) ∧ k_ ≠ gb229)) _ _ x221001_1 ((rd_T28 l0 x7_1).f0) ((rd_T28 l0 x7_1).f1) (fun k_ => (((P0_ k_ ∨ w.heap.size ≤ k_) ∧ (some k_ ≠ (u6 : Value).ownBlock ∧ k_ ≠ gb220)) ∧ k_ ≠ gb229)) _ _ ((rd_T28 l0 x7_1).f2) t222 t225 t228 _ ?side1 ?side2 ?side3 A16.out).mono ?_
           (case side1 => exact HO_221000.out)
           (case side2 => exact HO_221001.out)
           (case side3 => exact HL221_2.out)
           rintro e w23 ⟨v223, v226, rfl, ho0, ho1, hb⟩
           have HS2_ := (hb.cell (World.block_lt_of_cell? _ _ (hHeld.2.2.1))).trans (hHeld.2.2.1)
           have HS3_ := (hb.cell (World.block_lt_of_cell? _ _ (hHeld.2.2.2.1))).trans (hHeld.2.2.2.1)
           have HS4_ := (hb.cell (World.block_lt_of_cell? _ _ (hHeld.2.2.2.2))).trans (hHeld.2.2.2.2)
           refine ⟨_, rfl, ?_⟩
           have n0_ := Aside0.mk (Kd.V_below (Zv HO_0.out) hb)
           have n1_ := Aside0.mk (Kd.N_below (Zn HO_6.out) hb)
           have n2_ := Aside0.mk (Kd.V_below (Zv HO_221000.out) hb)
           have n3_ := Aside0.mk (Kd.V_below (Zv HO_221001.out) hb)
           have n4_ := Aside0.mk (Kd.V_below (Zv HL221_2.out) hb)
           have n5_ := Aside0.mk (Kd.V_lower (Kd.V_mono (ok' := fun k_ => (P0_ k_ ∨ w.heap.size ≤ k_) ∧ some k_ ≠ (u6 : Value).ownBlock ∧ k_ ≠ gb220 ∧ k_ ≠ gb229) ho0 (fun k_ hk_ => ⟨Or.elim hk_ (fun hs_ => Or.elim hs_ (fun hs_ => hs_.1.1) (fun hs_ => Or.elim hs_ (fun hs_ => hs_.1.1) (fun hs_ => hs_.1.1))) (fun hn_ => (.inr (Nat.le_trans (below_size (Z2 HB GE220 GE229)) hn_))), Or.elim hk_ (fun hs_ => Or.elim hs_ (fun hs_ => hs_.1.2.1) (fun hs_ => Or.elim hs_ (fun hs_ => hs_.1.2.1) (fun hs_ => hs_.1.2.1))) (fun hn_ => (Kd.fresh' (Kd.N_lt (Zn HO_6.out)) k_ hn_)), Or.elim hk_ (fun hs_ => Or.elim hs_ (fun hs_ => hs_.1.2.2) (fun hs_ => Or.elim hs_ (fun hs_ => hs_.1.2.2) (fun hs_ => hs_.1.2.2))) (fun hn_ => (Kd.freshB (g := gb220) (o := .cells #[.slice Ao19 x221000_1.length co19, .slice Ao20 x221001_1.length co20] 25 (0, 0)) (Zb BK220.out) k_ hn_)), Or.elim hk_ (fun hs_ => Or.elim hs_ (fun hs_ => hs_.2) (fun hs_ => Or.elim hs_ (fun hs_ => hs_.2) (fun hs_ => hs_.2))) (fun hn_ => (Kd.freshB (g := gb229) (o := .cells #[.slice none 0 0, .slice none 0 0] 25 (0, 0)) (Zb BK229.out) k_ hn_))⟩)) (below_size (Z2 HB GE220 GE229)))
           have n6_ := Aside0.mk (Kd.V_lower (Kd.V_mono (ok' := fun k_ => (P0_ k_ ∨ w.heap.size ≤ k_) ∧ some k_ ≠ (u6 : Value).ownBlock ∧ k_ ≠ gb220 ∧ k_ ≠ gb229) ho1 (fun k_ hk_ => ⟨Or.elim hk_ (fun hs_ => Or.elim hs_ (fun hs_ => hs_.1.1) (fun hs_ => Or.elim hs_ (fun hs_ => hs_.1.1) (fun hs_ => hs_.1.1))) (fun hn_ => (.inr (Nat.le_trans (below_size (Z2 HB GE220 GE229)) hn_))), Or.elim hk_ (fun hs_ => Or.elim hs_ (fun hs_ => hs_.1.2.1) (fun hs_ => Or.elim hs_ (fun hs_ => hs_.1.2.1) (fun hs_ => hs_.1.2.1))) (fun hn_ => (Kd.fresh' (Kd.N_lt (Zn HO_6.out)) k_ hn_)), Or.elim hk_ (fun hs_ => Or.elim hs_ (fun hs_ => hs_.1.2.2) (fun hs_ => Or.elim hs_ (fun hs_ => hs_.1.2.2) (fun hs_ => hs_.1.2.2))) (fun hn_ => (Kd.freshB (g := gb220) (o := .cells #[.slice Ao19 x221000_1.length co19, .slice Ao20 x221001_1.length co20] 25 (0, 0)) (Zb BK220.out) k_ hn_)), Or.elim hk_ (fun hs_ => Or.elim hs_ (fun hs_ => hs_.2) (fun hs_ => Or.elim hs_ (fun hs_ => hs_.2) (fun hs_ => hs_.2))) (fun hn_ => (Kd.freshB (g := gb229) (o := .cells #[.slice none 0 0, .slice none 0 0] 25 (0, 0)) (Zb BK229.out) k_ hn_))⟩)) (below_size (Z2 HB GE220 GE229)))
           have n7_ := Aside0.mk (blk_below (g := gb220) (o := .cells #[.slice Ao19 x221000_1.length co19, .slice Ao20 x221001_1.length co20] 25 (0, 0)) (Zb BK220.out) hb)
           have n8_ := Aside0.mk (Kd.C_below (by repeat (first | (with_reducible exact HR221_2.out) | (with_reducible refine Kd.C_alloc ?_ _) | (with_reducible refine Kd.C_drewN ?_ _) | (with_reducible refine Kd.C_drew ?_) | exact HR221_2.out)) hb)
           have n9_ := Aside0.mk (blk_below (g := gb229) (o := .cells #[.slice none 0 0, .slice none 0 0] 25 (0, 0)) (Zb BK229.out) hb)
           have n10_ := Aside0.mk (below_step (Z2 HB GE220 GE229) hb)
           clear HO_0
           clear HO_6
           clear HO_221000
           clear HO_221001
           clear HL221_2
           clear BK220
           clear HR221_2
           clear BK229
           clear HB
           have HO_0 := n0_
           have HO_6 := n1_
           have HO_221000 := n2_
           have HO_221001 := n3_
           have HL221_2 := n4_
           have HO224 := n5_
           have HO227 := n6_
           have BK220 := n7_
           have HR221_2 := n8_
           have BK229 := n9_
           have HB := n10_
           clear n0_ n1_ n2_ n3_ n4_ n5_ n6_ n7_ n8_ n9_ n10_
           (try clear hb)
           (try clear hb2)
           (try clear hk)
           (try clear hi)
           (try clear ho0)
           (try clear ho1)
           refine hK.out _ _ ⟨(blk_cell BK220.out 0).trans rfl, (blk_cell BK220.out 1).trans rfl, HS2_, HS3_, HS4_⟩ (fun hHeld => ?_)
           clear hK K
           refine norm_ (a' := ?_) ?_ ?_
           rotate_left
           ·show Act.put _ (some 33) _ = _
            simp only [Act.put, List.setIfInBounds_toArray, List.set_cons_zero, List.set_cons_succ, i64_w, i32_w]
            rfl
           refine pure_ (i := 6) (N := some 27) (v := ?_) (a' := ?_) #[true, true, true, true, true, true, true, false, false, true, false, false] rfl rfl (any_of HT_.out (by kernel_rfl)) (fun _ _ _ h => h) (Or.inl ⟨by rfl, ?_⟩) ?_ ?_
           rotate_left
           ·intro w'
            go_simp
            with_reducible rfl
           rotate_left
           ·simp only [Act.put, List.setIfInBounds_toArray, List.set_cons_zero, List.set_cons_succ, i64_w, i32_w]
            rfl
           refine pure_ (i := 7) (N := some 34) (v := ?_) (a' := ?_) #[true, true, true, true, true, true, true, true, false, true, false, false] rfl rfl (any_of HT_.out (by kernel_rfl)) (fun _ _ _ h => h) (Or.inl ⟨by rfl, ?_⟩) ?_ ?_
           rotate_left
           ·intro w'
            go_simp
            with_reducible rfl
           rotate_left
           ·simp only [Act.put, List.setIfInBounds_toArray, List.set_cons_zero, List.set_cons_succ, i64_w, i32_w]
            rfl
           refine pure_ (i := 8) (N := some 35) (v := ?_) (a' := ?_) #[true, true, true, true, true, true, true, true, true, true, false, false] rfl rfl (any_of HT_.out (by kernel_rfl)) (fun _ _ _ h => h) (Or.inl ⟨by rfl, ?_⟩) ?_ ?_
           rotate_left
           ·intro w'
            go_simp
            with_reducible rfl
           rotate_left
           ·simp only [Act.put, List.setIfInBounds_toArray, List.set_cons_zero, List.set_cons_succ, i64_w, i32_w]
            rfl
           exact norm_ (by simp only [putAll, Act.put, List.setIfInBounds_toArray, List.set_cons_zero, List.set_cons_succ]) (hCont (v223, v226, gb229) _ ⟨hHeld, (by refine Zv ?_; exact Kd.V_mono HL221_2.out (fun _ hk => ⟨hk.1.1, ⟨hk.1.2.1, ⟨hk.1.2.2, hk.2⟩⟩⟩)), (Zv HO224.out), (Zv HO227.out), (by refine Zv ?_; exact Kd.V_mono HO_0.out (fun _ hk => ⟨hk.1.1, ⟨hk.1.2.1, ⟨hk.1.2.2, hk.2⟩⟩⟩)), (by refine Zv ?_; exact Kd.V_mono HO_221000.out (fun _ hk => ⟨hk.1.1, ⟨hk.1.2.1, ⟨hk.1.2.2, hk.2⟩⟩⟩)), (by refine Zv ?_; exact Kd.V_mono HO_221001.out (fun _ hk => ⟨hk.1.1, ⟨hk.1.2.1, ⟨hk.1.2.2, hk.2⟩⟩⟩)), (by refine Zn ?_; exact Kd.N_mono HO_6.out (fun _ hk => ⟨hk.1.1, ⟨hk.1.2, hk.2⟩⟩)), (Zb BK220.out), (Zb BK229.out), GW229.out, GE229.out, NB220_229.out, NB229_220.out, (Z2 HB GE220 GE229)⟩)
         rintro ⟨v223, v226, gb229⟩ w24 ⟨hS_, h0_, h1_, h2_, h3_, h4_, h5_, h6_, h7_, h8_, h9_, h10_, h11_, h12_, h13_⟩
         have n0_ : Aside0 (Kd.V (Kd.int .u8) 5 w24 w.heap.size (fun k_ => (P0_ k_ ∨ w.heap.size ≤ k_) ∧ some k_ ≠ (u6 : Value).ownBlock ∧ k_ ≠ gb220 ∧ k_ ≠ gb229) (.slice A221_2 ((rd_T28 l0 x7_1).f2).length c221_2) ((rd_T28 l0 x7_1).f2)) := ⟨h0_⟩
         have n1_ : Aside0 (Kd.V k28 28 w24 w.heap.size (fun k_ => (P0_ k_ ∨ w.heap.size ≤ k_) ∧ some k_ ≠ (u6 : Value).ownBlock ∧ k_ ≠ gb220 ∧ k_ ≠ gb229) v223 t222) := ⟨h1_⟩
         have n2_ : Aside0 (Kd.V k55 55 w24 w.heap.size (fun k_ => (P0_ k_ ∨ w.heap.size ≤ k_) ∧ some k_ ≠ (u6 : Value).ownBlock ∧ k_ ≠ gb220 ∧ k_ ≠ gb229) v226 t225) := ⟨h2_⟩
         have n3_ : Aside0 (Kd.V k28 28 w24 w.heap.size (fun k_ => (P0_ k_ ∨ w.heap.size ≤ k_) ∧ some k_ ≠ (u6 : Value).ownBlock ∧ k_ ≠ gb220 ∧ k_ ≠ gb229) (.slice (some ad221) l0.length c0) l0) := ⟨h3_⟩
         have n4_ : Aside0 (Kd.V k28 28 w24 w.heap.size (fun k_ => (P0_ k_ ∨ w.heap.size ≤ k_) ∧ some k_ ≠ (u6 : Value).ownBlock ∧ k_ ≠ gb220 ∧ k_ ≠ gb229) (.slice Ao19 x221000_1.length co19) x221000_1) := ⟨h4_⟩
         have n5_ : Aside0 (Kd.V k55 55 w24 w.heap.size (fun k_ => (P0_ k_ ∨ w.heap.size ≤ k_) ∧ some k_ ≠ (u6 : Value).ownBlock ∧ k_ ≠ gb220 ∧ k_ ≠ gb229) (.slice Ao20 x221001_1.length co20) x221001_1) := ⟨h5_⟩
         have n6_ : Aside0 (Kd.N k28 28 w24 w.heap.size (fun k_ => (P0_ k_ ∨ w.heap.size ≤ k_) ∧ k_ ≠ gb220 ∧ k_ ≠ gb229) u6 x6_1) := ⟨h6_⟩
         have n7_ : Aside0 (w24.heap[gb220]? = some (.cells #[.slice Ao19 x221000_1.length co19, .slice Ao20 x221001_1.length co20] 25 (0, 0))) := ⟨h7_⟩
         have n8_ : Aside0 (w24.heap[gb229]? = some (.cells #[.slice none 0 0, .slice none 0 0] 25 (0, 0))) := ⟨h8_⟩
         have n9_ : Aside0 (w.heap.size ≤ gb229) := ⟨h9_⟩
         have n10_ : Aside0 (w.heap.size ≤ gb229) := ⟨h10_⟩
         have n11_ : Aside0 (gb220 ≠ gb229) := ⟨h11_⟩
         have n12_ : Aside0 (gb229 ≠ gb220) := ⟨h12_⟩
         have n13_ : Aside0 (Below w.heap.size w w24) := ⟨h13_⟩
         clear HO_0
         clear HO_6
         clear HO_221000
         clear HO_221001
         clear BK220
         clear HB
         clear h0_ h1_ h2_ h3_ h4_ h5_ h6_ h7_ h8_ h9_ h10_ h11_ h12_ h13_
         have HL221_2 := n0_
         have HO224 := n1_
         have HO227 := n2_
         have HO_0 := n3_
         have HO_221000 := n4_
         have HO_221001 := n5_
         have HO_6 := n6_
         have BK220 := n7_
         have BK229 := n8_
         have GW229 := n9_
         have GE229 := n10_
         have NB220_229 := n11_
         have NB229_220 := n12_
         have HB := n13_
         clear n0_ n1_ n2_ n3_ n4_ n5_ n6_ n7_ n8_ n9_ n10_ n11_ n12_ n13_
         have hHeld : w24.cell? ⟨gb220, 0, none⟩ = some (.slice Ao19 x221000_1.length co19) ∧ w24.cell? ⟨gb220, 1, none⟩ = some (.slice Ao20 x221001_1.length co20) ∧ w24.cell? (ad221.add ((x7_1).toNat * 3)) = some (.int .i64 ((rd_T28 l0 x7_1).f0)) ∧ w24.cell? ⟨(ad221.add ((x7_1).toNat * 3)).block, (ad221.add ((x7_1).toNat * 3)).off + 1, none⟩ = some (.int .i64 ((rd_T28 l0 x7_1).f1)) ∧ w24.cell? ⟨(ad221.add ((x7_1).toNat * 3)).block, (ad221.add ((x7_1).toNat * 3)).off + 2, none⟩ = some (.slice A221_2 ((rd_T28 l0 x7_1).f2).length c221_2) := hS_
         obtain ⟨Ao25, co25, eo25⟩ := Kd.V_slice HO224.out
         (first | subst eo25 | (injection eo25 with f1_ f2_ f3_; have f4_ := f1_.symm; have f5_ := f3_.symm; clear f1_ f2_ f3_; subst f4_; subst f5_))
         obtain ⟨Ao27, co27, eo27⟩ := Kd.V_slice HO227.out
         (first | subst eo27 | (injection eo27 with f1_ f2_ f3_; have f4_ := f1_.symm; have f5_ := f3_.symm; clear f1_ f2_ f3_; subst f4_; subst f5_))
         refine norm_ (a' := ?_) ?_ ?_
         rotate_left
         ·simp only [putAll, Act.put, List.setIfInBounds_toArray, List.set_cons_zero, List.set_cons_succ]
          rfl
         refine one_ (i := 10) (N := none) #[true, true, true, true, true, true, true, true, true, true, true, false] rfl rfl (one_of HT_.out (by kernel_rfl)) (by decide) (fun K hK => ?_)
         have hs26 : w24.cell? ⟨gb229, 0, none⟩ = some (.slice none 0 0) := (blk_cell BK229.out 0).trans rfl
         have hfs26 := blk_frozen BK229.out 0
         have hns26_0 := NB220_229.out
         have hms26_0 := NB229_220.out
         have hs28 : w24.cell? ⟨gb229, 1, none⟩ = some (.slice none 0 0) := (blk_cell BK229.out 1).trans rfl
         have hfs28 := blk_frozen BK229.out 1
         have hns28_0 := NB220_229.out
         have hms28_0 := NB229_220.out
         refine skip_ (w1 := ?_) (by rfl) rfl ?_ ?_
         rotate_left
         ·go_simp
          rfl
         refine hK.out _ _ ⟨((cell_far (p := ⟨gb229, _, none⟩) NB220_229.out _).trans (((cell_far (p := ⟨gb229, _, none⟩) NB220_229.out _).trans (hHeld.1)))), ((cell_far (p := ⟨gb229, _, none⟩) NB220_229.out _).trans (((cell_far (p := ⟨gb229, _, none⟩) NB220_229.out _).trans (hHeld.2.1)))), ((cell_far (p := ⟨gb229, _, none⟩) (by first | exact V_blk HO_0.out (fun _ hk => hk.2.2.2) | (rw [add_block]; exact V_blk HO_0.out (fun _ hk => hk.2.2.2)) | (show (Addr.add _ _).block ≠ _; rw [add_block]; exact V_blk HO_0.out (fun _ hk => hk.2.2.2)) | (dsimp only; exact V_blk HO_0.out (fun _ hk => hk.2.2.2))) _).trans (((cell_far (p := ⟨gb229, _, none⟩) (by first | exact V_blk HO_0.out (fun _ hk => hk.2.2.2) | (rw [add_block]; exact V_blk HO_0.out (fun _ hk => hk.2.2.2)) | (show (Addr.add _ _).block ≠ _; rw [add_block]; exact V_blk HO_0.out (fun _ hk => hk.2.2.2)) | (dsimp only; exact V_blk HO_0.out (fun _ hk => hk.2.2.2))) _).trans (hHeld.2.2.1)))), ((cell_far (p := ⟨gb229, _, none⟩) (by first | exact V_blk HO_0.out (fun _ hk => hk.2.2.2) | (rw [add_block]; exact V_blk HO_0.out (fun _ hk => hk.2.2.2)) | (show (Addr.add _ _).block ≠ _; rw [add_block]; exact V_blk HO_0.out (fun _ hk => hk.2.2.2)) | (dsimp only; exact V_blk HO_0.out (fun _ hk => hk.2.2.2))) _).trans (((cell_far (p := ⟨gb229, _, none⟩) (by first | exact V_blk HO_0.out (fun _ hk => hk.2.2.2) | (rw [add_block]; exact V_blk HO_0.out (fun _ hk => hk.2.2.2)) | (show (Addr.add _ _).block ≠ _; rw [add_block]; exact V_blk HO_0.out (fun _ hk => hk.2.2.2)) | (dsimp only; exact V_blk HO_0.out (fun _ hk => hk.2.2.2))) _).trans (hHeld.2.2.2.1)))), ((cell_far (p := ⟨gb229, _, none⟩) (by first | exact V_blk HO_0.out (fun _ hk => hk.2.2.2) | (rw [add_block]; exact V_blk HO_0.out (fun _ hk => hk.2.2.2)) | (show (Addr.add _ _).block ≠ _; rw [add_block]; exact V_blk HO_0.out (fun _ hk => hk.2.2.2)) | (dsimp only; exact V_blk HO_0.out (fun _ hk => hk.2.2.2))) _).trans (((cell_far (p := ⟨gb229, _, none⟩) (by first | exact V_blk HO_0.out (fun _ hk => hk.2.2.2) | (rw [add_block]; exact V_blk HO_0.out (fun _ hk => hk.2.2.2)) | (show (Addr.add _ _).block ≠ _; rw [add_block]; exact V_blk HO_0.out (fun _ hk => hk.2.2.2)) | (dsimp only; exact V_blk HO_0.out (fun _ hk => hk.2.2.2))) _).trans (hHeld.2.2.2.2))))⟩ (fun hHeld => ?_)
         clear hK K
         refine pure_ (i := 11) (N := some 9) (v := ?_) (a' := ?_) #[true, true, true, true, true, true, true, true, true, true, true, true] rfl rfl (any_of HT_.out (by kernel_rfl)) (fun _ _ _ h => h) (Or.inl ⟨by rfl, ?_⟩) ?_ ?_
         rotate_left
         ·intro w'
          go_simp
          with_reducible rfl
         rotate_left
         ·simp only [Act.put, List.setIfInBounds_toArray, List.set_cons_zero, List.set_cons_succ, i64_w, i32_w]
          rfl
         refine done_ (done_of HT_.out (by kernel_rfl)) ?_
         have n0_ : Aside0 (Kd.V k28 28 ((w24.setCell ⟨gb229, 0, none⟩ (.slice Ao25 t222.length co25)).setCell ⟨gb229, 1, none⟩ (.slice Ao27 t225.length co27)) w.heap.size (fun k_ => (P0_ k_ ∨ w.heap.size ≤ k_) ∧ some k_ ≠ (u6 : Value).ownBlock ∧ k_ ≠ gb220 ∧ k_ ≠ gb229) (.slice (some ad221) l0.length c0) l0) := ⟨by refine Zv ?_; exact Kd.V_mono (Kd.V_far (p := ⟨gb229, 1, none⟩) (Kd.V_far (p := ⟨gb229, 0, none⟩) (Kd.V_mono HO_0.out (fun k_ hk => (⟨hk, hk.2.2.2⟩ : _ ∧ k_ ≠ gb229))) (fun _ hk => hk.2) (.slice Ao25 t222.length co25)) (fun _ hk => hk.2) (.slice Ao27 t225.length co27)) (fun _ hk => ⟨hk.1.1, ⟨hk.1.2.1, ⟨hk.1.2.2.1, hk.1.2.2.2⟩⟩⟩)⟩
         have n1_ : Aside0 (Kd.N k28 28 ((w24.setCell ⟨gb229, 0, none⟩ (.slice Ao25 t222.length co25)).setCell ⟨gb229, 1, none⟩ (.slice Ao27 t225.length co27)) w.heap.size (fun k_ => (P0_ k_ ∨ w.heap.size ≤ k_) ∧ k_ ≠ gb220 ∧ k_ ≠ gb229) u6 x6_1) := ⟨by refine Zn ?_; exact Kd.N_mono (Kd.N_far (p := ⟨gb229, 1, none⟩) (Kd.N_far (p := ⟨gb229, 0, none⟩) (Kd.N_mono HO_6.out (fun k_ hk => (⟨hk, hk.2.2⟩ : _ ∧ k_ ≠ gb229))) (fun _ hk => hk.2) (.slice Ao25 t222.length co25)) (fun _ hk => hk.2) (.slice Ao27 t225.length co27)) (fun _ hk => ⟨hk.1.1, ⟨hk.1.2.1, hk.1.2.2⟩⟩)⟩
         have n2_ : Aside0 (Kd.V k28 28 ((w24.setCell ⟨gb229, 0, none⟩ (.slice Ao25 t222.length co25)).setCell ⟨gb229, 1, none⟩ (.slice Ao27 t225.length co27)) w.heap.size (fun k_ => (P0_ k_ ∨ w.heap.size ≤ k_) ∧ some k_ ≠ (u6 : Value).ownBlock ∧ k_ ≠ gb220 ∧ k_ ≠ gb229) (.slice Ao19 x221000_1.length co19) x221000_1) := ⟨by refine Zv ?_; exact Kd.V_mono (Kd.V_far (p := ⟨gb229, 1, none⟩) (Kd.V_far (p := ⟨gb229, 0, none⟩) (Kd.V_mono HO_221000.out (fun k_ hk => (⟨hk, hk.2.2.2⟩ : _ ∧ k_ ≠ gb229))) (fun _ hk => hk.2) (.slice Ao25 t222.length co25)) (fun _ hk => hk.2) (.slice Ao27 t225.length co27)) (fun _ hk => ⟨hk.1.1, ⟨hk.1.2.1, ⟨hk.1.2.2.1, hk.1.2.2.2⟩⟩⟩)⟩
         have n3_ : Aside0 (Kd.V k55 55 ((w24.setCell ⟨gb229, 0, none⟩ (.slice Ao25 t222.length co25)).setCell ⟨gb229, 1, none⟩ (.slice Ao27 t225.length co27)) w.heap.size (fun k_ => (P0_ k_ ∨ w.heap.size ≤ k_) ∧ some k_ ≠ (u6 : Value).ownBlock ∧ k_ ≠ gb220 ∧ k_ ≠ gb229) (.slice Ao20 x221001_1.length co20) x221001_1) := ⟨by refine Zv ?_; exact Kd.V_mono (Kd.V_far (p := ⟨gb229, 1, none⟩) (Kd.V_far (p := ⟨gb229, 0, none⟩) (Kd.V_mono HO_221001.out (fun k_ hk => (⟨hk, hk.2.2.2⟩ : _ ∧ k_ ≠ gb229))) (fun _ hk => hk.2) (.slice Ao25 t222.length co25)) (fun _ hk => hk.2) (.slice Ao27 t225.length co27)) (fun _ hk => ⟨hk.1.1, ⟨hk.1.2.1, ⟨hk.1.2.2.1, hk.1.2.2.2⟩⟩⟩)⟩
         have n4_ : Aside0 (Kd.V (Kd.int .u8) 5 ((w24.setCell ⟨gb229, 0, none⟩ (.slice Ao25 t222.length co25)).setCell ⟨gb229, 1, none⟩ (.slice Ao27 t225.length co27)) w.heap.size (fun k_ => (P0_ k_ ∨ w.heap.size ≤ k_) ∧ some k_ ≠ (u6 : Value).ownBlock ∧ k_ ≠ gb220 ∧ k_ ≠ gb229) (.slice A221_2 ((rd_T28 l0 x7_1).f2).length c221_2) ((rd_T28 l0 x7_1).f2)) := ⟨by refine Zv ?_; exact Kd.V_mono (Kd.V_far (p := ⟨gb229, 1, none⟩) (Kd.V_far (p := ⟨gb229, 0, none⟩) (Kd.V_mono HL221_2.out (fun k_ hk => (⟨hk, hk.2.2.2⟩ : _ ∧ k_ ≠ gb229))) (fun _ hk => hk.2) (.slice Ao25 t222.length co25)) (fun _ hk => hk.2) (.slice Ao27 t225.length co27)) (fun _ hk => ⟨hk.1.1, ⟨hk.1.2.1, ⟨hk.1.2.2.1, hk.1.2.2.2⟩⟩⟩)⟩
         have n5_ : Aside0 (Kd.V k28 28 ((w24.setCell ⟨gb229, 0, none⟩ (.slice Ao25 t222.length co25)).setCell ⟨gb229, 1, none⟩ (.slice Ao27 t225.length co27)) w.heap.size (fun k_ => (P0_ k_ ∨ w.heap.size ≤ k_) ∧ some k_ ≠ (u6 : Value).ownBlock ∧ k_ ≠ gb220 ∧ k_ ≠ gb229) (.slice Ao25 t222.length co25) t222) := ⟨by refine Zv ?_; exact Kd.V_mono (Kd.V_far (p := ⟨gb229, 1, none⟩) (Kd.V_far (p := ⟨gb229, 0, none⟩) (Kd.V_mono HO224.out (fun k_ hk => (⟨hk, hk.2.2.2⟩ : _ ∧ k_ ≠ gb229))) (fun _ hk => hk.2) (.slice Ao25 t222.length co25)) (fun _ hk => hk.2) (.slice Ao27 t225.length co27)) (fun _ hk => ⟨hk.1.1, ⟨hk.1.2.1, ⟨hk.1.2.2.1, hk.1.2.2.2⟩⟩⟩)⟩
         have n6_ : Aside0 (Kd.V k55 55 ((w24.setCell ⟨gb229, 0, none⟩ (.slice Ao25 t222.length co25)).setCell ⟨gb229, 1, none⟩ (.slice Ao27 t225.length co27)) w.heap.size (fun k_ => (P0_ k_ ∨ w.heap.size ≤ k_) ∧ some k_ ≠ (u6 : Value).ownBlock ∧ k_ ≠ gb220 ∧ k_ ≠ gb229) (.slice Ao27 t225.length co27) t225) := ⟨by refine Zv ?_; exact Kd.V_mono (Kd.V_far (p := ⟨gb229, 1, none⟩) (Kd.V_far (p := ⟨gb229, 0, none⟩) (Kd.V_mono HO227.out (fun k_ hk => (⟨hk, hk.2.2.2⟩ : _ ∧ k_ ≠ gb229))) (fun _ hk => hk.2) (.slice Ao25 t222.length co25)) (fun _ hk => hk.2) (.slice Ao27 t225.length co27)) (fun _ hk => ⟨hk.1.1, ⟨hk.1.2.1, ⟨hk.1.2.2.1, hk.1.2.2.2⟩⟩⟩)⟩
         have n7_ : Aside0 (((w24.setCell ⟨gb229, 0, none⟩ (.slice Ao25 t222.length co25)).setCell ⟨gb229, 1, none⟩ (.slice Ao27 t225.length co27)).heap[gb220]? = some (.cells #[.slice Ao19 x221000_1.length co19, .slice Ao20 x221001_1.length co20] 25 (0, 0))) := ⟨by refine Zb ?_; refine blk_far ?_ NB220_229.out _; refine Zb ?_; refine blk_far ?_ NB220_229.out _; refine Zb ?_; exact BK220.out⟩
         have n8_ : Aside0 (((w24.setCell ⟨gb229, 0, none⟩ (.slice Ao25 t222.length co25)).setCell ⟨gb229, 1, none⟩ (.slice Ao27 t225.length co27)).heap[gb229]? = some (.cells #[.slice Ao25 t222.length co25, .slice Ao27 t225.length co27] 25 (0, 0))) := ⟨by refine Zb ?_; refine blk_put (cs := #[.slice Ao25 t222.length co25, .slice none 0 0]) ?_ 1 _ rfl; refine Zb ?_; refine blk_put (cs := #[.slice none 0 0, .slice none 0 0]) ?_ 0 _ rfl; refine Zb ?_; exact BK229.out⟩
         have n9_ : Aside0 (Below w.heap.size w ((w24.setCell ⟨gb229, 0, none⟩ (.slice Ao25 t222.length co25)).setCell ⟨gb229, 1, none⟩ (.slice Ao27 t225.length co27))) := ⟨(Z2 HB GE220 GE229)⟩
         (try clear HO_0)
         (try clear HO_6)
         (try clear HO_221000)
         (try clear HO_221001)
         (try clear HL221_2)
         (try clear HO224)
         (try clear HO227)
         (try clear BK220)
         (try clear BK229)
         (try clear HB)
         generalize ((w24.setCell ⟨gb229, 0, none⟩ (.slice Ao25 t222.length co25)).setCell ⟨gb229, 1, none⟩ (.slice Ao27 t225.length co27)) = w29 at n0_ n1_ n2_ n3_ n4_ n5_ n6_ n7_ n8_ n9_ ⊢
         have HO_0 := n0_
         have HO_6 := n1_
         have HO_221000 := n2_
         have HO_221001 := n3_
         have HL221_2 := n4_
         have HO224 := n5_
         have HO227 := n6_
         have BK220 := n7_
         have BK229 := n8_
         have HB := n9_
         clear n0_ n1_ n2_ n3_ n4_ n5_ n6_ n7_ n8_ n9_
         have hnb30 := NB229_220.out
         have hnc30 := NB220_229.out
         have hcz31_0 : w29.cell? ⟨gb229, 0, none⟩ = some (.slice Ao25 t222.length co25) := (blk_cell BK229.out 0).trans rfl
         have hcz31_1 : w29.cell? ⟨gb229, 1, none⟩ = some (.slice Ao27 t225.length co27) := (blk_cell BK229.out 1).trans rfl
         have hfz31_0 := blk_frozen BK229.out 0
         have hfz31_1 := blk_frozen BK229.out 1
         have hcz32_0 : w29.cell? ⟨gb220, 0, none⟩ = some (.slice Ao19 x221000_1.length co19) := (blk_cell BK220.out 0).trans rfl
         have hcz32_1 : w29.cell? ⟨gb220, 1, none⟩ = some (.slice Ao20 x221001_1.length co20) := (blk_cell BK220.out 1).trans rfl
         have hfz32_0 := blk_frozen BK220.out 0
         have hfz32_1 := blk_frozen BK220.out 1
         try go_wp2_with (first | ((with_reducible refine gate_store (t := 25) (p := 5) rfl ?_); refine store_event (t := 25) (p := 5) (v := ?vo_w33) (w1 := ((w29.setCell ⟨gb220, 0, none⟩ (.slice Ao25 t222.length co25)).setCell ⟨gb220, 1, none⟩ (.slice Ao27 t225.length co27))) ?hg ?ho ?hn ?hr ?_; (case ho => rfl); (case hg => rfl); (case hn => rfl); (case hr => first | (go_simp; done) | (go_simp; rfl)); intro w33 hw; have n0_ : Aside0 (Kd.V k28 28 w33 w.heap.size (fun k_ => (P0_ k_ ∨ w.heap.size ≤ k_) ∧ some k_ ≠ (u6 : Value).ownBlock ∧ k_ ≠ gb220 ∧ k_ ≠ gb229) (.slice (some ad221) l0.length c0) l0) := ⟨(by rw [hw]; exact (by refine Zv ?_; exact Kd.V_mono (Kd.V_far (p := ⟨gb220, 1, none⟩) (Kd.V_far (p := ⟨gb220, 0, none⟩) (Kd.V_mono HO_0.out (fun k_ hk => (⟨hk, hk.2.2.1⟩ : _ ∧ k_ ≠ gb220))) (fun _ hk => hk.2) (.slice Ao25 t222.length co25)) (fun _ hk => hk.2) (.slice Ao27 t225.length co27)) (fun _ hk => ⟨hk.1.1, ⟨hk.1.2.1, ⟨hk.1.2.2.1, hk.1.2.2.2⟩⟩⟩)))⟩; have n1_ : Aside0 (Kd.N k28 28 w33 w.heap.size (fun k_ => (P0_ k_ ∨ w.heap.size ≤ k_) ∧ k_ ≠ gb220 ∧ k_ ≠ gb229) u6 x6_1) := ⟨(by rw [hw]; exact (by refine Zn ?_; exact Kd.N_mono (Kd.N_far (p := ⟨gb220, 1, none⟩) (Kd.N_far (p := ⟨gb220, 0, none⟩) (Kd.N_mono HO_6.out (fun k_ hk => (⟨hk, hk.2.1⟩ : _ ∧ k_ ≠ gb220))) (fun _ hk => hk.2) (.slice Ao25 t222.length co25)) (fun _ hk => hk.2) (.slice Ao27 t225.length co27)) (fun _ hk => ⟨hk.1.1, ⟨hk.1.2.1, hk.1.2.2⟩⟩)))⟩; have n2_ : Aside0 (Kd.V k28 28 w33 w.heap.size (fun k_ => (P0_ k_ ∨ w.heap.size ≤ k_) ∧ some k_ ≠ (u6 : Value).ownBlock ∧ k_ ≠ gb220 ∧ k_ ≠ gb229) (.slice Ao19 x221000_1.length co19) x221000_1) := ⟨(by rw [hw]; exact (by refine Zv ?_; exact Kd.V_mono (Kd.V_far (p := ⟨gb220, 1, none⟩) (Kd.V_far (p := ⟨gb220, 0, none⟩) (Kd.V_mono HO_221000.out (fun k_ hk => (⟨hk, hk.2.2.1⟩ : _ ∧ k_ ≠ gb220))) (fun _ hk => hk.2) (.slice Ao25 t222.length co25)) (fun _ hk => hk.2) (.slice Ao27 t225.length co27)) (fun _ hk => ⟨hk.1.1, ⟨hk.1.2.1, ⟨hk.1.2.2.1, hk.1.2.2.2⟩⟩⟩)))⟩; have n3_ : Aside0 (Kd.V k55 55 w33 w.heap.size (fun k_ => (P0_ k_ ∨ w.heap.size ≤ k_) ∧ some k_ ≠ (u6 : Value).ownBlock ∧ k_ ≠ gb220 ∧ k_ ≠ gb229) (.slice Ao20 x221001_1.length co20) x221001_1) := ⟨(by rw [hw]; exact (by refine Zv ?_; exact Kd.V_mono (Kd.V_far (p := ⟨gb220, 1, none⟩) (Kd.V_far (p := ⟨gb220, 0, none⟩) (Kd.V_mono HO_221001.out (fun k_ hk => (⟨hk, hk.2.2.1⟩ : _ ∧ k_ ≠ gb220))) (fun _ hk => hk.2) (.slice Ao25 t222.length co25)) (fun _ hk => hk.2) (.slice Ao27 t225.length co27)) (fun _ hk => ⟨hk.1.1, ⟨hk.1.2.1, ⟨hk.1.2.2.1, hk.1.2.2.2⟩⟩⟩)))⟩; have n4_ : Aside0 (Kd.V (Kd.int .u8) 5 w33 w.heap.size (fun k_ => (P0_ k_ ∨ w.heap.size ≤ k_) ∧ some k_ ≠ (u6 : Value).ownBlock ∧ k_ ≠ gb220 ∧ k_ ≠ gb229) (.slice A221_2 ((rd_T28 l0 x7_1).f2).length c221_2) ((rd_T28 l0 x7_1).f2)) := ⟨(by rw [hw]; exact (by refine Zv ?_; exact Kd.V_mono (Kd.V_far (p := ⟨gb220, 1, none⟩) (Kd.V_far (p := ⟨gb220, 0, none⟩) (Kd.V_mono HL221_2.out (fun k_ hk => (⟨hk, hk.2.2.1⟩ : _ ∧ k_ ≠ gb220))) (fun _ hk => hk.2) (.slice Ao25 t222.length co25)) (fun _ hk => hk.2) (.slice Ao27 t225.length co27)) (fun _ hk => ⟨hk.1.1, ⟨hk.1.2.1, ⟨hk.1.2.2.1, hk.1.2.2.2⟩⟩⟩)))⟩; have n5_ : Aside0 (Kd.V k28 28 w33 w.heap.size (fun k_ => (P0_ k_ ∨ w.heap.size ≤ k_) ∧ some k_ ≠ (u6 : Value).ownBlock ∧ k_ ≠ gb220 ∧ k_ ≠ gb229) (.slice Ao25 t222.length co25) t222) := ⟨(by rw [hw]; exact (by refine Zv ?_; exact Kd.V_mono (Kd.V_far (p := ⟨gb220, 1, none⟩) (Kd.V_far (p := ⟨gb220, 0, none⟩) (Kd.V_mono HO224.out (fun k_ hk => (⟨hk, hk.2.2.1⟩ : _ ∧ k_ ≠ gb220))) (fun _ hk => hk.2) (.slice Ao25 t222.length co25)) (fun _ hk => hk.2) (.slice Ao27 t225.length co27)) (fun _ hk => ⟨hk.1.1, ⟨hk.1.2.1, ⟨hk.1.2.2.1, hk.1.2.2.2⟩⟩⟩)))⟩; have n6_ : Aside0 (Kd.V k55 55 w33 w.heap.size (fun k_ => (P0_ k_ ∨ w.heap.size ≤ k_) ∧ some k_ ≠ (u6 : Value).ownBlock ∧ k_ ≠ gb220 ∧ k_ ≠ gb229) (.slice Ao27 t225.length co27) t225) := ⟨(by rw [hw]; exact (by refine Zv ?_; exact Kd.V_mono (Kd.V_far (p := ⟨gb220, 1, none⟩) (Kd.V_far (p := ⟨gb220, 0, none⟩) (Kd.V_mono HO227.out (fun k_ hk => (⟨hk, hk.2.2.1⟩ : _ ∧ k_ ≠ gb220))) (fun _ hk => hk.2) (.slice Ao25 t222.length co25)) (fun _ hk => hk.2) (.slice Ao27 t225.length co27)) (fun _ hk => ⟨hk.1.1, ⟨hk.1.2.1, ⟨hk.1.2.2.1, hk.1.2.2.2⟩⟩⟩)))⟩; have n7_ : Aside0 (w33.heap[gb220]? = some (.cells #[.slice Ao25 t222.length co25, .slice Ao27 t225.length co27] 25 (0, 0))) := ⟨(by rw [hw]; exact (by refine Zb ?_; refine blk_put (cs := #[.slice Ao25 t222.length co25, .slice Ao20 x221001_1.length co20]) ?_ 1 _ rfl; refine Zb ?_; refine blk_put (cs := #[.slice Ao19 x221000_1.length co19, .slice Ao20 x221001_1.length co20]) ?_ 0 _ rfl; refine Zb ?_; exact BK220.out))⟩; have n8_ : Aside0 (w33.heap[gb229]? = some (.cells #[.slice Ao25 t222.length co25, .slice Ao27 t225.length co27] 25 (0, 0))) := ⟨(by rw [hw]; exact (by refine Zb ?_; refine blk_far ?_ NB229_220.out _; refine Zb ?_; refine blk_far ?_ NB229_220.out _; refine Zb ?_; exact BK229.out))⟩; have n9_ : Aside0 (Below w.heap.size w w33) := ⟨(by rw [hw]; exact (Z2 HB GE220 GE229))⟩; clear hw; clear HO_0; clear HO_6; clear HO_221000; clear HO_221001; clear HL221_2; clear HO224; clear HO227; clear BK220; clear BK229; clear HB; have HO_0 := n0_; have HO_6 := n1_; have HO_221000 := n2_; have HO_221001 := n3_; have HL221_2 := n4_; have HO224 := n5_; have HO227 := n6_; have BK220 := n7_; have BK229 := n8_; have HB := n9_; clear n0_ n1_ n2_ n3_ n4_ n5_ n6_ n7_ n8_ n9_; have p230 : 0 ≤ (x7_1 : Int) := of_decide_eq_true (by first | (with_reducible assumption) | assumption); have q230 : x7_1 < (l0.length : Int) := of_decide_eq_true (by first | (with_reducible assumption) | assumption); obtain ⟨ad230, A230_2, c230_2, e230, hx230_0, hx230_1, hx230_2, hl230_2, hi230_2⟩ := at_T28 (Kd.V_reads' HO_0.out).2.2 x7_1 p230 q230; obtain rfl : ad221 = ad230 := (by injection e230); obtain ⟨ce230, hce230, hMe230, hcc230⟩ := Kd.V_get HO_0.out z28 x7_1 p230 (by first | exact q230 | exact of_decide_eq_true (by first | (with_reducible assumption) | assumption) | (have e_ := (Kd.V_reads' HO_0.out).1; omega)); obtain ⟨ua230_2, uc230_2, rfl, ul230_2, ge230_2⟩ := k28_openF hMe230; have hv230_2 := hcc230 2 _ rfl; rw [add_field _ _ 2 (by omega)] at hv230_2; replace hv230_2 := Option.some.inj (hv230_2.symm.trans hx230_2); injection hv230_2 with hva_ hvn_ hvc_; rw [hva_] at ge230_2; rw [hvc_] at ul230_2; have HL230_2 := Aside0.mk (show Kd.V (Kd.int .u8) 5 _ w.heap.size _ _ ((rd_T28 l0 x7_1).f2) from Kd.V_mk ul230_2 ge230_2); clear hva_ hvn_ hvc_ ge230_2 ul230_2; clear hcc230 hce230; have HR230_2 := Aside0.mk hi230_2; have HC230_2 := Aside0.mk hl230_2; clear hi230_2 hl230_2; replace p230 := eq_true p230; replace q230 := eq_true q230) | ((with_reducible refine gate_builtin (b := .append) (xs := #[.tmp 39, .tmp 44]) rfl ?_); at_builtin; refine Kd.N_append k28 (w0 := w) w.heap.size rfl (.tmp 39) (.tmp 44) 22 28 (.agg #[(.int .i64 0), (.int .i64 0), (.slice none 0 0)]) 40 rfl Try.underlying22 info28 rfl (by decide) (by omega) u6 x6_1 (⟨(rd_T28 l0 x7_1).f0, (rd_T28 l0 x7_1).f1, (rd_T28 l0 x7_1).f2⟩ : S28) [.int .i64 ((rd_T28 l0 x7_1).f0), .int .i64 ((rd_T28 l0 x7_1).f1), .slice A230_2 ((rd_T28 l0 x7_1).f2).length c230_2] (fun k_ => (P0_ k_ ∨ w.heap.size ≤ k_) ∧ k_ ≠ gb220 ∧ k_ ≠ gb229) (fun k_ => ((fun k_ => (P0_ k_ ∨ w.heap.size ≤ k_) ∧ k_ ≠ gb220 ∧ k_ ≠ gb229)) k_ ∧ some k_ ≠ (u6 : Value).ownBlock) rfl rfl ?aP (fun _ hk => hk) ?aF ?aO ?aB ?aS ?aL ?_; (case aP => exact (k28_mkF _ _ (⟨(rd_T28 l0 x7_1).f0, (rd_T28 l0 x7_1).f1, (rd_T28 l0 x7_1).f2⟩ : S28) (Kd.V_reads' (Kd.V_mono (ok' := (fun k_ => ((fun k_ => (P0_ k_ ∨ w.heap.size ≤ k_) ∧ k_ ≠ gb220 ∧ k_ ≠ gb229)) k_ ∧ some k_ ≠ (u6 : Value).ownBlock)) (HL230_2.out) (fun k_ hk => ⟨⟨hk.1, ⟨hk.2.2.1, hk.2.2.2⟩⟩, hk.2.1⟩))).2.1 (Kd.V_F (Kd.V_mono (ok' := (fun k_ => ((fun k_ => (P0_ k_ ∨ w.heap.size ≤ k_) ∧ k_ ≠ gb220 ∧ k_ ≠ gb229)) k_ ∧ some k_ ≠ (u6 : Value).ownBlock)) (HL230_2.out) (fun k_ hk => ⟨⟨hk.1, ⟨hk.2.2.1, hk.2.2.2⟩⟩, hk.2.1⟩))))); (case aB => exact (Z2 HB GE220 GE229)); (case aF => exact (fun k_ hk => ⟨(.inr (Nat.le_trans (below_size (Z2 HB GE220 GE229)) hk)), Kd.freshB (g := gb220) (o := .cells #[.slice Ao25 t222.length co25, .slice Ao27 t225.length co27] 25 (0, 0)) (Zb BK220.out) k_ hk, Kd.freshB (g := gb229) (o := .cells #[.slice Ao25 t222.length co25, .slice Ao27 t225.length co27] 25 (0, 0)) (Zb BK229.out) k_ hk⟩)); (case aO => exact (Zn HO_6.out)); (case aS => exact (below_size (Z2 HB GE220 GE229))); (case aL => have := LMc18.out; omega); intro v232 w34 ho hb hg hat; rw [← Ny231.out] at ho; have n0_ := Aside0.mk (Kd.V_afterv (ok := (fun k_ => (P0_ k_ ∨ w.heap.size ≤ k_) ∧ k_ ≠ gb220 ∧ k_ ≠ gb229)) (by refine Zv ?_; exact Kd.V_mono HO_0.out (fun _ hk => ⟨⟨hk.1, ⟨hk.2.2.1, hk.2.2.2⟩⟩, hk.2.1⟩)) hg hat); have n1_ := Aside0.mk (Kd.V_afterv (ok := (fun k_ => (P0_ k_ ∨ w.heap.size ≤ k_) ∧ k_ ≠ gb220 ∧ k_ ≠ gb229)) (by refine Zv ?_; exact Kd.V_mono HO_221000.out (fun _ hk => ⟨⟨hk.1, ⟨hk.2.2.1, hk.2.2.2⟩⟩, hk.2.1⟩)) hg hat); have n2_ := Aside0.mk (Kd.V_afterv (ok := (fun k_ => (P0_ k_ ∨ w.heap.size ≤ k_) ∧ k_ ≠ gb220 ∧ k_ ≠ gb229)) (by refine Zv ?_; exact Kd.V_mono HO_221001.out (fun _ hk => ⟨⟨hk.1, ⟨hk.2.2.1, hk.2.2.2⟩⟩, hk.2.1⟩)) hg hat); have n3_ := Aside0.mk (blk_grown (g := gb220) (o := .cells #[.slice Ao25 t222.length co25, .slice Ao27 t225.length co27] 25 (0, 0)) (Zb BK220.out) hg (Kd.N_ne HO_6.out BK220.out (by decide))); have n4_ := Aside0.mk (Kd.V_afterv (ok := (fun k_ => (P0_ k_ ∨ w.heap.size ≤ k_) ∧ k_ ≠ gb220 ∧ k_ ≠ gb229)) (by refine Zv ?_; exact Kd.V_mono HL221_2.out (fun _ hk => ⟨⟨hk.1, ⟨hk.2.2.1, hk.2.2.2⟩⟩, hk.2.1⟩)) hg hat); have n5_ := Aside0.mk (Kd.V_afterv (ok := (fun k_ => (P0_ k_ ∨ w.heap.size ≤ k_) ∧ k_ ≠ gb220 ∧ k_ ≠ gb229)) (by refine Zv ?_; exact Kd.V_mono HO224.out (fun _ hk => ⟨⟨hk.1, ⟨hk.2.2.1, hk.2.2.2⟩⟩, hk.2.1⟩)) hg hat); have n6_ := Aside0.mk (Kd.V_afterv (ok := (fun k_ => (P0_ k_ ∨ w.heap.size ≤ k_) ∧ k_ ≠ gb220 ∧ k_ ≠ gb229)) (by refine Zv ?_; exact Kd.V_mono HO227.out (fun _ hk => ⟨⟨hk.1, ⟨hk.2.2.1, hk.2.2.2⟩⟩, hk.2.1⟩)) hg hat); have n7_ := Aside0.mk (blk_grown (g := gb229) (o := .cells #[.slice Ao25 t222.length co25, .slice Ao27 t225.length co27] 25 (0, 0)) (Zb BK229.out) hg (Kd.N_ne HO_6.out BK229.out (by decide))); have n8_ := Aside0.mk (Kd.V_afterv (ok := (fun k_ => (P0_ k_ ∨ w.heap.size ≤ k_) ∧ k_ ≠ gb220 ∧ k_ ≠ gb229)) (by refine Zv ?_; exact Kd.V_mono HL230_2.out (fun _ hk => ⟨⟨hk.1, ⟨hk.2.2.1, hk.2.2.2⟩⟩, hk.2.1⟩)) hg hat); have n9_ := Aside0.mk (hb); have n10_ := Aside0.mk (ho); clear HO_0; clear HO_221000; clear HO_221001; clear BK220; clear HL221_2; clear HO224; clear HO227; clear BK229; clear HL230_2; clear HB; clear HO_6; have HO_0 := n0_; have HO_221000 := n1_; have HO_221001 := n2_; have BK220 := n3_; have HL221_2 := n4_; have HO224 := n5_; have HO227 := n6_; have BK229 := n7_; have HL230_2 := n8_; have HB := n9_; have HO233 := n10_; clear n0_ n1_ n2_ n3_ n4_ n5_ n6_ n7_ n8_ n9_ n10_; clear ho hb hg hat))
         go_roundg k1
         case measure => have := HK1.out; omega
         case rel => exact ⟨(y231), (wrap64 (x7_1 + 1)), (t222), (t225), (.slice Ao25 t222.length co25), (.slice Ao27 t225.length co27), (by first | rfl | (simp; done) | (simp [*]; done)), H', ⟨by have := HK1.out; omega⟩, ⟨by refine Zv ?_; exact Kd.V_mono HO_0.out (fun _ hk => ⟨hk.1.1, ⟨hk.2, hk.1.2.1⟩⟩)⟩, ⟨by refine Zn ?_; exact Kd.N_mono HO233.out (fun _ hk => ⟨hk.1, hk.2.1⟩)⟩, ⟨by refine Zv ?_; exact Kd.V_mono HO224.out (fun _ hk => ⟨hk.1.1, ⟨hk.2, hk.1.2.1⟩⟩)⟩, ⟨by refine Zv ?_; exact Kd.V_mono HO227.out (fun _ hk => ⟨hk.1.1, ⟨hk.2, hk.1.2.1⟩⟩)⟩, ⟨by refine Zb ?_; exact BK220.out⟩, ⟨(Z2 HB GE220 GE229)⟩⟩
        ·rw [if_neg c18] at H
         exact absurd H (by simp)
       ·rw [if_neg c17] at H
        have c17b0 : (t228 == 0) = false := beq_eq_false_iff_ne.mpr c17
        have c17b1 : (t228 != 0) = true := bne_iff_ne.mpr c17
        have H' := Aside0.mk H
        clear H
        obtain ⟨Ao35, co35, eo35⟩ := Kd.V_slice HO_221000.out
        subst eo35
        obtain ⟨Ao36, co36, eo36⟩ := Kd.V_slice HO_221001.out
        subst eo36
        try go_wp2
        have n0_ := Aside0.mk (Kd.V_drew HO_0.out)
        have n1_ := Aside0.mk (Kd.N_drew HO_6.out)
        have n2_ := Aside0.mk (Kd.V_drew HO_221000.out)
        have n3_ := Aside0.mk (Kd.V_drew HO_221001.out)
        have n4_ := Aside0.mk (blk_drew BK220.out)
        have n5_ := Aside0.mk (below_drew1 HB.out)
        clear HO_0
        clear HO_6
        clear HO_221000
        clear HO_221001
        clear BK220
        clear HB
        have HO_0 := n0_
        have HO_6 := n1_
        have HO_221000 := n2_
        have HO_221001 := n3_
        have BK220 := n4_
        have HB := n5_
        clear n0_ n1_ n2_ n3_ n4_ n5_
        have p221 : 0 ≤ (x7_1 : Int) := of_decide_eq_true (by first | (with_reducible assumption) | assumption)
        have q221 : x7_1 < (l0.length : Int) := of_decide_eq_true (by first | (with_reducible assumption) | assumption)
        obtain ⟨ad221, A221_2, c221_2, e221, hx221_0, hx221_1, hx221_2, hl221_2, hi221_2⟩ := at_T28 (Kd.V_reads' HO_0.out).2.2 x7_1 p221 q221
        cases e221
        obtain ⟨ce221, hce221, hMe221, hcc221⟩ := Kd.V_get HO_0.out z28 x7_1 p221 (by first | exact q221 | exact of_decide_eq_true (by first | (with_reducible assumption) | assumption) | (have e_ := (Kd.V_reads' HO_0.out).1; omega))
        obtain ⟨ua221_2, uc221_2, rfl, ul221_2, ge221_2⟩ := k28_openF hMe221
        have hv221_2 := hcc221 2 _ rfl
        rw [add_field _ _ 2 (by omega)] at hv221_2
        replace hv221_2 := Option.some.inj (hv221_2.symm.trans hx221_2)
        injection hv221_2 with hva_ hvn_ hvc_
        rw [hva_] at ge221_2
        rw [hvc_] at ul221_2
        have HL221_2 := Aside0.mk (show Kd.V (Kd.int .u8) 5 _ w.heap.size _ _ ((rd_T28 l0 x7_1).f2) from Kd.V_mk ul221_2 ge221_2)
        clear hva_ hvn_ hvc_ ge221_2 ul221_2
        clear hcc221 hce221
        have HR221_2 := Aside0.mk hi221_2
        have HC221_2 := Aside0.mk hl221_2
        clear hi221_2 hl221_2
        replace p221 := eq_true p221
        replace q221 := eq_true q221
        refine start_ (n := 12) (S := fun w' => w'.cell? ⟨gb220, 0, none⟩ = some (.slice Ao35 x221000_1.length co35) ∧ w'.cell? ⟨gb220, 1, none⟩ = some (.slice Ao36 x221001_1.length co36) ∧ w'.cell? (ad221.add ((x7_1).toNat * 3)) = some (.int .i64 ((rd_T28 l0 x7_1).f0)) ∧ w'.cell? ⟨(ad221.add ((x7_1).toNat * 3)).block, (ad221.add ((x7_1).toNat * 3)).off + 1, none⟩ = some (.int .i64 ((rd_T28 l0 x7_1).f1)) ∧ w'.cell? ⟨(ad221.add ((x7_1).toNat * 3)).block, (ad221.add ((x7_1).toNat * 3)).off + 2, none⟩ = some (.slice A221_2 ((rd_T28 l0 x7_1).f2).length c221_2)) (ds := []) #[false, false, false, false, false, false, false, false, false, false, false, false] (by kernel_rfl) rfl rfl ⟨(blk_cell BK220.out 0).trans rfl, (blk_cell BK220.out 1).trans rfl, hx221_0, hx221_1, hx221_2⟩ (fun hHeld => ?_); refine with_tabW signatorylaw06_NetworkAll.tab10 signatorylaw06_NetworkAll.bits10 (fun HT_ HW_ => ?_)
        generalize wr.drew = w37 at HO_0 HO_6 HO_221000 HO_221001 BK220 HB HL221_2 HR221_2 hx221_0 hx221_1 hx221_2 hHeld ⊢
        refine pure_ (i := 1) (N := some 29) (v := ?_) (a' := ?_) #[false, true, false, false, false, false, false, false, false, false, false, false] rfl rfl (any_of HT_.out (by kernel_rfl)) (fun _ _ _ h => h) (Or.inl ⟨by rfl, ?_⟩) ?_ ?_
        rotate_left
        ·intro w'
         go_simp
         with_reducible rfl
        rotate_left
        ·simp only [Act.put, List.setIfInBounds_toArray, List.set_cons_zero, List.set_cons_succ, i64_w, i32_w]
         rfl
        refine pure_ (i := 2) (N := some 30) (v := ?_) (a' := ?_) #[false, true, true, false, false, false, false, false, false, false, false, false] rfl rfl (any_of HT_.out (by kernel_rfl)) (fun _ _ _ h => h) (Or.inl ⟨by rfl, ?_⟩) ?_ ?_
        rotate_left
        ·intro w'
         go_simp
         with_reducible rfl
        rotate_left
        ·simp only [Act.put, List.setIfInBounds_toArray, List.set_cons_zero, List.set_cons_succ, i64_w, i32_w]
         rfl
        refine pure_ (i := 3) (N := some 31) (v := ?_) (a' := ?_) #[false, true, true, true, false, false, false, false, false, false, false, false] rfl rfl (any_of HT_.out (by kernel_rfl)) (fun _ _ _ h => h) (Or.inl ⟨by rfl, ?_⟩) ?_ ?_
        rotate_left
        ·intro w'
         go_simp
         with_reducible rfl
        rotate_left
        ·simp only [Act.put, List.setIfInBounds_toArray, List.set_cons_zero, List.set_cons_succ, i64_w, i32_w]
         rfl
        refine take_ (i := 0) (N := some 28) (v := ?_) (a' := ?_) #[true, true, true, true, false, false, false, false, false, false, false, false] rfl rfl (take_ofW HT_.out HW_.out (by kernel_rfl)) (fun _ _ _ h => h) (Or.inl ⟨by rfl, ?_⟩) hHeld ?_ ?_
        rotate_left
        ·rintro w' ⟨s0, s1, s2, s3, s4⟩
         go_simp
         with_reducible rfl
        rotate_left
        ·simp only [Act.put, List.setIfInBounds_toArray, List.set_cons_zero, List.set_cons_succ, i64_w, i32_w]
         rfl
        refine take_ (i := 4) (N := some 32) (v := ?_) (a' := ?_) #[true, true, true, true, true, false, false, false, false, false, false, false] rfl rfl (take_ofW HT_.out HW_.out (by kernel_rfl)) (fun _ _ _ h => h) (Or.inl ⟨by rfl, ?_⟩) hHeld ?_ ?_
        rotate_left
        ·rintro w' ⟨s0, s1, s2, s3, s4⟩
         go_simp
         with_reducible rfl
        rotate_left
        ·simp only [Act.put, List.setIfInBounds_toArray, List.set_cons_zero, List.set_cons_succ, i64_w, i32_w]
         rfl
        refine join_ (σ := Value × Value × Nat) 2 #[true, true, true, true, true, true, true, true, true, true, false, false] (fun s_ => [(33, .tuple #[.agg #[s_.1, s_.2.1], .int .i64 t228]), (8, .pointer (some ⟨s_.2.2, 0, none⟩)), (27, .tuple #[.agg #[s_.1, s_.2.1], .int .i64 t228]), (34, .agg #[s_.1, s_.2.1]), (35, .int .i64 t228)]) (fun s_ w' => (w'.cell? ⟨gb220, 0, none⟩ = some (.slice Ao35 x221000_1.length co35) ∧ w'.cell? ⟨gb220, 1, none⟩ = some (.slice Ao36 x221001_1.length co36) ∧ w'.cell? (ad221.add ((x7_1).toNat * 3)) = some (.int .i64 ((rd_T28 l0 x7_1).f0)) ∧ w'.cell? ⟨(ad221.add ((x7_1).toNat * 3)).block, (ad221.add ((x7_1).toNat * 3)).off + 1, none⟩ = some (.int .i64 ((rd_T28 l0 x7_1).f1)) ∧ w'.cell? ⟨(ad221.add ((x7_1).toNat * 3)).block, (ad221.add ((x7_1).toNat * 3)).off + 2, none⟩ = some (.slice A221_2 ((rd_T28 l0 x7_1).f2).length c221_2)) ∧ (Kd.V (Kd.int .u8) 5 w' w.heap.size (fun k_ => (P0_ k_ ∨ w.heap.size ≤ k_) ∧ some k_ ≠ (u6 : Value).ownBlock ∧ k_ ≠ gb220 ∧ k_ ≠ s_.2.2) (.slice A221_2 ((rd_T28 l0 x7_1).f2).length c221_2) ((rd_T28 l0 x7_1).f2)) ∧ (Kd.V k28 28 w' w.heap.size (fun k_ => (P0_ k_ ∨ w.heap.size ≤ k_) ∧ some k_ ≠ (u6 : Value).ownBlock ∧ k_ ≠ gb220 ∧ k_ ≠ s_.2.2) s_.1 t222) ∧ (Kd.V k55 55 w' w.heap.size (fun k_ => (P0_ k_ ∨ w.heap.size ≤ k_) ∧ some k_ ≠ (u6 : Value).ownBlock ∧ k_ ≠ gb220 ∧ k_ ≠ s_.2.2) s_.2.1 t225) ∧ (Kd.V k28 28 w' w.heap.size (fun k_ => (P0_ k_ ∨ w.heap.size ≤ k_) ∧ some k_ ≠ (u6 : Value).ownBlock ∧ k_ ≠ gb220 ∧ k_ ≠ s_.2.2) (.slice (some ad221) l0.length c0) l0) ∧ (Kd.V k28 28 w' w.heap.size (fun k_ => (P0_ k_ ∨ w.heap.size ≤ k_) ∧ some k_ ≠ (u6 : Value).ownBlock ∧ k_ ≠ gb220 ∧ k_ ≠ s_.2.2) (.slice Ao35 x221000_1.length co35) x221000_1) ∧ (Kd.V k55 55 w' w.heap.size (fun k_ => (P0_ k_ ∨ w.heap.size ≤ k_) ∧ some k_ ≠ (u6 : Value).ownBlock ∧ k_ ≠ gb220 ∧ k_ ≠ s_.2.2) (.slice Ao36 x221001_1.length co36) x221001_1) ∧ (Kd.N k28 28 w' w.heap.size (fun k_ => (P0_ k_ ∨ w.heap.size ≤ k_) ∧ k_ ≠ gb220 ∧ k_ ≠ s_.2.2) u6 x6_1) ∧ (w'.heap[gb220]? = some (.cells #[.slice Ao35 x221000_1.length co35, .slice Ao36 x221001_1.length co36] 25 (0, 0))) ∧ (w'.heap[s_.2.2]? = some (.cells #[.slice none 0 0, .slice none 0 0] 25 (0, 0))) ∧ (w.heap.size ≤ s_.2.2) ∧ (w.heap.size ≤ s_.2.2) ∧ (gb220 ≠ s_.2.2) ∧ (s_.2.2 ≠ gb220) ∧ (Below w.heap.size w w')) ?_ ?_
        rotate_left
        ·intro hCont
         refine two_ (i := 5) (j := 9) (Ni := some 33) (Nj := some 8) #[true, true, true, true, true, true, false, false, false, false, false, false] #[true, true, true, true, true, false, false, false, false, true, false, false] rfl rfl rfl rfl (two_of HT_.out (by kernel_rfl)) (by decide) (by decide) (fun K hK => ?_) (fun K hK => ?_)
         ·skip
          refine goes_ Try.func11 (by kernel_rfl) rfl #[.agg #[.slice Ao35 x221000_1.length co35, .slice Ao36 x221001_1.length co36], .agg #[.int .i64 ((rd_T28 l0 x7_1).f0), .int .i64 ((rd_T28 l0 x7_1).f1), .slice A221_2 ((rd_T28 l0 x7_1).f2).length c221_2]] (by rfl) rfl rfl (by (try simp only [List.map_toArray, List.map_cons, List.map_nil]); first | done | rfl | (simp only [List.length_drop, List.length_take]; rfl)) ?_
          with_reducible refine (network_Send.calls k1 (fun k_ => ((P0_ k_ ∨ w.heap.size ≤ k_) ∧ (some k_ ≠ (u6 : Value).ownBlock ∧ k_ ≠ gb220))) _ _ x221000_1 (fun k_ => ((P0_ k_ ∨ w.heap.size ≤ k_) ∧ (some k_ ≠ (u6 : Value).ownBlock ∧ k_ ≠ gb220))) _ _ x221001_1 ((rd_T28 l0 x7_1).f0) ((rd_T28 l0 x7_1).f1) (fun k_ => ((P0_ k_ ∨ w.heap.size ≤ k_) ∧ (some k_ ≠ (u6 : Value).ownBlock ∧ k_ ≠ gb220))) _ _ ((rd_T28 l0 x7_1).f2) t222 t225 t228 _ ?side1 ?side2 ?side3 A16.out).mono ?_
          (case side1 => exact HO_221000.out)
          (case side2 => exact HO_221001.out)
          (case side3 => exact HL221_2.out)
          rintro e w38 ⟨v223, v226, rfl, ho0, ho1, hb⟩
          have HS2_ := (hb.cell (World.block_lt_of_cell? _ _ (hHeld.2.2.1))).trans (hHeld.2.2.1)
          have HS3_ := (hb.cell (World.block_lt_of_cell? _ _ (hHeld.2.2.2.1))).trans (hHeld.2.2.2.1)
          have HS4_ := (hb.cell (World.block_lt_of_cell? _ _ (hHeld.2.2.2.2))).trans (hHeld.2.2.2.2)
          refine ⟨_, rfl, ?_⟩
          have n0_ := Aside0.mk (Kd.V_below (Zv HO_0.out) hb)
          have n1_ := Aside0.mk (Kd.N_below (Zn HO_6.out) hb)
          have n2_ := Aside0.mk (Kd.V_below (Zv HO_221000.out) hb)
          have n3_ := Aside0.mk (Kd.V_below (Zv HO_221001.out) hb)
          have n4_ := Aside0.mk (Kd.V_below (Zv HL221_2.out) hb)
          have n5_ := Aside0.mk (Kd.V_lower (Kd.V_mono (ok' := fun k_ => (P0_ k_ ∨ w.heap.size ≤ k_) ∧ some k_ ≠ (u6 : Value).ownBlock ∧ k_ ≠ gb220) ho0 (fun k_ hk_ => ⟨Or.elim hk_ (fun hs_ => Or.elim hs_ (fun hs_ => hs_.1) (fun hs_ => Or.elim hs_ (fun hs_ => hs_.1) (fun hs_ => hs_.1))) (fun hn_ => (.inr (Nat.le_trans (below_size (Z1 HB GE220)) hn_))), Or.elim hk_ (fun hs_ => Or.elim hs_ (fun hs_ => hs_.2.1) (fun hs_ => Or.elim hs_ (fun hs_ => hs_.2.1) (fun hs_ => hs_.2.1))) (fun hn_ => (Kd.fresh' (Kd.N_lt (Zn HO_6.out)) k_ hn_)), Or.elim hk_ (fun hs_ => Or.elim hs_ (fun hs_ => hs_.2.2) (fun hs_ => Or.elim hs_ (fun hs_ => hs_.2.2) (fun hs_ => hs_.2.2))) (fun hn_ => (Kd.freshB (g := gb220) (o := .cells #[.slice Ao35 x221000_1.length co35, .slice Ao36 x221001_1.length co36] 25 (0, 0)) (Zb BK220.out) k_ hn_))⟩)) (below_size (Z1 HB GE220)))
          have n6_ := Aside0.mk (Kd.V_lower (Kd.V_mono (ok' := fun k_ => (P0_ k_ ∨ w.heap.size ≤ k_) ∧ some k_ ≠ (u6 : Value).ownBlock ∧ k_ ≠ gb220) ho1 (fun k_ hk_ => ⟨Or.elim hk_ (fun hs_ => Or.elim hs_ (fun hs_ => hs_.1) (fun hs_ => Or.elim hs_ (fun hs_ => hs_.1) (fun hs_ => hs_.1))) (fun hn_ => (.inr (Nat.le_trans (below_size (Z1 HB GE220)) hn_))), Or.elim hk_ (fun hs_ => Or.elim hs_ (fun hs_ => hs_.2.1) (fun hs_ => Or.elim hs_ (fun hs_ => hs_.2.1) (fun hs_ => hs_.2.1))) (fun hn_ => (Kd.fresh' (Kd.N_lt (Zn HO_6.out)) k_ hn_)), Or.elim hk_ (fun hs_ => Or.elim hs_ (fun hs_ => hs_.2.2) (fun hs_ => Or.elim hs_ (fun hs_ => hs_.2.2) (fun hs_ => hs_.2.2))) (fun hn_ => (Kd.freshB (g := gb220) (o := .cells #[.slice Ao35 x221000_1.length co35, .slice Ao36 x221001_1.length co36] 25 (0, 0)) (Zb BK220.out) k_ hn_))⟩)) (below_size (Z1 HB GE220)))
          have n7_ := Aside0.mk (blk_below (g := gb220) (o := .cells #[.slice Ao35 x221000_1.length co35, .slice Ao36 x221001_1.length co36] 25 (0, 0)) (Zb BK220.out) hb)
          have n8_ := Aside0.mk (Kd.C_below (by repeat (first | (with_reducible exact HR221_2.out) | (with_reducible refine Kd.C_alloc ?_ _) | (with_reducible refine Kd.C_drewN ?_ _) | (with_reducible refine Kd.C_drew ?_) | exact HR221_2.out)) hb)
          have n9_ := Aside0.mk (below_step (Z1 HB GE220) hb)
          clear HO_0
          clear HO_6
          clear HO_221000
          clear HO_221001
          clear HL221_2
          clear BK220
          clear HR221_2
          clear HB
          have HO_0 := n0_
          have HO_6 := n1_
          have HO_221000 := n2_
          have HO_221001 := n3_
          have HL221_2 := n4_
          have HO224 := n5_
          have HO227 := n6_
          have BK220 := n7_
          have HR221_2 := n8_
          have HB := n9_
          clear n0_ n1_ n2_ n3_ n4_ n5_ n6_ n7_ n8_ n9_
          (try clear hb)
          (try clear hb2)
          (try clear hk)
          (try clear hi)
          (try clear ho0)
          (try clear ho1)
          refine hK.out _ _ ⟨(blk_cell BK220.out 0).trans rfl, (blk_cell BK220.out 1).trans rfl, HS2_, HS3_, HS4_⟩ (fun hHeld => ?_)
          clear hK K
          refine norm_ (a' := ?_) ?_ ?_
          rotate_left
          ·show Act.put _ (some 33) _ = _
           simp only [Act.put, List.setIfInBounds_toArray, List.set_cons_zero, List.set_cons_succ, i64_w, i32_w]
           rfl
          refine pure_ (i := 6) (N := some 27) (v := ?_) (a' := ?_) #[true, true, true, true, true, true, true, false, false, false, false, false] rfl rfl (any_of HT_.out (by kernel_rfl)) (fun _ _ _ h => h) (Or.inl ⟨by rfl, ?_⟩) ?_ ?_
          rotate_left
          ·intro w'
           go_simp
           with_reducible rfl
          rotate_left
          ·simp only [Act.put, List.setIfInBounds_toArray, List.set_cons_zero, List.set_cons_succ, i64_w, i32_w]
           rfl
          refine pure_ (i := 7) (N := some 34) (v := ?_) (a' := ?_) #[true, true, true, true, true, true, true, true, false, false, false, false] rfl rfl (any_of HT_.out (by kernel_rfl)) (fun _ _ _ h => h) (Or.inl ⟨by rfl, ?_⟩) ?_ ?_
          rotate_left
          ·intro w'
           go_simp
           with_reducible rfl
          rotate_left
          ·simp only [Act.put, List.setIfInBounds_toArray, List.set_cons_zero, List.set_cons_succ, i64_w, i32_w]
           rfl
          refine pure_ (i := 8) (N := some 35) (v := ?_) (a' := ?_) #[true, true, true, true, true, true, true, true, true, false, false, false] rfl rfl (any_of HT_.out (by kernel_rfl)) (fun _ _ _ h => h) (Or.inl ⟨by rfl, ?_⟩) ?_ ?_
          rotate_left
          ·intro w'
           go_simp
           with_reducible rfl
          rotate_left
          ·simp only [Act.put, List.setIfInBounds_toArray, List.set_cons_zero, List.set_cons_succ, i64_w, i32_w]
           rfl
          refine one_ (i := 9) (N := some 8) #[true, true, true, true, true, true, true, true, true, true, false, false] rfl rfl (one_of HT_.out (by kernel_rfl)) (by decide) (fun K hK => ?_)
          refine box_step ?hg (N := 8) ?hd (cs := #[.slice none 0 0, .slice none 0 0]) (t := 25) ?hr ?_; (case hd => rfl); (case hg => rfl); (case hr => first | (go_simp; done) | (go_simp; rfl))
          intro gb229 hg w39 hbox hb
          have HS2_ := (hb.cell (World.block_lt_of_cell? _ _ (hHeld.2.2.1))).trans (hHeld.2.2.1)
          have HS3_ := (hb.cell (World.block_lt_of_cell? _ _ (hHeld.2.2.2.1))).trans (hHeld.2.2.2.1)
          have HS4_ := (hb.cell (World.block_lt_of_cell? _ _ (hHeld.2.2.2.2))).trans (hHeld.2.2.2.2)
          have n0_ := Aside0.mk (Kd.V_below (Kd.V_elderB (Zv HO_0.out) gb229 (Nat.le_of_eq hg.symm)) hb)
          have n1_ := Aside0.mk (Kd.N_below (Kd.N_elderB (Zn HO_6.out) gb229 (Nat.le_of_eq hg.symm)) hb)
          have n2_ := Aside0.mk (Kd.V_below (Kd.V_elderB (Zv HO_221000.out) gb229 (Nat.le_of_eq hg.symm)) hb)
          have n3_ := Aside0.mk (Kd.V_below (Kd.V_elderB (Zv HO_221001.out) gb229 (Nat.le_of_eq hg.symm)) hb)
          have n4_ := Aside0.mk (Kd.V_below (Kd.V_elderB (Zv HL221_2.out) gb229 (Nat.le_of_eq hg.symm)) hb)
          have n5_ := Aside0.mk (Kd.V_below (Kd.V_elderB (Zv HO224.out) gb229 (Nat.le_of_eq hg.symm)) hb)
          have n6_ := Aside0.mk (Kd.V_below (Kd.V_elderB (Zv HO227.out) gb229 (Nat.le_of_eq hg.symm)) hb)
          have n7_ := Aside0.mk (blk_below (g := gb220) (o := .cells #[.slice Ao35 x221000_1.length co35, .slice Ao36 x221001_1.length co36] 25 (0, 0)) (Zb BK220.out) hb)
          have n8_ := Aside0.mk (Kd.C_below (by repeat (first | (with_reducible exact HR221_2.out) | (with_reducible refine Kd.C_alloc ?_ _) | (with_reducible refine Kd.C_drewN ?_ _) | (with_reducible refine Kd.C_drew ?_) | exact HR221_2.out)) hb)
          have n9_ := Aside0.mk (below_step (Z1 HB GE220) hb)
          have n10_ := Aside0.mk (hbox)
          have n11_ := Aside0.mk ((by rw [hg]; exact (below_size (Z1 HB GE220)) : w.heap.size ≤ gb229))
          have n12_ := Aside0.mk ((by rw [hg]; exact (below_size (Z1 HB GE220)) : w.heap.size ≤ gb229))
          have n13_ := Aside0.mk ((by rw [hg]; exact Nat.ne_of_lt (blk_lt (g := gb220) (o := .cells #[.slice Ao35 x221000_1.length co35, .slice Ao36 x221001_1.length co36] 25 (0, 0)) (Zb BK220.out)) : gb220 ≠ gb229))
          have n14_ := Aside0.mk ((by rw [hg]; exact Nat.ne_of_gt (blk_lt (g := gb220) (o := .cells #[.slice Ao35 x221000_1.length co35, .slice Ao36 x221001_1.length co36] 25 (0, 0)) (Zb BK220.out)) : gb229 ≠ gb220))
          clear HO_0
          clear HO_6
          clear HO_221000
          clear HO_221001
          clear HL221_2
          clear HO224
          clear HO227
          clear BK220
          clear HR221_2
          clear HB
          have HO_0 := n0_
          have HO_6 := n1_
          have HO_221000 := n2_
          have HO_221001 := n3_
          have HL221_2 := n4_
          have HO224 := n5_
          have HO227 := n6_
          have BK220 := n7_
          have HR221_2 := n8_
          have HB := n9_
          have BK229 := n10_
          have GW229 := n11_
          have GE229 := n12_
          have NB220_229 := n13_
          have NB229_220 := n14_
          clear n0_ n1_ n2_ n3_ n4_ n5_ n6_ n7_ n8_ n9_ n10_ n11_ n12_ n13_ n14_
          clear hb hbox hg
          refine hK.out _ _ ⟨(blk_cell BK220.out 0).trans rfl, (blk_cell BK220.out 1).trans rfl, HS2_, HS3_, HS4_⟩ (fun hHeld => ?_)
          clear hK K
          refine norm_ (a' := ?_) ?_ ?_
          rotate_left
          ·show Act.put _ (some 8) _ = _
           simp only [Act.put, List.setIfInBounds_toArray, List.set_cons_zero, List.set_cons_succ, i64_w, i32_w]
           rfl
          exact norm_ (by simp only [putAll, Act.put, List.setIfInBounds_toArray, List.set_cons_zero, List.set_cons_succ]) (hCont (v223, v226, gb229) _ ⟨hHeld, (by refine Zv ?_; exact Kd.V_mono HL221_2.out (fun _ hk => ⟨hk.1.1, ⟨hk.1.2.1, ⟨hk.1.2.2, hk.2⟩⟩⟩)), (by refine Zv ?_; exact Kd.V_mono HO224.out (fun _ hk => ⟨hk.1.1, ⟨hk.1.2.1, ⟨hk.1.2.2, hk.2⟩⟩⟩)), (by refine Zv ?_; exact Kd.V_mono HO227.out (fun _ hk => ⟨hk.1.1, ⟨hk.1.2.1, ⟨hk.1.2.2, hk.2⟩⟩⟩)), (by refine Zv ?_; exact Kd.V_mono HO_0.out (fun _ hk => ⟨hk.1.1, ⟨hk.1.2.1, ⟨hk.1.2.2, hk.2⟩⟩⟩)), (by refine Zv ?_; exact Kd.V_mono HO_221000.out (fun _ hk => ⟨hk.1.1, ⟨hk.1.2.1, ⟨hk.1.2.2, hk.2⟩⟩⟩)), (by refine Zv ?_; exact Kd.V_mono HO_221001.out (fun _ hk => ⟨hk.1.1, ⟨hk.1.2.1, ⟨hk.1.2.2, hk.2⟩⟩⟩)), (by refine Zn ?_; exact Kd.N_mono HO_6.out (fun _ hk => ⟨hk.1.1, ⟨hk.1.2, hk.2⟩⟩)), (Zb BK220.out), (Zb BK229.out), GW229.out, GE229.out, NB220_229.out, NB229_220.out, (Z2 HB GE220 GE229)⟩)
         ·skip
          refine box_step ?hg (N := 8) ?hd (cs := #[.slice none 0 0, .slice none 0 0]) (t := 25) ?hr ?_; (case hd => rfl); (case hg => rfl); (case hr => first | (go_simp; done) | (go_simp; rfl))
          intro gb229 hg w38 hbox hb
          have HS2_ := (hb.cell (World.block_lt_of_cell? _ _ (hHeld.2.2.1))).trans (hHeld.2.2.1)
          have HS3_ := (hb.cell (World.block_lt_of_cell? _ _ (hHeld.2.2.2.1))).trans (hHeld.2.2.2.1)
          have HS4_ := (hb.cell (World.block_lt_of_cell? _ _ (hHeld.2.2.2.2))).trans (hHeld.2.2.2.2)
          have n0_ := Aside0.mk (Kd.V_below (Kd.V_elderB (Zv HO_0.out) gb229 (Nat.le_of_eq hg.symm)) hb)
          have n1_ := Aside0.mk (Kd.N_below (Kd.N_elderB (Zn HO_6.out) gb229 (Nat.le_of_eq hg.symm)) hb)
          have n2_ := Aside0.mk (Kd.V_below (Kd.V_elderB (Zv HO_221000.out) gb229 (Nat.le_of_eq hg.symm)) hb)
          have n3_ := Aside0.mk (Kd.V_below (Kd.V_elderB (Zv HO_221001.out) gb229 (Nat.le_of_eq hg.symm)) hb)
          have n4_ := Aside0.mk (Kd.V_below (Kd.V_elderB (Zv HL221_2.out) gb229 (Nat.le_of_eq hg.symm)) hb)
          have n5_ := Aside0.mk (blk_below (g := gb220) (o := .cells #[.slice Ao35 x221000_1.length co35, .slice Ao36 x221001_1.length co36] 25 (0, 0)) (Zb BK220.out) hb)
          have n6_ := Aside0.mk (Kd.C_below (by repeat (first | (with_reducible exact HR221_2.out) | (with_reducible refine Kd.C_alloc ?_ _) | (with_reducible refine Kd.C_drewN ?_ _) | (with_reducible refine Kd.C_drew ?_) | exact HR221_2.out)) hb)
          have n7_ := Aside0.mk (below_step (Z1 HB GE220) hb)
          have n8_ := Aside0.mk (hbox)
          have n9_ := Aside0.mk ((by rw [hg]; exact (below_size (Z1 HB GE220)) : w.heap.size ≤ gb229))
          have n10_ := Aside0.mk ((by rw [hg]; exact (below_size (Z1 HB GE220)) : w.heap.size ≤ gb229))
          have n11_ := Aside0.mk ((by rw [hg]; exact Nat.ne_of_lt (blk_lt (g := gb220) (o := .cells #[.slice Ao35 x221000_1.length co35, .slice Ao36 x221001_1.length co36] 25 (0, 0)) (Zb BK220.out)) : gb220 ≠ gb229))
          have n12_ := Aside0.mk ((by rw [hg]; exact Nat.ne_of_gt (blk_lt (g := gb220) (o := .cells #[.slice Ao35 x221000_1.length co35, .slice Ao36 x221001_1.length co36] 25 (0, 0)) (Zb BK220.out)) : gb229 ≠ gb220))
          clear HO_0
          clear HO_6
          clear HO_221000
          clear HO_221001
          clear HL221_2
          clear BK220
          clear HR221_2
          clear HB
          have HO_0 := n0_
          have HO_6 := n1_
          have HO_221000 := n2_
          have HO_221001 := n3_
          have HL221_2 := n4_
          have BK220 := n5_
          have HR221_2 := n6_
          have HB := n7_
          have BK229 := n8_
          have GW229 := n9_
          have GE229 := n10_
          have NB220_229 := n11_
          have NB229_220 := n12_
          clear n0_ n1_ n2_ n3_ n4_ n5_ n6_ n7_ n8_ n9_ n10_ n11_ n12_
          clear hb hbox hg
          refine hK.out _ _ ⟨(blk_cell BK220.out 0).trans rfl, (blk_cell BK220.out 1).trans rfl, HS2_, HS3_, HS4_⟩ (fun hHeld => ?_)
          clear hK K
          refine norm_ (a' := ?_) ?_ ?_
          rotate_left
          ·show Act.put _ (some 8) _ = _
           simp only [Act.put, List.setIfInBounds_toArray, List.set_cons_zero, List.set_cons_succ, i64_w, i32_w]
           rfl
          refine one_ (i := 5) (N := some 33) #[true, true, true, true, true, true, false, false, false, true, false, false] rfl rfl (one_of HT_.out (by kernel_rfl)) (by decide) (fun K hK => ?_)
          refine goes_ Try.func11 (by kernel_rfl) rfl #[.agg #[.slice Ao35 x221000_1.length co35, .slice Ao36 x221001_1.length co36], .agg #[.int .i64 ((rd_T28 l0 x7_1).f0), .int .i64 ((rd_T28 l0 x7_1).f1), .slice A221_2 ((rd_T28 l0 x7_1).f2).length c221_2]] (by rfl) rfl rfl (by (try simp only [List.map_toArray, List.map_cons, List.map_nil]); first | done | rfl | (simp only [List.length_drop, List.length_take]; rfl)) ?_
          with_reducible refine (network_Send.calls k1 (fun k_ => (((P0_ k_ ∨ w.heap.size ≤ k_) ∧ (some k_ ≠ (u6 : Value).ownBlock ∧ k_ ≠ gb220)) ∧ k_ ≠ gb229)) _ _ x221000_1 (fun k_ => (((P0_ k_ ∨ w.heap.size ≤ k_) ∧ (some k_ ≠ (u6 : Value).ownBlock ∧ k_ ≠ gb220)) ∧ k_ ≠ gb229)) _ _ x221001_1 ((rd_T28 l0 x7_1).f0) ((rd_T28 l0 x7_1).f1) (fun k_ => (((P0_ k_ ∨ w.heap.size ≤ k_) ∧ (some k_ ≠ (u6 : Value).ownBlock ∧ k_ ≠ gb220)) ∧ k_ ≠ gb229)) _ _ ((rd_T28 l0 x7_1).f2) t222 t225 t228 _ ?side1 ?side2 ?side3 A16.out).mono ?_
          (case side1 => exact HO_221000.out)
          (case side2 => exact HO_221001.out)
          (case side3 => exact HL221_2.out)
          rintro e w39 ⟨v223, v226, rfl, ho0, ho1, hb⟩
          have HS2_ := (hb.cell (World.block_lt_of_cell? _ _ (hHeld.2.2.1))).trans (hHeld.2.2.1)
          have HS3_ := (hb.cell (World.block_lt_of_cell? _ _ (hHeld.2.2.2.1))).trans (hHeld.2.2.2.1)
          have HS4_ := (hb.cell (World.block_lt_of_cell? _ _ (hHeld.2.2.2.2))).trans (hHeld.2.2.2.2)
          refine ⟨_, rfl, ?_⟩
          have n0_ := Aside0.mk (Kd.V_below (Zv HO_0.out) hb)
          have n1_ := Aside0.mk (Kd.N_below (Zn HO_6.out) hb)
          have n2_ := Aside0.mk (Kd.V_below (Zv HO_221000.out) hb)
          have n3_ := Aside0.mk (Kd.V_below (Zv HO_221001.out) hb)
          have n4_ := Aside0.mk (Kd.V_below (Zv HL221_2.out) hb)
          have n5_ := Aside0.mk (Kd.V_lower (Kd.V_mono (ok' := fun k_ => (P0_ k_ ∨ w.heap.size ≤ k_) ∧ some k_ ≠ (u6 : Value).ownBlock ∧ k_ ≠ gb220 ∧ k_ ≠ gb229) ho0 (fun k_ hk_ => ⟨Or.elim hk_ (fun hs_ => Or.elim hs_ (fun hs_ => hs_.1.1) (fun hs_ => Or.elim hs_ (fun hs_ => hs_.1.1) (fun hs_ => hs_.1.1))) (fun hn_ => (.inr (Nat.le_trans (below_size (Z2 HB GE220 GE229)) hn_))), Or.elim hk_ (fun hs_ => Or.elim hs_ (fun hs_ => hs_.1.2.1) (fun hs_ => Or.elim hs_ (fun hs_ => hs_.1.2.1) (fun hs_ => hs_.1.2.1))) (fun hn_ => (Kd.fresh' (Kd.N_lt (Zn HO_6.out)) k_ hn_)), Or.elim hk_ (fun hs_ => Or.elim hs_ (fun hs_ => hs_.1.2.2) (fun hs_ => Or.elim hs_ (fun hs_ => hs_.1.2.2) (fun hs_ => hs_.1.2.2))) (fun hn_ => (Kd.freshB (g := gb220) (o := .cells #[.slice Ao35 x221000_1.length co35, .slice Ao36 x221001_1.length co36] 25 (0, 0)) (Zb BK220.out) k_ hn_)), Or.elim hk_ (fun hs_ => Or.elim hs_ (fun hs_ => hs_.2) (fun hs_ => Or.elim hs_ (fun hs_ => hs_.2) (fun hs_ => hs_.2))) (fun hn_ => (Kd.freshB (g := gb229) (o := .cells #[.slice none 0 0, .slice none 0 0] 25 (0, 0)) (Zb BK229.out) k_ hn_))⟩)) (below_size (Z2 HB GE220 GE229)))
          have n6_ := Aside0.mk (Kd.V_lower (Kd.V_mono (ok' := fun k_ => (P0_ k_ ∨ w.heap.size ≤ k_) ∧ some k_ ≠ (u6 : Value).ownBlock ∧ k_ ≠ gb220 ∧ k_ ≠ gb229) ho1 (fun k_ hk_ => ⟨Or.elim hk_ (fun hs_ => Or.elim hs_ (fun hs_ => hs_.1.1) (fun hs_ => Or.elim hs_ (fun hs_ => hs_.1.1) (fun hs_ => hs_.1.1))) (fun hn_ => (.inr (Nat.le_trans (below_size (Z2 HB GE220 GE229)) hn_))), Or.elim hk_ (fun hs_ => Or.elim hs_ (fun hs_ => hs_.1.2.1) (fun hs_ => Or.elim hs_ (fun hs_ => hs_.1.2.1) (fun hs_ => hs_.1.2.1))) (fun hn_ => (Kd.fresh' (Kd.N_lt (Zn HO_6.out)) k_ hn_)), Or.elim hk_ (fun hs_ => Or.elim hs_ (fun hs_ => hs_.1.2.2) (fun hs_ => Or.elim hs_ (fun hs_ => hs_.1.2.2) (fun hs_ => hs_.1.2.2))) (fun hn_ => (Kd.freshB (g := gb220) (o := .cells #[.slice Ao35 x221000_1.length co35, .slice Ao36 x221001_1.length co36] 25 (0, 0)) (Zb BK220.out) k_ hn_)), Or.elim hk_ (fun hs_ => Or.elim hs_ (fun hs_ => hs_.2) (fun hs_ => Or.elim hs_ (fun hs_ => hs_.2) (fun hs_ => hs_.2))) (fun hn_ => (Kd.freshB (g := gb229) (o := .cells #[.slice none 0 0, .slice none 0 0] 25 (0, 0)) (Zb BK229.out) k_ hn_))⟩)) (below_size (Z2 HB GE220 GE229)))
          have n7_ := Aside0.mk (blk_below (g := gb220) (o := .cells #[.slice Ao35 x221000_1.length co35, .slice Ao36 x221001_1.length co36] 25 (0, 0)) (Zb BK220.out) hb)
          have n8_ := Aside0.mk (Kd.C_below (by repeat (first | (with_reducible exact HR221_2.out) | (with_reducible refine Kd.C_alloc ?_ _) | (with_reducible refine Kd.C_drewN ?_ _) | (with_reducible refine Kd.C_drew ?_) | exact HR221_2.out)) hb)
          have n9_ := Aside0.mk (blk_below (g := gb229) (o := .cells #[.slice none 0 0, .slice none 0 0] 25 (0, 0)) (Zb BK229.out) hb)
          have n10_ := Aside0.mk (below_step (Z2 HB GE220 GE229) hb)
          clear HO_0
          clear HO_6
          clear HO_221000
          clear HO_221001
          clear HL221_2
          clear BK220
          clear HR221_2
          clear BK229
          clear HB
          have HO_0 := n0_
          have HO_6 := n1_
          have HO_221000 := n2_
          have HO_221001 := n3_
          have HL221_2 := n4_
          have HO224 := n5_
          have HO227 := n6_
          have BK220 := n7_
          have HR221_2 := n8_
          have BK229 := n9_
          have HB := n10_
          clear n0_ n1_ n2_ n3_ n4_ n5_ n6_ n7_ n8_ n9_ n10_
          (try clear hb)
          (try clear hb2)
          (try clear hk)
          (try clear hi)
          (try clear ho0)
          (try clear ho1)
          refine hK.out _ _ ⟨(blk_cell BK220.out 0).trans rfl, (blk_cell BK220.out 1).trans rfl, HS2_, HS3_, HS4_⟩ (fun hHeld => ?_)
          clear hK K
          refine norm_ (a' := ?_) ?_ ?_
          rotate_left
          ·show Act.put _ (some 33) _ = _
           simp only [Act.put, List.setIfInBounds_toArray, List.set_cons_zero, List.set_cons_succ, i64_w, i32_w]
           rfl
          refine pure_ (i := 6) (N := some 27) (v := ?_) (a' := ?_) #[true, true, true, true, true, true, true, false, false, true, false, false] rfl rfl (any_of HT_.out (by kernel_rfl)) (fun _ _ _ h => h) (Or.inl ⟨by rfl, ?_⟩) ?_ ?_
          rotate_left
          ·intro w'
           go_simp
           with_reducible rfl
          rotate_left
          ·simp only [Act.put, List.setIfInBounds_toArray, List.set_cons_zero, List.set_cons_succ, i64_w, i32_w]
           rfl
          refine pure_ (i := 7) (N := some 34) (v := ?_) (a' := ?_) #[true, true, true, true, true, true, true, true, false, true, false, false] rfl rfl (any_of HT_.out (by kernel_rfl)) (fun _ _ _ h => h) (Or.inl ⟨by rfl, ?_⟩) ?_ ?_
          rotate_left
          ·intro w'
           go_simp
           with_reducible rfl
          rotate_left
          ·simp only [Act.put, List.setIfInBounds_toArray, List.set_cons_zero, List.set_cons_succ, i64_w, i32_w]
           rfl
          refine pure_ (i := 8) (N := some 35) (v := ?_) (a' := ?_) #[true, true, true, true, true, true, true, true, true, true, false, false] rfl rfl (any_of HT_.out (by kernel_rfl)) (fun _ _ _ h => h) (Or.inl ⟨by rfl, ?_⟩) ?_ ?_
          rotate_left
          ·intro w'
           go_simp
           with_reducible rfl
          rotate_left
          ·simp only [Act.put, List.setIfInBounds_toArray, List.set_cons_zero, List.set_cons_succ, i64_w, i32_w]
           rfl
          exact norm_ (by simp only [putAll, Act.put, List.setIfInBounds_toArray, List.set_cons_zero, List.set_cons_succ]) (hCont (v223, v226, gb229) _ ⟨hHeld, (by refine Zv ?_; exact Kd.V_mono HL221_2.out (fun _ hk => ⟨hk.1.1, ⟨hk.1.2.1, ⟨hk.1.2.2, hk.2⟩⟩⟩)), (Zv HO224.out), (Zv HO227.out), (by refine Zv ?_; exact Kd.V_mono HO_0.out (fun _ hk => ⟨hk.1.1, ⟨hk.1.2.1, ⟨hk.1.2.2, hk.2⟩⟩⟩)), (by refine Zv ?_; exact Kd.V_mono HO_221000.out (fun _ hk => ⟨hk.1.1, ⟨hk.1.2.1, ⟨hk.1.2.2, hk.2⟩⟩⟩)), (by refine Zv ?_; exact Kd.V_mono HO_221001.out (fun _ hk => ⟨hk.1.1, ⟨hk.1.2.1, ⟨hk.1.2.2, hk.2⟩⟩⟩)), (by refine Zn ?_; exact Kd.N_mono HO_6.out (fun _ hk => ⟨hk.1.1, ⟨hk.1.2, hk.2⟩⟩)), (Zb BK220.out), (Zb BK229.out), GW229.out, GE229.out, NB220_229.out, NB229_220.out, (Z2 HB GE220 GE229)⟩)
        rintro ⟨v223, v226, gb229⟩ w40 ⟨hS_, h0_, h1_, h2_, h3_, h4_, h5_, h6_, h7_, h8_, h9_, h10_, h11_, h12_, h13_⟩
        have n0_ : Aside0 (Kd.V (Kd.int .u8) 5 w40 w.heap.size (fun k_ => (P0_ k_ ∨ w.heap.size ≤ k_) ∧ some k_ ≠ (u6 : Value).ownBlock ∧ k_ ≠ gb220 ∧ k_ ≠ gb229) (.slice A221_2 ((rd_T28 l0 x7_1).f2).length c221_2) ((rd_T28 l0 x7_1).f2)) := ⟨h0_⟩
        have n1_ : Aside0 (Kd.V k28 28 w40 w.heap.size (fun k_ => (P0_ k_ ∨ w.heap.size ≤ k_) ∧ some k_ ≠ (u6 : Value).ownBlock ∧ k_ ≠ gb220 ∧ k_ ≠ gb229) v223 t222) := ⟨h1_⟩
        have n2_ : Aside0 (Kd.V k55 55 w40 w.heap.size (fun k_ => (P0_ k_ ∨ w.heap.size ≤ k_) ∧ some k_ ≠ (u6 : Value).ownBlock ∧ k_ ≠ gb220 ∧ k_ ≠ gb229) v226 t225) := ⟨h2_⟩
        have n3_ : Aside0 (Kd.V k28 28 w40 w.heap.size (fun k_ => (P0_ k_ ∨ w.heap.size ≤ k_) ∧ some k_ ≠ (u6 : Value).ownBlock ∧ k_ ≠ gb220 ∧ k_ ≠ gb229) (.slice (some ad221) l0.length c0) l0) := ⟨h3_⟩
        have n4_ : Aside0 (Kd.V k28 28 w40 w.heap.size (fun k_ => (P0_ k_ ∨ w.heap.size ≤ k_) ∧ some k_ ≠ (u6 : Value).ownBlock ∧ k_ ≠ gb220 ∧ k_ ≠ gb229) (.slice Ao35 x221000_1.length co35) x221000_1) := ⟨h4_⟩
        have n5_ : Aside0 (Kd.V k55 55 w40 w.heap.size (fun k_ => (P0_ k_ ∨ w.heap.size ≤ k_) ∧ some k_ ≠ (u6 : Value).ownBlock ∧ k_ ≠ gb220 ∧ k_ ≠ gb229) (.slice Ao36 x221001_1.length co36) x221001_1) := ⟨h5_⟩
        have n6_ : Aside0 (Kd.N k28 28 w40 w.heap.size (fun k_ => (P0_ k_ ∨ w.heap.size ≤ k_) ∧ k_ ≠ gb220 ∧ k_ ≠ gb229) u6 x6_1) := ⟨h6_⟩
        have n7_ : Aside0 (w40.heap[gb220]? = some (.cells #[.slice Ao35 x221000_1.length co35, .slice Ao36 x221001_1.length co36] 25 (0, 0))) := ⟨h7_⟩
        have n8_ : Aside0 (w40.heap[gb229]? = some (.cells #[.slice none 0 0, .slice none 0 0] 25 (0, 0))) := ⟨h8_⟩
        have n9_ : Aside0 (w.heap.size ≤ gb229) := ⟨h9_⟩
        have n10_ : Aside0 (w.heap.size ≤ gb229) := ⟨h10_⟩
        have n11_ : Aside0 (gb220 ≠ gb229) := ⟨h11_⟩
        have n12_ : Aside0 (gb229 ≠ gb220) := ⟨h12_⟩
        have n13_ : Aside0 (Below w.heap.size w w40) := ⟨h13_⟩
        clear HO_0
        clear HO_6
        clear HO_221000
        clear HO_221001
        clear BK220
        clear HB
        clear h0_ h1_ h2_ h3_ h4_ h5_ h6_ h7_ h8_ h9_ h10_ h11_ h12_ h13_
        have HL221_2 := n0_
        have HO224 := n1_
        have HO227 := n2_
        have HO_0 := n3_
        have HO_221000 := n4_
        have HO_221001 := n5_
        have HO_6 := n6_
        have BK220 := n7_
        have BK229 := n8_
        have GW229 := n9_
        have GE229 := n10_
        have NB220_229 := n11_
        have NB229_220 := n12_
        have HB := n13_
        clear n0_ n1_ n2_ n3_ n4_ n5_ n6_ n7_ n8_ n9_ n10_ n11_ n12_ n13_
        have hHeld : w40.cell? ⟨gb220, 0, none⟩ = some (.slice Ao35 x221000_1.length co35) ∧ w40.cell? ⟨gb220, 1, none⟩ = some (.slice Ao36 x221001_1.length co36) ∧ w40.cell? (ad221.add ((x7_1).toNat * 3)) = some (.int .i64 ((rd_T28 l0 x7_1).f0)) ∧ w40.cell? ⟨(ad221.add ((x7_1).toNat * 3)).block, (ad221.add ((x7_1).toNat * 3)).off + 1, none⟩ = some (.int .i64 ((rd_T28 l0 x7_1).f1)) ∧ w40.cell? ⟨(ad221.add ((x7_1).toNat * 3)).block, (ad221.add ((x7_1).toNat * 3)).off + 2, none⟩ = some (.slice A221_2 ((rd_T28 l0 x7_1).f2).length c221_2) := hS_
        obtain ⟨Ao41, co41, eo41⟩ := Kd.V_slice HO224.out
        (first | subst eo41 | (injection eo41 with f1_ f2_ f3_; have f4_ := f1_.symm; have f5_ := f3_.symm; clear f1_ f2_ f3_; subst f4_; subst f5_))
        obtain ⟨Ao43, co43, eo43⟩ := Kd.V_slice HO227.out
        (first | subst eo43 | (injection eo43 with f1_ f2_ f3_; have f4_ := f1_.symm; have f5_ := f3_.symm; clear f1_ f2_ f3_; subst f4_; subst f5_))
        refine norm_ (a' := ?_) ?_ ?_
        rotate_left
        ·simp only [putAll, Act.put, List.setIfInBounds_toArray, List.set_cons_zero, List.set_cons_succ]
         rfl
        refine one_ (i := 10) (N := none) #[true, true, true, true, true, true, true, true, true, true, true, false] rfl rfl (one_of HT_.out (by kernel_rfl)) (by decide) (fun K hK => ?_)
        have hs42 : w40.cell? ⟨gb229, 0, none⟩ = some (.slice none 0 0) := (blk_cell BK229.out 0).trans rfl
        have hfs42 := blk_frozen BK229.out 0
        have hns42_0 := NB220_229.out
        have hms42_0 := NB229_220.out
        have hs44 : w40.cell? ⟨gb229, 1, none⟩ = some (.slice none 0 0) := (blk_cell BK229.out 1).trans rfl
        have hfs44 := blk_frozen BK229.out 1
        have hns44_0 := NB220_229.out
        have hms44_0 := NB229_220.out
        refine skip_ (w1 := ?_) (by rfl) rfl ?_ ?_
        rotate_left
        ·go_simp
         rfl
        refine hK.out _ _ ⟨((cell_far (p := ⟨gb229, _, none⟩) NB220_229.out _).trans (((cell_far (p := ⟨gb229, _, none⟩) NB220_229.out _).trans (hHeld.1)))), ((cell_far (p := ⟨gb229, _, none⟩) NB220_229.out _).trans (((cell_far (p := ⟨gb229, _, none⟩) NB220_229.out _).trans (hHeld.2.1)))), ((cell_far (p := ⟨gb229, _, none⟩) (by first | exact V_blk HO_0.out (fun _ hk => hk.2.2.2) | (rw [add_block]; exact V_blk HO_0.out (fun _ hk => hk.2.2.2)) | (show (Addr.add _ _).block ≠ _; rw [add_block]; exact V_blk HO_0.out (fun _ hk => hk.2.2.2)) | (dsimp only; exact V_blk HO_0.out (fun _ hk => hk.2.2.2))) _).trans (((cell_far (p := ⟨gb229, _, none⟩) (by first | exact V_blk HO_0.out (fun _ hk => hk.2.2.2) | (rw [add_block]; exact V_blk HO_0.out (fun _ hk => hk.2.2.2)) | (show (Addr.add _ _).block ≠ _; rw [add_block]; exact V_blk HO_0.out (fun _ hk => hk.2.2.2)) | (dsimp only; exact V_blk HO_0.out (fun _ hk => hk.2.2.2))) _).trans (hHeld.2.2.1)))), ((cell_far (p := ⟨gb229, _, none⟩) (by first | exact V_blk HO_0.out (fun _ hk => hk.2.2.2) | (rw [add_block]; exact V_blk HO_0.out (fun _ hk => hk.2.2.2)) | (show (Addr.add _ _).block ≠ _; rw [add_block]; exact V_blk HO_0.out (fun _ hk => hk.2.2.2)) | (dsimp only; exact V_blk HO_0.out (fun _ hk => hk.2.2.2))) _).trans (((cell_far (p := ⟨gb229, _, none⟩) (by first | exact V_blk HO_0.out (fun _ hk => hk.2.2.2) | (rw [add_block]; exact V_blk HO_0.out (fun _ hk => hk.2.2.2)) | (show (Addr.add _ _).block ≠ _; rw [add_block]; exact V_blk HO_0.out (fun _ hk => hk.2.2.2)) | (dsimp only; exact V_blk HO_0.out (fun _ hk => hk.2.2.2))) _).trans (hHeld.2.2.2.1)))), ((cell_far (p := ⟨gb229, _, none⟩) (by first | exact V_blk HO_0.out (fun _ hk => hk.2.2.2) | (rw [add_block]; exact V_blk HO_0.out (fun _ hk => hk.2.2.2)) | (show (Addr.add _ _).block ≠ _; rw [add_block]; exact V_blk HO_0.out (fun _ hk => hk.2.2.2)) | (dsimp only; exact V_blk HO_0.out (fun _ hk => hk.2.2.2))) _).trans (((cell_far (p := ⟨gb229, _, none⟩) (by first | exact V_blk HO_0.out (fun _ hk => hk.2.2.2) | (rw [add_block]; exact V_blk HO_0.out (fun _ hk => hk.2.2.2)) | (show (Addr.add _ _).block ≠ _; rw [add_block]; exact V_blk HO_0.out (fun _ hk => hk.2.2.2)) | (dsimp only; exact V_blk HO_0.out (fun _ hk => hk.2.2.2))) _).trans (hHeld.2.2.2.2))))⟩ (fun hHeld => ?_)
        clear hK K
        refine pure_ (i := 11) (N := some 9) (v := ?_) (a' := ?_) #[true, true, true, true, true, true, true, true, true, true, true, true] rfl rfl (any_of HT_.out (by kernel_rfl)) (fun _ _ _ h => h) (Or.inl ⟨by rfl, ?_⟩) ?_ ?_
        rotate_left
        ·intro w'
         go_simp
         with_reducible rfl
        rotate_left
        ·simp only [Act.put, List.setIfInBounds_toArray, List.set_cons_zero, List.set_cons_succ, i64_w, i32_w]
         rfl
        refine done_ (done_of HT_.out (by kernel_rfl)) ?_
        try go_wp2
        go_roundg k1
        case measure => have := HK1.out; omega
        case rel => exact ⟨(x6_1), (wrap64 (x7_1 + 1)), (x221000_1), (x221001_1), (.slice Ao35 x221000_1.length co35), (.slice Ao36 x221001_1.length co36), (by first | rfl | (simp; done) | (simp [*]; done)), H', ⟨by have := HK1.out; omega⟩, ⟨by refine Zv ?_; exact Kd.V_mono (Kd.V_far (p := ⟨gb229, 1, none⟩) (Kd.V_far (p := ⟨gb229, 0, none⟩) (Kd.V_mono HO_0.out (fun k_ hk => (⟨hk, hk.2.2.2⟩ : _ ∧ k_ ≠ gb229))) (fun _ hk => hk.2) (.slice Ao41 t222.length co41)) (fun _ hk => hk.2) (.slice Ao43 t225.length co43)) (fun _ hk => ⟨hk.1.1, ⟨hk.1.2.1, hk.1.2.2.1⟩⟩)⟩, ⟨by refine Zn ?_; exact Kd.N_mono (Kd.N_far (p := ⟨gb229, 1, none⟩) (Kd.N_far (p := ⟨gb229, 0, none⟩) (Kd.N_mono HO_6.out (fun k_ hk => (⟨hk, hk.2.2⟩ : _ ∧ k_ ≠ gb229))) (fun _ hk => hk.2) (.slice Ao41 t222.length co41)) (fun _ hk => hk.2) (.slice Ao43 t225.length co43)) (fun _ hk => ⟨hk.1.1, hk.1.2.1⟩)⟩, ⟨by refine Zv ?_; exact Kd.V_mono (Kd.V_far (p := ⟨gb229, 1, none⟩) (Kd.V_far (p := ⟨gb229, 0, none⟩) (Kd.V_mono HO_221000.out (fun k_ hk => (⟨hk, hk.2.2.2⟩ : _ ∧ k_ ≠ gb229))) (fun _ hk => hk.2) (.slice Ao41 t222.length co41)) (fun _ hk => hk.2) (.slice Ao43 t225.length co43)) (fun _ hk => ⟨hk.1.1, ⟨hk.1.2.1, hk.1.2.2.1⟩⟩)⟩, ⟨by refine Zv ?_; exact Kd.V_mono (Kd.V_far (p := ⟨gb229, 1, none⟩) (Kd.V_far (p := ⟨gb229, 0, none⟩) (Kd.V_mono HO_221001.out (fun k_ hk => (⟨hk, hk.2.2.2⟩ : _ ∧ k_ ≠ gb229))) (fun _ hk => hk.2) (.slice Ao41 t222.length co41)) (fun _ hk => hk.2) (.slice Ao43 t225.length co43)) (fun _ hk => ⟨hk.1.1, ⟨hk.1.2.1, hk.1.2.2.1⟩⟩)⟩, ⟨by refine Zb ?_; refine blk_far ?_ NB220_229.out _; refine Zb ?_; refine blk_far ?_ NB220_229.out _; refine Zb ?_; exact BK220.out⟩, ⟨(Z2 HB GE220 GE229)⟩⟩
      ·rw [if_neg c15] at H
       exact absurd H (by simp)
     ·rw [if_neg c14] at H
      have c14b0 : decide (x7_1 < (l0.length : Int)) = false := decide_eq_false c14
      clear c14
      have H' := Aside0.mk H
      clear H
      go_wp2
      go_loopg [6, 10] k1 (fun kq v6 v10 w' => ∃ (x6_2 : List (S28)) (x10_2 : Int) (x221000_2 : List (S28)) (x221001_2 : List (S55)) (u221000 : Value) (u221001 : Value), v10 = .int .i64 x10_2 ∧ Aside0 (signatorylaw06_NetworkAll.l1 kq l1 x6_2 x10_2 x221000_2 x221001_2 = some r) ∧ Aside0 (kq ≤ k1) ∧ Aside0 (Kd.N k28 28 w' w.heap.size (fun k_ => (P0_ k_ ∨ w.heap.size ≤ k_) ∧ k_ ≠ gb220) v6 x6_2) ∧ Aside0 (Kd.V k28 28 w' w.heap.size (fun k_ => (P0_ k_ ∨ w.heap.size ≤ k_) ∧ some k_ ≠ (v6 : Value).ownBlock ∧ k_ ≠ gb220) u221000 x221000_2) ∧ Aside0 (Kd.V k55 55 w' w.heap.size (fun k_ => (P0_ k_ ∨ w.heap.size ≤ k_) ∧ some k_ ≠ (v6 : Value).ownBlock ∧ k_ ≠ gb220) u221001 x221001_2) ∧ Aside0 (w'.heap[gb220]? = some (.cells #[u221000, u221001] 25 (0, 0))) ∧ Aside0 (Below w.heap.size w w'))
      case atStart => exact ⟨(x6_1), (0), (x221000_1), (x221001_1), (u221000), (u221001), (by first | rfl | (simp; done) | (simp [*]; done)), H', ⟨Nat.le_refl _⟩, ⟨by refine Zn ?_; exact HO_6.out⟩, ⟨by refine Zv ?_; exact HO_221000.out⟩, ⟨by refine Zv ?_; exact HO_221001.out⟩, ⟨by refine Zb ?_; exact BK220.out⟩, ⟨(Z1 HB GE220)⟩⟩
      case round =>
       clear H'
       try clear c1
       try clear c2
       try clear p2
       try clear q2
       try clear hx2
       try clear c3
       try clear p6
       try clear c11
       try clear c14
       try clear c14b0
       try clear c15
       try clear c17
       try clear c17b0
       try clear c17b1
       try clear c18
       try clear c22
       try clear p22
       try clear q22
       try clear hx22
       try clear c23
       try clear p23
       try clear q23
       try clear hx23
       try clear c30
       try clear hcz31_0
       try clear hcz31_1
       try clear hcz32_0
       try clear hcz32_1
       try clear hfz31_0
       try clear hfz31_1
       try clear hfz32_0
       try clear hfz32_1
       try clear hx221_0
       try clear hx221_1
       try clear hx221_2
       try clear hx230_0
       try clear hx230_1
       try clear hx230_2
       try clear p221
       try clear p230
       try clear q221
       try clear q230
       obtain ⟨x6_2, x10_2, x221000_2, x221001_2, u221000, u221001, rfl, HA, HK2, HO_6, HO_221000, HO_221001, BK220, HB⟩ := hrel
       cases gk with
       | zero => exact absurd HA.out (by simp [signatorylaw06_NetworkAll.l1])
       | succ k2 =>
        have H := HA.out
        clear HA
        simp only [signatorylaw06_NetworkAll.l1] at H
        by_cases c45 : (x6_2.length : Int) > 0
        ·rw [if_pos c45] at H
         have c45b0 : decide (0 < (x6_2.length : Int)) = true := decide_eq_true c45
         have c45b1 : decide (0 < x6_2.length) = true := decide_eq_true (by omega)
         clear c45
         have HC46 := Aside0.mk H
         clear H
         obtain ⟨Ao47, co47, eo47⟩ := Kd.N_slice HO_6.out
         subst eo47
         go_upto_if 54 with (fail)
         go_cut [11] (fun v11 wc => ∃ (kq : Nat) (x11_45 : Int), v11 = .int .i64 x11_45 ∧ Aside0 (signatorylaw06_NetworkAll.j2 kq l1 x6_2 x10_2 x11_45 x221000_2 x221001_2 = some r) ∧ Aside0 (kq ≤ k2) ∧ Aside0 (Kd.N k28 28 wc w.heap.size (fun k_ => (P0_ k_ ∨ w.heap.size ≤ k_) ∧ k_ ≠ gb220) (.slice Ao47 x6_2.length co47) x6_2) ∧ Aside0 (Kd.V k28 28 wc w.heap.size (fun k_ => (P0_ k_ ∨ w.heap.size ≤ k_) ∧ some k_ ≠ ((.slice Ao47 x6_2.length co47) : Value).ownBlock ∧ k_ ≠ gb220) u221000 x221000_2) ∧ Aside0 (Kd.V k55 55 wc w.heap.size (fun k_ => (P0_ k_ ∨ w.heap.size ≤ k_) ∧ some k_ ≠ ((.slice Ao47 x6_2.length co47) : Value).ownBlock ∧ k_ ≠ gb220) u221001 x221001_2) ∧ Aside0 (wc.heap[gb220]? = some (.cells #[u221000, u221001] 25 (0, 0))) ∧ Aside0 (Below w.heap.size w wc))
         case first =>
          have H := HC46.out
          clear HC46
          by_cases c48 : x10_2 < (l1.length : Int)
          ·rw [if_pos c48] at H
           have c48b0 : decide (x10_2 < (l1.length : Int)) = true := decide_eq_true c48
           clear c48
           (first | rw [c48b0] | (simp only [i64_w, i32_w]; rw [c48b0]) | skip)
           by_cases c49 : 0 ≤ x10_2
           ·rw [if_pos c49] at H
            have c49b0 : decide (0 ≤ x10_2) = true := decide_eq_true c49
            clear c49
            by_cases c50 : (x6_2.length : Int) = 0
            ·rw [if_pos c50] at H
             exact absurd H (by simp)
            ·rw [if_neg c50] at H
             have c50b0 : ((x6_2.length : Int) == 0) = false := beq_eq_false_iff_ne.mpr c50
             have c50b1 : ((x6_2.length : Int) != 0) = true := bne_iff_ne.mpr c50
             have c50b2 : ¬ (x6_2 = []) := fun h_ => c50 (by rw [h_]; rfl)
             have H' := Aside0.mk H
             clear H
             have p234 : 0 ≤ (x10_2 : Int) := of_decide_eq_true (by first | (with_reducible assumption) | assumption)
             have q234 : x10_2 < (l1.length : Int) := of_decide_eq_true (by first | (with_reducible assumption) | assumption)
             obtain ⟨ad234, e234, hx234_0⟩ := Kd.at_int HR1.out x10_2 p234 q234
             cases e234
             replace hx234_0 := (HB.out.cell (World.block_lt_of_cell? w _ hx234_0)).trans hx234_0
             replace p234 := eq_true p234
             replace q234 := eq_true q234
             go_wp2
             go_meet
             case rel => exact ⟨_, (Int.tmod (wrap64 (rd l1 x10_2)) (x6_2.length : Int)), (by first | rfl | (simp; done) | (simp [*]; done)), H', ⟨by have := HK1.out; have := HK2.out; first | omega | exact Nat.le_refl _⟩, ⟨by refine Zn ?_; exact HO_6.out⟩, ⟨by refine Zv ?_; exact HO_221000.out⟩, ⟨by refine Zv ?_; exact HO_221001.out⟩, ⟨by refine Zb ?_; exact BK220.out⟩, ⟨(Z1 HB GE220)⟩⟩
           ·rw [if_neg c49] at H
            exact absurd H (by simp)
          ·rw [if_neg c48] at H
           have c48b0 : decide (x10_2 < (l1.length : Int)) = false := decide_eq_false c48
           clear c48
           (first | rw [c48b0] | (simp only [i64_w, i32_w]; rw [c48b0]) | skip)
           have H' := Aside0.mk H
           clear H
           go_wp2
           go_meet
           case rel => exact ⟨_, (0), (by first | rfl | (simp; done) | (simp [*]; done)), H', ⟨by have := HK1.out; have := HK2.out; first | omega | exact Nat.le_refl _⟩, ⟨by refine Zn ?_; exact HO_6.out⟩, ⟨by refine Zv ?_; exact HO_221000.out⟩, ⟨by refine Zv ?_; exact HO_221001.out⟩, ⟨by refine Zb ?_; exact BK220.out⟩, ⟨(Z1 HB GE220)⟩⟩
         case rest =>
          clear HC46
          try clear c1
          try clear c2
          try clear p2
          try clear q2
          try clear hx2
          try clear c3
          try clear c4
          try clear c5
          try clear p6
          try clear c11
          try clear c14
          try clear c14b0
          try clear c15
          try clear c17
          try clear c17b0
          try clear c17b1
          try clear c18
          try clear c22
          try clear p22
          try clear q22
          try clear hx22
          try clear c23
          try clear p23
          try clear q23
          try clear hx23
          try clear c30
          try clear c45
          try clear c45b0
          try clear c45b1
          try clear c48
          try clear c48b0
          try clear c49
          try clear c49b0
          try clear c50
          try clear c50b0
          try clear c50b1
          try clear c50b2
          try clear hcz31_0
          try clear hcz31_1
          try clear hcz32_0
          try clear hcz32_1
          try clear hfz31_0
          try clear hfz31_1
          try clear hfz32_0
          try clear hfz32_1
          try clear hx221_0
          try clear hx221_1
          try clear hx221_2
          try clear hx230_0
          try clear hx230_1
          try clear hx230_2
          try clear hx234_0
          try clear p2
          try clear p22
          try clear p221
          try clear p23
          try clear p230
          try clear p234
          try clear p6
          try clear q2
          try clear q22
          try clear q221
          try clear q23
          try clear q230
          try clear q234
          obtain ⟨kq, x11_45, rfl, HA, HJ45, HO_6, HO_221000, HO_221001, BK220, HB⟩ := hcut
          cases kq with
          | zero => exact absurd HA.out (by simp [signatorylaw06_NetworkAll.j2])
          | succ kj45 =>
           have H := HA.out
           clear HA
           simp only [signatorylaw06_NetworkAll.j2] at H
           replace H := Option.bind_eq_some_iff.mp H
           obtain ⟨⟨t235, t236, t237, t240, t243, t246⟩, A510, H⟩ := H
           replace H : (if t246 = 0 then (if 0 ≤ x11_45 then (if x11_45 < (x6_2.length : Int) then ((signatoryref06_SamePacket.f t235 t236 t237 ((rd_T28 x6_2 x11_45).f0) ((rd_T28 x6_2 x11_45).f1) ((rd_T28 x6_2 x11_45).f2)).bind fun t250 => (if t250 = true then ((some (([] : List (S28)) : List (S28))).bind fun y251 => (if x11_45 ≤ (x6_2.length : Int) then ((some (x6_2.take (x11_45 : Int).toNat : List (S28))).bind fun y254 => (if y251.length + y254.length < 3518437208883 then ((some (y251 ++ y254 : List (S28))).bind fun y259 => (if 0 ≤ (wrap64 (x11_45 + 1)) then (if (wrap64 (x11_45 + 1)) ≤ (x6_2.length : Int) then ((some (x6_2.drop ((wrap64 (x11_45 + 1)) : Int).toNat : List (S28))).bind fun y262 => (if y259.length + y262.length < 3518437208883 then (signatorylaw06_NetworkAll.l1 kj45 l1 (y259 ++ y262) (wrap64 (x10_2 + 1)) t240 t243) else (none))) else (none)) else (none))) else (none))) else (none))) else (some false))) else (none)) else (none)) else (some false)) = some r := H
           have A51 := Aside0.mk A510
           clear A510
           by_cases c52 : t246 = 0
           ·rw [if_pos c52] at H
            have c52b0 : (t246 == 0) = true := beq_iff_eq.mpr c52
            have c52b1 : (t246 != 0) = false := bne_eq_false_iff_eq.mpr c52
            clear c52
            by_cases c53 : 0 ≤ x11_45
            ·rw [if_pos c53] at H
             have c53b0 : decide (0 ≤ x11_45) = true := decide_eq_true c53
             clear c53
             by_cases c54 : x11_45 < (x6_2.length : Int)
             ·rw [if_pos c54] at H
              have c54b0 : decide (x11_45 < (x6_2.length : Int)) = true := decide_eq_true c54
              clear c54
              replace H := Option.bind_eq_some_iff.mp H
              obtain ⟨t250, A550, H⟩ := H
              replace H : (if t250 = true then ((some (([] : List (S28)) : List (S28))).bind fun y251 => (if x11_45 ≤ (x6_2.length : Int) then ((some (x6_2.take (x11_45 : Int).toNat : List (S28))).bind fun y254 => (if y251.length + y254.length < 3518437208883 then ((some (y251 ++ y254 : List (S28))).bind fun y259 => (if 0 ≤ (wrap64 (x11_45 + 1)) then (if (wrap64 (x11_45 + 1)) ≤ (x6_2.length : Int) then ((some (x6_2.drop ((wrap64 (x11_45 + 1)) : Int).toNat : List (S28))).bind fun y262 => (if y259.length + y262.length < 3518437208883 then (signatorylaw06_NetworkAll.l1 kj45 l1 (y259 ++ y262) (wrap64 (x10_2 + 1)) t240 t243) else (none))) else (none)) else (none))) else (none))) else (none))) else (some false)) = some r := H
              have A55 := Aside0.mk A550
              clear A550
              by_cases c56 : t250 = true
              ·subst c56
               have H1 : ((some (([] : List (S28)) : List (S28))).bind fun y251 => (if x11_45 ≤ (x6_2.length : Int) then ((some (x6_2.take (x11_45 : Int).toNat : List (S28))).bind fun y254 => (if y251.length + y254.length < 3518437208883 then ((some (y251 ++ y254 : List (S28))).bind fun y259 => (if 0 ≤ (wrap64 (x11_45 + 1)) then (if (wrap64 (x11_45 + 1)) ≤ (x6_2.length : Int) then ((some (x6_2.drop ((wrap64 (x11_45 + 1)) : Int).toNat : List (S28))).bind fun y262 => (if y259.length + y262.length < 3518437208883 then (signatorylaw06_NetworkAll.l1 kj45 l1 (y259 ++ y262) (wrap64 (x10_2 + 1)) t240 t243) else (none))) else (none)) else (none))) else (none))) else (none))) = some r := by rw [if_pos rfl] at H; exact H
               clear H
               have H := H1
               clear H1
               obtain ⟨y251, hy251⟩ : ∃ y_ : List (S28), y_ = (([] : List (S28))) := ⟨_, rfl⟩
               replace H : (if x11_45 ≤ (x6_2.length : Int) then ((some (x6_2.take (x11_45 : Int).toNat : List (S28))).bind fun y254 => (if y251.length + y254.length < 3518437208883 then ((some (y251 ++ y254 : List (S28))).bind fun y259 => (if 0 ≤ (wrap64 (x11_45 + 1)) then (if (wrap64 (x11_45 + 1)) ≤ (x6_2.length : Int) then ((some (x6_2.drop ((wrap64 (x11_45 + 1)) : Int).toNat : List (S28))).bind fun y262 => (if y259.length + y262.length < 3518437208883 then (signatorylaw06_NetworkAll.l1 kj45 l1 (y259 ++ y262) (wrap64 (x10_2 + 1)) t240 t243) else (none))) else (none)) else (none))) else (none))) else (none)) = some r := by first | (rw [hy251]; with_reducible exact H) | (have H2_ := (Option.bind_some _ _).symm.trans H; rw [hy251]; with_reducible exact H2_) | (have H2_ := (Option.bind_some _ _).symm.trans H; with_reducible exact H2_) | with_reducible exact H | (rw [hy251]; exact H) | exact H
               have Ny251 := Aside0.mk hy251
               clear hy251
               have c57b0 := eq_true (of_decide_eq_true (by first | (with_reducible assumption) | assumption) : 0 ≤ x11_45)
               by_cases c58 : x11_45 ≤ (x6_2.length : Int)
               ·rw [if_pos c58] at H
                have c58b0 := eq_true c58
                have c58b1 : decide (x11_45 ≤ (x6_2.length : Int)) = true := decide_eq_true c58
                clear c58
                obtain ⟨y254, hy254⟩ : ∃ y_ : List (S28), y_ = (x6_2.take (x11_45 : Int).toNat) := ⟨_, rfl⟩
                replace H : (if y251.length + y254.length < 3518437208883 then ((some (y251 ++ y254 : List (S28))).bind fun y259 => (if 0 ≤ (wrap64 (x11_45 + 1)) then (if (wrap64 (x11_45 + 1)) ≤ (x6_2.length : Int) then ((some (x6_2.drop ((wrap64 (x11_45 + 1)) : Int).toNat : List (S28))).bind fun y262 => (if y259.length + y262.length < 3518437208883 then (signatorylaw06_NetworkAll.l1 kj45 l1 (y259 ++ y262) (wrap64 (x10_2 + 1)) t240 t243) else (none))) else (none)) else (none))) else (none)) = some r := by first | (rw [hy254]; with_reducible exact H) | (have H2_ := (Option.bind_some _ _).symm.trans H; rw [hy254]; with_reducible exact H2_) | (have H2_ := (Option.bind_some _ _).symm.trans H; with_reducible exact H2_) | with_reducible exact H | (rw [hy254]; exact H) | exact H
                have Ny254 := Aside0.mk hy254
                clear hy254
                by_cases c59 : y251.length + y254.length < 3518437208883
                ·rw [if_pos c59] at H
                 have LMc59 := Aside0.mk c59
                 clear c59
                 obtain ⟨y259, hy259⟩ : ∃ y_ : List (S28), y_ = (y251 ++ y254) := ⟨_, rfl⟩
                 replace H : (if 0 ≤ (wrap64 (x11_45 + 1)) then (if (wrap64 (x11_45 + 1)) ≤ (x6_2.length : Int) then ((some (x6_2.drop ((wrap64 (x11_45 + 1)) : Int).toNat : List (S28))).bind fun y262 => (if y259.length + y262.length < 3518437208883 then (signatorylaw06_NetworkAll.l1 kj45 l1 (y259 ++ y262) (wrap64 (x10_2 + 1)) t240 t243) else (none))) else (none)) else (none)) = some r := by first | (rw [hy259]; with_reducible exact H) | (have H2_ := (Option.bind_some _ _).symm.trans H; rw [hy259]; with_reducible exact H2_) | (have H2_ := (Option.bind_some _ _).symm.trans H; with_reducible exact H2_) | with_reducible exact H | (rw [hy259]; exact H) | exact H
                 have Ny259 := Aside0.mk hy259
                 clear hy259
                 obtain ⟨ji60, hji60⟩ : ∃ j_ : Int, (wrap64 (x11_45 + 1)) = j_ := ⟨_, rfl⟩
                 replace H : (if 0 ≤ (ji60) then (if (ji60) ≤ (x6_2.length : Int) then ((some (x6_2.drop ((ji60) : Int).toNat : List (S28))).bind fun y262 => (if y259.length + y262.length < 3518437208883 then (signatorylaw06_NetworkAll.l1 kj45 l1 (y259 ++ y262) (wrap64 (x10_2 + 1)) t240 t243) else (none))) else (none)) else (none)) = some r := by first | (rw [hji60] at H; exact H) | (simp only [hji60] at H ⊢; exact H)
                 (try rw [hji60] at A51)
                 (try rw [hji60] at A55)
                 have hji60w : (IntKind.i64.wrap (x11_45 + 1)) = ji60 := (i64_w _).trans hji60
                 by_cases c61 : 0 ≤ (ji60)
                 ·rw [if_pos c61] at H
                  have c61b0 := eq_true c61
                  have c61b1 : decide (0 ≤ (ji60)) = true := decide_eq_true c61
                  clear c61
                  by_cases c62 : (ji60) ≤ (x6_2.length : Int)
                  ·rw [if_pos c62] at H
                   have c62b0 := eq_true c62
                   have c62b1 : decide ((ji60) ≤ (x6_2.length : Int)) = true := decide_eq_true c62
                   clear c62
                   obtain ⟨y262, hy262⟩ : ∃ y_ : List (S28), y_ = (x6_2.drop ((ji60) : Int).toNat) := ⟨_, rfl⟩
                   replace H : (if y259.length + y262.length < 3518437208883 then (signatorylaw06_NetworkAll.l1 kj45 l1 (y259 ++ y262) (wrap64 (x10_2 + 1)) t240 t243) else (none)) = some r := by first | (rw [hy262]; with_reducible exact H) | (have H2_ := (Option.bind_some _ _).symm.trans H; rw [hy262]; with_reducible exact H2_) | (have H2_ := (Option.bind_some _ _).symm.trans H; with_reducible exact H2_) | with_reducible exact H | (rw [hy262]; exact H) | exact H
                   have Ny262 := Aside0.mk hy262
                   clear hy262
                   by_cases c63 : y259.length + y262.length < 3518437208883
                   ·rw [if_pos c63] at H
                    have LMc63 := Aside0.mk c63
                    clear c63
                    obtain ⟨y267, hy267⟩ : ∃ y_ : List (S28), y_ = (y259 ++ y262) := ⟨_, rfl⟩
                    replace H : (signatorylaw06_NetworkAll.l1 kj45 l1 y267 (wrap64 (x10_2 + 1)) t240 t243) = some r := by first | (rw [hy267]; with_reducible exact H) | (have H2_ := (Option.bind_some _ _).symm.trans H; rw [hy267]; with_reducible exact H2_) | (have H2_ := (Option.bind_some _ _).symm.trans H; with_reducible exact H2_) | with_reducible exact H | (rw [hy267]; exact H) | exact H
                    have Ny267 := Aside0.mk hy267
                    clear hy267
                    have H' := Aside0.mk H
                    clear H
                    have hcz64_0 : wc.cell? ⟨gb220, 0, none⟩ = some (u221000) := (blk_cell BK220.out 0).trans rfl
                    have hcz64_1 : wc.cell? ⟨gb220, 1, none⟩ = some (u221001) := (blk_cell BK220.out 1).trans rfl
                    have hfz64_0 := blk_frozen BK220.out 0
                    have hfz64_1 := blk_frozen BK220.out 1
                    obtain ⟨Ao65, co65, eo65⟩ := Kd.V_slice HO_221000.out
                    subst eo65
                    obtain ⟨Ao66, co66, eo66⟩ := Kd.V_slice HO_221001.out
                    subst eo66
                    try go_wp2_with (first | ((with_reducible refine gate_callee (f := 18) rfl ?_); refine goesL_ (some 66) rfl rfl Try.func18 (by kernel_rfl) rfl #[.agg #[.slice Ao65 x221000_2.length co65, .slice Ao66 x221001_2.length co66], .int .i64 x11_45] rfl (by (try simp only [List.map_toArray, List.map_cons, List.map_nil]); first | done | rfl | (simp only [List.length_drop, List.length_take]; rfl)) ?_; (with_reducible refine (network_Deliver.calls kj45 (fun k_ => ((P0_ k_ ∨ w.heap.size ≤ k_) ∧ (some k_ ≠ (.slice Ao47 x6_2.length co47 : Value).ownBlock ∧ k_ ≠ gb220))) _ _ x221000_2 (fun k_ => ((P0_ k_ ∨ w.heap.size ≤ k_) ∧ (some k_ ≠ (.slice Ao47 x6_2.length co47 : Value).ownBlock ∧ k_ ≠ gb220))) _ _ x221001_2 x11_45 t235 t236 t237 t240 t243 t246 _ ?side1 ?side2 A51.out).mono ?_); (case side1 => exact HO_221000.out); (case side2 => exact HO_221001.out); rintro e w67 ⟨v238, v241, v244, rfl, ho0, ho1, ho2, hb⟩; refine ⟨_, rfl, ?_⟩; have n0_ := Aside0.mk (Kd.N_below (Zn HO_6.out) hb); have n1_ := Aside0.mk (Kd.V_below (Zv HO_221000.out) hb); have n2_ := Aside0.mk (Kd.V_below (Zv HO_221001.out) hb); have n3_ := Aside0.mk (Kd.V_lower (Kd.V_mono (ok' := fun k_ => (P0_ k_ ∨ w.heap.size ≤ k_) ∧ some k_ ≠ (.slice Ao47 x6_2.length co47 : Value).ownBlock ∧ k_ ≠ gb220) ho0 (fun k_ hk_ => ⟨Or.elim hk_ (fun hs_ => Or.elim hs_ (fun hs_ => hs_.1) (fun hs_ => hs_.1)) (fun hn_ => (.inr (Nat.le_trans (below_size (Z1 HB GE220)) hn_))), Or.elim hk_ (fun hs_ => Or.elim hs_ (fun hs_ => hs_.2.1) (fun hs_ => hs_.2.1)) (fun hn_ => (Kd.fresh' (Kd.N_lt (Zn HO_6.out)) k_ hn_)), Or.elim hk_ (fun hs_ => Or.elim hs_ (fun hs_ => hs_.2.2) (fun hs_ => hs_.2.2)) (fun hn_ => (Kd.freshB (g := gb220) (o := .cells #[.slice Ao65 x221000_2.length co65, .slice Ao66 x221001_2.length co66] 25 (0, 0)) (Zb BK220.out) k_ hn_))⟩)) (below_size (Z1 HB GE220))); have n4_ := Aside0.mk (Kd.V_lower (Kd.V_mono (ok' := fun k_ => (P0_ k_ ∨ w.heap.size ≤ k_) ∧ some k_ ≠ (.slice Ao47 x6_2.length co47 : Value).ownBlock ∧ k_ ≠ gb220) ho1 (fun k_ hk_ => ⟨Or.elim hk_ (fun hs_ => Or.elim hs_ (fun hs_ => hs_.1) (fun hs_ => hs_.1)) (fun hn_ => (.inr (Nat.le_trans (below_size (Z1 HB GE220)) hn_))), Or.elim hk_ (fun hs_ => Or.elim hs_ (fun hs_ => hs_.2.1) (fun hs_ => hs_.2.1)) (fun hn_ => (Kd.fresh' (Kd.N_lt (Zn HO_6.out)) k_ hn_)), Or.elim hk_ (fun hs_ => Or.elim hs_ (fun hs_ => hs_.2.2) (fun hs_ => hs_.2.2)) (fun hn_ => (Kd.freshB (g := gb220) (o := .cells #[.slice Ao65 x221000_2.length co65, .slice Ao66 x221001_2.length co66] 25 (0, 0)) (Zb BK220.out) k_ hn_))⟩)) (below_size (Z1 HB GE220))); have n5_ := Aside0.mk (Kd.V_lower (Kd.V_mono (ok' := fun k_ => (P0_ k_ ∨ w.heap.size ≤ k_) ∧ some k_ ≠ (.slice Ao47 x6_2.length co47 : Value).ownBlock ∧ k_ ≠ gb220) ho2 (fun k_ hk_ => ⟨Or.elim hk_ (fun hs_ => Or.elim hs_ (fun hs_ => hs_.1) (fun hs_ => hs_.1)) (fun hn_ => (.inr (Nat.le_trans (below_size (Z1 HB GE220)) hn_))), Or.elim hk_ (fun hs_ => Or.elim hs_ (fun hs_ => hs_.2.1) (fun hs_ => hs_.2.1)) (fun hn_ => (Kd.fresh' (Kd.N_lt (Zn HO_6.out)) k_ hn_)), Or.elim hk_ (fun hs_ => Or.elim hs_ (fun hs_ => hs_.2.2) (fun hs_ => hs_.2.2)) (fun hn_ => (Kd.freshB (g := gb220) (o := .cells #[.slice Ao65 x221000_2.length co65, .slice Ao66 x221001_2.length co66] 25 (0, 0)) (Zb BK220.out) k_ hn_))⟩)) (below_size (Z1 HB GE220))); have n6_ := Aside0.mk (blk_below (g := gb220) (o := .cells #[.slice Ao65 x221000_2.length co65, .slice Ao66 x221001_2.length co66] 25 (0, 0)) (Zb BK220.out) hb); have n7_ := Aside0.mk (below_step (Z1 HB GE220) hb); clear HO_6; clear HO_221000; clear HO_221001; clear BK220; clear HB; have HO_6 := n0_; have HO_221000 := n1_; have HO_221001 := n2_; have HO239 := n3_; have HO242 := n4_; have HO245 := n5_; have BK220 := n6_; have HB := n7_; clear n0_ n1_ n2_ n3_ n4_ n5_ n6_ n7_; (try clear hb); (try clear hb2); (try clear hk); (try clear hi); (try clear ho0); (try clear ho1); (try clear ho2)) | ((with_reducible refine gate_dst (N := 12) rfl ?_); refine box_event ?hg (N := 12) ?hd (cs := #[.int .i64 0, .int .i64 0, .slice none 0 0]) (t := 28) ?hr ?_; (case hd => rfl); (case hg => rfl); (case hr => first | (go_simp; done) | (go_simp; rfl)); intro gb247 hg w68 hbox hb; have n0_ := Aside0.mk (Kd.N_below (Kd.N_elderB (Zn HO_6.out) gb247 (Nat.le_of_eq hg.symm)) hb); have n1_ := Aside0.mk (Kd.V_below (Kd.V_elderB (Zv HO_221000.out) gb247 (Nat.le_of_eq hg.symm)) hb); have n2_ := Aside0.mk (Kd.V_below (Kd.V_elderB (Zv HO_221001.out) gb247 (Nat.le_of_eq hg.symm)) hb); have n3_ := Aside0.mk (Kd.V_below (Kd.V_elderB (Zv HO239.out) gb247 (Nat.le_of_eq hg.symm)) hb); have n4_ := Aside0.mk (Kd.V_below (Kd.V_elderB (Zv HO242.out) gb247 (Nat.le_of_eq hg.symm)) hb); have n5_ := Aside0.mk (Kd.V_below (Kd.V_elderB (Zv HO245.out) gb247 (Nat.le_of_eq hg.symm)) hb); have n6_ := Aside0.mk (blk_below (g := gb220) (o := .cells #[.slice Ao65 x221000_2.length co65, .slice Ao66 x221001_2.length co66] 25 (0, 0)) (Zb BK220.out) hb); have n7_ := Aside0.mk (below_step (Z1 HB GE220) hb); have n8_ := Aside0.mk (hbox); have n9_ := Aside0.mk ((by rw [hg]; exact (below_size (Z1 HB GE220)) : w.heap.size ≤ gb247)); have n10_ := Aside0.mk ((by rw [hg]; exact (below_size (Z1 HB GE220)) : w.heap.size ≤ gb247)); have n11_ := Aside0.mk ((by rw [hg]; exact Nat.ne_of_lt (blk_lt (g := gb220) (o := .cells #[.slice Ao65 x221000_2.length co65, .slice Ao66 x221001_2.length co66] 25 (0, 0)) (Zb BK220.out)) : gb220 ≠ gb247)); have n12_ := Aside0.mk ((by rw [hg]; exact Nat.ne_of_gt (blk_lt (g := gb220) (o := .cells #[.slice Ao65 x221000_2.length co65, .slice Ao66 x221001_2.length co66] 25 (0, 0)) (Zb BK220.out)) : gb247 ≠ gb220)); clear HO_6; clear HO_221000; clear HO_221001; clear HO239; clear HO242; clear HO245; clear BK220; clear HB; have HO_6 := n0_; have HO_221000 := n1_; have HO_221001 := n2_; have HO239 := n3_; have HO242 := n4_; have HO245 := n5_; have BK220 := n6_; have HB := n7_; have BK247 := n8_; have GW247 := n9_; have GE247 := n10_; have NB220_247 := n11_; have NB247_220 := n12_; clear n0_ n1_ n2_ n3_ n4_ n5_ n6_ n7_ n8_ n9_ n10_ n11_ n12_; clear hb hbox hg) | ((with_reducible refine gate_dst (N := 13) rfl ?_); refine box_event ?hg (N := 13) ?hd (cs := #[.slice none 0 0, .slice none 0 0]) (t := 25) ?hr ?_; (case hd => rfl); (case hg => rfl); (case hr => first | (go_simp; done) | (go_simp; rfl)); intro gb248 hg w69 hbox hb; have n0_ := Aside0.mk (Kd.N_below (Kd.N_elderB (Zn HO_6.out) gb248 (Nat.le_of_eq hg.symm)) hb); have n1_ := Aside0.mk (Kd.V_below (Kd.V_elderB (Zv HO_221000.out) gb248 (Nat.le_of_eq hg.symm)) hb); have n2_ := Aside0.mk (Kd.V_below (Kd.V_elderB (Zv HO_221001.out) gb248 (Nat.le_of_eq hg.symm)) hb); have n3_ := Aside0.mk (Kd.V_below (Kd.V_elderB (Zv HO239.out) gb248 (Nat.le_of_eq hg.symm)) hb); have n4_ := Aside0.mk (Kd.V_below (Kd.V_elderB (Zv HO242.out) gb248 (Nat.le_of_eq hg.symm)) hb); have n5_ := Aside0.mk (Kd.V_below (Kd.V_elderB (Zv HO245.out) gb248 (Nat.le_of_eq hg.symm)) hb); have n6_ := Aside0.mk (blk_below (g := gb220) (o := .cells #[.slice Ao65 x221000_2.length co65, .slice Ao66 x221001_2.length co66] 25 (0, 0)) (Zb BK220.out) hb); have n7_ := Aside0.mk (blk_below (g := gb247) (o := .cells #[.int .i64 0, .int .i64 0, .slice none 0 0] 28 (0, 0)) (Zb BK247.out) hb); have n8_ := Aside0.mk (below_step (Z2 HB GE220 GE247) hb); have n9_ := Aside0.mk (hbox); have n10_ := Aside0.mk ((by rw [hg]; exact (below_size (Z2 HB GE220 GE247)) : w.heap.size ≤ gb248)); have n11_ := Aside0.mk ((by rw [hg]; exact (below_size (Z2 HB GE220 GE247)) : w.heap.size ≤ gb248)); have n12_ := Aside0.mk ((by rw [hg]; exact Nat.ne_of_lt (blk_lt (g := gb220) (o := .cells #[.slice Ao65 x221000_2.length co65, .slice Ao66 x221001_2.length co66] 25 (0, 0)) (Zb BK220.out)) : gb220 ≠ gb248)); have n13_ := Aside0.mk ((by rw [hg]; exact Nat.ne_of_gt (blk_lt (g := gb220) (o := .cells #[.slice Ao65 x221000_2.length co65, .slice Ao66 x221001_2.length co66] 25 (0, 0)) (Zb BK220.out)) : gb248 ≠ gb220)); have n14_ := Aside0.mk ((by rw [hg]; exact Nat.ne_of_lt (blk_lt (g := gb247) (o := .cells #[.int .i64 0, .int .i64 0, .slice none 0 0] 28 (0, 0)) (Zb BK247.out)) : gb247 ≠ gb248)); have n15_ := Aside0.mk ((by rw [hg]; exact Nat.ne_of_gt (blk_lt (g := gb247) (o := .cells #[.int .i64 0, .int .i64 0, .slice none 0 0] 28 (0, 0)) (Zb BK247.out)) : gb248 ≠ gb247)); clear HO_6; clear HO_221000; clear HO_221001; clear HO239; clear HO242; clear HO245; clear BK220; clear BK247; clear HB; have HO_6 := n0_; have HO_221000 := n1_; have HO_221001 := n2_; have HO239 := n3_; have HO242 := n4_; have HO245 := n5_; have BK220 := n6_; have BK247 := n7_; have HB := n8_; have BK248 := n9_; have GW248 := n10_; have GE248 := n11_; have NB220_248 := n12_; have NB248_220 := n13_; have NB247_248 := n14_; have NB248_247 := n15_; clear n0_ n1_ n2_ n3_ n4_ n5_ n6_ n7_ n8_ n9_ n10_ n11_ n12_ n13_ n14_ n15_; clear hb hbox hg; have hnb70 := NB247_220.out; have hnc70 := NB220_247.out; have hnb71 := NB247_248.out; have hnc71 := NB248_247.out; have hcz72_0 : w69.cell? ⟨gb247, 0, none⟩ = some (.int .i64 0) := (blk_cell BK247.out 0).trans rfl; have hcz72_1 : w69.cell? ⟨gb247, 1, none⟩ = some (.int .i64 0) := (blk_cell BK247.out 1).trans rfl; have hcz72_2 : w69.cell? ⟨gb247, 2, none⟩ = some (.slice none 0 0) := (blk_cell BK247.out 2).trans rfl; have hfz72_0 := blk_frozen BK247.out 0; have hfz72_1 := blk_frozen BK247.out 1; have hfz72_2 := blk_frozen BK247.out 2; obtain ⟨Ao73, co73, eo73⟩ := Kd.V_slice HO239.out; subst eo73; obtain ⟨Ao74, co74, eo74⟩ := Kd.V_slice HO242.out; subst eo74; have hnb75 := NB248_220.out; have hnc75 := NB220_248.out; have hcz76_0 : w69.cell? ⟨gb248, 0, none⟩ = some (.slice none 0 0) := (blk_cell BK248.out 0).trans rfl; have hcz76_1 : w69.cell? ⟨gb248, 1, none⟩ = some (.slice none 0 0) := (blk_cell BK248.out 1).trans rfl; have hfz76_0 := blk_frozen BK248.out 0; have hfz76_1 := blk_frozen BK248.out 1; obtain ⟨Ao77, co77, eo77⟩ := Kd.V_slice HO245.out; subst eo77))
                    have n0_ : Aside0 (Kd.N k28 28 (((((w69.setCell ⟨gb247, 0, none⟩ (.int .i64 t235)).setCell ⟨gb247, 1, none⟩ (.int .i64 t236)).setCell ⟨gb247, 2, none⟩ (.slice Ao73 t237.length co73)).setCell ⟨gb248, 0, none⟩ (.slice Ao74 t240.length co74)).setCell ⟨gb248, 1, none⟩ (.slice Ao77 t243.length co77)) w.heap.size (fun k_ => (P0_ k_ ∨ w.heap.size ≤ k_) ∧ k_ ≠ gb220 ∧ k_ ≠ gb247 ∧ k_ ≠ gb248) (.slice Ao47 x6_2.length co47) x6_2) := ⟨by refine Zn ?_; exact Kd.N_mono (Kd.N_far (p := ⟨gb248, 1, none⟩) (Kd.N_far (p := ⟨gb248, 0, none⟩) (Kd.N_far (p := ⟨gb247, 2, none⟩) (Kd.N_far (p := ⟨gb247, 1, none⟩) (Kd.N_far (p := ⟨gb247, 0, none⟩) (Kd.N_mono (Kd.N_mono HO_6.out (fun k_ hk => (⟨hk, hk.1.2⟩ : _ ∧ k_ ≠ gb247))) (fun k_ hk => (⟨hk, hk.1.2⟩ : _ ∧ k_ ≠ gb248))) (fun _ hk => hk.1.2) (.int .i64 t235)) (fun _ hk => hk.1.2) (.int .i64 t236)) (fun _ hk => hk.1.2) (.slice Ao73 t237.length co73)) (fun _ hk => hk.2) (.slice Ao74 t240.length co74)) (fun _ hk => hk.2) (.slice Ao77 t243.length co77)) (fun _ hk => ⟨hk.1.1.1.1.1, ⟨hk.1.1.1.1.2, ⟨hk.1.1.1.2, hk.1.1.2⟩⟩⟩)⟩
                    have n1_ : Aside0 (Kd.V k28 28 (((((w69.setCell ⟨gb247, 0, none⟩ (.int .i64 t235)).setCell ⟨gb247, 1, none⟩ (.int .i64 t236)).setCell ⟨gb247, 2, none⟩ (.slice Ao73 t237.length co73)).setCell ⟨gb248, 0, none⟩ (.slice Ao74 t240.length co74)).setCell ⟨gb248, 1, none⟩ (.slice Ao77 t243.length co77)) w.heap.size (fun k_ => (P0_ k_ ∨ w.heap.size ≤ k_) ∧ some k_ ≠ (.slice Ao47 x6_2.length co47 : Value).ownBlock ∧ k_ ≠ gb220 ∧ k_ ≠ gb247 ∧ k_ ≠ gb248) (.slice Ao65 x221000_2.length co65) x221000_2) := ⟨by refine Zv ?_; exact Kd.V_mono (Kd.V_far (p := ⟨gb248, 1, none⟩) (Kd.V_far (p := ⟨gb248, 0, none⟩) (Kd.V_far (p := ⟨gb247, 2, none⟩) (Kd.V_far (p := ⟨gb247, 1, none⟩) (Kd.V_far (p := ⟨gb247, 0, none⟩) (Kd.V_mono (Kd.V_mono HO_221000.out (fun k_ hk => (⟨hk, hk.1.2⟩ : _ ∧ k_ ≠ gb247))) (fun k_ hk => (⟨hk, hk.1.2⟩ : _ ∧ k_ ≠ gb248))) (fun _ hk => hk.1.2) (.int .i64 t235)) (fun _ hk => hk.1.2) (.int .i64 t236)) (fun _ hk => hk.1.2) (.slice Ao73 t237.length co73)) (fun _ hk => hk.2) (.slice Ao74 t240.length co74)) (fun _ hk => hk.2) (.slice Ao77 t243.length co77)) (fun _ hk => ⟨hk.1.1.1.1.1, ⟨hk.1.1.1.1.2.1, ⟨hk.1.1.1.1.2.2, ⟨hk.1.1.1.2, hk.1.1.2⟩⟩⟩⟩)⟩
                    have n2_ : Aside0 (Kd.V k55 55 (((((w69.setCell ⟨gb247, 0, none⟩ (.int .i64 t235)).setCell ⟨gb247, 1, none⟩ (.int .i64 t236)).setCell ⟨gb247, 2, none⟩ (.slice Ao73 t237.length co73)).setCell ⟨gb248, 0, none⟩ (.slice Ao74 t240.length co74)).setCell ⟨gb248, 1, none⟩ (.slice Ao77 t243.length co77)) w.heap.size (fun k_ => (P0_ k_ ∨ w.heap.size ≤ k_) ∧ some k_ ≠ (.slice Ao47 x6_2.length co47 : Value).ownBlock ∧ k_ ≠ gb220 ∧ k_ ≠ gb247 ∧ k_ ≠ gb248) (.slice Ao66 x221001_2.length co66) x221001_2) := ⟨by refine Zv ?_; exact Kd.V_mono (Kd.V_far (p := ⟨gb248, 1, none⟩) (Kd.V_far (p := ⟨gb248, 0, none⟩) (Kd.V_far (p := ⟨gb247, 2, none⟩) (Kd.V_far (p := ⟨gb247, 1, none⟩) (Kd.V_far (p := ⟨gb247, 0, none⟩) (Kd.V_mono (Kd.V_mono HO_221001.out (fun k_ hk => (⟨hk, hk.1.2⟩ : _ ∧ k_ ≠ gb247))) (fun k_ hk => (⟨hk, hk.1.2⟩ : _ ∧ k_ ≠ gb248))) (fun _ hk => hk.1.2) (.int .i64 t235)) (fun _ hk => hk.1.2) (.int .i64 t236)) (fun _ hk => hk.1.2) (.slice Ao73 t237.length co73)) (fun _ hk => hk.2) (.slice Ao74 t240.length co74)) (fun _ hk => hk.2) (.slice Ao77 t243.length co77)) (fun _ hk => ⟨hk.1.1.1.1.1, ⟨hk.1.1.1.1.2.1, ⟨hk.1.1.1.1.2.2, ⟨hk.1.1.1.2, hk.1.1.2⟩⟩⟩⟩)⟩
                    have n3_ : Aside0 (Kd.V (Kd.int .u8) 5 (((((w69.setCell ⟨gb247, 0, none⟩ (.int .i64 t235)).setCell ⟨gb247, 1, none⟩ (.int .i64 t236)).setCell ⟨gb247, 2, none⟩ (.slice Ao73 t237.length co73)).setCell ⟨gb248, 0, none⟩ (.slice Ao74 t240.length co74)).setCell ⟨gb248, 1, none⟩ (.slice Ao77 t243.length co77)) w.heap.size (fun k_ => (P0_ k_ ∨ w.heap.size ≤ k_) ∧ some k_ ≠ (.slice Ao47 x6_2.length co47 : Value).ownBlock ∧ k_ ≠ gb220 ∧ k_ ≠ gb247 ∧ k_ ≠ gb248) (.slice Ao73 t237.length co73) t237) := ⟨by refine Zv ?_; exact Kd.V_mono (Kd.V_far (p := ⟨gb248, 1, none⟩) (Kd.V_far (p := ⟨gb248, 0, none⟩) (Kd.V_far (p := ⟨gb247, 2, none⟩) (Kd.V_far (p := ⟨gb247, 1, none⟩) (Kd.V_far (p := ⟨gb247, 0, none⟩) (Kd.V_mono (Kd.V_mono HO239.out (fun k_ hk => (⟨hk, hk.1.2⟩ : _ ∧ k_ ≠ gb247))) (fun k_ hk => (⟨hk, hk.1.2⟩ : _ ∧ k_ ≠ gb248))) (fun _ hk => hk.1.2) (.int .i64 t235)) (fun _ hk => hk.1.2) (.int .i64 t236)) (fun _ hk => hk.1.2) (.slice Ao73 t237.length co73)) (fun _ hk => hk.2) (.slice Ao74 t240.length co74)) (fun _ hk => hk.2) (.slice Ao77 t243.length co77)) (fun _ hk => ⟨hk.1.1.1.1.1, ⟨hk.1.1.1.1.2.1, ⟨hk.1.1.1.1.2.2, ⟨hk.1.1.1.2, hk.1.1.2⟩⟩⟩⟩)⟩
                    have n4_ : Aside0 (Kd.V k28 28 (((((w69.setCell ⟨gb247, 0, none⟩ (.int .i64 t235)).setCell ⟨gb247, 1, none⟩ (.int .i64 t236)).setCell ⟨gb247, 2, none⟩ (.slice Ao73 t237.length co73)).setCell ⟨gb248, 0, none⟩ (.slice Ao74 t240.length co74)).setCell ⟨gb248, 1, none⟩ (.slice Ao77 t243.length co77)) w.heap.size (fun k_ => (P0_ k_ ∨ w.heap.size ≤ k_) ∧ some k_ ≠ (.slice Ao47 x6_2.length co47 : Value).ownBlock ∧ k_ ≠ gb220 ∧ k_ ≠ gb247 ∧ k_ ≠ gb248) (.slice Ao74 t240.length co74) t240) := ⟨by refine Zv ?_; exact Kd.V_mono (Kd.V_far (p := ⟨gb248, 1, none⟩) (Kd.V_far (p := ⟨gb248, 0, none⟩) (Kd.V_far (p := ⟨gb247, 2, none⟩) (Kd.V_far (p := ⟨gb247, 1, none⟩) (Kd.V_far (p := ⟨gb247, 0, none⟩) (Kd.V_mono (Kd.V_mono HO242.out (fun k_ hk => (⟨hk, hk.1.2⟩ : _ ∧ k_ ≠ gb247))) (fun k_ hk => (⟨hk, hk.1.2⟩ : _ ∧ k_ ≠ gb248))) (fun _ hk => hk.1.2) (.int .i64 t235)) (fun _ hk => hk.1.2) (.int .i64 t236)) (fun _ hk => hk.1.2) (.slice Ao73 t237.length co73)) (fun _ hk => hk.2) (.slice Ao74 t240.length co74)) (fun _ hk => hk.2) (.slice Ao77 t243.length co77)) (fun _ hk => ⟨hk.1.1.1.1.1, ⟨hk.1.1.1.1.2.1, ⟨hk.1.1.1.1.2.2, ⟨hk.1.1.1.2, hk.1.1.2⟩⟩⟩⟩)⟩
                    have n5_ : Aside0 (Kd.V k55 55 (((((w69.setCell ⟨gb247, 0, none⟩ (.int .i64 t235)).setCell ⟨gb247, 1, none⟩ (.int .i64 t236)).setCell ⟨gb247, 2, none⟩ (.slice Ao73 t237.length co73)).setCell ⟨gb248, 0, none⟩ (.slice Ao74 t240.length co74)).setCell ⟨gb248, 1, none⟩ (.slice Ao77 t243.length co77)) w.heap.size (fun k_ => (P0_ k_ ∨ w.heap.size ≤ k_) ∧ some k_ ≠ (.slice Ao47 x6_2.length co47 : Value).ownBlock ∧ k_ ≠ gb220 ∧ k_ ≠ gb247 ∧ k_ ≠ gb248) (.slice Ao77 t243.length co77) t243) := ⟨by refine Zv ?_; exact Kd.V_mono (Kd.V_far (p := ⟨gb248, 1, none⟩) (Kd.V_far (p := ⟨gb248, 0, none⟩) (Kd.V_far (p := ⟨gb247, 2, none⟩) (Kd.V_far (p := ⟨gb247, 1, none⟩) (Kd.V_far (p := ⟨gb247, 0, none⟩) (Kd.V_mono (Kd.V_mono HO245.out (fun k_ hk => (⟨hk, hk.1.2⟩ : _ ∧ k_ ≠ gb247))) (fun k_ hk => (⟨hk, hk.1.2⟩ : _ ∧ k_ ≠ gb248))) (fun _ hk => hk.1.2) (.int .i64 t235)) (fun _ hk => hk.1.2) (.int .i64 t236)) (fun _ hk => hk.1.2) (.slice Ao73 t237.length co73)) (fun _ hk => hk.2) (.slice Ao74 t240.length co74)) (fun _ hk => hk.2) (.slice Ao77 t243.length co77)) (fun _ hk => ⟨hk.1.1.1.1.1, ⟨hk.1.1.1.1.2.1, ⟨hk.1.1.1.1.2.2, ⟨hk.1.1.1.2, hk.1.1.2⟩⟩⟩⟩)⟩
                    have n6_ : Aside0 ((((((w69.setCell ⟨gb247, 0, none⟩ (.int .i64 t235)).setCell ⟨gb247, 1, none⟩ (.int .i64 t236)).setCell ⟨gb247, 2, none⟩ (.slice Ao73 t237.length co73)).setCell ⟨gb248, 0, none⟩ (.slice Ao74 t240.length co74)).setCell ⟨gb248, 1, none⟩ (.slice Ao77 t243.length co77)).heap[gb220]? = some (.cells #[.slice Ao65 x221000_2.length co65, .slice Ao66 x221001_2.length co66] 25 (0, 0))) := ⟨by refine Zb ?_; refine blk_far ?_ NB220_248.out _; refine Zb ?_; refine blk_far ?_ NB220_248.out _; refine Zb ?_; refine blk_far ?_ NB220_247.out _; refine Zb ?_; refine blk_far ?_ NB220_247.out _; refine Zb ?_; refine blk_far ?_ NB220_247.out _; refine Zb ?_; exact BK220.out⟩
                    have n7_ : Aside0 ((((((w69.setCell ⟨gb247, 0, none⟩ (.int .i64 t235)).setCell ⟨gb247, 1, none⟩ (.int .i64 t236)).setCell ⟨gb247, 2, none⟩ (.slice Ao73 t237.length co73)).setCell ⟨gb248, 0, none⟩ (.slice Ao74 t240.length co74)).setCell ⟨gb248, 1, none⟩ (.slice Ao77 t243.length co77)).heap[gb247]? = some (.cells #[.int .i64 t235, .int .i64 t236, .slice Ao73 t237.length co73] 28 (0, 0))) := ⟨by refine Zb ?_; refine blk_far ?_ NB247_248.out _; refine Zb ?_; refine blk_far ?_ NB247_248.out _; refine Zb ?_; refine blk_put (cs := #[.int .i64 t235, .int .i64 t236, .slice none 0 0]) ?_ 2 _ rfl; refine Zb ?_; refine blk_put (cs := #[.int .i64 t235, .int .i64 0, .slice none 0 0]) ?_ 1 _ rfl; refine Zb ?_; refine blk_put (cs := #[.int .i64 0, .int .i64 0, .slice none 0 0]) ?_ 0 _ rfl; refine Zb ?_; exact BK247.out⟩
                    have n8_ : Aside0 ((((((w69.setCell ⟨gb247, 0, none⟩ (.int .i64 t235)).setCell ⟨gb247, 1, none⟩ (.int .i64 t236)).setCell ⟨gb247, 2, none⟩ (.slice Ao73 t237.length co73)).setCell ⟨gb248, 0, none⟩ (.slice Ao74 t240.length co74)).setCell ⟨gb248, 1, none⟩ (.slice Ao77 t243.length co77)).heap[gb248]? = some (.cells #[.slice Ao74 t240.length co74, .slice Ao77 t243.length co77] 25 (0, 0))) := ⟨by refine Zb ?_; refine blk_put (cs := #[.slice Ao74 t240.length co74, .slice none 0 0]) ?_ 1 _ rfl; refine Zb ?_; refine blk_put (cs := #[.slice none 0 0, .slice none 0 0]) ?_ 0 _ rfl; refine Zb ?_; refine blk_far ?_ NB248_247.out _; refine Zb ?_; refine blk_far ?_ NB248_247.out _; refine Zb ?_; refine blk_far ?_ NB248_247.out _; refine Zb ?_; exact BK248.out⟩
                    have n9_ : Aside0 (Below w.heap.size w (((((w69.setCell ⟨gb247, 0, none⟩ (.int .i64 t235)).setCell ⟨gb247, 1, none⟩ (.int .i64 t236)).setCell ⟨gb247, 2, none⟩ (.slice Ao73 t237.length co73)).setCell ⟨gb248, 0, none⟩ (.slice Ao74 t240.length co74)).setCell ⟨gb248, 1, none⟩ (.slice Ao77 t243.length co77))) := ⟨(Z3 HB GE220 GE247 GE248)⟩
                    (try clear HO_6)
                    (try clear HO_221000)
                    (try clear HO_221001)
                    (try clear HO239)
                    (try clear HO242)
                    (try clear HO245)
                    (try clear BK220)
                    (try clear BK247)
                    (try clear BK248)
                    (try clear HB)
                    generalize (((((w69.setCell ⟨gb247, 0, none⟩ (.int .i64 t235)).setCell ⟨gb247, 1, none⟩ (.int .i64 t236)).setCell ⟨gb247, 2, none⟩ (.slice Ao73 t237.length co73)).setCell ⟨gb248, 0, none⟩ (.slice Ao74 t240.length co74)).setCell ⟨gb248, 1, none⟩ (.slice Ao77 t243.length co77)) = w78 at n0_ n1_ n2_ n3_ n4_ n5_ n6_ n7_ n8_ n9_ ⊢
                    have HO_6 := n0_
                    have HO_221000 := n1_
                    have HO_221001 := n2_
                    have HO239 := n3_
                    have HO242 := n4_
                    have HO245 := n5_
                    have BK220 := n6_
                    have BK247 := n7_
                    have BK248 := n8_
                    have HB := n9_
                    clear n0_ n1_ n2_ n3_ n4_ n5_ n6_ n7_ n8_ n9_
                    have n0_ := Aside0.mk (Kd.N_drew HO_6.out)
                    have n1_ := Aside0.mk (Kd.V_drew HO_221000.out)
                    have n2_ := Aside0.mk (Kd.V_drew HO_221001.out)
                    have n3_ := Aside0.mk (Kd.V_drew HO239.out)
                    have n4_ := Aside0.mk (Kd.V_drew HO242.out)
                    have n5_ := Aside0.mk (Kd.V_drew HO245.out)
                    have n6_ := Aside0.mk (blk_drew BK220.out)
                    have n7_ := Aside0.mk (blk_drew BK247.out)
                    have n8_ := Aside0.mk (blk_drew BK248.out)
                    have n9_ := Aside0.mk (below_drew1 HB.out)
                    clear HO_6
                    clear HO_221000
                    clear HO_221001
                    clear HO239
                    clear HO242
                    clear HO245
                    clear BK220
                    clear BK247
                    clear BK248
                    clear HB
                    have HO_6 := n0_
                    have HO_221000 := n1_
                    have HO_221001 := n2_
                    have HO239 := n3_
                    have HO242 := n4_
                    have HO245 := n5_
                    have BK220 := n6_
                    have BK247 := n7_
                    have BK248 := n8_
                    have HB := n9_
                    clear n0_ n1_ n2_ n3_ n4_ n5_ n6_ n7_ n8_ n9_
                    have p249 : 0 ≤ (x11_45 : Int) := of_decide_eq_true (by first | (with_reducible assumption) | assumption)
                    have q249 : x11_45 < (x6_2.length : Int) := of_decide_eq_true (by first | (with_reducible assumption) | assumption)
                    obtain ⟨ad249, A249_2, c249_2, e249, hx249_0, hx249_1, hx249_2, hl249_2, hi249_2⟩ := at_T28 (Kd.N_reads' HO_6.out).2.2 x11_45 p249 q249
                    cases e249
                    obtain ⟨ce249, hce249, hMe249, hcc249⟩ := Kd.N_get HO_6.out z28 x11_45 p249 (by first | exact q249 | exact of_decide_eq_true (by first | (with_reducible assumption) | assumption) | (have e_ := (Kd.N_reads' HO_6.out).1; omega))
                    obtain ⟨ua249_2, uc249_2, rfl, ul249_2, ge249_2⟩ := k28_openF hMe249
                    have hv249_2 := hcc249 2 _ rfl
                    rw [add_field _ _ 2 (by omega)] at hv249_2
                    replace hv249_2 := Option.some.inj (hv249_2.symm.trans hx249_2)
                    injection hv249_2 with hva_ hvn_ hvc_
                    rw [hva_] at ge249_2
                    rw [hvc_] at ul249_2
                    have HL249_2 := Aside0.mk (show Kd.V (Kd.int .u8) 5 _ w.heap.size _ _ ((rd_T28 x6_2 x11_45).f2) from Kd.V_mk ul249_2 ge249_2)
                    clear hva_ hvn_ hvc_ ge249_2 ul249_2
                    clear hcc249 hce249
                    have HR249_2 := Aside0.mk hi249_2
                    have HC249_2 := Aside0.mk hl249_2
                    clear hi249_2 hl249_2
                    replace p249 := eq_true p249
                    replace q249 := eq_true q249
                    refine start_ (n := 11) (S := fun w' => w'.cell? ⟨gb247, 0, none⟩ = some (.int .i64 t235) ∧ w'.cell? ⟨gb247, 1, none⟩ = some (.int .i64 t236) ∧ w'.cell? ⟨gb247, 2, none⟩ = some (.slice Ao73 t237.length co73) ∧ w'.cell? (ad249.add ((x11_45).toNat * 3)) = some (.int .i64 ((rd_T28 x6_2 x11_45).f0)) ∧ w'.cell? ⟨(ad249.add ((x11_45).toNat * 3)).block, (ad249.add ((x11_45).toNat * 3)).off + 1, none⟩ = some (.int .i64 ((rd_T28 x6_2 x11_45).f1)) ∧ w'.cell? ⟨(ad249.add ((x11_45).toNat * 3)).block, (ad249.add ((x11_45).toNat * 3)).off + 2, none⟩ = some (.slice A249_2 ((rd_T28 x6_2 x11_45).f2).length c249_2)) (ds := []) #[false, false, false, false, false, false, false, false, false, false, false] (by kernel_rfl) rfl rfl ⟨(blk_cell BK247.out 0).trans rfl, (blk_cell BK247.out 1).trans rfl, (blk_cell BK247.out 2).trans rfl, hx249_0, hx249_1, hx249_2⟩ (fun hHeld => ?_); refine with_tabW signatorylaw06_NetworkAll.tab21 signatorylaw06_NetworkAll.bits21 (fun HT_ HW_ => ?_)
                    generalize w78.drew = w79 at HO_6 HO_221000 HO_221001 HO239 HO242 HO245 BK220 BK247 BK248 HB HL249_2 HR249_2 hx249_0 hx249_1 hx249_2 hHeld ⊢
                    refine pure_ (i := 0) (N := some 70) (v := ?_) (a' := ?_) #[true, false, false, false, false, false, false, false, false, false, false] rfl rfl (any_of HT_.out (by kernel_rfl)) (fun _ _ _ h => h) (Or.inl ⟨by rfl, ?_⟩) ?_ ?_
                    rotate_left
                    ·intro w'
                     go_simp
                     with_reducible rfl
                    rotate_left
                    ·simp only [Act.put, List.setIfInBounds_toArray, List.set_cons_zero, List.set_cons_succ, i64_w, i32_w]
                     rfl
                    refine pure_ (i := 1) (N := some 71) (v := ?_) (a' := ?_) #[true, true, false, false, false, false, false, false, false, false, false] rfl rfl (any_of HT_.out (by kernel_rfl)) (fun _ _ _ h => h) (Or.inl ⟨by rfl, ?_⟩) ?_ ?_
                    rotate_left
                    ·intro w'
                     go_simp
                     with_reducible rfl
                    rotate_left
                    ·simp only [Act.put, List.setIfInBounds_toArray, List.set_cons_zero, List.set_cons_succ, i64_w, i32_w]
                     rfl
                    refine pure_ (i := 2) (N := some 72) (v := ?_) (a' := ?_) #[true, true, true, false, false, false, false, false, false, false, false] rfl rfl (any_of HT_.out (by kernel_rfl)) (fun _ _ _ h => h) (Or.inl ⟨by rfl, ?_⟩) ?_ ?_
                    rotate_left
                    ·intro w'
                     go_simp
                     with_reducible rfl
                    rotate_left
                    ·simp only [Act.put, List.setIfInBounds_toArray, List.set_cons_zero, List.set_cons_succ, i64_w, i32_w]
                     rfl
                    refine pure_ (i := 4) (N := some 74) (v := ?_) (a' := ?_) #[true, true, true, false, true, false, false, false, false, false, false] rfl rfl (any_of HT_.out (by kernel_rfl)) (fun _ _ _ h => h) (Or.inl ⟨by rfl, ?_⟩) ?_ ?_
                    rotate_left
                    ·intro w'
                     go_simp
                     with_reducible rfl
                    rotate_left
                    ·simp only [Act.put, List.setIfInBounds_toArray, List.set_cons_zero, List.set_cons_succ, i64_w, i32_w]
                     rfl
                    refine pure_ (i := 5) (N := some 75) (v := ?_) (a' := ?_) #[true, true, true, false, true, true, false, false, false, false, false] rfl rfl (any_of HT_.out (by kernel_rfl)) (fun _ _ _ h => h) (Or.inl ⟨by rfl, ?_⟩) ?_ ?_
                    rotate_left
                    ·intro w'
                     go_simp
                     with_reducible rfl
                    rotate_left
                    ·simp only [Act.put, List.setIfInBounds_toArray, List.set_cons_zero, List.set_cons_succ, i64_w, i32_w]
                     rfl
                    refine pure_ (i := 6) (N := some 76) (v := ?_) (a' := ?_) #[true, true, true, false, true, true, true, false, false, false, false] rfl rfl (any_of HT_.out (by kernel_rfl)) (fun _ _ _ h => h) (Or.inl ⟨by rfl, ?_⟩) ?_ ?_
                    rotate_left
                    ·intro w'
                     go_simp
                     with_reducible rfl
                    rotate_left
                    ·simp only [Act.put, List.setIfInBounds_toArray, List.set_cons_zero, List.set_cons_succ, i64_w, i32_w]
                     rfl
                    refine take_ (i := 3) (N := some 73) (v := ?_) (a' := ?_) #[true, true, true, true, true, true, true, false, false, false, false] rfl rfl (take_ofW HT_.out HW_.out (by kernel_rfl)) (fun _ _ _ h => h) (Or.inl ⟨by rfl, ?_⟩) hHeld ?_ ?_
                    rotate_left
                    ·rintro w' ⟨s0, s1, s2, s3, s4, s5⟩
                     go_simp
                     with_reducible rfl
                    rotate_left
                    ·simp only [Act.put, List.setIfInBounds_toArray, List.set_cons_zero, List.set_cons_succ, i64_w, i32_w]
                     rfl
                    refine take_ (i := 7) (N := some 77) (v := ?_) (a' := ?_) #[true, true, true, true, true, true, true, true, false, false, false] rfl rfl (take_ofW HT_.out HW_.out (by kernel_rfl)) (fun _ _ _ h => h) (Or.inl ⟨by rfl, ?_⟩) hHeld ?_ ?_
                    rotate_left
                    ·rintro w' ⟨s0, s1, s2, s3, s4, s5⟩
                     go_simp
                     with_reducible rfl
                    rotate_left
                    ·simp only [Act.put, List.setIfInBounds_toArray, List.set_cons_zero, List.set_cons_succ, i64_w, i32_w]
                     rfl
                    refine one_ (i := 8) (N := some 78) #[true, true, true, true, true, true, true, true, true, false, false] rfl rfl (one_of HT_.out (by kernel_rfl)) (by decide) (fun K hK => ?_)
                    refine goes_ Try.func19 (by kernel_rfl) rfl #[.agg #[.int .i64 t235, .int .i64 t236, .slice Ao73 t237.length co73], .agg #[.int .i64 ((rd_T28 x6_2 x11_45).f0), .int .i64 ((rd_T28 x6_2 x11_45).f1), .slice A249_2 ((rd_T28 x6_2 x11_45).f2).length c249_2]] (by rfl) rfl rfl (by (try simp only [List.map_toArray, List.map_cons, List.map_nil]); first | done | rfl | (simp only [List.length_drop, List.length_take]; rfl)) ?_
                    with_reducible refine (signatoryref06_SamePacket.calls t235 t236 _ _ t237 ((rd_T28 x6_2 x11_45).f0) ((rd_T28 x6_2 x11_45).f1) _ _ ((rd_T28 x6_2 x11_45).f2) true _ ?side1 ?side2 ?side3 ?side4 A55.out).mono ?_
                    (case side1 => repeat (first | exact (Kd.V_reads' HO239.out).2.2 | (with_reducible refine Kd.C_alloc ?_ _) | (with_reducible refine Kd.C_drewN ?_ _) | (with_reducible refine Kd.C_drew ?_)))
                    (case side2 => exact (Kd.V_reads' HO239.out).2.1)
                    (case side3 => repeat (first | exact (by repeat (first | (with_reducible exact HR249_2.out) | (with_reducible refine Kd.C_alloc ?_ _) | (with_reducible refine Kd.C_drewN ?_ _) | (with_reducible refine Kd.C_drew ?_) | exact HR249_2.out)) | (with_reducible refine Kd.C_alloc ?_ _) | (with_reducible refine Kd.C_drewN ?_ _) | (with_reducible refine Kd.C_drew ?_)))
                    (case side4 => exact HC249_2.out)
                    rintro e w80 ⟨rfl, hb⟩
                    have HS3_ := (hb.cell (World.block_lt_of_cell? _ _ (hHeld.2.2.2.1))).trans (hHeld.2.2.2.1)
                    have HS4_ := (hb.cell (World.block_lt_of_cell? _ _ (hHeld.2.2.2.2.1))).trans (hHeld.2.2.2.2.1)
                    have HS5_ := (hb.cell (World.block_lt_of_cell? _ _ (hHeld.2.2.2.2.2))).trans (hHeld.2.2.2.2.2)
                    refine ⟨_, rfl, ?_⟩
                    have n0_ := Aside0.mk (Kd.N_below (Zn HO_6.out) hb)
                    have n1_ := Aside0.mk (Kd.V_below (Zv HO_221000.out) hb)
                    have n2_ := Aside0.mk (Kd.V_below (Zv HO_221001.out) hb)
                    have n3_ := Aside0.mk (Kd.V_below (Zv HO239.out) hb)
                    have n4_ := Aside0.mk (Kd.V_below (Zv HO242.out) hb)
                    have n5_ := Aside0.mk (Kd.V_below (Zv HO245.out) hb)
                    have n6_ := Aside0.mk (Kd.V_below (Zv HL249_2.out) hb)
                    have n7_ := Aside0.mk (blk_below (g := gb220) (o := .cells #[.slice Ao65 x221000_2.length co65, .slice Ao66 x221001_2.length co66] 25 (0, 0)) (Zb BK220.out) hb)
                    have n8_ := Aside0.mk (blk_below (g := gb247) (o := .cells #[.int .i64 t235, .int .i64 t236, .slice Ao73 t237.length co73] 28 (0, 0)) (Zb BK247.out) hb)
                    have n9_ := Aside0.mk (blk_below (g := gb248) (o := .cells #[.slice Ao74 t240.length co74, .slice Ao77 t243.length co77] 25 (0, 0)) (Zb BK248.out) hb)
                    have n10_ := Aside0.mk (Kd.C_below (by repeat (first | (with_reducible exact HR249_2.out) | (with_reducible refine Kd.C_alloc ?_ _) | (with_reducible refine Kd.C_drewN ?_ _) | (with_reducible refine Kd.C_drew ?_) | exact HR249_2.out)) hb)
                    have n11_ := Aside0.mk (below_step (Z3 HB GE220 GE247 GE248) hb)
                    clear HO_6
                    clear HO_221000
                    clear HO_221001
                    clear HO239
                    clear HO242
                    clear HO245
                    clear HL249_2
                    clear BK220
                    clear BK247
                    clear BK248
                    clear HR249_2
                    clear HB
                    have HO_6 := n0_
                    have HO_221000 := n1_
                    have HO_221001 := n2_
                    have HO239 := n3_
                    have HO242 := n4_
                    have HO245 := n5_
                    have HL249_2 := n6_
                    have BK220 := n7_
                    have BK247 := n8_
                    have BK248 := n9_
                    have HR249_2 := n10_
                    have HB := n11_
                    clear n0_ n1_ n2_ n3_ n4_ n5_ n6_ n7_ n8_ n9_ n10_ n11_
                    (try clear hb)
                    (try clear hb2)
                    (try clear hk)
                    (try clear hi)
                    refine hK.out _ _ ⟨(blk_cell BK247.out 0).trans rfl, (blk_cell BK247.out 1).trans rfl, (blk_cell BK247.out 2).trans rfl, HS3_, HS4_, HS5_⟩ (fun hHeld => ?_)
                    clear hK K
                    refine norm_ (a' := ?_) ?_ ?_
                    rotate_left
                    ·show Act.put _ (some 78) _ = _
                     simp only [Act.put, List.setIfInBounds_toArray, List.set_cons_zero, List.set_cons_succ, i64_w, i32_w]
                     rfl
                    refine pure_ (i := 9) (N := some 79) (v := ?_) (a' := ?_) #[true, true, true, true, true, true, true, true, true, true, false] rfl rfl (any_of HT_.out (by kernel_rfl)) (fun _ _ _ h => h) (Or.inl ⟨by rfl, ?_⟩) ?_ ?_
                    rotate_left
                    ·intro w'
                     go_simp
                     with_reducible rfl
                    rotate_left
                    ·simp only [Act.put, List.setIfInBounds_toArray, List.set_cons_zero, List.set_cons_succ, i64_w, i32_w]
                     rfl
                    refine pure_ (i := 10) (N := some 80) (v := ?_) (a' := ?_) #[true, true, true, true, true, true, true, true, true, true, true] rfl rfl (any_of HT_.out (by kernel_rfl)) (fun _ _ _ h => h) (Or.inl ⟨by rfl, ?_⟩) ?_ ?_
                    rotate_left
                    ·intro w'
                     go_simp
                     with_reducible rfl
                    rotate_left
                    ·simp only [Act.put, List.setIfInBounds_toArray, List.set_cons_zero, List.set_cons_succ, i64_w, i32_w]
                     rfl
                    refine done_ (done_of HT_.out (by kernel_rfl)) ?_
                    have hcz81_0 : w80.cell? ⟨gb248, 0, none⟩ = some (.slice Ao74 t240.length co74) := (blk_cell BK248.out 0).trans rfl
                    have hcz81_1 : w80.cell? ⟨gb248, 1, none⟩ = some (.slice Ao77 t243.length co77) := (blk_cell BK248.out 1).trans rfl
                    have hfz81_0 := blk_frozen BK248.out 0
                    have hfz81_1 := blk_frozen BK248.out 1
                    have hcz82_0 : w80.cell? ⟨gb220, 0, none⟩ = some (.slice Ao65 x221000_2.length co65) := (blk_cell BK220.out 0).trans rfl
                    have hcz82_1 : w80.cell? ⟨gb220, 1, none⟩ = some (.slice Ao66 x221001_2.length co66) := (blk_cell BK220.out 1).trans rfl
                    have hfz82_0 := blk_frozen BK220.out 0
                    have hfz82_1 := blk_frozen BK220.out 1
                    try go_wp2
                    have n0_ : Aside0 (Kd.N k28 28 ((w80.setCell ⟨gb220, 0, none⟩ (.slice Ao74 t240.length co74)).setCell ⟨gb220, 1, none⟩ (.slice Ao77 t243.length co77)) w.heap.size (fun k_ => (P0_ k_ ∨ w.heap.size ≤ k_) ∧ k_ ≠ gb220 ∧ k_ ≠ gb247 ∧ k_ ≠ gb248) (.slice (some ad249) x6_2.length co47) x6_2) := ⟨by refine Zn ?_; exact Kd.N_mono (Kd.N_far (p := ⟨gb220, 1, none⟩) (Kd.N_far (p := ⟨gb220, 0, none⟩) (Kd.N_mono HO_6.out (fun k_ hk => (⟨hk, hk.2.1⟩ : _ ∧ k_ ≠ gb220))) (fun _ hk => hk.2) (.slice Ao74 t240.length co74)) (fun _ hk => hk.2) (.slice Ao77 t243.length co77)) (fun _ hk => ⟨hk.1.1, ⟨hk.1.2.1, ⟨hk.1.2.2.1, hk.1.2.2.2⟩⟩⟩)⟩
                    have n1_ : Aside0 (Kd.V k28 28 ((w80.setCell ⟨gb220, 0, none⟩ (.slice Ao74 t240.length co74)).setCell ⟨gb220, 1, none⟩ (.slice Ao77 t243.length co77)) w.heap.size (fun k_ => (P0_ k_ ∨ w.heap.size ≤ k_) ∧ some k_ ≠ (.slice (some ad249) x6_2.length co47 : Value).ownBlock ∧ k_ ≠ gb220 ∧ k_ ≠ gb247 ∧ k_ ≠ gb248) (.slice Ao65 x221000_2.length co65) x221000_2) := ⟨by refine Zv ?_; exact Kd.V_mono (Kd.V_far (p := ⟨gb220, 1, none⟩) (Kd.V_far (p := ⟨gb220, 0, none⟩) (Kd.V_mono HO_221000.out (fun k_ hk => (⟨hk, hk.2.2.1⟩ : _ ∧ k_ ≠ gb220))) (fun _ hk => hk.2) (.slice Ao74 t240.length co74)) (fun _ hk => hk.2) (.slice Ao77 t243.length co77)) (fun _ hk => ⟨hk.1.1, ⟨hk.1.2.1, ⟨hk.1.2.2.1, ⟨hk.1.2.2.2.1, hk.1.2.2.2.2⟩⟩⟩⟩)⟩
                    have n2_ : Aside0 (Kd.V k55 55 ((w80.setCell ⟨gb220, 0, none⟩ (.slice Ao74 t240.length co74)).setCell ⟨gb220, 1, none⟩ (.slice Ao77 t243.length co77)) w.heap.size (fun k_ => (P0_ k_ ∨ w.heap.size ≤ k_) ∧ some k_ ≠ (.slice (some ad249) x6_2.length co47 : Value).ownBlock ∧ k_ ≠ gb220 ∧ k_ ≠ gb247 ∧ k_ ≠ gb248) (.slice Ao66 x221001_2.length co66) x221001_2) := ⟨by refine Zv ?_; exact Kd.V_mono (Kd.V_far (p := ⟨gb220, 1, none⟩) (Kd.V_far (p := ⟨gb220, 0, none⟩) (Kd.V_mono HO_221001.out (fun k_ hk => (⟨hk, hk.2.2.1⟩ : _ ∧ k_ ≠ gb220))) (fun _ hk => hk.2) (.slice Ao74 t240.length co74)) (fun _ hk => hk.2) (.slice Ao77 t243.length co77)) (fun _ hk => ⟨hk.1.1, ⟨hk.1.2.1, ⟨hk.1.2.2.1, ⟨hk.1.2.2.2.1, hk.1.2.2.2.2⟩⟩⟩⟩)⟩
                    have n3_ : Aside0 (Kd.V (Kd.int .u8) 5 ((w80.setCell ⟨gb220, 0, none⟩ (.slice Ao74 t240.length co74)).setCell ⟨gb220, 1, none⟩ (.slice Ao77 t243.length co77)) w.heap.size (fun k_ => (P0_ k_ ∨ w.heap.size ≤ k_) ∧ some k_ ≠ (.slice (some ad249) x6_2.length co47 : Value).ownBlock ∧ k_ ≠ gb220 ∧ k_ ≠ gb247 ∧ k_ ≠ gb248) (.slice Ao73 t237.length co73) t237) := ⟨by refine Zv ?_; exact Kd.V_mono (Kd.V_far (p := ⟨gb220, 1, none⟩) (Kd.V_far (p := ⟨gb220, 0, none⟩) (Kd.V_mono HO239.out (fun k_ hk => (⟨hk, hk.2.2.1⟩ : _ ∧ k_ ≠ gb220))) (fun _ hk => hk.2) (.slice Ao74 t240.length co74)) (fun _ hk => hk.2) (.slice Ao77 t243.length co77)) (fun _ hk => ⟨hk.1.1, ⟨hk.1.2.1, ⟨hk.1.2.2.1, ⟨hk.1.2.2.2.1, hk.1.2.2.2.2⟩⟩⟩⟩)⟩
                    have n4_ : Aside0 (Kd.V k28 28 ((w80.setCell ⟨gb220, 0, none⟩ (.slice Ao74 t240.length co74)).setCell ⟨gb220, 1, none⟩ (.slice Ao77 t243.length co77)) w.heap.size (fun k_ => (P0_ k_ ∨ w.heap.size ≤ k_) ∧ some k_ ≠ (.slice (some ad249) x6_2.length co47 : Value).ownBlock ∧ k_ ≠ gb220 ∧ k_ ≠ gb247 ∧ k_ ≠ gb248) (.slice Ao74 t240.length co74) t240) := ⟨by refine Zv ?_; exact Kd.V_mono (Kd.V_far (p := ⟨gb220, 1, none⟩) (Kd.V_far (p := ⟨gb220, 0, none⟩) (Kd.V_mono HO242.out (fun k_ hk => (⟨hk, hk.2.2.1⟩ : _ ∧ k_ ≠ gb220))) (fun _ hk => hk.2) (.slice Ao74 t240.length co74)) (fun _ hk => hk.2) (.slice Ao77 t243.length co77)) (fun _ hk => ⟨hk.1.1, ⟨hk.1.2.1, ⟨hk.1.2.2.1, ⟨hk.1.2.2.2.1, hk.1.2.2.2.2⟩⟩⟩⟩)⟩
                    have n5_ : Aside0 (Kd.V k55 55 ((w80.setCell ⟨gb220, 0, none⟩ (.slice Ao74 t240.length co74)).setCell ⟨gb220, 1, none⟩ (.slice Ao77 t243.length co77)) w.heap.size (fun k_ => (P0_ k_ ∨ w.heap.size ≤ k_) ∧ some k_ ≠ (.slice (some ad249) x6_2.length co47 : Value).ownBlock ∧ k_ ≠ gb220 ∧ k_ ≠ gb247 ∧ k_ ≠ gb248) (.slice Ao77 t243.length co77) t243) := ⟨by refine Zv ?_; exact Kd.V_mono (Kd.V_far (p := ⟨gb220, 1, none⟩) (Kd.V_far (p := ⟨gb220, 0, none⟩) (Kd.V_mono HO245.out (fun k_ hk => (⟨hk, hk.2.2.1⟩ : _ ∧ k_ ≠ gb220))) (fun _ hk => hk.2) (.slice Ao74 t240.length co74)) (fun _ hk => hk.2) (.slice Ao77 t243.length co77)) (fun _ hk => ⟨hk.1.1, ⟨hk.1.2.1, ⟨hk.1.2.2.1, ⟨hk.1.2.2.2.1, hk.1.2.2.2.2⟩⟩⟩⟩)⟩
                    have n6_ : Aside0 (Kd.V (Kd.int .u8) 5 ((w80.setCell ⟨gb220, 0, none⟩ (.slice Ao74 t240.length co74)).setCell ⟨gb220, 1, none⟩ (.slice Ao77 t243.length co77)) w.heap.size (fun k_ => (P0_ k_ ∨ w.heap.size ≤ k_) ∧ some k_ ≠ (.slice (some ad249) x6_2.length co47 : Value).ownBlock ∧ k_ ≠ gb220 ∧ k_ ≠ gb247 ∧ k_ ≠ gb248) (.slice A249_2 ((rd_T28 x6_2 x11_45).f2).length c249_2) ((rd_T28 x6_2 x11_45).f2)) := ⟨by refine Zv ?_; exact Kd.V_mono (Kd.V_far (p := ⟨gb220, 1, none⟩) (Kd.V_far (p := ⟨gb220, 0, none⟩) (Kd.V_mono HL249_2.out (fun k_ hk => (⟨hk, hk.1.2.1⟩ : _ ∧ k_ ≠ gb220))) (fun _ hk => hk.2) (.slice Ao74 t240.length co74)) (fun _ hk => hk.2) (.slice Ao77 t243.length co77)) (fun _ hk => ⟨hk.1.1.1, ⟨hk.1.2, ⟨hk.1.1.2.1, ⟨hk.1.1.2.2.1, hk.1.1.2.2.2⟩⟩⟩⟩)⟩
                    have n7_ : Aside0 (((w80.setCell ⟨gb220, 0, none⟩ (.slice Ao74 t240.length co74)).setCell ⟨gb220, 1, none⟩ (.slice Ao77 t243.length co77)).heap[gb220]? = some (.cells #[.slice Ao74 t240.length co74, .slice Ao77 t243.length co77] 25 (0, 0))) := ⟨by refine Zb ?_; refine blk_put (cs := #[.slice Ao74 t240.length co74, .slice Ao66 x221001_2.length co66]) ?_ 1 _ rfl; refine Zb ?_; refine blk_put (cs := #[.slice Ao65 x221000_2.length co65, .slice Ao66 x221001_2.length co66]) ?_ 0 _ rfl; refine Zb ?_; exact BK220.out⟩
                    have n8_ : Aside0 (((w80.setCell ⟨gb220, 0, none⟩ (.slice Ao74 t240.length co74)).setCell ⟨gb220, 1, none⟩ (.slice Ao77 t243.length co77)).heap[gb247]? = some (.cells #[.int .i64 t235, .int .i64 t236, .slice Ao73 t237.length co73] 28 (0, 0))) := ⟨by refine Zb ?_; refine blk_far ?_ NB247_220.out _; refine Zb ?_; refine blk_far ?_ NB247_220.out _; refine Zb ?_; exact BK247.out⟩
                    have n9_ : Aside0 (((w80.setCell ⟨gb220, 0, none⟩ (.slice Ao74 t240.length co74)).setCell ⟨gb220, 1, none⟩ (.slice Ao77 t243.length co77)).heap[gb248]? = some (.cells #[.slice Ao74 t240.length co74, .slice Ao77 t243.length co77] 25 (0, 0))) := ⟨by refine Zb ?_; refine blk_far ?_ NB248_220.out _; refine Zb ?_; refine blk_far ?_ NB248_220.out _; refine Zb ?_; exact BK248.out⟩
                    have n10_ : Aside0 (Below w.heap.size w ((w80.setCell ⟨gb220, 0, none⟩ (.slice Ao74 t240.length co74)).setCell ⟨gb220, 1, none⟩ (.slice Ao77 t243.length co77))) := ⟨(Z3 HB GE220 GE247 GE248)⟩
                    (try clear HO_6)
                    (try clear HO_221000)
                    (try clear HO_221001)
                    (try clear HO239)
                    (try clear HO242)
                    (try clear HO245)
                    (try clear HL249_2)
                    (try clear BK220)
                    (try clear BK247)
                    (try clear BK248)
                    (try clear HB)
                    generalize ((w80.setCell ⟨gb220, 0, none⟩ (.slice Ao74 t240.length co74)).setCell ⟨gb220, 1, none⟩ (.slice Ao77 t243.length co77)) = w83 at n0_ n1_ n2_ n3_ n4_ n5_ n6_ n7_ n8_ n9_ n10_ ⊢
                    have HO_6 := n0_
                    have HO_221000 := n1_
                    have HO_221001 := n2_
                    have HO239 := n3_
                    have HO242 := n4_
                    have HO245 := n5_
                    have HL249_2 := n6_
                    have BK220 := n7_
                    have BK247 := n8_
                    have BK248 := n9_
                    have HB := n10_
                    clear n0_ n1_ n2_ n3_ n4_ n5_ n6_ n7_ n8_ n9_ n10_
                    have n0_ := Aside0.mk (Kd.N_drew HO_6.out)
                    have n1_ := Aside0.mk (Kd.V_drew HO_221000.out)
                    have n2_ := Aside0.mk (Kd.V_drew HO_221001.out)
                    have n3_ := Aside0.mk (Kd.V_drew HO239.out)
                    have n4_ := Aside0.mk (Kd.V_drew HO242.out)
                    have n5_ := Aside0.mk (Kd.V_drew HO245.out)
                    have n6_ := Aside0.mk (Kd.V_drew HL249_2.out)
                    have n7_ := Aside0.mk (blk_drew BK220.out)
                    have n8_ := Aside0.mk (blk_drew BK247.out)
                    have n9_ := Aside0.mk (blk_drew BK248.out)
                    have n10_ := Aside0.mk (below_drew1 HB.out)
                    clear HO_6
                    clear HO_221000
                    clear HO_221001
                    clear HO239
                    clear HO242
                    clear HO245
                    clear HL249_2
                    clear BK220
                    clear BK247
                    clear BK248
                    clear HB
                    have HO_6 := n0_
                    have HO_221000 := n1_
                    have HO_221001 := n2_
                    have HO239 := n3_
                    have HO242 := n4_
                    have HO245 := n5_
                    have HL249_2 := n6_
                    have BK220 := n7_
                    have BK247 := n8_
                    have BK248 := n9_
                    have HB := n10_
                    clear n0_ n1_ n2_ n3_ n4_ n5_ n6_ n7_ n8_ n9_ n10_
                    have q85 : (x11_45 : Int) ≤ ((x6_2.length : Int) : Int) := of_decide_eq_true (by first | (with_reducible assumption) | assumption)
                    obtain ⟨i085, hi085, _, hsz85, _⟩ := info_parts info28
                    have hroom85 : x6_2.length ≤ co47 := (Kd.N_reads' HO_6.out).2.1
                    have hC85 : Kd.F k28 _ _ (some ad249) x6_2.length x6_2 := (Kd.V_at (base := w.heap.size) (Kd.N_V HO_6.out)).2.2
                    have hcut85 := cut_to (P := Try.prog) 22 28 .i64 Try.underlying22 hi085 (some ad249) x6_2.length co47 x11_45 (of_decide_eq_true (by first | (with_reducible assumption) | assumption)) q85 hroom85
                    have hr85 := Kd.F_take (m := (x11_45 : Int).toNat) hC85 (by omega)
                    have hy85 : y254.length = (x11_45 : Int).toNat := (by rw [Ny254.out, List.length_take]; omega)
                    rw [← Ny254.out] at hr85
                    rw [← hy85] at hcut85
                    have HO258 := Aside0.mk (show Kd.V k28 28 _ w.heap.size _ (.slice (some ad249) y254.length co47) y254 from Kd.V_mk (by omega) hr85)
                    have HC258 := Aside0.mk (show y254.length ≤ co47 from by omega)
                    clear hr85 hC85 hroom85 hi085 hsz85
                    have KY85 := Aside0.mk hy85
                    clear hy85
                    replace q85 := eq_true q85
                    have q86 : ((ji60) : Int) ≤ ((x6_2.length : Int) : Int) := of_decide_eq_true (by first | (with_reducible assumption) | assumption)
                    obtain ⟨i086, hi086, _, hsz86, _⟩ := info_parts info28
                    have hroom86 : x6_2.length ≤ co47 := (Kd.N_reads' HO_6.out).2.1
                    have hC86 : Kd.F k28 _ _ (some ad249) x6_2.length x6_2 := (Kd.V_at (base := w.heap.size) (Kd.N_V HO_6.out)).2.2
                    have q086 : (0 : Int) ≤ ((ji60) : Int) := of_decide_eq_true (by first | (with_reducible assumption) | assumption)
                    have hcut86 := cut_from (P := Try.prog) 22 28 .i64 Try.underlying22 hi086 3 hsz86 (some ad249) x6_2.length co47 (ji60) q086 q86
                    have hr86 := Kd.F_cut (m := ((ji60) : Int).toNat) (c := co47) hC86 (by omega) hroom86
                    obtain ⟨A86, hA86⟩ : ∃ A1, A1 = (if co47 = ((ji60) : Int).toNat then (some ad249) else ((some ad249) : Option Addr).map (·.add (((ji60) : Int).toNat * 3))) := ⟨_, rfl⟩
                    obtain ⟨c86, hc86⟩ : ∃ c1, c1 = co47 - ((ji60) : Int).toNat := ⟨_, rfl⟩
                    have hy86 : y262.length = x6_2.length - ((ji60) : Int).toNat := (by rw [Ny262.out, List.length_drop] <;> omega)
                    rw [show (x6_2).drop ((ji60) : Int).toNat = y262 from Ny262.out.symm] at hr86
                    replace hr86 : Kd.F k28 _ _ A86 y262.length y262 := (by rw [hA86]; exact hr86)
                    rw [← hy86, ← hA86, ← hc86] at hcut86
                    have HO266 := Aside0.mk (show Kd.V k28 28 _ w.heap.size _ (.slice A86 y262.length c86) y262 from Kd.V_mk (by rw [hy86, hc86]; exact Nat.sub_le_sub_right hroom86 _) hr86)
                    have HC266 := Aside0.mk (show y262.length ≤ c86 from by rw [hy86, hc86]; exact Nat.sub_le_sub_right hroom86 _)
                    clear hr86 hC86 hroom86 hi086 hsz86 hc86
                    have KY86 := Aside0.mk hy86
                    have KA86 := Aside0.mk hA86
                    clear hy86 hA86
                    replace q86 := eq_true q86
                    refine start_ (n := 11) (S := fun w' => True) (ds := []) #[false, false, false, false, false, false, false, false, false, false, false] (by kernel_rfl) rfl rfl trivial (fun hHeld => ?_); refine with_tabW signatorylaw06_NetworkAll.tab24 signatorylaw06_NetworkAll.bits24 (fun HT_ HW_ => ?_)
                    generalize w83.drew = w84 at HO_6 HO_221000 HO_221001 HO239 HO242 HO245 HL249_2 BK220 BK247 BK248 HB HO258 HO266 hHeld ⊢
                    refine pure_ (i := 1) (N := some 83) (v := ?_) (a' := ?_) #[false, true, false, false, false, false, false, false, false, false, false] rfl rfl (any_of HT_.out (by kernel_rfl)) (fun _ _ _ h => h) (Or.inl ⟨by rfl, ?_⟩) ?_ ?_
                    rotate_left
                    ·intro w'
                     go_simp
                     with_reducible rfl
                    rotate_left
                    ·simp only [Act.put, List.setIfInBounds_toArray, List.set_cons_zero, List.set_cons_succ, i64_w, i32_w]
                     rfl
                    refine pure_ (i := 2) (N := some 84) (v := ?_) (a' := ?_) #[false, true, true, false, false, false, false, false, false, false, false] rfl rfl (any_of HT_.out (by kernel_rfl)) (fun _ _ _ h => h) (Or.inl ⟨by rfl, ?_⟩) ?_ ?_
                    rotate_left
                    ·intro w'
                     go_simp
                     with_reducible rfl
                    rotate_left
                    ·simp only [Act.put, List.setIfInBounds_toArray, List.set_cons_zero, List.set_cons_succ, i64_w, i32_w]
                     rfl
                    refine pure_ (i := 3) (N := some 85) (v := ?_) (a' := ?_) #[false, true, true, true, false, false, false, false, false, false, false] rfl rfl (any_of HT_.out (by kernel_rfl)) (fun _ _ _ h => h) (Or.inl ⟨by rfl, ?_⟩) ?_ ?_
                    rotate_left
                    ·intro w'
                     go_simp
                     with_reducible rfl
                    rotate_left
                    ·simp only [Act.put, List.setIfInBounds_toArray, List.set_cons_zero, List.set_cons_succ, i64_w, i32_w]
                     rfl
                    refine pure_ (i := 5) (N := some 87) (v := ?_) (a' := ?_) #[false, true, true, true, false, true, false, false, false, false, false] rfl rfl (any_of HT_.out (by kernel_rfl)) (fun _ _ _ h => h) (Or.inl ⟨by rfl, ?_⟩) ?_ ?_
                    rotate_left
                    ·intro w'
                     go_simp
                     with_reducible rfl
                    rotate_left
                    ·simp only [Act.put, List.setIfInBounds_toArray, List.set_cons_zero, List.set_cons_succ, i64_w, i32_w]
                     rfl
                    refine pure_ (i := 6) (N := some 88) (v := ?_) (a' := ?_) #[false, true, true, true, false, true, true, false, false, false, false] rfl rfl (any_of HT_.out (by kernel_rfl)) (fun _ _ _ h => h) (Or.inl ⟨by rfl, ?_⟩) ?_ ?_
                    rotate_left
                    ·intro w'
                     go_simp
                     with_reducible rfl
                    rotate_left
                    ·simp only [Act.put, List.setIfInBounds_toArray, List.set_cons_zero, List.set_cons_succ, i64_w, i32_w]
                     rfl
                    refine pure_ (i := 7) (N := some 89) (v := ?_) (a' := ?_) #[false, true, true, true, false, true, true, true, false, false, false] rfl rfl (any_of HT_.out (by kernel_rfl)) (fun _ _ _ h => h) (Or.inl ⟨by rfl, ?_⟩) ?_ ?_
                    rotate_left
                    ·intro w'
                     go_simp
                     with_reducible rfl
                    rotate_left
                    ·simp only [Act.put, List.setIfInBounds_toArray, List.set_cons_zero, List.set_cons_succ, i64_w, i32_w]
                     rfl
                    refine pure_ (i := 8) (N := some 90) (v := ?_) (a' := ?_) #[false, true, true, true, false, true, true, true, true, false, false] rfl rfl (any_of HT_.out (by kernel_rfl)) (fun _ _ _ h => h) (Or.inl ⟨by rfl, ?_⟩) ?_ ?_
                    rotate_left
                    ·intro w'
                     go_simp
                     with_reducible rfl
                    rotate_left
                    ·simp only [Act.put, List.setIfInBounds_toArray, List.set_cons_zero, List.set_cons_succ, i64_w, i32_w]
                     rfl
                    refine one_ (i := 0) (N := some 82) #[true, true, true, true, false, true, true, true, true, false, false] rfl rfl (one_of HT_.out (by kernel_rfl)) (by decide) (fun K hK => ?_)
                    refine Kd.N_lit_step k28 _ 28 ?hg (N' := 82) ?hd (xs := ([] : List (S28))) (inner := []) (ok := (fun k_ => (P0_ k_ ∨ w.heap.size ≤ k_) ∧ some k_ ≠ (.slice (some ad249) x6_2.length co47 : Value).ownBlock ∧ k_ ≠ gb220 ∧ k_ ≠ gb247 ∧ k_ ≠ gb248)) (okp := (fun k_ => (P0_ k_ ∨ w.heap.size ≤ k_) ∧ some k_ ≠ (.slice (some ad249) x6_2.length co47 : Value).ownBlock ∧ k_ ≠ gb220 ∧ k_ ≠ gb247 ∧ k_ ≠ gb248)) ?hr ?hp (fun _ hk => hk) ((show ∀ k_, w84.heap.size ≤ k_ → (fun k_ => (P0_ k_ ∨ w.heap.size ≤ k_) ∧ some k_ ≠ (.slice (some ad249) x6_2.length co47 : Value).ownBlock ∧ k_ ≠ gb220 ∧ k_ ≠ gb247 ∧ k_ ≠ gb248) k_ from fun k_ hk => ⟨(.inr (Nat.le_trans (below_size (Z3 HB GE220 GE247 GE248)) hk)), Kd.fresh' (Kd.N_lt (Zn HO_6.out)) k_ hk, Kd.freshB (g := gb220) (o := .cells #[.slice Ao74 t240.length co74, .slice Ao77 t243.length co77] 25 (0, 0)) (Zb BK220.out) k_ hk, Kd.freshB (g := gb247) (o := .cells #[.int .i64 t235, .int .i64 t236, .slice Ao73 t237.length co73] 28 (0, 0)) (Zb BK247.out) k_ hk, Kd.freshB (g := gb248) (o := .cells #[.slice Ao74 t240.length co74, .slice Ao77 t243.length co77] 25 (0, 0)) (Zb BK248.out) k_ hk⟩) _ (Nat.le_refl _)) (Below.refl _ _) (Nat.le_refl _) (by simp) ?_; (case hd => rfl); (case hg => rfl); (case hr => first | (go_simp; done) | (go_simp; rfl)); (case hp => exact (Reps.none _ _))
                    intro v252 w87 ho88 hb hg_ hnew_
                    clear hg_ hnew_
                    (first | rw [← Ny251.out] at ho88 | (simp only [Int.reduceToNat] at ho88; rw [← Ny251.out] at ho88))
                    have n0_ := Aside0.mk (Kd.N_elder' (Zn HO_6.out) (Kd.N_base ho88) hb)
                    have n1_ := Aside0.mk (Kd.V_elder' (Zv HO_221000.out) (Kd.N_base ho88) hb)
                    have n2_ := Aside0.mk (Kd.V_elder' (Zv HO_221001.out) (Kd.N_base ho88) hb)
                    have n3_ := Aside0.mk (Kd.V_elder' (Zv HO239.out) (Kd.N_base ho88) hb)
                    have n4_ := Aside0.mk (Kd.V_elder' (Zv HO242.out) (Kd.N_base ho88) hb)
                    have n5_ := Aside0.mk (Kd.V_elder' (Zv HO245.out) (Kd.N_base ho88) hb)
                    have n6_ := Aside0.mk (Kd.V_elder' (Zv HL249_2.out) (Kd.N_base ho88) hb)
                    have n7_ := Aside0.mk (Kd.V_elder' (Zv HO258.out) (Kd.N_base ho88) hb)
                    have n8_ := Aside0.mk (Kd.V_elder' (Zv HO266.out) (Kd.N_base ho88) hb)
                    have n9_ := Aside0.mk (Kd.N_lower ho88 (below_size (Z3 HB GE220 GE247 GE248)))
                    have n10_ := Aside0.mk (blk_below (g := gb220) (o := .cells #[.slice Ao74 t240.length co74, .slice Ao77 t243.length co77] 25 (0, 0)) (Zb BK220.out) hb)
                    have n11_ := Aside0.mk (blk_below (g := gb247) (o := .cells #[.int .i64 t235, .int .i64 t236, .slice Ao73 t237.length co73] 28 (0, 0)) (Zb BK247.out) hb)
                    have n12_ := Aside0.mk (blk_below (g := gb248) (o := .cells #[.slice Ao74 t240.length co74, .slice Ao77 t243.length co77] 25 (0, 0)) (Zb BK248.out) hb)
                    have n13_ := Aside0.mk (below_step (Z3 HB GE220 GE247 GE248) hb)
                    clear HO_6
                    clear HO_221000
                    clear HO_221001
                    clear HO239
                    clear HO242
                    clear HO245
                    clear HL249_2
                    clear HO258
                    clear HO266
                    clear BK220
                    clear BK247
                    clear BK248
                    clear HB
                    have HO_6 := n0_
                    have HO_221000 := n1_
                    have HO_221001 := n2_
                    have HO239 := n3_
                    have HO242 := n4_
                    have HO245 := n5_
                    have HL249_2 := n6_
                    have HO258 := n7_
                    have HO266 := n8_
                    have HO253 := n9_
                    have BK220 := n10_
                    have BK247 := n11_
                    have BK248 := n12_
                    have HB := n13_
                    clear n0_ n1_ n2_ n3_ n4_ n5_ n6_ n7_ n8_ n9_ n10_ n11_ n12_ n13_
                    clear hb ho88
                    refine hK.out _ _ trivial (fun hHeld => ?_)
                    clear hK K
                    refine norm_ (a' := ?_) ?_ ?_
                    rotate_left
                    ·show Act.put _ (some 82) _ = _
                     simp only [Act.put, List.setIfInBounds_toArray, List.set_cons_zero, List.set_cons_succ, i64_w, i32_w]
                     rfl
                    refine one_ (i := 4) (N := some 86) #[true, true, true, true, true, true, true, true, true, false, false] rfl rfl (one_of HT_.out (by kernel_rfl)) (by decide) (fun K hK => ?_)
                    refine Kd.N_append_rows_step k28 (w0 := w) w.heap.size (by rfl) (.tmp 82) (.tmp 85) 22 28 (.agg #[(.int .i64 0), (.int .i64 0), (.slice none 0 0)]) 40 rfl Try.underlying22 info28 rfl (by decide) (by omega) v252 y251 y254 _ _ _ (fun k_ => (P0_ k_ ∨ w.heap.size ≤ k_) ∧ k_ ≠ gb220 ∧ k_ ≠ gb247 ∧ k_ ≠ gb248) (fun k_ => ((fun k_ => (P0_ k_ ∨ w.heap.size ≤ k_) ∧ k_ ≠ gb220 ∧ k_ ≠ gb247 ∧ k_ ≠ gb248)) k_ ∧ some k_ ≠ (v252 : Value).ownBlock) rfl rfl ?aO ?aR (fun _ hk => hk) ?aF ?aB ?aS ?aL ?_
                    (case aR => exact (by skip; exact Kd.V_F (Kd.V_mono (ok' := (fun k_ => ((fun k_ => (P0_ k_ ∨ w.heap.size ≤ k_) ∧ k_ ≠ gb220 ∧ k_ ≠ gb247 ∧ k_ ≠ gb248)) k_ ∧ some k_ ≠ (v252 : Value).ownBlock)) (HO258.out) (fun k_ hk => ⟨⟨hk.1.1, ⟨hk.1.2.1, ⟨hk.1.2.2.1, hk.1.2.2.2⟩⟩⟩, hk.2⟩))))
                    (case aB => exact (Z3 HB GE220 GE247 GE248))
                    (case aF => exact (fun k_ hk => ⟨(.inr (Nat.le_trans (below_size (Z3 HB GE220 GE247 GE248)) hk)), Kd.freshB (g := gb220) (o := .cells #[.slice Ao74 t240.length co74, .slice Ao77 t243.length co77] 25 (0, 0)) (Zb BK220.out) k_ hk, Kd.freshB (g := gb247) (o := .cells #[.int .i64 t235, .int .i64 t236, .slice Ao73 t237.length co73] 28 (0, 0)) (Zb BK247.out) k_ hk, Kd.freshB (g := gb248) (o := .cells #[.slice Ao74 t240.length co74, .slice Ao77 t243.length co77] 25 (0, 0)) (Zb BK248.out) k_ hk⟩))
                    (case aO => exact (by refine Zn ?_; exact Kd.N_mono HO253.out (fun _ hk => ⟨hk.1, ⟨hk.2.2.1, ⟨hk.2.2.2.1, hk.2.2.2.2⟩⟩⟩)))
                    (case aS => exact (below_size (Z3 HB GE220 GE247 GE248)))
                    (case aL => have := LMc59.out; omega)
                    intro v260 w89 ho hb hg hat
                    rw [← Ny259.out] at ho
                    have n0_ := Aside0.mk (Kd.N_afterv (ok := (fun k_ => (P0_ k_ ∨ w.heap.size ≤ k_) ∧ k_ ≠ gb220 ∧ k_ ≠ gb247 ∧ k_ ≠ gb248)) (Zn HO_6.out) hg hat)
                    have n1_ := Aside0.mk (Kd.V_afterv (ok := (fun k_ => (P0_ k_ ∨ w.heap.size ≤ k_) ∧ some k_ ≠ (.slice (some ad249) x6_2.length co47 : Value).ownBlock ∧ k_ ≠ gb220 ∧ k_ ≠ gb247 ∧ k_ ≠ gb248)) (Zv HO_221000.out) hg hat)
                    have n2_ := Aside0.mk (Kd.V_afterv (ok := (fun k_ => (P0_ k_ ∨ w.heap.size ≤ k_) ∧ some k_ ≠ (.slice (some ad249) x6_2.length co47 : Value).ownBlock ∧ k_ ≠ gb220 ∧ k_ ≠ gb247 ∧ k_ ≠ gb248)) (Zv HO_221001.out) hg hat)
                    have n3_ := Aside0.mk (blk_grown (g := gb220) (o := .cells #[.slice Ao74 t240.length co74, .slice Ao77 t243.length co77] 25 (0, 0)) (Zb BK220.out) hg (Kd.N_ne HO253.out BK220.out (by decide)))
                    have n4_ := Aside0.mk (Kd.V_afterv (ok := (fun k_ => (P0_ k_ ∨ w.heap.size ≤ k_) ∧ some k_ ≠ (.slice (some ad249) x6_2.length co47 : Value).ownBlock ∧ k_ ≠ gb220 ∧ k_ ≠ gb247 ∧ k_ ≠ gb248)) (Zv HO239.out) hg hat)
                    have n5_ := Aside0.mk (Kd.V_afterv (ok := (fun k_ => (P0_ k_ ∨ w.heap.size ≤ k_) ∧ some k_ ≠ (.slice (some ad249) x6_2.length co47 : Value).ownBlock ∧ k_ ≠ gb220 ∧ k_ ≠ gb247 ∧ k_ ≠ gb248)) (Zv HO242.out) hg hat)
                    have n6_ := Aside0.mk (Kd.V_afterv (ok := (fun k_ => (P0_ k_ ∨ w.heap.size ≤ k_) ∧ some k_ ≠ (.slice (some ad249) x6_2.length co47 : Value).ownBlock ∧ k_ ≠ gb220 ∧ k_ ≠ gb247 ∧ k_ ≠ gb248)) (Zv HO245.out) hg hat)
                    have n7_ := Aside0.mk (blk_grown (g := gb247) (o := .cells #[.int .i64 t235, .int .i64 t236, .slice Ao73 t237.length co73] 28 (0, 0)) (Zb BK247.out) hg (Kd.N_away HO253.out (fun _ hk => hk.2.2.2.1)))
                    have n8_ := Aside0.mk (blk_grown (g := gb248) (o := .cells #[.slice Ao74 t240.length co74, .slice Ao77 t243.length co77] 25 (0, 0)) (Zb BK248.out) hg (Kd.N_ne HO253.out BK248.out (by decide)))
                    have n9_ := Aside0.mk (Kd.V_afterv (ok := (fun k_ => (P0_ k_ ∨ w.heap.size ≤ k_) ∧ some k_ ≠ (.slice (some ad249) x6_2.length co47 : Value).ownBlock ∧ k_ ≠ gb220 ∧ k_ ≠ gb247 ∧ k_ ≠ gb248)) (Zv HL249_2.out) hg hat)
                    have n10_ := Aside0.mk (Kd.V_afterv (ok := (fun k_ => (P0_ k_ ∨ w.heap.size ≤ k_) ∧ k_ ≠ gb220 ∧ k_ ≠ gb247 ∧ k_ ≠ gb248)) (Zv HO258.out) hg hat)
                    have n11_ := Aside0.mk (Kd.V_afterv (ok := (fun k_ => (P0_ k_ ∨ w.heap.size ≤ k_) ∧ k_ ≠ gb220 ∧ k_ ≠ gb247 ∧ k_ ≠ gb248)) (Zv HO266.out) hg hat)
                    have n12_ := Aside0.mk (hb)
                    have n13_ := Aside0.mk (ho)
                    clear HO_6
                    clear HO_221000
                    clear HO_221001
                    clear BK220
                    clear HO239
                    clear HO242
                    clear HO245
                    clear BK247
                    clear BK248
                    clear HL249_2
                    clear HO258
                    clear HO266
                    clear HB
                    clear HO253
                    have HO_6 := n0_
                    have HO_221000 := n1_
                    have HO_221001 := n2_
                    have BK220 := n3_
                    have HO239 := n4_
                    have HO242 := n5_
                    have HO245 := n6_
                    have BK247 := n7_
                    have BK248 := n8_
                    have HL249_2 := n9_
                    have HO258 := n10_
                    have HO266 := n11_
                    have HB := n12_
                    have HO261 := n13_
                    clear n0_ n1_ n2_ n3_ n4_ n5_ n6_ n7_ n8_ n9_ n10_ n11_ n12_ n13_
                    clear ho hb hg hat
                    refine hK.out _ _ trivial (fun hHeld => ?_)
                    clear hK K
                    refine norm_ (a' := ?_) ?_ ?_
                    rotate_left
                    ·show Act.put _ (some 86) _ = _
                     simp only [Act.put, List.setIfInBounds_toArray, List.set_cons_zero, List.set_cons_succ, i64_w, i32_w]
                     rfl
                    refine one_ (i := 9) (N := some 91) #[true, true, true, true, true, true, true, true, true, true, false] rfl rfl (one_of HT_.out (by kernel_rfl)) (by decide) (fun K hK => ?_)
                    refine Kd.N_append_rows_step k28 (w0 := w) w.heap.size (by rfl) (.tmp 86) (.tmp 90) 22 28 (.agg #[(.int .i64 0), (.int .i64 0), (.slice none 0 0)]) 40 rfl Try.underlying22 info28 rfl (by decide) (by omega) v260 y259 y262 _ _ _ (fun k_ => (P0_ k_ ∨ w.heap.size ≤ k_) ∧ k_ ≠ gb220 ∧ k_ ≠ gb247 ∧ k_ ≠ gb248) (fun k_ => ((fun k_ => (P0_ k_ ∨ w.heap.size ≤ k_) ∧ k_ ≠ gb220 ∧ k_ ≠ gb247 ∧ k_ ≠ gb248)) k_ ∧ some k_ ≠ (v260 : Value).ownBlock) rfl rfl ?aO ?aR (fun _ hk => hk) ?aF ?aB ?aS ?aL ?_
                    (case aR => exact (by skip; exact Kd.V_F (Kd.V_mono (ok' := (fun k_ => ((fun k_ => (P0_ k_ ∨ w.heap.size ≤ k_) ∧ k_ ≠ gb220 ∧ k_ ≠ gb247 ∧ k_ ≠ gb248)) k_ ∧ some k_ ≠ (v260 : Value).ownBlock)) (HO266.out) (fun k_ hk => ⟨⟨hk.1.1, ⟨hk.1.2.1, ⟨hk.1.2.2.1, hk.1.2.2.2⟩⟩⟩, hk.2⟩))))
                    (case aB => exact (Z3 HB GE220 GE247 GE248))
                    (case aF => exact (fun k_ hk => ⟨(.inr (Nat.le_trans (below_size (Z3 HB GE220 GE247 GE248)) hk)), Kd.freshB (g := gb220) (o := .cells #[.slice Ao74 t240.length co74, .slice Ao77 t243.length co77] 25 (0, 0)) (Zb BK220.out) k_ hk, Kd.freshB (g := gb247) (o := .cells #[.int .i64 t235, .int .i64 t236, .slice Ao73 t237.length co73] 28 (0, 0)) (Zb BK247.out) k_ hk, Kd.freshB (g := gb248) (o := .cells #[.slice Ao74 t240.length co74, .slice Ao77 t243.length co77] 25 (0, 0)) (Zb BK248.out) k_ hk⟩))
                    (case aO => exact (Zn HO261.out))
                    (case aS => exact (below_size (Z3 HB GE220 GE247 GE248)))
                    (case aL => have := LMc63.out; omega)
                    intro v268 w90 ho hb hg hat
                    rw [← Ny267.out] at ho
                    have n0_ := Aside0.mk (Kd.N_afterv (ok := (fun k_ => (P0_ k_ ∨ w.heap.size ≤ k_) ∧ k_ ≠ gb220 ∧ k_ ≠ gb247 ∧ k_ ≠ gb248)) (Zn HO_6.out) hg hat)
                    have n1_ := Aside0.mk (Kd.V_afterv (ok := (fun k_ => (P0_ k_ ∨ w.heap.size ≤ k_) ∧ some k_ ≠ (.slice (some ad249) x6_2.length co47 : Value).ownBlock ∧ k_ ≠ gb220 ∧ k_ ≠ gb247 ∧ k_ ≠ gb248)) (Zv HO_221000.out) hg hat)
                    have n2_ := Aside0.mk (Kd.V_afterv (ok := (fun k_ => (P0_ k_ ∨ w.heap.size ≤ k_) ∧ some k_ ≠ (.slice (some ad249) x6_2.length co47 : Value).ownBlock ∧ k_ ≠ gb220 ∧ k_ ≠ gb247 ∧ k_ ≠ gb248)) (Zv HO_221001.out) hg hat)
                    have n3_ := Aside0.mk (blk_grown (g := gb220) (o := .cells #[.slice Ao74 t240.length co74, .slice Ao77 t243.length co77] 25 (0, 0)) (Zb BK220.out) hg (Kd.N_ne HO261.out BK220.out (by decide)))
                    have n4_ := Aside0.mk (Kd.V_afterv (ok := (fun k_ => (P0_ k_ ∨ w.heap.size ≤ k_) ∧ some k_ ≠ (.slice (some ad249) x6_2.length co47 : Value).ownBlock ∧ k_ ≠ gb220 ∧ k_ ≠ gb247 ∧ k_ ≠ gb248)) (Zv HO239.out) hg hat)
                    have n5_ := Aside0.mk (Kd.V_afterv (ok := (fun k_ => (P0_ k_ ∨ w.heap.size ≤ k_) ∧ some k_ ≠ (.slice (some ad249) x6_2.length co47 : Value).ownBlock ∧ k_ ≠ gb220 ∧ k_ ≠ gb247 ∧ k_ ≠ gb248)) (Zv HO242.out) hg hat)
                    have n6_ := Aside0.mk (Kd.V_afterv (ok := (fun k_ => (P0_ k_ ∨ w.heap.size ≤ k_) ∧ some k_ ≠ (.slice (some ad249) x6_2.length co47 : Value).ownBlock ∧ k_ ≠ gb220 ∧ k_ ≠ gb247 ∧ k_ ≠ gb248)) (Zv HO245.out) hg hat)
                    have n7_ := Aside0.mk (blk_grown (g := gb247) (o := .cells #[.int .i64 t235, .int .i64 t236, .slice Ao73 t237.length co73] 28 (0, 0)) (Zb BK247.out) hg (Kd.N_away HO261.out (fun _ hk => hk.2.2.1)))
                    have n8_ := Aside0.mk (blk_grown (g := gb248) (o := .cells #[.slice Ao74 t240.length co74, .slice Ao77 t243.length co77] 25 (0, 0)) (Zb BK248.out) hg (Kd.N_ne HO261.out BK248.out (by decide)))
                    have n9_ := Aside0.mk (Kd.V_afterv (ok := (fun k_ => (P0_ k_ ∨ w.heap.size ≤ k_) ∧ some k_ ≠ (.slice (some ad249) x6_2.length co47 : Value).ownBlock ∧ k_ ≠ gb220 ∧ k_ ≠ gb247 ∧ k_ ≠ gb248)) (Zv HL249_2.out) hg hat)
                    have n10_ := Aside0.mk (Kd.V_afterv (ok := (fun k_ => (P0_ k_ ∨ w.heap.size ≤ k_) ∧ k_ ≠ gb220 ∧ k_ ≠ gb247 ∧ k_ ≠ gb248)) (Zv HO258.out) hg hat)
                    have n11_ := Aside0.mk (Kd.V_afterv (ok := (fun k_ => (P0_ k_ ∨ w.heap.size ≤ k_) ∧ k_ ≠ gb220 ∧ k_ ≠ gb247 ∧ k_ ≠ gb248)) (Zv HO266.out) hg hat)
                    have n12_ := Aside0.mk (hb)
                    have n13_ := Aside0.mk (ho)
                    clear HO_6
                    clear HO_221000
                    clear HO_221001
                    clear BK220
                    clear HO239
                    clear HO242
                    clear HO245
                    clear BK247
                    clear BK248
                    clear HL249_2
                    clear HO258
                    clear HO266
                    clear HB
                    clear HO261
                    have HO_6 := n0_
                    have HO_221000 := n1_
                    have HO_221001 := n2_
                    have BK220 := n3_
                    have HO239 := n4_
                    have HO242 := n5_
                    have HO245 := n6_
                    have BK247 := n7_
                    have BK248 := n8_
                    have HL249_2 := n9_
                    have HO258 := n10_
                    have HO266 := n11_
                    have HB := n12_
                    have HO269 := n13_
                    clear n0_ n1_ n2_ n3_ n4_ n5_ n6_ n7_ n8_ n9_ n10_ n11_ n12_ n13_
                    clear ho hb hg hat
                    refine hK.out _ _ trivial (fun hHeld => ?_)
                    clear hK K
                    refine norm_ (a' := ?_) ?_ ?_
                    rotate_left
                    ·show Act.put _ (some 91) _ = _
                     simp only [Act.put, List.setIfInBounds_toArray, List.set_cons_zero, List.set_cons_succ, i64_w, i32_w]
                     rfl
                    refine pure_ (i := 10) (N := some 6) (v := ?_) (a' := ?_) #[true, true, true, true, true, true, true, true, true, true, true] rfl rfl (any_of HT_.out (by kernel_rfl)) (fun _ _ _ h => h) (Or.inl ⟨by rfl, ?_⟩) ?_ ?_
                    rotate_left
                    ·intro w'
                     go_simp
                     with_reducible rfl
                    rotate_left
                    ·simp only [Act.put, List.setIfInBounds_toArray, List.set_cons_zero, List.set_cons_succ, i64_w, i32_w]
                     rfl
                    refine done_ (done_of HT_.out (by kernel_rfl)) ?_
                    try go_wp2
                    go_roundg kj45
                    case measure => have := HK1.out; have := HK2.out; have := HJ45.out; omega
                    case rel => exact ⟨(y267), (wrap64 (x10_2 + 1)), (t240), (t243), (.slice Ao74 t240.length co74), (.slice Ao77 t243.length co77), (by first | rfl | (simp; done) | (simp [*]; done)), H', ⟨by have := HK1.out; have := HK2.out; have := HJ45.out; omega⟩, ⟨by refine Zn ?_; exact Kd.N_mono HO269.out (fun _ hk => ⟨hk.1, hk.2.1⟩)⟩, ⟨by refine Zv ?_; exact Kd.V_mono HO242.out (fun _ hk => ⟨hk.1.1, ⟨hk.2, hk.1.2.2.1⟩⟩)⟩, ⟨by refine Zv ?_; exact Kd.V_mono HO245.out (fun _ hk => ⟨hk.1.1, ⟨hk.2, hk.1.2.2.1⟩⟩)⟩, ⟨by refine Zb ?_; exact BK220.out⟩, ⟨(Z3 HB GE220 GE247 GE248)⟩⟩
                   ·rw [if_neg c63] at H
                    exact absurd H (by simp)
                  ·rw [if_neg c62] at H
                   exact absurd H (by simp)
                 ·rw [if_neg c61] at H
                  exact absurd H (by simp)
                ·rw [if_neg c59] at H
                 exact absurd H (by simp)
               ·rw [if_neg c58] at H
                exact absurd H (by simp)
              ·replace c56 := Bool.eq_false_iff.mpr c56
               subst c56
               have H1 : (some false) = some r := by rw [if_neg (show ¬ (false = true) by decide)] at H; exact H
               clear H
               have H := H1
               clear H1
               obtain rfl := Option.some.inj H
               have hcz91_0 : wc.cell? ⟨gb220, 0, none⟩ = some (u221000) := (blk_cell BK220.out 0).trans rfl
               have hcz91_1 : wc.cell? ⟨gb220, 1, none⟩ = some (u221001) := (blk_cell BK220.out 1).trans rfl
               have hfz91_0 := blk_frozen BK220.out 0
               have hfz91_1 := blk_frozen BK220.out 1
               obtain ⟨Ao92, co92, eo92⟩ := Kd.V_slice HO_221000.out
               subst eo92
               obtain ⟨Ao93, co93, eo93⟩ := Kd.V_slice HO_221001.out
               subst eo93
               try go_wp2_with (first | ((with_reducible refine gate_callee (f := 18) rfl ?_); refine goesL_ (some 66) rfl rfl Try.func18 (by kernel_rfl) rfl #[.agg #[.slice Ao92 x221000_2.length co92, .slice Ao93 x221001_2.length co93], .int .i64 x11_45] rfl (by (try simp only [List.map_toArray, List.map_cons, List.map_nil]); first | done | rfl | (simp only [List.length_drop, List.length_take]; rfl)) ?_; (with_reducible refine (network_Deliver.calls kj45 (fun k_ => ((P0_ k_ ∨ w.heap.size ≤ k_) ∧ (some k_ ≠ (.slice Ao47 x6_2.length co47 : Value).ownBlock ∧ k_ ≠ gb220))) _ _ x221000_2 (fun k_ => ((P0_ k_ ∨ w.heap.size ≤ k_) ∧ (some k_ ≠ (.slice Ao47 x6_2.length co47 : Value).ownBlock ∧ k_ ≠ gb220))) _ _ x221001_2 x11_45 t235 t236 t237 t240 t243 t246 _ ?side1 ?side2 A51.out).mono ?_); (case side1 => exact HO_221000.out); (case side2 => exact HO_221001.out); rintro e w94 ⟨v238, v241, v244, rfl, ho0, ho1, ho2, hb⟩; refine ⟨_, rfl, ?_⟩; have n0_ := Aside0.mk (Kd.N_below (Zn HO_6.out) hb); have n1_ := Aside0.mk (Kd.V_below (Zv HO_221000.out) hb); have n2_ := Aside0.mk (Kd.V_below (Zv HO_221001.out) hb); have n3_ := Aside0.mk (Kd.V_lower (Kd.V_mono (ok' := fun k_ => (P0_ k_ ∨ w.heap.size ≤ k_) ∧ some k_ ≠ (.slice Ao47 x6_2.length co47 : Value).ownBlock ∧ k_ ≠ gb220) ho0 (fun k_ hk_ => ⟨Or.elim hk_ (fun hs_ => Or.elim hs_ (fun hs_ => hs_.1) (fun hs_ => hs_.1)) (fun hn_ => (.inr (Nat.le_trans (below_size (Z1 HB GE220)) hn_))), Or.elim hk_ (fun hs_ => Or.elim hs_ (fun hs_ => hs_.2.1) (fun hs_ => hs_.2.1)) (fun hn_ => (Kd.fresh' (Kd.N_lt (Zn HO_6.out)) k_ hn_)), Or.elim hk_ (fun hs_ => Or.elim hs_ (fun hs_ => hs_.2.2) (fun hs_ => hs_.2.2)) (fun hn_ => (Kd.freshB (g := gb220) (o := .cells #[.slice Ao92 x221000_2.length co92, .slice Ao93 x221001_2.length co93] 25 (0, 0)) (Zb BK220.out) k_ hn_))⟩)) (below_size (Z1 HB GE220))); have n4_ := Aside0.mk (Kd.V_lower (Kd.V_mono (ok' := fun k_ => (P0_ k_ ∨ w.heap.size ≤ k_) ∧ some k_ ≠ (.slice Ao47 x6_2.length co47 : Value).ownBlock ∧ k_ ≠ gb220) ho1 (fun k_ hk_ => ⟨Or.elim hk_ (fun hs_ => Or.elim hs_ (fun hs_ => hs_.1) (fun hs_ => hs_.1)) (fun hn_ => (.inr (Nat.le_trans (below_size (Z1 HB GE220)) hn_))), Or.elim hk_ (fun hs_ => Or.elim hs_ (fun hs_ => hs_.2.1) (fun hs_ => hs_.2.1)) (fun hn_ => (Kd.fresh' (Kd.N_lt (Zn HO_6.out)) k_ hn_)), Or.elim hk_ (fun hs_ => Or.elim hs_ (fun hs_ => hs_.2.2) (fun hs_ => hs_.2.2)) (fun hn_ => (Kd.freshB (g := gb220) (o := .cells #[.slice Ao92 x221000_2.length co92, .slice Ao93 x221001_2.length co93] 25 (0, 0)) (Zb BK220.out) k_ hn_))⟩)) (below_size (Z1 HB GE220))); have n5_ := Aside0.mk (Kd.V_lower (Kd.V_mono (ok' := fun k_ => (P0_ k_ ∨ w.heap.size ≤ k_) ∧ some k_ ≠ (.slice Ao47 x6_2.length co47 : Value).ownBlock ∧ k_ ≠ gb220) ho2 (fun k_ hk_ => ⟨Or.elim hk_ (fun hs_ => Or.elim hs_ (fun hs_ => hs_.1) (fun hs_ => hs_.1)) (fun hn_ => (.inr (Nat.le_trans (below_size (Z1 HB GE220)) hn_))), Or.elim hk_ (fun hs_ => Or.elim hs_ (fun hs_ => hs_.2.1) (fun hs_ => hs_.2.1)) (fun hn_ => (Kd.fresh' (Kd.N_lt (Zn HO_6.out)) k_ hn_)), Or.elim hk_ (fun hs_ => Or.elim hs_ (fun hs_ => hs_.2.2) (fun hs_ => hs_.2.2)) (fun hn_ => (Kd.freshB (g := gb220) (o := .cells #[.slice Ao92 x221000_2.length co92, .slice Ao93 x221001_2.length co93] 25 (0, 0)) (Zb BK220.out) k_ hn_))⟩)) (below_size (Z1 HB GE220))); have n6_ := Aside0.mk (blk_below (g := gb220) (o := .cells #[.slice Ao92 x221000_2.length co92, .slice Ao93 x221001_2.length co93] 25 (0, 0)) (Zb BK220.out) hb); have n7_ := Aside0.mk (below_step (Z1 HB GE220) hb); clear HO_6; clear HO_221000; clear HO_221001; clear BK220; clear HB; have HO_6 := n0_; have HO_221000 := n1_; have HO_221001 := n2_; have HO239 := n3_; have HO242 := n4_; have HO245 := n5_; have BK220 := n6_; have HB := n7_; clear n0_ n1_ n2_ n3_ n4_ n5_ n6_ n7_; (try clear hb); (try clear hb2); (try clear hk); (try clear hi); (try clear ho0); (try clear ho1); (try clear ho2)) | ((with_reducible refine gate_dst (N := 12) rfl ?_); refine box_event ?hg (N := 12) ?hd (cs := #[.int .i64 0, .int .i64 0, .slice none 0 0]) (t := 28) ?hr ?_; (case hd => rfl); (case hg => rfl); (case hr => first | (go_simp; done) | (go_simp; rfl)); intro gb247 hg w95 hbox hb; have n0_ := Aside0.mk (Kd.N_below (Kd.N_elderB (Zn HO_6.out) gb247 (Nat.le_of_eq hg.symm)) hb); have n1_ := Aside0.mk (Kd.V_below (Kd.V_elderB (Zv HO_221000.out) gb247 (Nat.le_of_eq hg.symm)) hb); have n2_ := Aside0.mk (Kd.V_below (Kd.V_elderB (Zv HO_221001.out) gb247 (Nat.le_of_eq hg.symm)) hb); have n3_ := Aside0.mk (Kd.V_below (Kd.V_elderB (Zv HO239.out) gb247 (Nat.le_of_eq hg.symm)) hb); have n4_ := Aside0.mk (Kd.V_below (Kd.V_elderB (Zv HO242.out) gb247 (Nat.le_of_eq hg.symm)) hb); have n5_ := Aside0.mk (Kd.V_below (Kd.V_elderB (Zv HO245.out) gb247 (Nat.le_of_eq hg.symm)) hb); have n6_ := Aside0.mk (blk_below (g := gb220) (o := .cells #[.slice Ao92 x221000_2.length co92, .slice Ao93 x221001_2.length co93] 25 (0, 0)) (Zb BK220.out) hb); have n7_ := Aside0.mk (below_step (Z1 HB GE220) hb); have n8_ := Aside0.mk (hbox); have n9_ := Aside0.mk ((by rw [hg]; exact (below_size (Z1 HB GE220)) : w.heap.size ≤ gb247)); have n10_ := Aside0.mk ((by rw [hg]; exact (below_size (Z1 HB GE220)) : w.heap.size ≤ gb247)); have n11_ := Aside0.mk ((by rw [hg]; exact Nat.ne_of_lt (blk_lt (g := gb220) (o := .cells #[.slice Ao92 x221000_2.length co92, .slice Ao93 x221001_2.length co93] 25 (0, 0)) (Zb BK220.out)) : gb220 ≠ gb247)); have n12_ := Aside0.mk ((by rw [hg]; exact Nat.ne_of_gt (blk_lt (g := gb220) (o := .cells #[.slice Ao92 x221000_2.length co92, .slice Ao93 x221001_2.length co93] 25 (0, 0)) (Zb BK220.out)) : gb247 ≠ gb220)); clear HO_6; clear HO_221000; clear HO_221001; clear HO239; clear HO242; clear HO245; clear BK220; clear HB; have HO_6 := n0_; have HO_221000 := n1_; have HO_221001 := n2_; have HO239 := n3_; have HO242 := n4_; have HO245 := n5_; have BK220 := n6_; have HB := n7_; have BK247 := n8_; have GW247 := n9_; have GE247 := n10_; have NB220_247 := n11_; have NB247_220 := n12_; clear n0_ n1_ n2_ n3_ n4_ n5_ n6_ n7_ n8_ n9_ n10_ n11_ n12_; clear hb hbox hg) | ((with_reducible refine gate_dst (N := 13) rfl ?_); refine box_event ?hg (N := 13) ?hd (cs := #[.slice none 0 0, .slice none 0 0]) (t := 25) ?hr ?_; (case hd => rfl); (case hg => rfl); (case hr => first | (go_simp; done) | (go_simp; rfl)); intro gb248 hg w96 hbox hb; have n0_ := Aside0.mk (Kd.N_below (Kd.N_elderB (Zn HO_6.out) gb248 (Nat.le_of_eq hg.symm)) hb); have n1_ := Aside0.mk (Kd.V_below (Kd.V_elderB (Zv HO_221000.out) gb248 (Nat.le_of_eq hg.symm)) hb); have n2_ := Aside0.mk (Kd.V_below (Kd.V_elderB (Zv HO_221001.out) gb248 (Nat.le_of_eq hg.symm)) hb); have n3_ := Aside0.mk (Kd.V_below (Kd.V_elderB (Zv HO239.out) gb248 (Nat.le_of_eq hg.symm)) hb); have n4_ := Aside0.mk (Kd.V_below (Kd.V_elderB (Zv HO242.out) gb248 (Nat.le_of_eq hg.symm)) hb); have n5_ := Aside0.mk (Kd.V_below (Kd.V_elderB (Zv HO245.out) gb248 (Nat.le_of_eq hg.symm)) hb); have n6_ := Aside0.mk (blk_below (g := gb220) (o := .cells #[.slice Ao92 x221000_2.length co92, .slice Ao93 x221001_2.length co93] 25 (0, 0)) (Zb BK220.out) hb); have n7_ := Aside0.mk (blk_below (g := gb247) (o := .cells #[.int .i64 0, .int .i64 0, .slice none 0 0] 28 (0, 0)) (Zb BK247.out) hb); have n8_ := Aside0.mk (below_step (Z2 HB GE220 GE247) hb); have n9_ := Aside0.mk (hbox); have n10_ := Aside0.mk ((by rw [hg]; exact (below_size (Z2 HB GE220 GE247)) : w.heap.size ≤ gb248)); have n11_ := Aside0.mk ((by rw [hg]; exact (below_size (Z2 HB GE220 GE247)) : w.heap.size ≤ gb248)); have n12_ := Aside0.mk ((by rw [hg]; exact Nat.ne_of_lt (blk_lt (g := gb220) (o := .cells #[.slice Ao92 x221000_2.length co92, .slice Ao93 x221001_2.length co93] 25 (0, 0)) (Zb BK220.out)) : gb220 ≠ gb248)); have n13_ := Aside0.mk ((by rw [hg]; exact Nat.ne_of_gt (blk_lt (g := gb220) (o := .cells #[.slice Ao92 x221000_2.length co92, .slice Ao93 x221001_2.length co93] 25 (0, 0)) (Zb BK220.out)) : gb248 ≠ gb220)); have n14_ := Aside0.mk ((by rw [hg]; exact Nat.ne_of_lt (blk_lt (g := gb247) (o := .cells #[.int .i64 0, .int .i64 0, .slice none 0 0] 28 (0, 0)) (Zb BK247.out)) : gb247 ≠ gb248)); have n15_ := Aside0.mk ((by rw [hg]; exact Nat.ne_of_gt (blk_lt (g := gb247) (o := .cells #[.int .i64 0, .int .i64 0, .slice none 0 0] 28 (0, 0)) (Zb BK247.out)) : gb248 ≠ gb247)); clear HO_6; clear HO_221000; clear HO_221001; clear HO239; clear HO242; clear HO245; clear BK220; clear BK247; clear HB; have HO_6 := n0_; have HO_221000 := n1_; have HO_221001 := n2_; have HO239 := n3_; have HO242 := n4_; have HO245 := n5_; have BK220 := n6_; have BK247 := n7_; have HB := n8_; have BK248 := n9_; have GW248 := n10_; have GE248 := n11_; have NB220_248 := n12_; have NB248_220 := n13_; have NB247_248 := n14_; have NB248_247 := n15_; clear n0_ n1_ n2_ n3_ n4_ n5_ n6_ n7_ n8_ n9_ n10_ n11_ n12_ n13_ n14_ n15_; clear hb hbox hg; have hnb97 := NB247_220.out; have hnc97 := NB220_247.out; have hnb98 := NB247_248.out; have hnc98 := NB248_247.out; have hcz99_0 : w96.cell? ⟨gb247, 0, none⟩ = some (.int .i64 0) := (blk_cell BK247.out 0).trans rfl; have hcz99_1 : w96.cell? ⟨gb247, 1, none⟩ = some (.int .i64 0) := (blk_cell BK247.out 1).trans rfl; have hcz99_2 : w96.cell? ⟨gb247, 2, none⟩ = some (.slice none 0 0) := (blk_cell BK247.out 2).trans rfl; have hfz99_0 := blk_frozen BK247.out 0; have hfz99_1 := blk_frozen BK247.out 1; have hfz99_2 := blk_frozen BK247.out 2; obtain ⟨Ao100, co100, eo100⟩ := Kd.V_slice HO239.out; subst eo100; obtain ⟨Ao101, co101, eo101⟩ := Kd.V_slice HO242.out; subst eo101; have hnb102 := NB248_220.out; have hnc102 := NB220_248.out; have hcz103_0 : w96.cell? ⟨gb248, 0, none⟩ = some (.slice none 0 0) := (blk_cell BK248.out 0).trans rfl; have hcz103_1 : w96.cell? ⟨gb248, 1, none⟩ = some (.slice none 0 0) := (blk_cell BK248.out 1).trans rfl; have hfz103_0 := blk_frozen BK248.out 0; have hfz103_1 := blk_frozen BK248.out 1; obtain ⟨Ao104, co104, eo104⟩ := Kd.V_slice HO245.out; subst eo104))
               have n0_ : Aside0 (Kd.N k28 28 (((((w96.setCell ⟨gb247, 0, none⟩ (.int .i64 t235)).setCell ⟨gb247, 1, none⟩ (.int .i64 t236)).setCell ⟨gb247, 2, none⟩ (.slice Ao100 t237.length co100)).setCell ⟨gb248, 0, none⟩ (.slice Ao101 t240.length co101)).setCell ⟨gb248, 1, none⟩ (.slice Ao104 t243.length co104)) w.heap.size (fun k_ => (P0_ k_ ∨ w.heap.size ≤ k_) ∧ k_ ≠ gb220 ∧ k_ ≠ gb247 ∧ k_ ≠ gb248) (.slice Ao47 x6_2.length co47) x6_2) := ⟨by refine Zn ?_; exact Kd.N_mono (Kd.N_far (p := ⟨gb248, 1, none⟩) (Kd.N_far (p := ⟨gb248, 0, none⟩) (Kd.N_far (p := ⟨gb247, 2, none⟩) (Kd.N_far (p := ⟨gb247, 1, none⟩) (Kd.N_far (p := ⟨gb247, 0, none⟩) (Kd.N_mono (Kd.N_mono HO_6.out (fun k_ hk => (⟨hk, hk.1.2⟩ : _ ∧ k_ ≠ gb247))) (fun k_ hk => (⟨hk, hk.1.2⟩ : _ ∧ k_ ≠ gb248))) (fun _ hk => hk.1.2) (.int .i64 t235)) (fun _ hk => hk.1.2) (.int .i64 t236)) (fun _ hk => hk.1.2) (.slice Ao100 t237.length co100)) (fun _ hk => hk.2) (.slice Ao101 t240.length co101)) (fun _ hk => hk.2) (.slice Ao104 t243.length co104)) (fun _ hk => ⟨hk.1.1.1.1.1, ⟨hk.1.1.1.1.2, ⟨hk.1.1.1.2, hk.1.1.2⟩⟩⟩)⟩
               have n1_ : Aside0 (Kd.V k28 28 (((((w96.setCell ⟨gb247, 0, none⟩ (.int .i64 t235)).setCell ⟨gb247, 1, none⟩ (.int .i64 t236)).setCell ⟨gb247, 2, none⟩ (.slice Ao100 t237.length co100)).setCell ⟨gb248, 0, none⟩ (.slice Ao101 t240.length co101)).setCell ⟨gb248, 1, none⟩ (.slice Ao104 t243.length co104)) w.heap.size (fun k_ => (P0_ k_ ∨ w.heap.size ≤ k_) ∧ some k_ ≠ (.slice Ao47 x6_2.length co47 : Value).ownBlock ∧ k_ ≠ gb220 ∧ k_ ≠ gb247 ∧ k_ ≠ gb248) (.slice Ao92 x221000_2.length co92) x221000_2) := ⟨by refine Zv ?_; exact Kd.V_mono (Kd.V_far (p := ⟨gb248, 1, none⟩) (Kd.V_far (p := ⟨gb248, 0, none⟩) (Kd.V_far (p := ⟨gb247, 2, none⟩) (Kd.V_far (p := ⟨gb247, 1, none⟩) (Kd.V_far (p := ⟨gb247, 0, none⟩) (Kd.V_mono (Kd.V_mono HO_221000.out (fun k_ hk => (⟨hk, hk.1.2⟩ : _ ∧ k_ ≠ gb247))) (fun k_ hk => (⟨hk, hk.1.2⟩ : _ ∧ k_ ≠ gb248))) (fun _ hk => hk.1.2) (.int .i64 t235)) (fun _ hk => hk.1.2) (.int .i64 t236)) (fun _ hk => hk.1.2) (.slice Ao100 t237.length co100)) (fun _ hk => hk.2) (.slice Ao101 t240.length co101)) (fun _ hk => hk.2) (.slice Ao104 t243.length co104)) (fun _ hk => ⟨hk.1.1.1.1.1, ⟨hk.1.1.1.1.2.1, ⟨hk.1.1.1.1.2.2, ⟨hk.1.1.1.2, hk.1.1.2⟩⟩⟩⟩)⟩
               have n2_ : Aside0 (Kd.V k55 55 (((((w96.setCell ⟨gb247, 0, none⟩ (.int .i64 t235)).setCell ⟨gb247, 1, none⟩ (.int .i64 t236)).setCell ⟨gb247, 2, none⟩ (.slice Ao100 t237.length co100)).setCell ⟨gb248, 0, none⟩ (.slice Ao101 t240.length co101)).setCell ⟨gb248, 1, none⟩ (.slice Ao104 t243.length co104)) w.heap.size (fun k_ => (P0_ k_ ∨ w.heap.size ≤ k_) ∧ some k_ ≠ (.slice Ao47 x6_2.length co47 : Value).ownBlock ∧ k_ ≠ gb220 ∧ k_ ≠ gb247 ∧ k_ ≠ gb248) (.slice Ao93 x221001_2.length co93) x221001_2) := ⟨by refine Zv ?_; exact Kd.V_mono (Kd.V_far (p := ⟨gb248, 1, none⟩) (Kd.V_far (p := ⟨gb248, 0, none⟩) (Kd.V_far (p := ⟨gb247, 2, none⟩) (Kd.V_far (p := ⟨gb247, 1, none⟩) (Kd.V_far (p := ⟨gb247, 0, none⟩) (Kd.V_mono (Kd.V_mono HO_221001.out (fun k_ hk => (⟨hk, hk.1.2⟩ : _ ∧ k_ ≠ gb247))) (fun k_ hk => (⟨hk, hk.1.2⟩ : _ ∧ k_ ≠ gb248))) (fun _ hk => hk.1.2) (.int .i64 t235)) (fun _ hk => hk.1.2) (.int .i64 t236)) (fun _ hk => hk.1.2) (.slice Ao100 t237.length co100)) (fun _ hk => hk.2) (.slice Ao101 t240.length co101)) (fun _ hk => hk.2) (.slice Ao104 t243.length co104)) (fun _ hk => ⟨hk.1.1.1.1.1, ⟨hk.1.1.1.1.2.1, ⟨hk.1.1.1.1.2.2, ⟨hk.1.1.1.2, hk.1.1.2⟩⟩⟩⟩)⟩
               have n3_ : Aside0 (Kd.V (Kd.int .u8) 5 (((((w96.setCell ⟨gb247, 0, none⟩ (.int .i64 t235)).setCell ⟨gb247, 1, none⟩ (.int .i64 t236)).setCell ⟨gb247, 2, none⟩ (.slice Ao100 t237.length co100)).setCell ⟨gb248, 0, none⟩ (.slice Ao101 t240.length co101)).setCell ⟨gb248, 1, none⟩ (.slice Ao104 t243.length co104)) w.heap.size (fun k_ => (P0_ k_ ∨ w.heap.size ≤ k_) ∧ some k_ ≠ (.slice Ao47 x6_2.length co47 : Value).ownBlock ∧ k_ ≠ gb220 ∧ k_ ≠ gb247 ∧ k_ ≠ gb248) (.slice Ao100 t237.length co100) t237) := ⟨by refine Zv ?_; exact Kd.V_mono (Kd.V_far (p := ⟨gb248, 1, none⟩) (Kd.V_far (p := ⟨gb248, 0, none⟩) (Kd.V_far (p := ⟨gb247, 2, none⟩) (Kd.V_far (p := ⟨gb247, 1, none⟩) (Kd.V_far (p := ⟨gb247, 0, none⟩) (Kd.V_mono (Kd.V_mono HO239.out (fun k_ hk => (⟨hk, hk.1.2⟩ : _ ∧ k_ ≠ gb247))) (fun k_ hk => (⟨hk, hk.1.2⟩ : _ ∧ k_ ≠ gb248))) (fun _ hk => hk.1.2) (.int .i64 t235)) (fun _ hk => hk.1.2) (.int .i64 t236)) (fun _ hk => hk.1.2) (.slice Ao100 t237.length co100)) (fun _ hk => hk.2) (.slice Ao101 t240.length co101)) (fun _ hk => hk.2) (.slice Ao104 t243.length co104)) (fun _ hk => ⟨hk.1.1.1.1.1, ⟨hk.1.1.1.1.2.1, ⟨hk.1.1.1.1.2.2, ⟨hk.1.1.1.2, hk.1.1.2⟩⟩⟩⟩)⟩
               have n4_ : Aside0 (Kd.V k28 28 (((((w96.setCell ⟨gb247, 0, none⟩ (.int .i64 t235)).setCell ⟨gb247, 1, none⟩ (.int .i64 t236)).setCell ⟨gb247, 2, none⟩ (.slice Ao100 t237.length co100)).setCell ⟨gb248, 0, none⟩ (.slice Ao101 t240.length co101)).setCell ⟨gb248, 1, none⟩ (.slice Ao104 t243.length co104)) w.heap.size (fun k_ => (P0_ k_ ∨ w.heap.size ≤ k_) ∧ some k_ ≠ (.slice Ao47 x6_2.length co47 : Value).ownBlock ∧ k_ ≠ gb220 ∧ k_ ≠ gb247 ∧ k_ ≠ gb248) (.slice Ao101 t240.length co101) t240) := ⟨by refine Zv ?_; exact Kd.V_mono (Kd.V_far (p := ⟨gb248, 1, none⟩) (Kd.V_far (p := ⟨gb248, 0, none⟩) (Kd.V_far (p := ⟨gb247, 2, none⟩) (Kd.V_far (p := ⟨gb247, 1, none⟩) (Kd.V_far (p := ⟨gb247, 0, none⟩) (Kd.V_mono (Kd.V_mono HO242.out (fun k_ hk => (⟨hk, hk.1.2⟩ : _ ∧ k_ ≠ gb247))) (fun k_ hk => (⟨hk, hk.1.2⟩ : _ ∧ k_ ≠ gb248))) (fun _ hk => hk.1.2) (.int .i64 t235)) (fun _ hk => hk.1.2) (.int .i64 t236)) (fun _ hk => hk.1.2) (.slice Ao100 t237.length co100)) (fun _ hk => hk.2) (.slice Ao101 t240.length co101)) (fun _ hk => hk.2) (.slice Ao104 t243.length co104)) (fun _ hk => ⟨hk.1.1.1.1.1, ⟨hk.1.1.1.1.2.1, ⟨hk.1.1.1.1.2.2, ⟨hk.1.1.1.2, hk.1.1.2⟩⟩⟩⟩)⟩
               have n5_ : Aside0 (Kd.V k55 55 (((((w96.setCell ⟨gb247, 0, none⟩ (.int .i64 t235)).setCell ⟨gb247, 1, none⟩ (.int .i64 t236)).setCell ⟨gb247, 2, none⟩ (.slice Ao100 t237.length co100)).setCell ⟨gb248, 0, none⟩ (.slice Ao101 t240.length co101)).setCell ⟨gb248, 1, none⟩ (.slice Ao104 t243.length co104)) w.heap.size (fun k_ => (P0_ k_ ∨ w.heap.size ≤ k_) ∧ some k_ ≠ (.slice Ao47 x6_2.length co47 : Value).ownBlock ∧ k_ ≠ gb220 ∧ k_ ≠ gb247 ∧ k_ ≠ gb248) (.slice Ao104 t243.length co104) t243) := ⟨by refine Zv ?_; exact Kd.V_mono (Kd.V_far (p := ⟨gb248, 1, none⟩) (Kd.V_far (p := ⟨gb248, 0, none⟩) (Kd.V_far (p := ⟨gb247, 2, none⟩) (Kd.V_far (p := ⟨gb247, 1, none⟩) (Kd.V_far (p := ⟨gb247, 0, none⟩) (Kd.V_mono (Kd.V_mono HO245.out (fun k_ hk => (⟨hk, hk.1.2⟩ : _ ∧ k_ ≠ gb247))) (fun k_ hk => (⟨hk, hk.1.2⟩ : _ ∧ k_ ≠ gb248))) (fun _ hk => hk.1.2) (.int .i64 t235)) (fun _ hk => hk.1.2) (.int .i64 t236)) (fun _ hk => hk.1.2) (.slice Ao100 t237.length co100)) (fun _ hk => hk.2) (.slice Ao101 t240.length co101)) (fun _ hk => hk.2) (.slice Ao104 t243.length co104)) (fun _ hk => ⟨hk.1.1.1.1.1, ⟨hk.1.1.1.1.2.1, ⟨hk.1.1.1.1.2.2, ⟨hk.1.1.1.2, hk.1.1.2⟩⟩⟩⟩)⟩
               have n6_ : Aside0 ((((((w96.setCell ⟨gb247, 0, none⟩ (.int .i64 t235)).setCell ⟨gb247, 1, none⟩ (.int .i64 t236)).setCell ⟨gb247, 2, none⟩ (.slice Ao100 t237.length co100)).setCell ⟨gb248, 0, none⟩ (.slice Ao101 t240.length co101)).setCell ⟨gb248, 1, none⟩ (.slice Ao104 t243.length co104)).heap[gb220]? = some (.cells #[.slice Ao92 x221000_2.length co92, .slice Ao93 x221001_2.length co93] 25 (0, 0))) := ⟨by refine Zb ?_; refine blk_far ?_ NB220_248.out _; refine Zb ?_; refine blk_far ?_ NB220_248.out _; refine Zb ?_; refine blk_far ?_ NB220_247.out _; refine Zb ?_; refine blk_far ?_ NB220_247.out _; refine Zb ?_; refine blk_far ?_ NB220_247.out _; refine Zb ?_; exact BK220.out⟩
               have n7_ : Aside0 ((((((w96.setCell ⟨gb247, 0, none⟩ (.int .i64 t235)).setCell ⟨gb247, 1, none⟩ (.int .i64 t236)).setCell ⟨gb247, 2, none⟩ (.slice Ao100 t237.length co100)).setCell ⟨gb248, 0, none⟩ (.slice Ao101 t240.length co101)).setCell ⟨gb248, 1, none⟩ (.slice Ao104 t243.length co104)).heap[gb247]? = some (.cells #[.int .i64 t235, .int .i64 t236, .slice Ao100 t237.length co100] 28 (0, 0))) := ⟨by refine Zb ?_; refine blk_far ?_ NB247_248.out _; refine Zb ?_; refine blk_far ?_ NB247_248.out _; refine Zb ?_; refine blk_put (cs := #[.int .i64 t235, .int .i64 t236, .slice none 0 0]) ?_ 2 _ rfl; refine Zb ?_; refine blk_put (cs := #[.int .i64 t235, .int .i64 0, .slice none 0 0]) ?_ 1 _ rfl; refine Zb ?_; refine blk_put (cs := #[.int .i64 0, .int .i64 0, .slice none 0 0]) ?_ 0 _ rfl; refine Zb ?_; exact BK247.out⟩
               have n8_ : Aside0 ((((((w96.setCell ⟨gb247, 0, none⟩ (.int .i64 t235)).setCell ⟨gb247, 1, none⟩ (.int .i64 t236)).setCell ⟨gb247, 2, none⟩ (.slice Ao100 t237.length co100)).setCell ⟨gb248, 0, none⟩ (.slice Ao101 t240.length co101)).setCell ⟨gb248, 1, none⟩ (.slice Ao104 t243.length co104)).heap[gb248]? = some (.cells #[.slice Ao101 t240.length co101, .slice Ao104 t243.length co104] 25 (0, 0))) := ⟨by refine Zb ?_; refine blk_put (cs := #[.slice Ao101 t240.length co101, .slice none 0 0]) ?_ 1 _ rfl; refine Zb ?_; refine blk_put (cs := #[.slice none 0 0, .slice none 0 0]) ?_ 0 _ rfl; refine Zb ?_; refine blk_far ?_ NB248_247.out _; refine Zb ?_; refine blk_far ?_ NB248_247.out _; refine Zb ?_; refine blk_far ?_ NB248_247.out _; refine Zb ?_; exact BK248.out⟩
               have n9_ : Aside0 (Below w.heap.size w (((((w96.setCell ⟨gb247, 0, none⟩ (.int .i64 t235)).setCell ⟨gb247, 1, none⟩ (.int .i64 t236)).setCell ⟨gb247, 2, none⟩ (.slice Ao100 t237.length co100)).setCell ⟨gb248, 0, none⟩ (.slice Ao101 t240.length co101)).setCell ⟨gb248, 1, none⟩ (.slice Ao104 t243.length co104))) := ⟨(Z3 HB GE220 GE247 GE248)⟩
               (try clear HO_6)
               (try clear HO_221000)
               (try clear HO_221001)
               (try clear HO239)
               (try clear HO242)
               (try clear HO245)
               (try clear BK220)
               (try clear BK247)
               (try clear BK248)
               (try clear HB)
               generalize (((((w96.setCell ⟨gb247, 0, none⟩ (.int .i64 t235)).setCell ⟨gb247, 1, none⟩ (.int .i64 t236)).setCell ⟨gb247, 2, none⟩ (.slice Ao100 t237.length co100)).setCell ⟨gb248, 0, none⟩ (.slice Ao101 t240.length co101)).setCell ⟨gb248, 1, none⟩ (.slice Ao104 t243.length co104)) = w105 at n0_ n1_ n2_ n3_ n4_ n5_ n6_ n7_ n8_ n9_ ⊢
               have HO_6 := n0_
               have HO_221000 := n1_
               have HO_221001 := n2_
               have HO239 := n3_
               have HO242 := n4_
               have HO245 := n5_
               have BK220 := n6_
               have BK247 := n7_
               have BK248 := n8_
               have HB := n9_
               clear n0_ n1_ n2_ n3_ n4_ n5_ n6_ n7_ n8_ n9_
               have n0_ := Aside0.mk (Kd.N_drew HO_6.out)
               have n1_ := Aside0.mk (Kd.V_drew HO_221000.out)
               have n2_ := Aside0.mk (Kd.V_drew HO_221001.out)
               have n3_ := Aside0.mk (Kd.V_drew HO239.out)
               have n4_ := Aside0.mk (Kd.V_drew HO242.out)
               have n5_ := Aside0.mk (Kd.V_drew HO245.out)
               have n6_ := Aside0.mk (blk_drew BK220.out)
               have n7_ := Aside0.mk (blk_drew BK247.out)
               have n8_ := Aside0.mk (blk_drew BK248.out)
               have n9_ := Aside0.mk (below_drew1 HB.out)
               clear HO_6
               clear HO_221000
               clear HO_221001
               clear HO239
               clear HO242
               clear HO245
               clear BK220
               clear BK247
               clear BK248
               clear HB
               have HO_6 := n0_
               have HO_221000 := n1_
               have HO_221001 := n2_
               have HO239 := n3_
               have HO242 := n4_
               have HO245 := n5_
               have BK220 := n6_
               have BK247 := n7_
               have BK248 := n8_
               have HB := n9_
               clear n0_ n1_ n2_ n3_ n4_ n5_ n6_ n7_ n8_ n9_
               have p249 : 0 ≤ (x11_45 : Int) := of_decide_eq_true (by first | (with_reducible assumption) | assumption)
               have q249 : x11_45 < (x6_2.length : Int) := of_decide_eq_true (by first | (with_reducible assumption) | assumption)
               obtain ⟨ad249, A249_2, c249_2, e249, hx249_0, hx249_1, hx249_2, hl249_2, hi249_2⟩ := at_T28 (Kd.N_reads' HO_6.out).2.2 x11_45 p249 q249
               cases e249
               obtain ⟨ce249, hce249, hMe249, hcc249⟩ := Kd.N_get HO_6.out z28 x11_45 p249 (by first | exact q249 | exact of_decide_eq_true (by first | (with_reducible assumption) | assumption) | (have e_ := (Kd.N_reads' HO_6.out).1; omega))
               obtain ⟨ua249_2, uc249_2, rfl, ul249_2, ge249_2⟩ := k28_openF hMe249
               have hv249_2 := hcc249 2 _ rfl
               rw [add_field _ _ 2 (by omega)] at hv249_2
               replace hv249_2 := Option.some.inj (hv249_2.symm.trans hx249_2)
               injection hv249_2 with hva_ hvn_ hvc_
               rw [hva_] at ge249_2
               rw [hvc_] at ul249_2
               have HL249_2 := Aside0.mk (show Kd.V (Kd.int .u8) 5 _ w.heap.size _ _ ((rd_T28 x6_2 x11_45).f2) from Kd.V_mk ul249_2 ge249_2)
               clear hva_ hvn_ hvc_ ge249_2 ul249_2
               clear hcc249 hce249
               have HR249_2 := Aside0.mk hi249_2
               have HC249_2 := Aside0.mk hl249_2
               clear hi249_2 hl249_2
               replace p249 := eq_true p249
               replace q249 := eq_true q249
               refine start_ (n := 11) (S := fun w' => w'.cell? ⟨gb247, 0, none⟩ = some (.int .i64 t235) ∧ w'.cell? ⟨gb247, 1, none⟩ = some (.int .i64 t236) ∧ w'.cell? ⟨gb247, 2, none⟩ = some (.slice Ao100 t237.length co100) ∧ w'.cell? (ad249.add ((x11_45).toNat * 3)) = some (.int .i64 ((rd_T28 x6_2 x11_45).f0)) ∧ w'.cell? ⟨(ad249.add ((x11_45).toNat * 3)).block, (ad249.add ((x11_45).toNat * 3)).off + 1, none⟩ = some (.int .i64 ((rd_T28 x6_2 x11_45).f1)) ∧ w'.cell? ⟨(ad249.add ((x11_45).toNat * 3)).block, (ad249.add ((x11_45).toNat * 3)).off + 2, none⟩ = some (.slice A249_2 ((rd_T28 x6_2 x11_45).f2).length c249_2)) (ds := []) #[false, false, false, false, false, false, false, false, false, false, false] (by kernel_rfl) rfl rfl ⟨(blk_cell BK247.out 0).trans rfl, (blk_cell BK247.out 1).trans rfl, (blk_cell BK247.out 2).trans rfl, hx249_0, hx249_1, hx249_2⟩ (fun hHeld => ?_); refine with_tabW signatorylaw06_NetworkAll.tab21 signatorylaw06_NetworkAll.bits21 (fun HT_ HW_ => ?_)
               generalize w105.drew = w106 at HO_6 HO_221000 HO_221001 HO239 HO242 HO245 BK220 BK247 BK248 HB HL249_2 HR249_2 hx249_0 hx249_1 hx249_2 hHeld ⊢
               refine pure_ (i := 0) (N := some 70) (v := ?_) (a' := ?_) #[true, false, false, false, false, false, false, false, false, false, false] rfl rfl (any_of HT_.out (by kernel_rfl)) (fun _ _ _ h => h) (Or.inl ⟨by rfl, ?_⟩) ?_ ?_
               rotate_left
               ·intro w'
                go_simp
                with_reducible rfl
               rotate_left
               ·simp only [Act.put, List.setIfInBounds_toArray, List.set_cons_zero, List.set_cons_succ, i64_w, i32_w]
                rfl
               refine pure_ (i := 1) (N := some 71) (v := ?_) (a' := ?_) #[true, true, false, false, false, false, false, false, false, false, false] rfl rfl (any_of HT_.out (by kernel_rfl)) (fun _ _ _ h => h) (Or.inl ⟨by rfl, ?_⟩) ?_ ?_
               rotate_left
               ·intro w'
                go_simp
                with_reducible rfl
               rotate_left
               ·simp only [Act.put, List.setIfInBounds_toArray, List.set_cons_zero, List.set_cons_succ, i64_w, i32_w]
                rfl
               refine pure_ (i := 2) (N := some 72) (v := ?_) (a' := ?_) #[true, true, true, false, false, false, false, false, false, false, false] rfl rfl (any_of HT_.out (by kernel_rfl)) (fun _ _ _ h => h) (Or.inl ⟨by rfl, ?_⟩) ?_ ?_
               rotate_left
               ·intro w'
                go_simp
                with_reducible rfl
               rotate_left
               ·simp only [Act.put, List.setIfInBounds_toArray, List.set_cons_zero, List.set_cons_succ, i64_w, i32_w]
                rfl
               refine pure_ (i := 4) (N := some 74) (v := ?_) (a' := ?_) #[true, true, true, false, true, false, false, false, false, false, false] rfl rfl (any_of HT_.out (by kernel_rfl)) (fun _ _ _ h => h) (Or.inl ⟨by rfl, ?_⟩) ?_ ?_
               rotate_left
               ·intro w'
                go_simp
                with_reducible rfl
               rotate_left
               ·simp only [Act.put, List.setIfInBounds_toArray, List.set_cons_zero, List.set_cons_succ, i64_w, i32_w]
                rfl
               refine pure_ (i := 5) (N := some 75) (v := ?_) (a' := ?_) #[true, true, true, false, true, true, false, false, false, false, false] rfl rfl (any_of HT_.out (by kernel_rfl)) (fun _ _ _ h => h) (Or.inl ⟨by rfl, ?_⟩) ?_ ?_
               rotate_left
               ·intro w'
                go_simp
                with_reducible rfl
               rotate_left
               ·simp only [Act.put, List.setIfInBounds_toArray, List.set_cons_zero, List.set_cons_succ, i64_w, i32_w]
                rfl
               refine pure_ (i := 6) (N := some 76) (v := ?_) (a' := ?_) #[true, true, true, false, true, true, true, false, false, false, false] rfl rfl (any_of HT_.out (by kernel_rfl)) (fun _ _ _ h => h) (Or.inl ⟨by rfl, ?_⟩) ?_ ?_
               rotate_left
               ·intro w'
                go_simp
                with_reducible rfl
               rotate_left
               ·simp only [Act.put, List.setIfInBounds_toArray, List.set_cons_zero, List.set_cons_succ, i64_w, i32_w]
                rfl
               refine take_ (i := 3) (N := some 73) (v := ?_) (a' := ?_) #[true, true, true, true, true, true, true, false, false, false, false] rfl rfl (take_ofW HT_.out HW_.out (by kernel_rfl)) (fun _ _ _ h => h) (Or.inl ⟨by rfl, ?_⟩) hHeld ?_ ?_
               rotate_left
               ·rintro w' ⟨s0, s1, s2, s3, s4, s5⟩
                go_simp
                with_reducible rfl
               rotate_left
               ·simp only [Act.put, List.setIfInBounds_toArray, List.set_cons_zero, List.set_cons_succ, i64_w, i32_w]
                rfl
               refine take_ (i := 7) (N := some 77) (v := ?_) (a' := ?_) #[true, true, true, true, true, true, true, true, false, false, false] rfl rfl (take_ofW HT_.out HW_.out (by kernel_rfl)) (fun _ _ _ h => h) (Or.inl ⟨by rfl, ?_⟩) hHeld ?_ ?_
               rotate_left
               ·rintro w' ⟨s0, s1, s2, s3, s4, s5⟩
                go_simp
                with_reducible rfl
               rotate_left
               ·simp only [Act.put, List.setIfInBounds_toArray, List.set_cons_zero, List.set_cons_succ, i64_w, i32_w]
                rfl
               refine one_ (i := 8) (N := some 78) #[true, true, true, true, true, true, true, true, true, false, false] rfl rfl (one_of HT_.out (by kernel_rfl)) (by decide) (fun K hK => ?_)
               refine goes_ Try.func19 (by kernel_rfl) rfl #[.agg #[.int .i64 t235, .int .i64 t236, .slice Ao100 t237.length co100], .agg #[.int .i64 ((rd_T28 x6_2 x11_45).f0), .int .i64 ((rd_T28 x6_2 x11_45).f1), .slice A249_2 ((rd_T28 x6_2 x11_45).f2).length c249_2]] (by rfl) rfl rfl (by (try simp only [List.map_toArray, List.map_cons, List.map_nil]); first | done | rfl | (simp only [List.length_drop, List.length_take]; rfl)) ?_
               with_reducible refine (signatoryref06_SamePacket.calls t235 t236 _ _ t237 ((rd_T28 x6_2 x11_45).f0) ((rd_T28 x6_2 x11_45).f1) _ _ ((rd_T28 x6_2 x11_45).f2) false _ ?side1 ?side2 ?side3 ?side4 A55.out).mono ?_
               (case side1 => repeat (first | exact (Kd.V_reads' HO239.out).2.2 | (with_reducible refine Kd.C_alloc ?_ _) | (with_reducible refine Kd.C_drewN ?_ _) | (with_reducible refine Kd.C_drew ?_)))
               (case side2 => exact (Kd.V_reads' HO239.out).2.1)
               (case side3 => repeat (first | exact (by repeat (first | (with_reducible exact HR249_2.out) | (with_reducible refine Kd.C_alloc ?_ _) | (with_reducible refine Kd.C_drewN ?_ _) | (with_reducible refine Kd.C_drew ?_) | exact HR249_2.out)) | (with_reducible refine Kd.C_alloc ?_ _) | (with_reducible refine Kd.C_drewN ?_ _) | (with_reducible refine Kd.C_drew ?_)))
               (case side4 => exact HC249_2.out)
               rintro e w107 ⟨rfl, hb⟩
               have HS3_ := (hb.cell (World.block_lt_of_cell? _ _ (hHeld.2.2.2.1))).trans (hHeld.2.2.2.1)
               have HS4_ := (hb.cell (World.block_lt_of_cell? _ _ (hHeld.2.2.2.2.1))).trans (hHeld.2.2.2.2.1)
               have HS5_ := (hb.cell (World.block_lt_of_cell? _ _ (hHeld.2.2.2.2.2))).trans (hHeld.2.2.2.2.2)
               refine ⟨_, rfl, ?_⟩
               have n0_ := Aside0.mk (Kd.N_below (Zn HO_6.out) hb)
               have n1_ := Aside0.mk (Kd.V_below (Zv HO_221000.out) hb)
               have n2_ := Aside0.mk (Kd.V_below (Zv HO_221001.out) hb)
               have n3_ := Aside0.mk (Kd.V_below (Zv HO239.out) hb)
               have n4_ := Aside0.mk (Kd.V_below (Zv HO242.out) hb)
               have n5_ := Aside0.mk (Kd.V_below (Zv HO245.out) hb)
               have n6_ := Aside0.mk (Kd.V_below (Zv HL249_2.out) hb)
               have n7_ := Aside0.mk (blk_below (g := gb220) (o := .cells #[.slice Ao92 x221000_2.length co92, .slice Ao93 x221001_2.length co93] 25 (0, 0)) (Zb BK220.out) hb)
               have n8_ := Aside0.mk (blk_below (g := gb247) (o := .cells #[.int .i64 t235, .int .i64 t236, .slice Ao100 t237.length co100] 28 (0, 0)) (Zb BK247.out) hb)
               have n9_ := Aside0.mk (blk_below (g := gb248) (o := .cells #[.slice Ao101 t240.length co101, .slice Ao104 t243.length co104] 25 (0, 0)) (Zb BK248.out) hb)
               have n10_ := Aside0.mk (Kd.C_below (by repeat (first | (with_reducible exact HR249_2.out) | (with_reducible refine Kd.C_alloc ?_ _) | (with_reducible refine Kd.C_drewN ?_ _) | (with_reducible refine Kd.C_drew ?_) | exact HR249_2.out)) hb)
               have n11_ := Aside0.mk (below_step (Z3 HB GE220 GE247 GE248) hb)
               clear HO_6
               clear HO_221000
               clear HO_221001
               clear HO239
               clear HO242
               clear HO245
               clear HL249_2
               clear BK220
               clear BK247
               clear BK248
               clear HR249_2
               clear HB
               have HO_6 := n0_
               have HO_221000 := n1_
               have HO_221001 := n2_
               have HO239 := n3_
               have HO242 := n4_
               have HO245 := n5_
               have HL249_2 := n6_
               have BK220 := n7_
               have BK247 := n8_
               have BK248 := n9_
               have HR249_2 := n10_
               have HB := n11_
               clear n0_ n1_ n2_ n3_ n4_ n5_ n6_ n7_ n8_ n9_ n10_ n11_
               (try clear hb)
               (try clear hb2)
               (try clear hk)
               (try clear hi)
               refine hK.out _ _ ⟨(blk_cell BK247.out 0).trans rfl, (blk_cell BK247.out 1).trans rfl, (blk_cell BK247.out 2).trans rfl, HS3_, HS4_, HS5_⟩ (fun hHeld => ?_)
               clear hK K
               refine norm_ (a' := ?_) ?_ ?_
               rotate_left
               ·show Act.put _ (some 78) _ = _
                simp only [Act.put, List.setIfInBounds_toArray, List.set_cons_zero, List.set_cons_succ, i64_w, i32_w]
                rfl
               refine pure_ (i := 9) (N := some 79) (v := ?_) (a' := ?_) #[true, true, true, true, true, true, true, true, true, true, false] rfl rfl (any_of HT_.out (by kernel_rfl)) (fun _ _ _ h => h) (Or.inl ⟨by rfl, ?_⟩) ?_ ?_
               rotate_left
               ·intro w'
                go_simp
                with_reducible rfl
               rotate_left
               ·simp only [Act.put, List.setIfInBounds_toArray, List.set_cons_zero, List.set_cons_succ, i64_w, i32_w]
                rfl
               refine pure_ (i := 10) (N := some 80) (v := ?_) (a' := ?_) #[true, true, true, true, true, true, true, true, true, true, true] rfl rfl (any_of HT_.out (by kernel_rfl)) (fun _ _ _ h => h) (Or.inl ⟨by rfl, ?_⟩) ?_ ?_
               rotate_left
               ·intro w'
                go_simp
                with_reducible rfl
               rotate_left
               ·simp only [Act.put, List.setIfInBounds_toArray, List.set_cons_zero, List.set_cons_succ, i64_w, i32_w]
                rfl
               refine done_ (done_of HT_.out (by kernel_rfl)) ?_
               try go_wp2
               go_ret
               exact ⟨by first | rfl | (simp [errW_none, errW_some] <;> rfl) | (simp [*, errW_none, errW_some] <;> rfl), (Z3 HB GE220 GE247 GE248)⟩
             ·rw [if_neg c54] at H
              exact absurd H (by simp)
            ·rw [if_neg c53] at H
             exact absurd H (by simp)
           ·rw [if_neg c52] at H
            have c52b0 : (t246 == 0) = false := beq_eq_false_iff_ne.mpr c52
            have c52b1 : (t246 != 0) = true := bne_iff_ne.mpr c52
            obtain rfl := Option.some.inj H
            have hcz108_0 : wc.cell? ⟨gb220, 0, none⟩ = some (u221000) := (blk_cell BK220.out 0).trans rfl
            have hcz108_1 : wc.cell? ⟨gb220, 1, none⟩ = some (u221001) := (blk_cell BK220.out 1).trans rfl
            have hfz108_0 := blk_frozen BK220.out 0
            have hfz108_1 := blk_frozen BK220.out 1
            obtain ⟨Ao109, co109, eo109⟩ := Kd.V_slice HO_221000.out
            subst eo109
            obtain ⟨Ao110, co110, eo110⟩ := Kd.V_slice HO_221001.out
            subst eo110
            try go_wp2_with (first | ((with_reducible refine gate_callee (f := 18) rfl ?_); refine goesL_ (some 66) rfl rfl Try.func18 (by kernel_rfl) rfl #[.agg #[.slice Ao109 x221000_2.length co109, .slice Ao110 x221001_2.length co110], .int .i64 x11_45] rfl (by (try simp only [List.map_toArray, List.map_cons, List.map_nil]); first | done | rfl | (simp only [List.length_drop, List.length_take]; rfl)) ?_; (with_reducible refine (network_Deliver.calls kj45 (fun k_ => ((P0_ k_ ∨ w.heap.size ≤ k_) ∧ (some k_ ≠ (.slice Ao47 x6_2.length co47 : Value).ownBlock ∧ k_ ≠ gb220))) _ _ x221000_2 (fun k_ => ((P0_ k_ ∨ w.heap.size ≤ k_) ∧ (some k_ ≠ (.slice Ao47 x6_2.length co47 : Value).ownBlock ∧ k_ ≠ gb220))) _ _ x221001_2 x11_45 t235 t236 t237 t240 t243 t246 _ ?side1 ?side2 A51.out).mono ?_); (case side1 => exact HO_221000.out); (case side2 => exact HO_221001.out); rintro e w111 ⟨v238, v241, v244, rfl, ho0, ho1, ho2, hb⟩; refine ⟨_, rfl, ?_⟩; have n0_ := Aside0.mk (Kd.N_below (Zn HO_6.out) hb); have n1_ := Aside0.mk (Kd.V_below (Zv HO_221000.out) hb); have n2_ := Aside0.mk (Kd.V_below (Zv HO_221001.out) hb); have n3_ := Aside0.mk (Kd.V_lower (Kd.V_mono (ok' := fun k_ => (P0_ k_ ∨ w.heap.size ≤ k_) ∧ some k_ ≠ (.slice Ao47 x6_2.length co47 : Value).ownBlock ∧ k_ ≠ gb220) ho0 (fun k_ hk_ => ⟨Or.elim hk_ (fun hs_ => Or.elim hs_ (fun hs_ => hs_.1) (fun hs_ => hs_.1)) (fun hn_ => (.inr (Nat.le_trans (below_size (Z1 HB GE220)) hn_))), Or.elim hk_ (fun hs_ => Or.elim hs_ (fun hs_ => hs_.2.1) (fun hs_ => hs_.2.1)) (fun hn_ => (Kd.fresh' (Kd.N_lt (Zn HO_6.out)) k_ hn_)), Or.elim hk_ (fun hs_ => Or.elim hs_ (fun hs_ => hs_.2.2) (fun hs_ => hs_.2.2)) (fun hn_ => (Kd.freshB (g := gb220) (o := .cells #[.slice Ao109 x221000_2.length co109, .slice Ao110 x221001_2.length co110] 25 (0, 0)) (Zb BK220.out) k_ hn_))⟩)) (below_size (Z1 HB GE220))); have n4_ := Aside0.mk (Kd.V_lower (Kd.V_mono (ok' := fun k_ => (P0_ k_ ∨ w.heap.size ≤ k_) ∧ some k_ ≠ (.slice Ao47 x6_2.length co47 : Value).ownBlock ∧ k_ ≠ gb220) ho1 (fun k_ hk_ => ⟨Or.elim hk_ (fun hs_ => Or.elim hs_ (fun hs_ => hs_.1) (fun hs_ => hs_.1)) (fun hn_ => (.inr (Nat.le_trans (below_size (Z1 HB GE220)) hn_))), Or.elim hk_ (fun hs_ => Or.elim hs_ (fun hs_ => hs_.2.1) (fun hs_ => hs_.2.1)) (fun hn_ => (Kd.fresh' (Kd.N_lt (Zn HO_6.out)) k_ hn_)), Or.elim hk_ (fun hs_ => Or.elim hs_ (fun hs_ => hs_.2.2) (fun hs_ => hs_.2.2)) (fun hn_ => (Kd.freshB (g := gb220) (o := .cells #[.slice Ao109 x221000_2.length co109, .slice Ao110 x221001_2.length co110] 25 (0, 0)) (Zb BK220.out) k_ hn_))⟩)) (below_size (Z1 HB GE220))); have n5_ := Aside0.mk (Kd.V_lower (Kd.V_mono (ok' := fun k_ => (P0_ k_ ∨ w.heap.size ≤ k_) ∧ some k_ ≠ (.slice Ao47 x6_2.length co47 : Value).ownBlock ∧ k_ ≠ gb220) ho2 (fun k_ hk_ => ⟨Or.elim hk_ (fun hs_ => Or.elim hs_ (fun hs_ => hs_.1) (fun hs_ => hs_.1)) (fun hn_ => (.inr (Nat.le_trans (below_size (Z1 HB GE220)) hn_))), Or.elim hk_ (fun hs_ => Or.elim hs_ (fun hs_ => hs_.2.1) (fun hs_ => hs_.2.1)) (fun hn_ => (Kd.fresh' (Kd.N_lt (Zn HO_6.out)) k_ hn_)), Or.elim hk_ (fun hs_ => Or.elim hs_ (fun hs_ => hs_.2.2) (fun hs_ => hs_.2.2)) (fun hn_ => (Kd.freshB (g := gb220) (o := .cells #[.slice Ao109 x221000_2.length co109, .slice Ao110 x221001_2.length co110] 25 (0, 0)) (Zb BK220.out) k_ hn_))⟩)) (below_size (Z1 HB GE220))); have n6_ := Aside0.mk (blk_below (g := gb220) (o := .cells #[.slice Ao109 x221000_2.length co109, .slice Ao110 x221001_2.length co110] 25 (0, 0)) (Zb BK220.out) hb); have n7_ := Aside0.mk (below_step (Z1 HB GE220) hb); clear HO_6; clear HO_221000; clear HO_221001; clear BK220; clear HB; have HO_6 := n0_; have HO_221000 := n1_; have HO_221001 := n2_; have HO239 := n3_; have HO242 := n4_; have HO245 := n5_; have BK220 := n6_; have HB := n7_; clear n0_ n1_ n2_ n3_ n4_ n5_ n6_ n7_; (try clear hb); (try clear hb2); (try clear hk); (try clear hi); (try clear ho0); (try clear ho1); (try clear ho2)) | ((with_reducible refine gate_dst (N := 12) rfl ?_); refine box_event ?hg (N := 12) ?hd (cs := #[.int .i64 0, .int .i64 0, .slice none 0 0]) (t := 28) ?hr ?_; (case hd => rfl); (case hg => rfl); (case hr => first | (go_simp; done) | (go_simp; rfl)); intro gb247 hg w112 hbox hb; have n0_ := Aside0.mk (Kd.N_below (Kd.N_elderB (Zn HO_6.out) gb247 (Nat.le_of_eq hg.symm)) hb); have n1_ := Aside0.mk (Kd.V_below (Kd.V_elderB (Zv HO_221000.out) gb247 (Nat.le_of_eq hg.symm)) hb); have n2_ := Aside0.mk (Kd.V_below (Kd.V_elderB (Zv HO_221001.out) gb247 (Nat.le_of_eq hg.symm)) hb); have n3_ := Aside0.mk (Kd.V_below (Kd.V_elderB (Zv HO239.out) gb247 (Nat.le_of_eq hg.symm)) hb); have n4_ := Aside0.mk (Kd.V_below (Kd.V_elderB (Zv HO242.out) gb247 (Nat.le_of_eq hg.symm)) hb); have n5_ := Aside0.mk (Kd.V_below (Kd.V_elderB (Zv HO245.out) gb247 (Nat.le_of_eq hg.symm)) hb); have n6_ := Aside0.mk (blk_below (g := gb220) (o := .cells #[.slice Ao109 x221000_2.length co109, .slice Ao110 x221001_2.length co110] 25 (0, 0)) (Zb BK220.out) hb); have n7_ := Aside0.mk (below_step (Z1 HB GE220) hb); have n8_ := Aside0.mk (hbox); have n9_ := Aside0.mk ((by rw [hg]; exact (below_size (Z1 HB GE220)) : w.heap.size ≤ gb247)); have n10_ := Aside0.mk ((by rw [hg]; exact (below_size (Z1 HB GE220)) : w.heap.size ≤ gb247)); have n11_ := Aside0.mk ((by rw [hg]; exact Nat.ne_of_lt (blk_lt (g := gb220) (o := .cells #[.slice Ao109 x221000_2.length co109, .slice Ao110 x221001_2.length co110] 25 (0, 0)) (Zb BK220.out)) : gb220 ≠ gb247)); have n12_ := Aside0.mk ((by rw [hg]; exact Nat.ne_of_gt (blk_lt (g := gb220) (o := .cells #[.slice Ao109 x221000_2.length co109, .slice Ao110 x221001_2.length co110] 25 (0, 0)) (Zb BK220.out)) : gb247 ≠ gb220)); clear HO_6; clear HO_221000; clear HO_221001; clear HO239; clear HO242; clear HO245; clear BK220; clear HB; have HO_6 := n0_; have HO_221000 := n1_; have HO_221001 := n2_; have HO239 := n3_; have HO242 := n4_; have HO245 := n5_; have BK220 := n6_; have HB := n7_; have BK247 := n8_; have GW247 := n9_; have GE247 := n10_; have NB220_247 := n11_; have NB247_220 := n12_; clear n0_ n1_ n2_ n3_ n4_ n5_ n6_ n7_ n8_ n9_ n10_ n11_ n12_; clear hb hbox hg) | ((with_reducible refine gate_dst (N := 13) rfl ?_); refine box_event ?hg (N := 13) ?hd (cs := #[.slice none 0 0, .slice none 0 0]) (t := 25) ?hr ?_; (case hd => rfl); (case hg => rfl); (case hr => first | (go_simp; done) | (go_simp; rfl)); intro gb248 hg w113 hbox hb; have n0_ := Aside0.mk (Kd.N_below (Kd.N_elderB (Zn HO_6.out) gb248 (Nat.le_of_eq hg.symm)) hb); have n1_ := Aside0.mk (Kd.V_below (Kd.V_elderB (Zv HO_221000.out) gb248 (Nat.le_of_eq hg.symm)) hb); have n2_ := Aside0.mk (Kd.V_below (Kd.V_elderB (Zv HO_221001.out) gb248 (Nat.le_of_eq hg.symm)) hb); have n3_ := Aside0.mk (Kd.V_below (Kd.V_elderB (Zv HO239.out) gb248 (Nat.le_of_eq hg.symm)) hb); have n4_ := Aside0.mk (Kd.V_below (Kd.V_elderB (Zv HO242.out) gb248 (Nat.le_of_eq hg.symm)) hb); have n5_ := Aside0.mk (Kd.V_below (Kd.V_elderB (Zv HO245.out) gb248 (Nat.le_of_eq hg.symm)) hb); have n6_ := Aside0.mk (blk_below (g := gb220) (o := .cells #[.slice Ao109 x221000_2.length co109, .slice Ao110 x221001_2.length co110] 25 (0, 0)) (Zb BK220.out) hb); have n7_ := Aside0.mk (blk_below (g := gb247) (o := .cells #[.int .i64 0, .int .i64 0, .slice none 0 0] 28 (0, 0)) (Zb BK247.out) hb); have n8_ := Aside0.mk (below_step (Z2 HB GE220 GE247) hb); have n9_ := Aside0.mk (hbox); have n10_ := Aside0.mk ((by rw [hg]; exact (below_size (Z2 HB GE220 GE247)) : w.heap.size ≤ gb248)); have n11_ := Aside0.mk ((by rw [hg]; exact (below_size (Z2 HB GE220 GE247)) : w.heap.size ≤ gb248)); have n12_ := Aside0.mk ((by rw [hg]; exact Nat.ne_of_lt (blk_lt (g := gb220) (o := .cells #[.slice Ao109 x221000_2.length co109, .slice Ao110 x221001_2.length co110] 25 (0, 0)) (Zb BK220.out)) : gb220 ≠ gb248)); have n13_ := Aside0.mk ((by rw [hg]; exact Nat.ne_of_gt (blk_lt (g := gb220) (o := .cells #[.slice Ao109 x221000_2.length co109, .slice Ao110 x221001_2.length co110] 25 (0, 0)) (Zb BK220.out)) : gb248 ≠ gb220)); have n14_ := Aside0.mk ((by rw [hg]; exact Nat.ne_of_lt (blk_lt (g := gb247) (o := .cells #[.int .i64 0, .int .i64 0, .slice none 0 0] 28 (0, 0)) (Zb BK247.out)) : gb247 ≠ gb248)); have n15_ := Aside0.mk ((by rw [hg]; exact Nat.ne_of_gt (blk_lt (g := gb247) (o := .cells #[.int .i64 0, .int .i64 0, .slice none 0 0] 28 (0, 0)) (Zb BK247.out)) : gb248 ≠ gb247)); clear HO_6; clear HO_221000; clear HO_221001; clear HO239; clear HO242; clear HO245; clear BK220; clear BK247; clear HB; have HO_6 := n0_; have HO_221000 := n1_; have HO_221001 := n2_; have HO239 := n3_; have HO242 := n4_; have HO245 := n5_; have BK220 := n6_; have BK247 := n7_; have HB := n8_; have BK248 := n9_; have GW248 := n10_; have GE248 := n11_; have NB220_248 := n12_; have NB248_220 := n13_; have NB247_248 := n14_; have NB248_247 := n15_; clear n0_ n1_ n2_ n3_ n4_ n5_ n6_ n7_ n8_ n9_ n10_ n11_ n12_ n13_ n14_ n15_; clear hb hbox hg; have hnb114 := NB247_220.out; have hnc114 := NB220_247.out; have hnb115 := NB247_248.out; have hnc115 := NB248_247.out; have hcz116_0 : w113.cell? ⟨gb247, 0, none⟩ = some (.int .i64 0) := (blk_cell BK247.out 0).trans rfl; have hcz116_1 : w113.cell? ⟨gb247, 1, none⟩ = some (.int .i64 0) := (blk_cell BK247.out 1).trans rfl; have hcz116_2 : w113.cell? ⟨gb247, 2, none⟩ = some (.slice none 0 0) := (blk_cell BK247.out 2).trans rfl; have hfz116_0 := blk_frozen BK247.out 0; have hfz116_1 := blk_frozen BK247.out 1; have hfz116_2 := blk_frozen BK247.out 2; obtain ⟨Ao117, co117, eo117⟩ := Kd.V_slice HO239.out; subst eo117; obtain ⟨Ao118, co118, eo118⟩ := Kd.V_slice HO242.out; subst eo118; have hnb119 := NB248_220.out; have hnc119 := NB220_248.out; have hcz120_0 : w113.cell? ⟨gb248, 0, none⟩ = some (.slice none 0 0) := (blk_cell BK248.out 0).trans rfl; have hcz120_1 : w113.cell? ⟨gb248, 1, none⟩ = some (.slice none 0 0) := (blk_cell BK248.out 1).trans rfl; have hfz120_0 := blk_frozen BK248.out 0; have hfz120_1 := blk_frozen BK248.out 1; obtain ⟨Ao121, co121, eo121⟩ := Kd.V_slice HO245.out; subst eo121))
            have n0_ : Aside0 (Kd.N k28 28 (((((w113.setCell ⟨gb247, 0, none⟩ (.int .i64 t235)).setCell ⟨gb247, 1, none⟩ (.int .i64 t236)).setCell ⟨gb247, 2, none⟩ (.slice Ao117 t237.length co117)).setCell ⟨gb248, 0, none⟩ (.slice Ao118 t240.length co118)).setCell ⟨gb248, 1, none⟩ (.slice Ao121 t243.length co121)) w.heap.size (fun k_ => (P0_ k_ ∨ w.heap.size ≤ k_) ∧ k_ ≠ gb220 ∧ k_ ≠ gb247 ∧ k_ ≠ gb248) (.slice Ao47 x6_2.length co47) x6_2) := ⟨by refine Zn ?_; exact Kd.N_mono (Kd.N_far (p := ⟨gb248, 1, none⟩) (Kd.N_far (p := ⟨gb248, 0, none⟩) (Kd.N_far (p := ⟨gb247, 2, none⟩) (Kd.N_far (p := ⟨gb247, 1, none⟩) (Kd.N_far (p := ⟨gb247, 0, none⟩) (Kd.N_mono (Kd.N_mono HO_6.out (fun k_ hk => (⟨hk, hk.1.2⟩ : _ ∧ k_ ≠ gb247))) (fun k_ hk => (⟨hk, hk.1.2⟩ : _ ∧ k_ ≠ gb248))) (fun _ hk => hk.1.2) (.int .i64 t235)) (fun _ hk => hk.1.2) (.int .i64 t236)) (fun _ hk => hk.1.2) (.slice Ao117 t237.length co117)) (fun _ hk => hk.2) (.slice Ao118 t240.length co118)) (fun _ hk => hk.2) (.slice Ao121 t243.length co121)) (fun _ hk => ⟨hk.1.1.1.1.1, ⟨hk.1.1.1.1.2, ⟨hk.1.1.1.2, hk.1.1.2⟩⟩⟩)⟩
            have n1_ : Aside0 (Kd.V k28 28 (((((w113.setCell ⟨gb247, 0, none⟩ (.int .i64 t235)).setCell ⟨gb247, 1, none⟩ (.int .i64 t236)).setCell ⟨gb247, 2, none⟩ (.slice Ao117 t237.length co117)).setCell ⟨gb248, 0, none⟩ (.slice Ao118 t240.length co118)).setCell ⟨gb248, 1, none⟩ (.slice Ao121 t243.length co121)) w.heap.size (fun k_ => (P0_ k_ ∨ w.heap.size ≤ k_) ∧ some k_ ≠ (.slice Ao47 x6_2.length co47 : Value).ownBlock ∧ k_ ≠ gb220 ∧ k_ ≠ gb247 ∧ k_ ≠ gb248) (.slice Ao109 x221000_2.length co109) x221000_2) := ⟨by refine Zv ?_; exact Kd.V_mono (Kd.V_far (p := ⟨gb248, 1, none⟩) (Kd.V_far (p := ⟨gb248, 0, none⟩) (Kd.V_far (p := ⟨gb247, 2, none⟩) (Kd.V_far (p := ⟨gb247, 1, none⟩) (Kd.V_far (p := ⟨gb247, 0, none⟩) (Kd.V_mono (Kd.V_mono HO_221000.out (fun k_ hk => (⟨hk, hk.1.2⟩ : _ ∧ k_ ≠ gb247))) (fun k_ hk => (⟨hk, hk.1.2⟩ : _ ∧ k_ ≠ gb248))) (fun _ hk => hk.1.2) (.int .i64 t235)) (fun _ hk => hk.1.2) (.int .i64 t236)) (fun _ hk => hk.1.2) (.slice Ao117 t237.length co117)) (fun _ hk => hk.2) (.slice Ao118 t240.length co118)) (fun _ hk => hk.2) (.slice Ao121 t243.length co121)) (fun _ hk => ⟨hk.1.1.1.1.1, ⟨hk.1.1.1.1.2.1, ⟨hk.1.1.1.1.2.2, ⟨hk.1.1.1.2, hk.1.1.2⟩⟩⟩⟩)⟩
            have n2_ : Aside0 (Kd.V k55 55 (((((w113.setCell ⟨gb247, 0, none⟩ (.int .i64 t235)).setCell ⟨gb247, 1, none⟩ (.int .i64 t236)).setCell ⟨gb247, 2, none⟩ (.slice Ao117 t237.length co117)).setCell ⟨gb248, 0, none⟩ (.slice Ao118 t240.length co118)).setCell ⟨gb248, 1, none⟩ (.slice Ao121 t243.length co121)) w.heap.size (fun k_ => (P0_ k_ ∨ w.heap.size ≤ k_) ∧ some k_ ≠ (.slice Ao47 x6_2.length co47 : Value).ownBlock ∧ k_ ≠ gb220 ∧ k_ ≠ gb247 ∧ k_ ≠ gb248) (.slice Ao110 x221001_2.length co110) x221001_2) := ⟨by refine Zv ?_; exact Kd.V_mono (Kd.V_far (p := ⟨gb248, 1, none⟩) (Kd.V_far (p := ⟨gb248, 0, none⟩) (Kd.V_far (p := ⟨gb247, 2, none⟩) (Kd.V_far (p := ⟨gb247, 1, none⟩) (Kd.V_far (p := ⟨gb247, 0, none⟩) (Kd.V_mono (Kd.V_mono HO_221001.out (fun k_ hk => (⟨hk, hk.1.2⟩ : _ ∧ k_ ≠ gb247))) (fun k_ hk => (⟨hk, hk.1.2⟩ : _ ∧ k_ ≠ gb248))) (fun _ hk => hk.1.2) (.int .i64 t235)) (fun _ hk => hk.1.2) (.int .i64 t236)) (fun _ hk => hk.1.2) (.slice Ao117 t237.length co117)) (fun _ hk => hk.2) (.slice Ao118 t240.length co118)) (fun _ hk => hk.2) (.slice Ao121 t243.length co121)) (fun _ hk => ⟨hk.1.1.1.1.1, ⟨hk.1.1.1.1.2.1, ⟨hk.1.1.1.1.2.2, ⟨hk.1.1.1.2, hk.1.1.2⟩⟩⟩⟩)⟩
            have n3_ : Aside0 (Kd.V (Kd.int .u8) 5 (((((w113.setCell ⟨gb247, 0, none⟩ (.int .i64 t235)).setCell ⟨gb247, 1, none⟩ (.int .i64 t236)).setCell ⟨gb247, 2, none⟩ (.slice Ao117 t237.length co117)).setCell ⟨gb248, 0, none⟩ (.slice Ao118 t240.length co118)).setCell ⟨gb248, 1, none⟩ (.slice Ao121 t243.length co121)) w.heap.size (fun k_ => (P0_ k_ ∨ w.heap.size ≤ k_) ∧ some k_ ≠ (.slice Ao47 x6_2.length co47 : Value).ownBlock ∧ k_ ≠ gb220 ∧ k_ ≠ gb247 ∧ k_ ≠ gb248) (.slice Ao117 t237.length co117) t237) := ⟨by refine Zv ?_; exact Kd.V_mono (Kd.V_far (p := ⟨gb248, 1, none⟩) (Kd.V_far (p := ⟨gb248, 0, none⟩) (Kd.V_far (p := ⟨gb247, 2, none⟩) (Kd.V_far (p := ⟨gb247, 1, none⟩) (Kd.V_far (p := ⟨gb247, 0, none⟩) (Kd.V_mono (Kd.V_mono HO239.out (fun k_ hk => (⟨hk, hk.1.2⟩ : _ ∧ k_ ≠ gb247))) (fun k_ hk => (⟨hk, hk.1.2⟩ : _ ∧ k_ ≠ gb248))) (fun _ hk => hk.1.2) (.int .i64 t235)) (fun _ hk => hk.1.2) (.int .i64 t236)) (fun _ hk => hk.1.2) (.slice Ao117 t237.length co117)) (fun _ hk => hk.2) (.slice Ao118 t240.length co118)) (fun _ hk => hk.2) (.slice Ao121 t243.length co121)) (fun _ hk => ⟨hk.1.1.1.1.1, ⟨hk.1.1.1.1.2.1, ⟨hk.1.1.1.1.2.2, ⟨hk.1.1.1.2, hk.1.1.2⟩⟩⟩⟩)⟩
            have n4_ : Aside0 (Kd.V k28 28 (((((w113.setCell ⟨gb247, 0, none⟩ (.int .i64 t235)).setCell ⟨gb247, 1, none⟩ (.int .i64 t236)).setCell ⟨gb247, 2, none⟩ (.slice Ao117 t237.length co117)).setCell ⟨gb248, 0, none⟩ (.slice Ao118 t240.length co118)).setCell ⟨gb248, 1, none⟩ (.slice Ao121 t243.length co121)) w.heap.size (fun k_ => (P0_ k_ ∨ w.heap.size ≤ k_) ∧ some k_ ≠ (.slice Ao47 x6_2.length co47 : Value).ownBlock ∧ k_ ≠ gb220 ∧ k_ ≠ gb247 ∧ k_ ≠ gb248) (.slice Ao118 t240.length co118) t240) := ⟨by refine Zv ?_; exact Kd.V_mono (Kd.V_far (p := ⟨gb248, 1, none⟩) (Kd.V_far (p := ⟨gb248, 0, none⟩) (Kd.V_far (p := ⟨gb247, 2, none⟩) (Kd.V_far (p := ⟨gb247, 1, none⟩) (Kd.V_far (p := ⟨gb247, 0, none⟩) (Kd.V_mono (Kd.V_mono HO242.out (fun k_ hk => (⟨hk, hk.1.2⟩ : _ ∧ k_ ≠ gb247))) (fun k_ hk => (⟨hk, hk.1.2⟩ : _ ∧ k_ ≠ gb248))) (fun _ hk => hk.1.2) (.int .i64 t235)) (fun _ hk => hk.1.2) (.int .i64 t236)) (fun _ hk => hk.1.2) (.slice Ao117 t237.length co117)) (fun _ hk => hk.2) (.slice Ao118 t240.length co118)) (fun _ hk => hk.2) (.slice Ao121 t243.length co121)) (fun _ hk => ⟨hk.1.1.1.1.1, ⟨hk.1.1.1.1.2.1, ⟨hk.1.1.1.1.2.2, ⟨hk.1.1.1.2, hk.1.1.2⟩⟩⟩⟩)⟩
            have n5_ : Aside0 (Kd.V k55 55 (((((w113.setCell ⟨gb247, 0, none⟩ (.int .i64 t235)).setCell ⟨gb247, 1, none⟩ (.int .i64 t236)).setCell ⟨gb247, 2, none⟩ (.slice Ao117 t237.length co117)).setCell ⟨gb248, 0, none⟩ (.slice Ao118 t240.length co118)).setCell ⟨gb248, 1, none⟩ (.slice Ao121 t243.length co121)) w.heap.size (fun k_ => (P0_ k_ ∨ w.heap.size ≤ k_) ∧ some k_ ≠ (.slice Ao47 x6_2.length co47 : Value).ownBlock ∧ k_ ≠ gb220 ∧ k_ ≠ gb247 ∧ k_ ≠ gb248) (.slice Ao121 t243.length co121) t243) := ⟨by refine Zv ?_; exact Kd.V_mono (Kd.V_far (p := ⟨gb248, 1, none⟩) (Kd.V_far (p := ⟨gb248, 0, none⟩) (Kd.V_far (p := ⟨gb247, 2, none⟩) (Kd.V_far (p := ⟨gb247, 1, none⟩) (Kd.V_far (p := ⟨gb247, 0, none⟩) (Kd.V_mono (Kd.V_mono HO245.out (fun k_ hk => (⟨hk, hk.1.2⟩ : _ ∧ k_ ≠ gb247))) (fun k_ hk => (⟨hk, hk.1.2⟩ : _ ∧ k_ ≠ gb248))) (fun _ hk => hk.1.2) (.int .i64 t235)) (fun _ hk => hk.1.2) (.int .i64 t236)) (fun _ hk => hk.1.2) (.slice Ao117 t237.length co117)) (fun _ hk => hk.2) (.slice Ao118 t240.length co118)) (fun _ hk => hk.2) (.slice Ao121 t243.length co121)) (fun _ hk => ⟨hk.1.1.1.1.1, ⟨hk.1.1.1.1.2.1, ⟨hk.1.1.1.1.2.2, ⟨hk.1.1.1.2, hk.1.1.2⟩⟩⟩⟩)⟩
            have n6_ : Aside0 ((((((w113.setCell ⟨gb247, 0, none⟩ (.int .i64 t235)).setCell ⟨gb247, 1, none⟩ (.int .i64 t236)).setCell ⟨gb247, 2, none⟩ (.slice Ao117 t237.length co117)).setCell ⟨gb248, 0, none⟩ (.slice Ao118 t240.length co118)).setCell ⟨gb248, 1, none⟩ (.slice Ao121 t243.length co121)).heap[gb220]? = some (.cells #[.slice Ao109 x221000_2.length co109, .slice Ao110 x221001_2.length co110] 25 (0, 0))) := ⟨by refine Zb ?_; refine blk_far ?_ NB220_248.out _; refine Zb ?_; refine blk_far ?_ NB220_248.out _; refine Zb ?_; refine blk_far ?_ NB220_247.out _; refine Zb ?_; refine blk_far ?_ NB220_247.out _; refine Zb ?_; refine blk_far ?_ NB220_247.out _; refine Zb ?_; exact BK220.out⟩
            have n7_ : Aside0 ((((((w113.setCell ⟨gb247, 0, none⟩ (.int .i64 t235)).setCell ⟨gb247, 1, none⟩ (.int .i64 t236)).setCell ⟨gb247, 2, none⟩ (.slice Ao117 t237.length co117)).setCell ⟨gb248, 0, none⟩ (.slice Ao118 t240.length co118)).setCell ⟨gb248, 1, none⟩ (.slice Ao121 t243.length co121)).heap[gb247]? = some (.cells #[.int .i64 t235, .int .i64 t236, .slice Ao117 t237.length co117] 28 (0, 0))) := ⟨by refine Zb ?_; refine blk_far ?_ NB247_248.out _; refine Zb ?_; refine blk_far ?_ NB247_248.out _; refine Zb ?_; refine blk_put (cs := #[.int .i64 t235, .int .i64 t236, .slice none 0 0]) ?_ 2 _ rfl; refine Zb ?_; refine blk_put (cs := #[.int .i64 t235, .int .i64 0, .slice none 0 0]) ?_ 1 _ rfl; refine Zb ?_; refine blk_put (cs := #[.int .i64 0, .int .i64 0, .slice none 0 0]) ?_ 0 _ rfl; refine Zb ?_; exact BK247.out⟩
            have n8_ : Aside0 ((((((w113.setCell ⟨gb247, 0, none⟩ (.int .i64 t235)).setCell ⟨gb247, 1, none⟩ (.int .i64 t236)).setCell ⟨gb247, 2, none⟩ (.slice Ao117 t237.length co117)).setCell ⟨gb248, 0, none⟩ (.slice Ao118 t240.length co118)).setCell ⟨gb248, 1, none⟩ (.slice Ao121 t243.length co121)).heap[gb248]? = some (.cells #[.slice Ao118 t240.length co118, .slice Ao121 t243.length co121] 25 (0, 0))) := ⟨by refine Zb ?_; refine blk_put (cs := #[.slice Ao118 t240.length co118, .slice none 0 0]) ?_ 1 _ rfl; refine Zb ?_; refine blk_put (cs := #[.slice none 0 0, .slice none 0 0]) ?_ 0 _ rfl; refine Zb ?_; refine blk_far ?_ NB248_247.out _; refine Zb ?_; refine blk_far ?_ NB248_247.out _; refine Zb ?_; refine blk_far ?_ NB248_247.out _; refine Zb ?_; exact BK248.out⟩
            have n9_ : Aside0 (Below w.heap.size w (((((w113.setCell ⟨gb247, 0, none⟩ (.int .i64 t235)).setCell ⟨gb247, 1, none⟩ (.int .i64 t236)).setCell ⟨gb247, 2, none⟩ (.slice Ao117 t237.length co117)).setCell ⟨gb248, 0, none⟩ (.slice Ao118 t240.length co118)).setCell ⟨gb248, 1, none⟩ (.slice Ao121 t243.length co121))) := ⟨(Z3 HB GE220 GE247 GE248)⟩
            (try clear HO_6)
            (try clear HO_221000)
            (try clear HO_221001)
            (try clear HO239)
            (try clear HO242)
            (try clear HO245)
            (try clear BK220)
            (try clear BK247)
            (try clear BK248)
            (try clear HB)
            generalize (((((w113.setCell ⟨gb247, 0, none⟩ (.int .i64 t235)).setCell ⟨gb247, 1, none⟩ (.int .i64 t236)).setCell ⟨gb247, 2, none⟩ (.slice Ao117 t237.length co117)).setCell ⟨gb248, 0, none⟩ (.slice Ao118 t240.length co118)).setCell ⟨gb248, 1, none⟩ (.slice Ao121 t243.length co121)) = w122 at n0_ n1_ n2_ n3_ n4_ n5_ n6_ n7_ n8_ n9_ ⊢
            have HO_6 := n0_
            have HO_221000 := n1_
            have HO_221001 := n2_
            have HO239 := n3_
            have HO242 := n4_
            have HO245 := n5_
            have BK220 := n6_
            have BK247 := n7_
            have BK248 := n8_
            have HB := n9_
            clear n0_ n1_ n2_ n3_ n4_ n5_ n6_ n7_ n8_ n9_
            have n0_ := Aside0.mk (Kd.N_drew HO_6.out)
            have n1_ := Aside0.mk (Kd.V_drew HO_221000.out)
            have n2_ := Aside0.mk (Kd.V_drew HO_221001.out)
            have n3_ := Aside0.mk (Kd.V_drew HO239.out)
            have n4_ := Aside0.mk (Kd.V_drew HO242.out)
            have n5_ := Aside0.mk (Kd.V_drew HO245.out)
            have n6_ := Aside0.mk (blk_drew BK220.out)
            have n7_ := Aside0.mk (blk_drew BK247.out)
            have n8_ := Aside0.mk (blk_drew BK248.out)
            have n9_ := Aside0.mk (below_drew1 HB.out)
            clear HO_6
            clear HO_221000
            clear HO_221001
            clear HO239
            clear HO242
            clear HO245
            clear BK220
            clear BK247
            clear BK248
            clear HB
            have HO_6 := n0_
            have HO_221000 := n1_
            have HO_221001 := n2_
            have HO239 := n3_
            have HO242 := n4_
            have HO245 := n5_
            have BK220 := n6_
            have BK247 := n7_
            have BK248 := n8_
            have HB := n9_
            clear n0_ n1_ n2_ n3_ n4_ n5_ n6_ n7_ n8_ n9_
            refine start_ (n := 11) (S := fun w' => True) (ds := []) #[false, false, false, false, false, false, false, false, false, false, false] (by kernel_rfl) rfl rfl trivial (fun hHeld => ?_); refine with_tabW signatorylaw06_NetworkAll.tab21 signatorylaw06_NetworkAll.bits21 (fun HT_ HW_ => ?_)
            generalize w122.drew = w123 at HO_6 HO_221000 HO_221001 HO239 HO242 HO245 BK220 BK247 BK248 HB hHeld ⊢
            refine pure_ (i := 0) (N := some 70) (v := ?_) (a' := ?_) #[true, false, false, false, false, false, false, false, false, false, false] rfl rfl (any_of HT_.out (by kernel_rfl)) (fun _ _ _ h => h) (Or.inl ⟨by rfl, ?_⟩) ?_ ?_
            rotate_left
            ·intro w'
             go_simp
             with_reducible rfl
            rotate_left
            ·simp only [Act.put, List.setIfInBounds_toArray, List.set_cons_zero, List.set_cons_succ, i64_w, i32_w]
             rfl
            refine pure_ (i := 1) (N := some 71) (v := ?_) (a' := ?_) #[true, true, false, false, false, false, false, false, false, false, false] rfl rfl (any_of HT_.out (by kernel_rfl)) (fun _ _ _ h => h) (Or.inl ⟨by rfl, ?_⟩) ?_ ?_
            rotate_left
            ·intro w'
             go_simp
             with_reducible rfl
            rotate_left
            ·simp only [Act.put, List.setIfInBounds_toArray, List.set_cons_zero, List.set_cons_succ, i64_w, i32_w]
             rfl
            refine pure_ (i := 2) (N := some 72) (v := ?_) (a' := ?_) #[true, true, true, false, false, false, false, false, false, false, false] rfl rfl (any_of HT_.out (by kernel_rfl)) (fun _ _ _ h => h) (Or.inl ⟨by rfl, ?_⟩) ?_ ?_
            rotate_left
            ·intro w'
             go_simp
             with_reducible rfl
            rotate_left
            ·simp only [Act.put, List.setIfInBounds_toArray, List.set_cons_zero, List.set_cons_succ, i64_w, i32_w]
             rfl
            refine pure_ (i := 3) (N := some 73) (v := undef) (a' := ?_) #[true, true, true, true, false, false, false, false, false, false, false] rfl rfl (any_of HT_.out (by kernel_rfl)) (fun _ _ _ h => h) (Or.inr ⟨by rfl, rfl⟩) ?_ ?_
            rotate_left
            ·simp only [Act.put, List.setIfInBounds_toArray, List.set_cons_zero, List.set_cons_succ, i64_w, i32_w]
             rfl
            refine pure_ (i := 4) (N := some 74) (v := undef) (a' := ?_) #[true, true, true, true, true, false, false, false, false, false, false] rfl rfl (any_of HT_.out (by kernel_rfl)) (fun _ _ _ h => h) (Or.inr ⟨by rfl, rfl⟩) ?_ ?_
            rotate_left
            ·simp only [Act.put, List.setIfInBounds_toArray, List.set_cons_zero, List.set_cons_succ, i64_w, i32_w]
             rfl
            refine pure_ (i := 5) (N := some 75) (v := undef) (a' := ?_) #[true, true, true, true, true, true, false, false, false, false, false] rfl rfl (any_of HT_.out (by kernel_rfl)) (fun _ _ _ h => h) (Or.inr ⟨by rfl, rfl⟩) ?_ ?_
            rotate_left
            ·simp only [Act.put, List.setIfInBounds_toArray, List.set_cons_zero, List.set_cons_succ, i64_w, i32_w]
             rfl
            refine pure_ (i := 6) (N := some 76) (v := undef) (a' := ?_) #[true, true, true, true, true, true, true, false, false, false, false] rfl rfl (any_of HT_.out (by kernel_rfl)) (fun _ _ _ h => h) (Or.inr ⟨by rfl, rfl⟩) ?_ ?_
            rotate_left
            ·simp only [Act.put, List.setIfInBounds_toArray, List.set_cons_zero, List.set_cons_succ, i64_w, i32_w]
             rfl
            refine pure_ (i := 7) (N := some 77) (v := undef) (a' := ?_) #[true, true, true, true, true, true, true, true, false, false, false] rfl rfl (any_of HT_.out (by kernel_rfl)) (fun _ _ _ h => h) (Or.inr ⟨by rfl, rfl⟩) ?_ ?_
            rotate_left
            ·simp only [Act.put, List.setIfInBounds_toArray, List.set_cons_zero, List.set_cons_succ, i64_w, i32_w]
             rfl
            refine pure_ (i := 8) (N := some 78) (v := undef) (a' := ?_) #[true, true, true, true, true, true, true, true, true, false, false] rfl rfl (any_of HT_.out (by kernel_rfl)) (fun _ _ _ h => h) (Or.inr ⟨by rfl, rfl⟩) ?_ ?_
            rotate_left
            ·simp only [Act.put, List.setIfInBounds_toArray, List.set_cons_zero, List.set_cons_succ, i64_w, i32_w]
             rfl
            refine pure_ (i := 9) (N := some 79) (v := undef) (a' := ?_) #[true, true, true, true, true, true, true, true, true, true, false] rfl rfl (any_of HT_.out (by kernel_rfl)) (fun _ _ _ h => h) (Or.inr ⟨by rfl, rfl⟩) ?_ ?_
            rotate_left
            ·simp only [Act.put, List.setIfInBounds_toArray, List.set_cons_zero, List.set_cons_succ, i64_w, i32_w]
             rfl
            refine pure_ (i := 10) (N := some 80) (v := ?_) (a' := ?_) #[true, true, true, true, true, true, true, true, true, true, true] rfl rfl (any_of HT_.out (by kernel_rfl)) (fun _ _ _ h => h) (Or.inl ⟨by rfl, ?_⟩) ?_ ?_
            rotate_left
            ·intro w'
             go_simp
             with_reducible rfl
            rotate_left
            ·simp only [Act.put, List.setIfInBounds_toArray, List.set_cons_zero, List.set_cons_succ, i64_w, i32_w]
             rfl
            refine done_ (done_of HT_.out (by kernel_rfl)) ?_
            try go_wp2
            go_ret
            exact ⟨by first | rfl | (simp [errW_none, errW_some] <;> rfl) | (simp [*, errW_none, errW_some] <;> rfl), (Z3 HB GE220 GE247 GE248)⟩
        ·rw [if_neg c45] at H
         have c45b0 : decide (0 < (x6_2.length : Int)) = false := decide_eq_false c45
         have c45b1 : decide (0 < x6_2.length) = false := decide_eq_false (by omega)
         clear c45
         obtain rfl := Option.some.inj H
         obtain ⟨Ao124, co124, eo124⟩ := Kd.N_slice HO_6.out
         subst eo124
         have hcz125_0 : wr.cell? ⟨gb220, 0, none⟩ = some (u221000) := (blk_cell BK220.out 0).trans rfl
         have hcz125_1 : wr.cell? ⟨gb220, 1, none⟩ = some (u221001) := (blk_cell BK220.out 1).trans rfl
         have hfz125_0 := blk_frozen BK220.out 0
         have hfz125_1 := blk_frozen BK220.out 1
         obtain ⟨Ao126, co126, eo126⟩ := Kd.V_slice HO_221000.out
         subst eo126
         go_wp2
         go_ret
         exact ⟨by first | rfl | (simp [errW_none, errW_some] <;> rfl) | (simp [*, errW_none, errW_some] <;> rfl), (Z1 HB GE220)⟩
 ·replace c4 := Bool.eq_false_iff.mpr c4
  subst c4
  have H1 : (some false) = some r := by rw [if_neg (show ¬ (false = true) by decide)] at H; exact H
  clear H
  have H := H1
  clear H1
  obtain rfl := Option.some.inj H
  go_enter Try.func4, Try.ntmps4
  go_wp2_with (first | ((with_reducible refine gate_callee (f := 9) rfl ?_); refine goesL_ (some 15) rfl rfl Try.func9 (by kernel_rfl) rfl #[] rfl (by (try simp only [List.map_toArray, List.map_cons, List.map_nil]); first | done | rfl | (simp only [List.length_drop, List.length_take]; rfl)) ?_; (with_reducible refine (signatorylaw06_sane.calls k  false _ A3.out).mono ?_); rintro e w127 ⟨rfl, hb⟩; refine ⟨_, rfl, ?_⟩; have n0_ := Aside0.mk (Kd.V_below (Zv HO0.out) hb); have n1_ := Aside0.mk (below_step (Z0 HB) hb); clear HO0; clear HB; have HO0 := n0_; have HB := n1_; clear n0_ n1_; (try clear hb); (try clear hb2); (try clear hk); (try clear hi)))
  go_ret
  exact ⟨by first | rfl | (simp [errW_none, errW_some] <;> rfl) | (simp [*, errW_none, errW_some] <;> rfl), (Z0 HB)⟩

end Go.Proofs.Ythlehlbokaeigaa.Q
