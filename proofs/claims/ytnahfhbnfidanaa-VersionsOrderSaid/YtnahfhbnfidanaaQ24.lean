-- Written by wip/tools/extprint.py of this repo (a program of this claim's own, over the kit's printer) out of the translation; Lean checks it.
import Derived.Test.YtnahfhbnfidanaaQ0
import Derived.Test.YtnahfhbnfidanaaQ10
import Derived.Test.YtnahfhbnfidanaaQ11
import Derived.Test.YtnahfhbnfidanaaQ20
import Derived.Test.YtnahfhbnfidanaaQ23
namespace Go.Proofs.Ytnahfhbnfidanaa.Q
open Go.RowKit Go.Proofs.YtnahfhbnfidanaaW.PrintWords Go.Proofs.YtnahfhbnfidanaaW.PrintLast Go.Proofs.YtnahfhbnfidanaaW.PrintMore
attribute [local go_sem] max2_int min2_int max_two min_two max_three min_three max_four min_four   -- for this text's walks alone
set_option linter.unusedVariables false
set_option linter.unusedSimpArgs false

/-! ### signatorylaw14_VersionsOrder: function 7 -/
mutual
def signatorylaw14_VersionsOrder.l0 : Nat → List (S24) → Int → Int → Int → List (S24) → List Int → Int → Int → Option (Bool)
  | 0, _, _, _, _, _, _, _, _ => none
  | k + 1, x0, x2, x3, x4, x11, x37, x38, x39 => if x39 < x38 then (if 0 ≤ x39 then (if x39 < (x37.length : Int) then (if x39 < (x11.length : Int) then (if (wrap64 ((x11.length : Int) - x39)) = 0 then (none) else (if 0 ≤ (wrap64 (x39 + (Int.tmod (wrap64 (rd x37 x39)) (wrap64 ((x11.length : Int) - x39))))) then (if (wrap64 (x39 + (Int.tmod (wrap64 (rd x37 x39)) (wrap64 ((x11.length : Int) - x39))))) < (x11.length : Int) then (signatorylaw14_VersionsOrder.l0 k x0 x2 x3 x4 ((x11.set (x39 : Int).toNat (⟨(rd_T24 x11 (wrap64 (x39 + (Int.tmod (wrap64 (rd x37 x39)) (wrap64 ((x11.length : Int) - x39)))))).f0, (rd_T24 x11 (wrap64 (x39 + (Int.tmod (wrap64 (rd x37 x39)) (wrap64 ((x11.length : Int) - x39)))))).f1, (rd_T24 x11 (wrap64 (x39 + (Int.tmod (wrap64 (rd x37 x39)) (wrap64 ((x11.length : Int) - x39)))))).f2, (rd_T24 x11 (wrap64 (x39 + (Int.tmod (wrap64 (rd x37 x39)) (wrap64 ((x11.length : Int) - x39)))))).f3, (rd_T24 x11 (wrap64 (x39 + (Int.tmod (wrap64 (rd x37 x39)) (wrap64 ((x11.length : Int) - x39)))))).f4, (rd_T24 x11 (wrap64 (x39 + (Int.tmod (wrap64 (rd x37 x39)) (wrap64 ((x11.length : Int) - x39)))))).f5⟩ : S24)).set ((wrap64 (x39 + (Int.tmod (wrap64 (rd x37 x39)) (wrap64 ((x11.length : Int) - x39))))) : Int).toNat (⟨(rd_T24 x11 x39).f0, (rd_T24 x11 x39).f1, (rd_T24 x11 x39).f2, (rd_T24 x11 x39).f3, (rd_T24 x11 x39).f4, (rd_T24 x11 x39).f5⟩ : S24)) x37 x38 (wrap64 (x39 + 1))) else (none)) else (none))) else (signatorylaw14_VersionsOrder.l0 k x0 x2 x3 x4 x11 x37 x38 (wrap64 (x39 + 1)))) else (none)) else (none)) else (signatorylaw14_VersionsOrder.l1 k x0 x2 x3 x4 ([] : List (S24)) x11 (x11.length : Int) 0)
def signatorylaw14_VersionsOrder.l1 : Nat → List (S24) → Int → Int → Int → List (S24) → List (S24) → Int → Int → Option (Bool)
  | 0, _, _, _, _, _, _, _, _ => none
  | k + 1, x0, x2, x3, x4, x15, x72, x73, x74 => if x74 < x73 then (if 0 ≤ x74 then (if x74 < (x72.length : Int) then ((versions_Add.f k x15 ((rd_T24 x72 x74).f0) ((rd_T24 x72 x74).f1) ((rd_T24 x72 x74).f2) ((rd_T24 x72 x74).f3) ((rd_T24 x72 x74).f4) ((rd_T24 x72 x74).f5)).bind fun bt174 => (if bt174.2 = 0 then (signatorylaw14_VersionsOrder.l1 k x0 x2 x3 x4 bt174.1 x72 x73 (wrap64 (x74 + 1))) else (some false))) else (none)) else (none)) else (signatorylaw14_VersionsOrder.l2 k x0 x2 x3 x4 x15 ([] : List (S24)) x0 (x0.length : Int) 0)
def signatorylaw14_VersionsOrder.l2 : Nat → List (S24) → Int → Int → Int → List (S24) → List (S24) → List (S24) → Int → Int → Option (Bool)
  | 0, _, _, _, _, _, _, _, _, _ => none
  | k + 1, x0, x2, x3, x4, x15, x16, x88, x89, x90 => if x90 < x89 then (if 0 ≤ x90 then (if x90 < (x88.length : Int) then (if ((rd_T24 x88 x90).f3) = x2 then (if x16.length < 2932031007402 then (signatorylaw14_VersionsOrder.l2 k x0 x2 x3 x4 x15 (x16 ++ [(⟨(rd_T24 x88 x90).f0, (rd_T24 x88 x90).f1, (rd_T24 x88 x90).f2, (rd_T24 x88 x90).f3, (rd_T24 x88 x90).f4, (rd_T24 x88 x90).f5⟩ : S24)]) x88 x89 (wrap64 (x90 + 1))) else (none)) else (signatorylaw14_VersionsOrder.l2 k x0 x2 x3 x4 x15 x16 x88 x89 (wrap64 (x90 + 1)))) else (none)) else (none)) else ((versions_Value.f k x0 x2 x3 x4).bind fun bt183 => ((versions_Value.f k x16 x2 x3 x4).bind fun bt186 => ((signatoryref14_Same.f k x15 x0).bind fun t189 => (if t189 = true then (if bt183.1 = bt186.1 then (if (bt183.2.1 == bt186.2.1) = true then (some (bt183.2.2 == bt186.2.2)) else (some false)) else (some false)) else (some false)))))
end
def signatorylaw14_VersionsOrder.f (k : Nat) (l0 : List (S24)) (l1 : List Int) (a2 : Int) (a3 : Int) (a4 : Int) : Option (Bool) := (signatorylaw14_sane.f k).bind fun t159 => (if t159 = true then ((signatorylaw14_right.f k l0).bind fun t160 => (if t160 = true then ((some (([] : List (S24)) : List (S24))).bind fun y161 => (if y161.length + l0.length < 2932031007402 then (signatorylaw14_VersionsOrder.l0 k l0 a2 a3 a4 (y161 ++ l0) l1 (l1.length : Int) 0) else (none))) else (some true))) else (some false))
theorem signatorylaw14_VersionsOrder.mono_l : ∀ k, (∀ y0 y1 y2 y3 y4 y5 y6 y7, LeO (signatorylaw14_VersionsOrder.l0 k y0 y1 y2 y3 y4 y5 y6 y7) (signatorylaw14_VersionsOrder.l0 (k + 1) y0 y1 y2 y3 y4 y5 y6 y7)) ∧ (∀ y0 y1 y2 y3 y4 y5 y6 y7, LeO (signatorylaw14_VersionsOrder.l1 k y0 y1 y2 y3 y4 y5 y6 y7) (signatorylaw14_VersionsOrder.l1 (k + 1) y0 y1 y2 y3 y4 y5 y6 y7)) ∧ (∀ y0 y1 y2 y3 y4 y5 y6 y7 y8, LeO (signatorylaw14_VersionsOrder.l2 k y0 y1 y2 y3 y4 y5 y6 y7 y8) (signatorylaw14_VersionsOrder.l2 (k + 1) y0 y1 y2 y3 y4 y5 y6 y7 y8))
  | 0 => ⟨fun _ _ _ _ _ _ _ _ r h => by simp [signatorylaw14_VersionsOrder.l0] at h, fun _ _ _ _ _ _ _ _ r h => by simp [signatorylaw14_VersionsOrder.l1] at h, fun _ _ _ _ _ _ _ _ _ r h => by simp [signatorylaw14_VersionsOrder.l2] at h⟩
  | k + 1 => by
    obtain ⟨ih0, ih1, ih2⟩ := signatorylaw14_VersionsOrder.mono_l k
    refine ⟨?_, ?_, ?_⟩
    · intro y0 y1 y2 y3 y4 y5 y6 y7
      unfold signatorylaw14_VersionsOrder.l0
      repeat' first
      | (with_reducible exact ih0 _ _ _ _ _ _ _ _)
      | (with_reducible exact ih1 _ _ _ _ _ _ _ _)
      | (with_reducible exact ih2 _ _ _ _ _ _ _ _ _)
      | (with_reducible exact signatorylaw14_right.mono _ _)
      | (with_reducible exact signatorylaw14_sane.mono _)
      | (with_reducible exact signatoryref14_Same.mono _ _ _)
      | (with_reducible exact versions_Add.mono _ _ _ _ _ _ _ _)
      | (with_reducible exact versions_Value.mono _ _ _ _ _)
      | (with_reducible exact LeO.refl _)
      | (with_reducible exact LeO.none _)
      | (with_reducible refine LeO.ite ?_ ?_)
      | (with_reducible refine LeO.bind ?_ (fun _ => ?_))
      | exact ih0 _ _ _ _ _ _ _ _
      | exact ih1 _ _ _ _ _ _ _ _
      | exact ih2 _ _ _ _ _ _ _ _ _
      | exact signatorylaw14_right.mono _ _
      | exact signatorylaw14_sane.mono _
      | exact signatoryref14_Same.mono _ _ _
      | exact versions_Add.mono _ _ _ _ _ _ _ _
      | exact versions_Value.mono _ _ _ _ _
      | exact LeO.none _
      | refine LeO.ite ?_ ?_
      | refine LeO.bind ?_ (fun _ => ?_)
    · intro y0 y1 y2 y3 y4 y5 y6 y7
      unfold signatorylaw14_VersionsOrder.l1
      repeat' first
      | (with_reducible exact ih0 _ _ _ _ _ _ _ _)
      | (with_reducible exact ih1 _ _ _ _ _ _ _ _)
      | (with_reducible exact ih2 _ _ _ _ _ _ _ _ _)
      | (with_reducible exact signatorylaw14_right.mono _ _)
      | (with_reducible exact signatorylaw14_sane.mono _)
      | (with_reducible exact signatoryref14_Same.mono _ _ _)
      | (with_reducible exact versions_Add.mono _ _ _ _ _ _ _ _)
      | (with_reducible exact versions_Value.mono _ _ _ _ _)
      | (with_reducible exact LeO.refl _)
      | (with_reducible exact LeO.none _)
      | (with_reducible refine LeO.ite ?_ ?_)
      | (with_reducible refine LeO.bind ?_ (fun _ => ?_))
      | exact ih0 _ _ _ _ _ _ _ _
      | exact ih1 _ _ _ _ _ _ _ _
      | exact ih2 _ _ _ _ _ _ _ _ _
      | exact signatorylaw14_right.mono _ _
      | exact signatorylaw14_sane.mono _
      | exact signatoryref14_Same.mono _ _ _
      | exact versions_Add.mono _ _ _ _ _ _ _ _
      | exact versions_Value.mono _ _ _ _ _
      | exact LeO.none _
      | refine LeO.ite ?_ ?_
      | refine LeO.bind ?_ (fun _ => ?_)
    · intro y0 y1 y2 y3 y4 y5 y6 y7 y8
      unfold signatorylaw14_VersionsOrder.l2
      repeat' first
      | (with_reducible exact ih0 _ _ _ _ _ _ _ _)
      | (with_reducible exact ih1 _ _ _ _ _ _ _ _)
      | (with_reducible exact ih2 _ _ _ _ _ _ _ _ _)
      | (with_reducible exact signatorylaw14_right.mono _ _)
      | (with_reducible exact signatorylaw14_sane.mono _)
      | (with_reducible exact signatoryref14_Same.mono _ _ _)
      | (with_reducible exact versions_Add.mono _ _ _ _ _ _ _ _)
      | (with_reducible exact versions_Value.mono _ _ _ _ _)
      | (with_reducible exact LeO.refl _)
      | (with_reducible exact LeO.none _)
      | (with_reducible refine LeO.ite ?_ ?_)
      | (with_reducible refine LeO.bind ?_ (fun _ => ?_))
      | exact ih0 _ _ _ _ _ _ _ _
      | exact ih1 _ _ _ _ _ _ _ _
      | exact ih2 _ _ _ _ _ _ _ _ _
      | exact signatorylaw14_right.mono _ _
      | exact signatorylaw14_sane.mono _
      | exact signatoryref14_Same.mono _ _ _
      | exact versions_Add.mono _ _ _ _ _ _ _ _
      | exact versions_Value.mono _ _ _ _ _
      | exact LeO.none _
      | refine LeO.ite ?_ ?_
      | refine LeO.bind ?_ (fun _ => ?_)
theorem signatorylaw14_VersionsOrder.mono : ∀ a0 a1 a2 a3 a4 k, LeO (signatorylaw14_VersionsOrder.f k a0 a1 a2 a3 a4) (signatorylaw14_VersionsOrder.f (k + 1) a0 a1 a2 a3 a4) := by
  intro a0 a1 a2 a3 a4 k
  obtain ⟨ih0, ih1, ih2⟩ := signatorylaw14_VersionsOrder.mono_l k
  unfold signatorylaw14_VersionsOrder.f
  repeat' first
      | (with_reducible exact ih0 _ _ _ _ _ _ _ _)
      | (with_reducible exact ih1 _ _ _ _ _ _ _ _)
      | (with_reducible exact ih2 _ _ _ _ _ _ _ _ _)
      | (with_reducible exact signatorylaw14_right.mono _ _)
      | (with_reducible exact signatorylaw14_sane.mono _)
      | (with_reducible exact signatoryref14_Same.mono _ _ _)
      | (with_reducible exact versions_Add.mono _ _ _ _ _ _ _ _)
      | (with_reducible exact versions_Value.mono _ _ _ _ _)
      | (with_reducible exact LeO.refl _)
      | (with_reducible exact LeO.none _)
      | (with_reducible refine LeO.ite ?_ ?_)
      | (with_reducible refine LeO.bind ?_ (fun _ => ?_))
      | exact ih0 _ _ _ _ _ _ _ _
      | exact ih1 _ _ _ _ _ _ _ _
      | exact ih2 _ _ _ _ _ _ _ _ _
      | exact signatorylaw14_right.mono _ _
      | exact signatorylaw14_sane.mono _
      | exact signatoryref14_Same.mono _ _ _
      | exact versions_Add.mono _ _ _ _ _ _ _ _
      | exact versions_Value.mono _ _ _ _ _
      | exact LeO.none _
      | refine LeO.ite ?_ ?_
      | refine LeO.bind ?_ (fun _ => ?_)
def signatorylaw14_VersionsOrder.T11 : Bool × List (List Nat × List Nat) := (true, [([], []), ([], []), ([], []), ([], []), ([], []), ([], []), ([4, 5], [4, 5]), ([6], [6]), ([], []), ([], []), ([8, 9], [8, 9]), ([10], [10]), ([0, 1, 0, 1, 4, 5, 6, 7, 11], [0, 1]), ([12, 7, 0, 1, 4, 5, 6, 7, 11], [7, 12]), ([2, 3, 0, 1, 2, 3, 4, 5, 6, 7, 8, 9, 10, 11, 12, 13], [2, 3]), ([14, 11, 13, 0, 1, 2, 3, 4, 5, 6, 7, 8, 9, 10, 11, 12, 13], [11, 14])])
def signatorylaw14_VersionsOrder.B11 : List Nat := [0, 0, 0, 0, 0, 0, 48, 112, 0, 0, 768, 1792, 4083, 8179, 16383, 32767]
theorem signatorylaw14_VersionsOrder.tab11 : rtab .any (opsOf Try.f7 11) = signatorylaw14_VersionsOrder.T11 := by kernel_rfl
theorem signatorylaw14_VersionsOrder.bits11 : waitsOk signatorylaw14_VersionsOrder.T11.2 signatorylaw14_VersionsOrder.B11 = true := by kernel_rfl
set_option maxHeartbeats 200000000 in
set_option maxRecDepth 100000 in
theorem signatorylaw14_VersionsOrder.calls (k : Nat) (A0 : Option Addr) (c0 : Nat) (l0 : List (S24)) (A1 : Option Addr) (c1 : Nat) (l1 : List Int) (a2 : Int) (a3 : Int) (a4 : Int) (r : Bool) (w : World) (hr0 : Kd.C k24 w A0 l0.length l0) (hc0 : l0.length ≤ c0) (hr1 : Kd.C (Kd.int .u8) w A1 l1.length l1) (hc1 : l1.length ≤ c1) (h : signatorylaw14_VersionsOrder.f k l0 l1 a2 a3 a4 = some r) :
    Calls Try.prog 7 #[.slice A0 l0.length c0, .slice A1 l1.length c1, .int .i64 a2, .int .i64 a3, .int .i64 a4] w fun e w' => e = .returned (.bool r) ∧ Below w.heap.size w w' := by
  have hu24 := Try.underlying24
  have HR0 := Aside0.mk hr0
  have HC0 := Aside0.mk hc0
  clear hr0 hc0
  have HR1 := Aside0.mk hr1
  have HC1 := Aside0.mk hc1
  clear hr1 hc1
  have HB := Aside0.mk (Below.refl w.heap.size w)
  have H : ((signatorylaw14_sane.f k).bind fun t159 => (if t159 = true then ((signatorylaw14_right.f k l0).bind fun t160 => (if t160 = true then ((some (([] : List (S24)) : List (S24))).bind fun y161 => (if y161.length + l0.length < 2932031007402 then (signatorylaw14_VersionsOrder.l0 k l0 a2 a3 a4 (y161 ++ l0) l1 (l1.length : Int) 0) else (none))) else (some true))) else (some false))) = some r := h
  clear h
  replace H := Option.bind_eq_some_iff.mp H
  obtain ⟨t159, A60, H⟩ := H
  replace H : (if t159 = true then ((signatorylaw14_right.f k l0).bind fun t160 => (if t160 = true then ((some (([] : List (S24)) : List (S24))).bind fun y161 => (if y161.length + l0.length < 2932031007402 then (signatorylaw14_VersionsOrder.l0 k l0 a2 a3 a4 (y161 ++ l0) l1 (l1.length : Int) 0) else (none))) else (some true))) else (some false)) = some r := H
  have A6 := Aside0.mk A60
  clear A60
  by_cases c7 : t159 = true
  · subst c7
    have H1 : ((signatorylaw14_right.f k l0).bind fun t160 => (if t160 = true then ((some (([] : List (S24)) : List (S24))).bind fun y161 => (if y161.length + l0.length < 2932031007402 then (signatorylaw14_VersionsOrder.l0 k l0 a2 a3 a4 (y161 ++ l0) l1 (l1.length : Int) 0) else (none))) else (some true))) = some r := by rw [if_pos rfl] at H; exact H
    clear H
    have H := H1
    clear H1
    replace H := Option.bind_eq_some_iff.mp H
    obtain ⟨t160, A80, H⟩ := H
    replace H : (if t160 = true then ((some (([] : List (S24)) : List (S24))).bind fun y161 => (if y161.length + l0.length < 2932031007402 then (signatorylaw14_VersionsOrder.l0 k l0 a2 a3 a4 (y161 ++ l0) l1 (l1.length : Int) 0) else (none))) else (some true)) = some r := H
    have A8 := Aside0.mk A80
    clear A80
    by_cases c9 : t160 = true
    · subst c9
      have H1 : ((some (([] : List (S24)) : List (S24))).bind fun y161 => (if y161.length + l0.length < 2932031007402 then (signatorylaw14_VersionsOrder.l0 k l0 a2 a3 a4 (y161 ++ l0) l1 (l1.length : Int) 0) else (none))) = some r := by rw [if_pos rfl] at H; exact H
      clear H
      have H := H1
      clear H1
      obtain ⟨y161, hy161⟩ : ∃ y_ : List (S24), y_ = (([] : List (S24))) := ⟨_, rfl⟩
      replace H : (if y161.length + l0.length < 2932031007402 then (signatorylaw14_VersionsOrder.l0 k l0 a2 a3 a4 (y161 ++ l0) l1 (l1.length : Int) 0) else (none)) = some r := by first | (rw [hy161]; with_reducible exact H) | (have H2_ := (Option.bind_some _ _).symm.trans H; rw [hy161]; with_reducible exact H2_) | (have H2_ := (Option.bind_some _ _).symm.trans H; with_reducible exact H2_) | with_reducible exact H | (rw [hy161]; exact H) | exact H
      have Ny161 := Aside0.mk hy161
      clear hy161
      by_cases c10 : y161.length + l0.length < 2932031007402
      · rw [if_pos c10] at H
        have LMc10 := Aside0.mk c10
        clear c10
        obtain ⟨y164, hy164⟩ : ∃ y_ : List (S24), y_ = (y161 ++ l0) := ⟨_, rfl⟩
        replace H : (signatorylaw14_VersionsOrder.l0 k l0 a2 a3 a4 y164 l1 (l1.length : Int) 0) = some r := by first | (rw [hy164]; with_reducible exact H) | (have H2_ := (Option.bind_some _ _).symm.trans H; rw [hy164]; with_reducible exact H2_) | (have H2_ := (Option.bind_some _ _).symm.trans H; with_reducible exact H2_) | with_reducible exact H | (rw [hy164]; exact H) | exact H
        have Ny164 := Aside0.mk hy164
        clear hy164
        have H' := Aside0.mk H
        clear H
        go_enter Try.func7, Try.ntmps7
        go_wp2_with (first | ((with_reducible refine gate_callee (f := 9) rfl ?_); refine goesL_ (some 29) rfl rfl Try.func9 (by kernel_rfl) rfl #[] rfl (by (try simp only [List.map_toArray, List.map_cons, List.map_nil]); first | done | rfl | (simp only [List.length_drop, List.length_take]; rfl)) ?_; (with_reducible refine (signatorylaw14_sane.calls k  true _ A6.out).mono ?_); rintro e w11 ⟨rfl, hb⟩; refine ⟨_, rfl, ?_⟩; have n0_ := Aside0.mk (below_step (by repeat (first | (with_reducible first | exact HB.out | apply below_alloc | apply pw_below_drewN | apply below_drew1) | exact HB.out)) hb); clear HB; have HB := n0_; clear n0_; (try clear hb); (try clear hb2); (try clear hk); (try clear hi)) | ((with_reducible refine gate_callee (f := 21) rfl ?_); refine goesL_ (some 32) rfl rfl Try.func21 (by kernel_rfl) rfl #[.slice A0 l0.length c0] rfl (by (try simp only [List.map_toArray, List.map_cons, List.map_nil]); first | done | rfl | (simp only [List.length_drop, List.length_take]; rfl)) ?_; (with_reducible refine (signatorylaw14_right.calls k _ _ l0 true _ ?side1 ?side2 A8.out).mono ?_); (case side1 => repeat (first | exact (Kd.C_below HR0.out HB.out) | (with_reducible refine Kd.C_alloc ?_ _) | (with_reducible refine Kd.C_drewN ?_ _) | (with_reducible refine Kd.C_drew ?_))); (case side2 => exact HC0.out); rintro e w12 ⟨rfl, hb⟩; refine ⟨_, rfl, ?_⟩; have n0_ := Aside0.mk (below_step (by repeat (first | (with_reducible first | exact HB.out | apply below_alloc | apply pw_below_drewN | apply below_drew1) | exact HB.out)) hb); clear HB; have HB := n0_; clear n0_; (try clear hb); (try clear hb2); (try clear hk); (try clear hi)) | ((with_reducible refine gate_dst (N := 34) rfl ?_); refine Kd.R_lit k24 _ 24 ?hg (N := 34) ?hd (xs := ([] : List (S24))) (inner := []) (ok := fun _ => True) (okp := fun _ => True) ?hr ?hp (fun _ hk => hk) trivial (Below.refl _ _) (Nat.le_refl _) (by simp) ?_; (case hd => rfl); (case hg => rfl); (case hr => first | (go_simp; done) | (go_simp; rfl)); (case hp => exact (Reps.none _ _)); intro v162 w13 ho14 hb hg_ hnew_; clear hg_ hnew_; (first | rw [← Ny161.out] at ho14 | (simp only [Int.reduceToNat] at ho14; rw [← Ny161.out] at ho14)); have n0_ := Aside0.mk (Kd.R_lower ho14 (below_size (by repeat (first | (with_reducible first | exact HB.out | apply below_alloc | apply pw_below_drewN | apply below_drew1) | exact HB.out)))); have n1_ := Aside0.mk (below_step (by repeat (first | (with_reducible first | exact HB.out | apply below_alloc | apply pw_below_drewN | apply below_drew1) | exact HB.out)) hb); clear HB; have HO163 := n0_; have HB := n1_; clear n0_ n1_; clear hb ho14) | ((with_reducible refine gate_builtin (b := .append) (xs := #[.tmp 34, .tmp 35]) rfl ?_); at_builtin; refine Kd.R_append_rows k24 (w0 := w) w.heap.size rfl (.tmp 34) (.tmp 35) 22 24 (.agg #[(.int .i64 0), (.int .i64 0), (.int .i64 0), (.int .i64 0), (.int .i64 0), (.bool false)]) 48 rfl Try.underlying22 info24 rfl (by decide) (by omega) v162 y161 l0 _ _ _ (fun _ => True) (fun _ => False) rfl rfl ?aO ?aR (fun _ _ h => h) (fun _ h => h.elim) ?aF ?aB ?aS ?aL ?_; (case aR => repeat (first | exact (Kd.C_below HR0.out HB.out) | (with_reducible refine Kd.C_alloc ?_ _) | (with_reducible refine Kd.C_drewN ?_ _) | (with_reducible refine Kd.C_drew ?_))); (case aB => exact (by repeat (first | (with_reducible first | exact HB.out | apply below_alloc | apply pw_below_drewN | apply below_drew1) | exact HB.out))); (case aF => exact (fun _ _ => trivial)); (case aO => exact (by (with_reducible repeat (first | apply Kd.R_alloc | apply Kd.R_drewN | apply Kd.R_drew)); exact HO163.out)); (case aS => exact (below_size (by repeat (first | (with_reducible first | exact HB.out | apply below_alloc | apply pw_below_drewN | apply below_drew1) | exact HB.out)))); (case aL => have := LMc10.out; omega); intro v165 w15 ho hb hg hat; rw [← Ny164.out] at ho; have n0_ := Aside0.mk (hb); have n1_ := Aside0.mk (ho); clear HB; clear HO163; have HB := n0_; have HO166 := n1_; clear n0_ n1_; clear ho hb hg hat))
        go_loopg [39] k (fun kq v39 w' => ∃ (x11_1 : List (S24)) (x39_1 : Int), v39 = .int .i64 x39_1 ∧ Aside0 (signatorylaw14_VersionsOrder.l0 kq l0 a2 a3 a4 x11_1 l1 (l1.length : Int) x39_1 = some r) ∧ Aside0 (kq ≤ k) ∧ Aside0 (Kd.R k24 24 w' w.heap.size (fun _ => True) v165 x11_1) ∧ Aside0 (Below w.heap.size w w'))
        case atStart => exact ⟨(y164), (0), (by first | rfl | (simp; done) | (simp [*]; done)), H', ⟨Nat.le_refl _⟩, ⟨by (with_reducible repeat (first | apply Kd.R_alloc | apply Kd.R_drewN | apply Kd.R_drew)); exact HO166.out⟩, ⟨by repeat (first | (with_reducible first | exact HB.out | apply below_alloc | apply pw_below_drewN | apply below_drew1) | exact HB.out)⟩⟩
        case round =>
          clear H'
          try clear c1
          try clear c2
          try clear p2
          try clear c7
          try clear c9
          try clear c10
          obtain ⟨x11_1, x39_1, rfl, HA, HK1, HO_11, HB⟩ := hrel
          cases gk with
          | zero => exact absurd HA.out (by simp [signatorylaw14_VersionsOrder.l0])
          | succ k1 =>
            have H := HA.out
            clear HA
            simp only [signatorylaw14_VersionsOrder.l0] at H
            by_cases c16 : x39_1 < (l1.length : Int)
            · rw [if_pos c16] at H
              have c16b0 : decide (x39_1 < (l1.length : Int)) = true := decide_eq_true c16
              clear c16
              by_cases c17 : 0 ≤ x39_1
              · rw [if_pos c17] at H
                have c17b0 : decide (0 ≤ x39_1) = true := decide_eq_true c17
                clear c17
                by_cases c18 : x39_1 < (l1.length : Int)
                · rw [if_pos c18] at H
                  have c18b0 : decide (x39_1 < (l1.length : Int)) = true := decide_eq_true c18
                  clear c18
                  by_cases c19 : x39_1 < (x11_1.length : Int)
                  · rw [if_pos c19] at H
                    have c19b0 : decide (x39_1 < (x11_1.length : Int)) = true := decide_eq_true c19
                    clear c19
                    by_cases c20 : (wrap64 ((x11_1.length : Int) - x39_1)) = 0
                    · rw [if_pos c20] at H
                      exact absurd H (by simp)
                    · rw [if_neg c20] at H
                      have c20b0 : ((wrap64 ((x11_1.length : Int) - x39_1)) == 0) = false := beq_eq_false_iff_ne.mpr c20
                      have c20b1 : ((wrap64 ((x11_1.length : Int) - x39_1)) != 0) = true := bne_iff_ne.mpr c20
                      obtain ⟨ji21, hji21⟩ : ∃ j_ : Int, (wrap64 (x39_1 + (Int.tmod (wrap64 (rd l1 x39_1)) (wrap64 ((x11_1.length : Int) - x39_1))))) = j_ := ⟨_, rfl⟩
                      replace H : (if 0 ≤ (ji21) then (if (ji21) < (x11_1.length : Int) then (signatorylaw14_VersionsOrder.l0 k1 l0 a2 a3 a4 ((x11_1.set (x39_1 : Int).toNat (⟨(rd_T24 x11_1 (ji21)).f0, (rd_T24 x11_1 (ji21)).f1, (rd_T24 x11_1 (ji21)).f2, (rd_T24 x11_1 (ji21)).f3, (rd_T24 x11_1 (ji21)).f4, (rd_T24 x11_1 (ji21)).f5⟩ : S24)).set ((ji21) : Int).toNat (⟨(rd_T24 x11_1 x39_1).f0, (rd_T24 x11_1 x39_1).f1, (rd_T24 x11_1 x39_1).f2, (rd_T24 x11_1 x39_1).f3, (rd_T24 x11_1 x39_1).f4, (rd_T24 x11_1 x39_1).f5⟩ : S24)) l1 (l1.length : Int) (wrap64 (x39_1 + 1))) else (none)) else (none)) = some r := by first | (rw [hji21] at H; exact H) | (simp only [hji21] at H ⊢; exact H)
                      have hji21w : (IntKind.i64.wrap (x39_1 + (Int.tmod (wrap64 (rd l1 x39_1)) (wrap64 ((x11_1.length : Int) - x39_1))))) = ji21 := (i64_w _).trans hji21
                      by_cases c22 : 0 ≤ (ji21)
                      · rw [if_pos c22] at H
                        have c22b0 : decide (0 ≤ (ji21)) = true := decide_eq_true c22
                        clear c22
                        by_cases c23 : (ji21) < (x11_1.length : Int)
                        · rw [if_pos c23] at H
                          have c23b0 : decide ((ji21) < (x11_1.length : Int)) = true := decide_eq_true c23
                          clear c23
                          obtain ⟨y170, hy170⟩ : ∃ y_ : List (S24), y_ = (x11_1.set (x39_1 : Int).toNat (⟨(rd_T24 x11_1 (ji21)).f0, (rd_T24 x11_1 (ji21)).f1, (rd_T24 x11_1 (ji21)).f2, (rd_T24 x11_1 (ji21)).f3, (rd_T24 x11_1 (ji21)).f4, (rd_T24 x11_1 (ji21)).f5⟩ : S24)) := ⟨_, rfl⟩
                          replace H : (signatorylaw14_VersionsOrder.l0 k1 l0 a2 a3 a4 (y170.set ((ji21) : Int).toNat (⟨(rd_T24 x11_1 x39_1).f0, (rd_T24 x11_1 x39_1).f1, (rd_T24 x11_1 x39_1).f2, (rd_T24 x11_1 x39_1).f3, (rd_T24 x11_1 x39_1).f4, (rd_T24 x11_1 x39_1).f5⟩ : S24)) l1 (l1.length : Int) (wrap64 (x39_1 + 1))) = some r := by first | (rw [hy170]; with_reducible exact H) | (have H2_ := (Option.bind_some _ _).symm.trans H; rw [hy170]; with_reducible exact H2_) | (have H2_ := (Option.bind_some _ _).symm.trans H; with_reducible exact H2_) | with_reducible exact H | (rw [hy170]; exact H) | exact H
                          have Ny170 := Aside0.mk hy170
                          clear hy170
                          obtain ⟨y171, hy171⟩ : ∃ y_ : List (S24), y_ = (y170.set ((ji21) : Int).toNat (⟨(rd_T24 x11_1 x39_1).f0, (rd_T24 x11_1 x39_1).f1, (rd_T24 x11_1 x39_1).f2, (rd_T24 x11_1 x39_1).f3, (rd_T24 x11_1 x39_1).f4, (rd_T24 x11_1 x39_1).f5⟩ : S24)) := ⟨_, rfl⟩
                          replace H : (signatorylaw14_VersionsOrder.l0 k1 l0 a2 a3 a4 y171 l1 (l1.length : Int) (wrap64 (x39_1 + 1))) = some r := by first | (rw [hy171]; with_reducible exact H) | (have H2_ := (Option.bind_some _ _).symm.trans H; rw [hy171]; with_reducible exact H2_) | (have H2_ := (Option.bind_some _ _).symm.trans H; with_reducible exact H2_) | with_reducible exact H | (rw [hy171]; exact H) | exact H
                          have Ny171 := Aside0.mk hy171
                          clear hy171
                          have H' := Aside0.mk H
                          clear H
                          have p167 : 0 ≤ (x39_1 : Int) := of_decide_eq_true (by first | (with_reducible assumption) | assumption)
                          have q167 : x39_1 < (l1.length : Int) := of_decide_eq_true (by first | (with_reducible assumption) | assumption)
                          obtain ⟨ad167, e167, hx167_0⟩ := Kd.at_int HR1.out x39_1 p167 q167
                          cases e167
                          replace hx167_0 := (HB.out.cell (World.block_lt_of_cell? w _ hx167_0)).trans hx167_0
                          replace p167 := eq_true p167
                          replace q167 := eq_true q167
                          obtain ⟨Ao26, co26, eo26⟩ := Kd.R_slice HO_11.out
                          subst eo26
                          try go_wp2
                          have n0_ := Aside0.mk (Kd.R_drew HO_11.out)
                          have n1_ := Aside0.mk (below_drew1 HB.out)
                          clear HO_11
                          clear HB
                          have HO_11 := n0_
                          have HB := n1_
                          clear n0_ n1_
                          have p168 : 0 ≤ ((ji21) : Int) := of_decide_eq_true (by first | (with_reducible assumption) | assumption)
                          have q168 : (ji21) < (x11_1.length : Int) := of_decide_eq_true (by first | (with_reducible assumption) | assumption)
                          obtain ⟨ad168, e168, hx168_0, hx168_1, hx168_2, hx168_3, hx168_4, hx168_5⟩ := at_T24 (Kd.R_reads' HO_11.out).2.2 (ji21) p168 q168
                          cases e168
                          replace p168 := eq_true p168
                          replace q168 := eq_true q168
                          have p169 : 0 ≤ (x39_1 : Int) := of_decide_eq_true (by first | (with_reducible assumption) | assumption)
                          have q169 : x39_1 < (x11_1.length : Int) := of_decide_eq_true (by first | (with_reducible assumption) | assumption)
                          obtain ⟨ad169, e169, hx169_0, hx169_1, hx169_2, hx169_3, hx169_4, hx169_5⟩ := at_T24 (Kd.R_reads' HO_11.out).2.2 x39_1 p169 q169
                          obtain rfl : ad168 = ad169 := (by injection e169)
                          replace p169 := eq_true p169
                          replace q169 := eq_true q169
                          have p24 : 0 ≤ (x39_1 : Int) := of_decide_eq_true (by first | (with_reducible assumption) | assumption)
                          have q24 : (x39_1 : Int) < ((x11_1.length : Int) : Int) := of_decide_eq_true (by first | (with_reducible assumption) | assumption)
                          obtain ⟨go24, co24, eo24, gb24, gl24, cl24, HG24⟩ := Kd.R_form HO_11.out (by omega)
                          (first | cases eo24 | (injection eo24 with ea_ en_ ec_; (first | subst ea_ | (injection ea_ with ea_; subst ea_)); subst ec_; clear en_))
                          have GB24 := Aside0.mk gb24
                          have GG24 := Aside0.mk HG24
                          clear gb24 gl24 HG24
                          (first | simp only [add_plain] at hx168_0 | skip)
                          (first | simp only [add_plain] at hx168_1 | skip)
                          (first | simp only [add_plain] at hx168_2 | skip)
                          (first | simp only [add_plain] at hx168_3 | skip)
                          (first | simp only [add_plain] at hx168_4 | skip)
                          (first | simp only [add_plain] at hx168_5 | skip)
                          (first | simp only [add_plain] at hx169_0 | skip)
                          (first | simp only [add_plain] at hx169_1 | skip)
                          (first | simp only [add_plain] at hx169_2 | skip)
                          (first | simp only [add_plain] at hx169_3 | skip)
                          (first | simp only [add_plain] at hx169_4 | skip)
                          (first | simp only [add_plain] at hx169_5 | skip)
                          obtain ⟨ce24, hcl24, hM24, hcc24, hfr24⟩ := Kd.R_elem HO_11.out z24 (x39_1 : Int) p24 q24
                          obtain rfl := k24_openM hM24
                          have hx24_0 : World.cell? _ ⟨go24, (x39_1 : Int).toNat * 6, none⟩ = some (.int .i64 ((rd_T24 x11_1 x39_1).f0)) := hcc24 0 _ rfl
                          have hx24_1 : World.cell? _ ⟨go24, (x39_1 : Int).toNat * 6 + 1, none⟩ = some (.int .i64 ((rd_T24 x11_1 x39_1).f1)) := hcc24 1 _ rfl
                          have hx24_2 : World.cell? _ ⟨go24, (x39_1 : Int).toNat * 6 + 2, none⟩ = some (.int .i64 ((rd_T24 x11_1 x39_1).f2)) := hcc24 2 _ rfl
                          have hx24_3 : World.cell? _ ⟨go24, (x39_1 : Int).toNat * 6 + 3, none⟩ = some (.int .i64 ((rd_T24 x11_1 x39_1).f3)) := hcc24 3 _ rfl
                          have hx24_4 : World.cell? _ ⟨go24, (x39_1 : Int).toNat * 6 + 4, none⟩ = some (.int .i64 ((rd_T24 x11_1 x39_1).f4)) := hcc24 4 _ rfl
                          have hx24_5 : World.cell? _ ⟨go24, (x39_1 : Int).toNat * 6 + 5, none⟩ = some (.bool ((rd_T24 x11_1 x39_1).f5)) := hcc24 5 _ rfl
                          have hf24_0 : World.frozen? _ ⟨go24, (x39_1 : Int).toNat * 6, none⟩ = false := hfr24 0
                          have hf24_1 : World.frozen? _ ⟨go24, (x39_1 : Int).toNat * 6 + 1, none⟩ = false := hfr24 1
                          have hf24_2 : World.frozen? _ ⟨go24, (x39_1 : Int).toNat * 6 + 2, none⟩ = false := hfr24 2
                          have hf24_3 : World.frozen? _ ⟨go24, (x39_1 : Int).toNat * 6 + 3, none⟩ = false := hfr24 3
                          have hf24_4 : World.frozen? _ ⟨go24, (x39_1 : Int).toNat * 6 + 4, none⟩ = false := hfr24 4
                          have hf24_5 : World.frozen? _ ⟨go24, (x39_1 : Int).toNat * 6 + 5, none⟩ = false := hfr24 5
                          clear hcl24 hcc24 hfr24 hM24
                          replace p24 := eq_true p24
                          replace q24 := eq_true q24
                          obtain ⟨ce28, hcl28, hM28, hcc28, hfr28⟩ := Kd.R_elem HO_11.out z24 (x39_1 : Int) (of_decide_eq_true (by first | (with_reducible assumption) | assumption)) (by have h_ : (x39_1 : Int) < ((x11_1.length : Int) : Int) := of_decide_eq_true (by first | (with_reducible assumption) | assumption); first | exact h_ | (have e_ := (Kd.R_reads' HO_11.out).1; omega) | simpa using h_)
                          obtain rfl := k24_openM hM28
                          have HP28 := (Kd.R_seg HO_11.out (x39_1 : Int) (of_decide_eq_true (by first | (with_reducible assumption) | assumption)) (by have h_ : (x39_1 : Int) < ((x11_1.length : Int) : Int) := of_decide_eq_true (by first | (with_reducible assumption) | assumption); first | exact h_ | (have e_ := (Kd.R_reads' HO_11.out).1; omega) | simpa using h_) (seg := [.int .i64 ((rd_T24 x11_1 (ji21)).f0), .int .i64 ((rd_T24 x11_1 (ji21)).f1), .int .i64 ((rd_T24 x11_1 (ji21)).f2), .int .i64 ((rd_T24 x11_1 (ji21)).f3), .int .i64 ((rd_T24 x11_1 (ji21)).f4), .bool ((rd_T24 x11_1 (ji21)).f5)]) (j := 0) hcl28 hcc28 (show 6 ≤ 6 from by decide) (x' := (⟨(rd_T24 x11_1 (ji21)).f0, (rd_T24 x11_1 (ji21)).f1, (rd_T24 x11_1 (ji21)).f2, (rd_T24 x11_1 (ji21)).f3, (rd_T24 x11_1 (ji21)).f4, (rd_T24 x11_1 (ji21)).f5⟩ : S24)) (k24_mkM _ _ _ (⟨(rd_T24 x11_1 (ji21)).f0, (rd_T24 x11_1 (ji21)).f1, (rd_T24 x11_1 (ji21)).f2, (rd_T24 x11_1 (ji21)).f3, (rd_T24 x11_1 (ji21)).f4, (rd_T24 x11_1 (ji21)).f5⟩ : S24) ) (fun _ hk => hk)).1
                          rw [← Ny170.out] at HP28
                          have HQ28 := Aside0.mk HP28
                          clear hcl28 hcc28 hfr28 hM28 HP28
                          refine start_ (n := 16) (S := fun w' => w'.cell? ⟨go24, (((ji21)).toNat * 6), none⟩ = some (.int .i64 ((rd_T24 x11_1 (ji21)).f0)) ∧ w'.cell? ⟨go24, (((ji21)).toNat * 6) + 1, none⟩ = some (.int .i64 ((rd_T24 x11_1 (ji21)).f1)) ∧ w'.cell? ⟨go24, (((ji21)).toNat * 6) + 2, none⟩ = some (.int .i64 ((rd_T24 x11_1 (ji21)).f2)) ∧ w'.cell? ⟨go24, (((ji21)).toNat * 6) + 3, none⟩ = some (.int .i64 ((rd_T24 x11_1 (ji21)).f3)) ∧ w'.cell? ⟨go24, (((ji21)).toNat * 6) + 4, none⟩ = some (.int .i64 ((rd_T24 x11_1 (ji21)).f4)) ∧ w'.cell? ⟨go24, (((ji21)).toNat * 6) + 5, none⟩ = some (.bool ((rd_T24 x11_1 (ji21)).f5)) ∧ w'.cell? ⟨go24, ((x39_1).toNat * 6), none⟩ = some (.int .i64 ((rd_T24 x11_1 x39_1).f0)) ∧ w'.cell? ⟨go24, ((x39_1).toNat * 6) + 1, none⟩ = some (.int .i64 ((rd_T24 x11_1 x39_1).f1)) ∧ w'.cell? ⟨go24, ((x39_1).toNat * 6) + 2, none⟩ = some (.int .i64 ((rd_T24 x11_1 x39_1).f2)) ∧ w'.cell? ⟨go24, ((x39_1).toNat * 6) + 3, none⟩ = some (.int .i64 ((rd_T24 x11_1 x39_1).f3)) ∧ w'.cell? ⟨go24, ((x39_1).toNat * 6) + 4, none⟩ = some (.int .i64 ((rd_T24 x11_1 x39_1).f4)) ∧ w'.cell? ⟨go24, ((x39_1).toNat * 6) + 5, none⟩ = some (.bool ((rd_T24 x11_1 x39_1).f5))) (ds := [13, 15]) #[false, false, false, false, false, false, false, false, false, false, false, false, false, false, false, false] (by kernel_rfl) rfl rfl ⟨hx168_0, hx168_1, hx168_2, hx168_3, hx168_4, hx168_5, hx169_0, hx169_1, hx169_2, hx169_3, hx169_4, hx169_5⟩ (fun hHeld => ?_); refine with_tabW signatorylaw14_VersionsOrder.tab11 signatorylaw14_VersionsOrder.bits11 (fun HT_ HW_ => ?_)
                          generalize wr.drew = w27 at HO_11 HB GG24 HQ28 hf24_0 hf24_1 hf24_2 hf24_3 hf24_4 hf24_5 hx168_0 hx168_1 hx168_2 hx168_3 hx168_4 hx168_5 hx169_0 hx169_1 hx169_2 hx169_3 hx169_4 hx169_5 hx24_0 hx24_1 hx24_2 hx24_3 hx24_4 hx24_5 hHeld ⊢
                          refine pure_ (i := 0) (N := some 57) (v := ?_) (a' := ?_) #[true, false, false, false, false, false, false, false, false, false, false, false, false, false, false, false] rfl rfl (any_of HT_.out (by kernel_rfl)) (fun _ _ _ h => h) (Or.inl ⟨by rfl, ?_⟩) ?_ ?_
                          rotate_left
                          · intro w'
                            go_simp
                            with_reducible rfl
                          rotate_left
                          · simp only [Act.put, List.setIfInBounds_toArray, List.set_cons_zero, List.set_cons_succ, i64_w, i32_w]
                            rfl
                          refine pure_ (i := 1) (N := some 58) (v := ?_) (a' := ?_) #[true, true, false, false, false, false, false, false, false, false, false, false, false, false, false, false] rfl rfl (any_of HT_.out (by kernel_rfl)) (fun _ _ _ h => h) (Or.inl ⟨by rfl, ?_⟩) ?_ ?_
                          rotate_left
                          · intro w'
                            go_simp
                            with_reducible rfl
                          rotate_left
                          · simp only [Act.put, List.setIfInBounds_toArray, List.set_cons_zero, List.set_cons_succ, i64_w, i32_w]
                            rfl
                          refine pure_ (i := 2) (N := some 59) (v := ?_) (a' := ?_) #[true, true, true, false, false, false, false, false, false, false, false, false, false, false, false, false] rfl rfl (any_of HT_.out (by kernel_rfl)) (fun _ _ _ h => h) (Or.inl ⟨by rfl, ?_⟩) ?_ ?_
                          rotate_left
                          · intro w'
                            go_simp
                            with_reducible rfl
                          rotate_left
                          · simp only [Act.put, List.setIfInBounds_toArray, List.set_cons_zero, List.set_cons_succ, i64_w, i32_w]
                            rfl
                          refine pure_ (i := 3) (N := some 60) (v := ?_) (a' := ?_) #[true, true, true, true, false, false, false, false, false, false, false, false, false, false, false, false] rfl rfl (any_of HT_.out (by kernel_rfl)) (fun _ _ _ h => h) (Or.inl ⟨by rfl, ?_⟩) ?_ ?_
                          rotate_left
                          · intro w'
                            go_simp
                            with_reducible rfl
                          rotate_left
                          · simp only [Act.put, List.setIfInBounds_toArray, List.set_cons_zero, List.set_cons_succ, i64_w, i32_w]
                            rfl
                          refine pure_ (i := 4) (N := some 61) (v := ?_) (a' := ?_) #[true, true, true, true, true, false, false, false, false, false, false, false, false, false, false, false] rfl rfl (any_of HT_.out (by kernel_rfl)) (fun _ _ _ h => h) (Or.inl ⟨by rfl, ?_⟩) ?_ ?_
                          rotate_left
                          · intro w'
                            go_simp
                            with_reducible rfl
                          rotate_left
                          · simp only [Act.put, List.setIfInBounds_toArray, List.set_cons_zero, List.set_cons_succ, i64_w, i32_w]
                            rfl
                          refine pure_ (i := 5) (N := some 62) (v := ?_) (a' := ?_) #[true, true, true, true, true, true, false, false, false, false, false, false, false, false, false, false] rfl rfl (any_of HT_.out (by kernel_rfl)) (fun _ _ _ h => h) (Or.inl ⟨by rfl, ?_⟩) ?_ ?_
                          rotate_left
                          · intro w'
                            go_simp
                            with_reducible rfl
                          rotate_left
                          · simp only [Act.put, List.setIfInBounds_toArray, List.set_cons_zero, List.set_cons_succ, i64_w, i32_w]
                            rfl
                          refine pure_ (i := 6) (N := some 63) (v := ?_) (a' := ?_) #[true, true, true, true, true, true, true, false, false, false, false, false, false, false, false, false] rfl rfl (any_of HT_.out (by kernel_rfl)) (fun _ _ _ h => h) (Or.inl ⟨by rfl, ?_⟩) ?_ ?_
                          rotate_left
                          · intro w'
                            go_simp
                            with_reducible rfl
                          rotate_left
                          · simp only [Act.put, List.setIfInBounds_toArray, List.set_cons_zero, List.set_cons_succ, i64_w, i32_w]
                            rfl
                          refine pure_ (i := 8) (N := some 65) (v := ?_) (a' := ?_) #[true, true, true, true, true, true, true, false, true, false, false, false, false, false, false, false] rfl rfl (any_of HT_.out (by kernel_rfl)) (fun _ _ _ h => h) (Or.inl ⟨by rfl, ?_⟩) ?_ ?_
                          rotate_left
                          · intro w'
                            go_simp
                            with_reducible rfl
                          rotate_left
                          · simp only [Act.put, List.setIfInBounds_toArray, List.set_cons_zero, List.set_cons_succ, i64_w, i32_w]
                            rfl
                          refine pure_ (i := 9) (N := some 66) (v := ?_) (a' := ?_) #[true, true, true, true, true, true, true, false, true, true, false, false, false, false, false, false] rfl rfl (any_of HT_.out (by kernel_rfl)) (fun _ _ _ h => h) (Or.inl ⟨by rfl, ?_⟩) ?_ ?_
                          rotate_left
                          · intro w'
                            go_simp
                            with_reducible rfl
                          rotate_left
                          · simp only [Act.put, List.setIfInBounds_toArray, List.set_cons_zero, List.set_cons_succ, i64_w, i32_w]
                            rfl
                          refine pure_ (i := 10) (N := some 67) (v := ?_) (a' := ?_) #[true, true, true, true, true, true, true, false, true, true, true, false, false, false, false, false] rfl rfl (any_of HT_.out (by kernel_rfl)) (fun _ _ _ h => h) (Or.inl ⟨by rfl, ?_⟩) ?_ ?_
                          rotate_left
                          · intro w'
                            go_simp
                            with_reducible rfl
                          rotate_left
                          · simp only [Act.put, List.setIfInBounds_toArray, List.set_cons_zero, List.set_cons_succ, i64_w, i32_w]
                            rfl
                          refine take_ (i := 7) (N := some 64) (v := ?_) (a' := ?_) #[true, true, true, true, true, true, true, true, true, true, true, false, false, false, false, false] rfl rfl (take_ofW HT_.out HW_.out (by kernel_rfl)) (fun _ _ _ h => h) (Or.inl ⟨by rfl, ?_⟩) hHeld ?_ ?_
                          rotate_left
                          · rintro w' ⟨s0, s1, s2, s3, s4, s5, s6, s7, s8, s9, s10, s11⟩
                            go_simp
                            with_reducible rfl
                          rotate_left
                          · simp only [Act.put, List.setIfInBounds_toArray, List.set_cons_zero, List.set_cons_succ, i64_w, i32_w]
                            rfl
                          refine take_ (i := 11) (N := some 68) (v := ?_) (a' := ?_) #[true, true, true, true, true, true, true, true, true, true, true, true, false, false, false, false] rfl rfl (take_ofW HT_.out HW_.out (by kernel_rfl)) (fun _ _ _ h => h) (Or.inl ⟨by rfl, ?_⟩) hHeld ?_ ?_
                          rotate_left
                          · rintro w' ⟨s0, s1, s2, s3, s4, s5, s6, s7, s8, s9, s10, s11⟩
                            go_simp
                            with_reducible rfl
                          rotate_left
                          · simp only [Act.put, List.setIfInBounds_toArray, List.set_cons_zero, List.set_cons_succ, i64_w, i32_w]
                            rfl
                          refine pure_ (i := 12) (N := some 69) (v := ?_) (a' := ?_) #[true, true, true, true, true, true, true, true, true, true, true, true, true, false, false, false] rfl rfl (any_of HT_.out (by kernel_rfl)) (fun _ _ _ h => h) (Or.inl ⟨by rfl, ?_⟩) ?_ ?_
                          rotate_left
                          · intro w'
                            go_simp
                            with_reducible rfl
                          rotate_left
                          · simp only [Act.put, List.setIfInBounds_toArray, List.set_cons_zero, List.set_cons_succ, i64_w, i32_w]
                            rfl
                          refine last_ (i := 13) (N := none) #[true, true, true, true, true, true, true, true, true, true, true, true, true, true, false, false] rfl rfl (one_of HT_.out (by kernel_rfl)) (by decide) (fun K hK => ?_)
                          refine skip_ (w1 := ?_) (by rfl) rfl ?_ ?_
                          rotate_left
                          · go_simp
                            rfl
                          refine hK.out _ _ ?_
                          clear hK K
                          have HX_ : ∃ w_, Kd.R k24 24 w_ _ _ _ _ ∧ ((((((w27.setCell ⟨go24, x39_1.toNat * 6, none⟩ (.int .i64 ((rd_T24 x11_1 (ji21)).f0))).setCell ⟨go24, x39_1.toNat * 6 + 1, none⟩ (.int .i64 ((rd_T24 x11_1 (ji21)).f1))).setCell ⟨go24, x39_1.toNat * 6 + 2, none⟩ (.int .i64 ((rd_T24 x11_1 (ji21)).f2))).setCell ⟨go24, x39_1.toNat * 6 + 3, none⟩ (.int .i64 ((rd_T24 x11_1 (ji21)).f3))).setCell ⟨go24, x39_1.toNat * 6 + 4, none⟩ (.int .i64 ((rd_T24 x11_1 (ji21)).f4))).setCell ⟨go24, x39_1.toNat * 6 + 5, none⟩ (.bool ((rd_T24 x11_1 (ji21)).f5))) = w_ := ⟨_, HQ28.out, rfl⟩
                          have HB_ : Below w.heap.size w ((((((w27.setCell ⟨go24, x39_1.toNat * 6, none⟩ (.int .i64 ((rd_T24 x11_1 (ji21)).f0))).setCell ⟨go24, x39_1.toNat * 6 + 1, none⟩ (.int .i64 ((rd_T24 x11_1 (ji21)).f1))).setCell ⟨go24, x39_1.toNat * 6 + 2, none⟩ (.int .i64 ((rd_T24 x11_1 (ji21)).f2))).setCell ⟨go24, x39_1.toNat * 6 + 3, none⟩ (.int .i64 ((rd_T24 x11_1 (ji21)).f3))).setCell ⟨go24, x39_1.toNat * 6 + 4, none⟩ (.int .i64 ((rd_T24 x11_1 (ji21)).f4))).setCell ⟨go24, x39_1.toNat * 6 + 5, none⟩ (.bool ((rd_T24 x11_1 (ji21)).f5))) := by repeat (first | (with_reducible first | exact HB.out | apply below_alloc | apply pw_below_drewN | apply below_drew1 | refine below_set ?_ GB24.out | refine below_set ?_ GB24.out | refine below_set ?_ GB24.out | refine below_set ?_ GB24.out | refine below_set ?_ GB24.out | refine below_set ?_ GB24.out | refine below_set ?_ GB24.out | refine below_set ?_ GB24.out | refine below_set ?_ GB24.out | refine below_set ?_ GB24.out | refine below_set ?_ GB24.out | refine below_set ?_ GB24.out) | exact HB.out)
                          obtain ⟨w28_, HX_, hw28_⟩ := HX_
                          rw [hw28_] at HB_ ⊢
                          clear hw28_ HB HQ28
                          have HQ28 := Aside0.mk HX_
                          have HB := Aside0.mk HB_
                          clear HX_ HB_
                          have p25 : 0 ≤ ((ji21) : Int) := of_decide_eq_true (by first | (with_reducible assumption) | assumption)
                          have q25 : ((ji21) : Int) < ((x11_1.length : Int) : Int) := of_decide_eq_true (by first | (with_reducible assumption) | assumption)
                          obtain ⟨ce25, hcl25, hM25, hcc25, hfr25⟩ := Kd.R_elem HQ28.out z24 ((ji21) : Int) p25 q25
                          obtain rfl := k24_openM hM25
                          have hx25_0 : World.cell? _ ⟨go24, ((ji21) : Int).toNat * 6, none⟩ = some (.int .i64 ((rd_T24 y170 (ji21)).f0)) := hcc25 0 _ rfl
                          have hx25_1 : World.cell? _ ⟨go24, ((ji21) : Int).toNat * 6 + 1, none⟩ = some (.int .i64 ((rd_T24 y170 (ji21)).f1)) := hcc25 1 _ rfl
                          have hx25_2 : World.cell? _ ⟨go24, ((ji21) : Int).toNat * 6 + 2, none⟩ = some (.int .i64 ((rd_T24 y170 (ji21)).f2)) := hcc25 2 _ rfl
                          have hx25_3 : World.cell? _ ⟨go24, ((ji21) : Int).toNat * 6 + 3, none⟩ = some (.int .i64 ((rd_T24 y170 (ji21)).f3)) := hcc25 3 _ rfl
                          have hx25_4 : World.cell? _ ⟨go24, ((ji21) : Int).toNat * 6 + 4, none⟩ = some (.int .i64 ((rd_T24 y170 (ji21)).f4)) := hcc25 4 _ rfl
                          have hx25_5 : World.cell? _ ⟨go24, ((ji21) : Int).toNat * 6 + 5, none⟩ = some (.bool ((rd_T24 y170 (ji21)).f5)) := hcc25 5 _ rfl
                          have hf25_0 : World.frozen? _ ⟨go24, ((ji21) : Int).toNat * 6, none⟩ = false := hfr25 0
                          have hf25_1 : World.frozen? _ ⟨go24, ((ji21) : Int).toNat * 6 + 1, none⟩ = false := hfr25 1
                          have hf25_2 : World.frozen? _ ⟨go24, ((ji21) : Int).toNat * 6 + 2, none⟩ = false := hfr25 2
                          have hf25_3 : World.frozen? _ ⟨go24, ((ji21) : Int).toNat * 6 + 3, none⟩ = false := hfr25 3
                          have hf25_4 : World.frozen? _ ⟨go24, ((ji21) : Int).toNat * 6 + 4, none⟩ = false := hfr25 4
                          have hf25_5 : World.frozen? _ ⟨go24, ((ji21) : Int).toNat * 6 + 5, none⟩ = false := hfr25 5
                          clear hcl25 hcc25 hfr25 hM25
                          replace p25 := eq_true p25
                          replace q25 := eq_true q25
                          obtain ⟨ce29, hcl29, hM29, hcc29, hfr29⟩ := Kd.R_elem HQ28.out z24 ((ji21) : Int) (of_decide_eq_true (by first | (with_reducible assumption) | assumption)) (by have h_ : ((ji21) : Int) < ((x11_1.length : Int) : Int) := of_decide_eq_true (by first | (with_reducible assumption) | assumption); first | exact h_ | (have e_ := (Kd.R_reads' HO_11.out).1; omega) | simpa using h_)
                          obtain rfl := k24_openM hM29
                          have HP29 := (Kd.R_seg HQ28.out ((ji21) : Int) (of_decide_eq_true (by first | (with_reducible assumption) | assumption)) (by have h_ : ((ji21) : Int) < ((x11_1.length : Int) : Int) := of_decide_eq_true (by first | (with_reducible assumption) | assumption); first | exact h_ | (have e_ := (Kd.R_reads' HO_11.out).1; omega) | simpa using h_) (seg := [.int .i64 ((rd_T24 x11_1 x39_1).f0), .int .i64 ((rd_T24 x11_1 x39_1).f1), .int .i64 ((rd_T24 x11_1 x39_1).f2), .int .i64 ((rd_T24 x11_1 x39_1).f3), .int .i64 ((rd_T24 x11_1 x39_1).f4), .bool ((rd_T24 x11_1 x39_1).f5)]) (j := 0) hcl29 hcc29 (show 6 ≤ 6 from by decide) (x' := (⟨(rd_T24 x11_1 x39_1).f0, (rd_T24 x11_1 x39_1).f1, (rd_T24 x11_1 x39_1).f2, (rd_T24 x11_1 x39_1).f3, (rd_T24 x11_1 x39_1).f4, (rd_T24 x11_1 x39_1).f5⟩ : S24)) (k24_mkM _ _ _ (⟨(rd_T24 x11_1 x39_1).f0, (rd_T24 x11_1 x39_1).f1, (rd_T24 x11_1 x39_1).f2, (rd_T24 x11_1 x39_1).f3, (rd_T24 x11_1 x39_1).f4, (rd_T24 x11_1 x39_1).f5⟩ : S24) ) (fun _ hk => hk)).1
                          rw [← Ny171.out] at HP29
                          have HQ29 := Aside0.mk HP29
                          clear hcl29 hcc29 hfr29 hM29 HP29
                          refine pure_ (i := 14) (N := some 70) (v := ?_) (a' := ?_) #[true, true, true, true, true, true, true, true, true, true, true, true, true, true, true, false] rfl rfl (any_of HT_.out (by kernel_rfl)) (fun _ _ _ h => h) (Or.inl ⟨by rfl, ?_⟩) ?_ ?_
                          rotate_left
                          · intro w'
                            go_simp
                            with_reducible rfl
                          rotate_left
                          · simp only [Act.put, List.setIfInBounds_toArray, List.set_cons_zero, List.set_cons_succ, i64_w, i32_w]
                            rfl
                          refine last_ (i := 15) (N := none) #[true, true, true, true, true, true, true, true, true, true, true, true, true, true, true, true] rfl rfl (one_of HT_.out (by kernel_rfl)) (by decide) (fun K hK => ?_)
                          refine skip_ (w1 := ?_) (by rfl) rfl ?_ ?_
                          rotate_left
                          · go_simp
                            rfl
                          refine hK.out _ _ ?_
                          clear hK K
                          refine done_ (done_of HT_.out (by kernel_rfl)) ?_
                          try go_wp2
                          go_roundg k1
                          case measure => have := HK1.out; omega
                          case rel => exact ⟨(y171), (wrap64 (x39_1 + 1)), (by first | rfl | (simp; done) | (simp [*]; done)), H', ⟨by have := HK1.out; omega⟩, ⟨by (with_reducible repeat (first | apply Kd.R_alloc | apply Kd.R_drewN | apply Kd.R_drew)); exact HQ29.out⟩, ⟨by repeat (first | (with_reducible first | exact HB.out | apply below_alloc | apply pw_below_drewN | apply below_drew1 | refine below_set ?_ GB24.out | refine below_set ?_ GB24.out | refine below_set ?_ GB24.out | refine below_set ?_ GB24.out | refine below_set ?_ GB24.out | refine below_set ?_ GB24.out | refine below_set ?_ GB24.out | refine below_set ?_ GB24.out | refine below_set ?_ GB24.out | refine below_set ?_ GB24.out | refine below_set ?_ GB24.out | refine below_set ?_ GB24.out) | exact HB.out)⟩⟩
                        · rw [if_neg c23] at H
                          exact absurd H (by simp)
                      · rw [if_neg c22] at H
                        exact absurd H (by simp)
                  · rw [if_neg c19] at H
                    have c19b0 : decide (x39_1 < (x11_1.length : Int)) = false := decide_eq_false c19
                    clear c19
                    have H' := Aside0.mk H
                    clear H
                    have p167 : 0 ≤ (x39_1 : Int) := of_decide_eq_true (by first | (with_reducible assumption) | assumption)
                    have q167 : x39_1 < (l1.length : Int) := of_decide_eq_true (by first | (with_reducible assumption) | assumption)
                    obtain ⟨ad167, e167, hx167_0⟩ := Kd.at_int HR1.out x39_1 p167 q167
                    cases e167
                    replace hx167_0 := (HB.out.cell (World.block_lt_of_cell? w _ hx167_0)).trans hx167_0
                    replace p167 := eq_true p167
                    replace q167 := eq_true q167
                    obtain ⟨Ao30, co30, eo30⟩ := Kd.R_slice HO_11.out
                    subst eo30
                    go_wp2
                    go_roundg k1
                    case measure => have := HK1.out; omega
                    case rel => exact ⟨(x11_1), (wrap64 (x39_1 + 1)), (by first | rfl | (simp; done) | (simp [*]; done)), H', ⟨by have := HK1.out; omega⟩, ⟨by (with_reducible repeat (first | apply Kd.R_alloc | apply Kd.R_drewN | apply Kd.R_drew)); exact HO_11.out⟩, ⟨by repeat (first | (with_reducible first | exact HB.out | apply below_alloc | apply pw_below_drewN | apply below_drew1) | exact HB.out)⟩⟩
                · rw [if_neg c18] at H
                  exact absurd H (by simp)
              · rw [if_neg c17] at H
                exact absurd H (by simp)
            · rw [if_neg c16] at H
              have c16b0 : decide (x39_1 < (l1.length : Int)) = false := decide_eq_false c16
              clear c16
              have H' := Aside0.mk H
              clear H
              obtain ⟨Ao31, co31, eo31⟩ := Kd.R_slice HO_11.out
              subst eo31
              go_wp2
              go_loopg [15, 74] k1 (fun kq v15 v74 w' => ∃ (x15_2 : List (S24)) (x74_2 : Int), v74 = .int .i64 x74_2 ∧ Aside0 (signatorylaw14_VersionsOrder.l1 kq l0 a2 a3 a4 x15_2 x11_1 (x11_1.length : Int) x74_2 = some r) ∧ Aside0 (kq ≤ k1) ∧ Aside0 (Kd.R k24 24 w' w.heap.size (fun k_ => some k_ ≠ ((.slice Ao31 x11_1.length co31) : Value).ownBlock) v15 x15_2) ∧ Aside0 (Kd.R k24 24 w' w.heap.size (fun k_ => some k_ ≠ (v15 : Value).ownBlock) (.slice Ao31 x11_1.length co31) x11_1) ∧ Aside0 (Below w.heap.size w w'))
              case atStart => exact ⟨(([] : List (S24))), (0), (by first | rfl | (simp; done) | (simp [*]; done)), H', ⟨Nat.le_refl _⟩, ⟨by first | exact Kd.R_nil _ _ _ _ _ | exact Kd.N_nil _ _ _ _ _ | exact Kd.V_nil _ _ _ _ _ | exact Kd.Q_nil _ _ _ _ _ | exact Kd.S_nil _ _ _ _ _⟩, ⟨by (with_reducible repeat (first | apply Kd.R_alloc | apply Kd.R_drewN | apply Kd.R_drew)); exact Kd.R_mono HO_11.out (fun _ hk => (by simp [Value.ownBlock]))⟩, ⟨by repeat (first | (with_reducible first | exact HB.out | apply below_alloc | apply pw_below_drewN | apply below_drew1) | exact HB.out)⟩⟩
              case round =>
                clear H'
                try clear c1
                try clear p1
                try clear q1
                try clear hx1
                try clear c2
                try clear p2
                try clear q2
                try clear hx2
                try clear p6
                try clear c7
                try clear c9
                try clear c10
                try clear c16
                try clear c16b0
                try clear p16
                try clear q16
                try clear hx16
                try clear c17
                try clear c17b0
                try clear c18
                try clear c18b0
                try clear c19
                try clear c19b0
                try clear c20
                try clear c20b0
                try clear c20b1
                try clear c21
                try clear c22
                try clear c22b0
                try clear c23
                try clear c23b0
                try clear c24
                try clear p24
                try clear q24
                try clear hx24
                try clear hf24
                try clear c25
                try clear p25
                try clear q25
                try clear hx25
                try clear hf25
                try clear c28
                try clear c29
                try clear hx167_0
                try clear hx168_0
                try clear hx168_1
                try clear hx168_2
                try clear hx168_3
                try clear hx168_4
                try clear hx168_5
                try clear hx169_0
                try clear hx169_1
                try clear hx169_2
                try clear hx169_3
                try clear hx169_4
                try clear hx169_5
                try clear hx24_0
                try clear hx24_1
                try clear hx24_2
                try clear hx24_3
                try clear hx24_4
                try clear hx24_5
                try clear hx25_0
                try clear hx25_1
                try clear hx25_2
                try clear hx25_3
                try clear hx25_4
                try clear hx25_5
                try clear p167
                try clear p168
                try clear p169
                try clear p2
                try clear p24
                try clear p25
                try clear q167
                try clear q168
                try clear q169
                try clear q24
                try clear q25
                obtain ⟨x15_2, x74_2, rfl, HA, HK2, HO_15, HO_72, HB⟩ := hrel
                cases gk with
                | zero => exact absurd HA.out (by simp [signatorylaw14_VersionsOrder.l1])
                | succ k2 =>
                  have H := HA.out
                  clear HA
                  simp only [signatorylaw14_VersionsOrder.l1] at H
                  by_cases c32 : x74_2 < (x11_1.length : Int)
                  · rw [if_pos c32] at H
                    have c32b0 : decide (x74_2 < (x11_1.length : Int)) = true := decide_eq_true c32
                    clear c32
                    by_cases c33 : 0 ≤ x74_2
                    · rw [if_pos c33] at H
                      have c33b0 : decide (0 ≤ x74_2) = true := decide_eq_true c33
                      clear c33
                      by_cases c34 : x74_2 < (x11_1.length : Int)
                      · rw [if_pos c34] at H
                        have c34b0 : decide (x74_2 < (x11_1.length : Int)) = true := decide_eq_true c34
                        clear c34
                        replace H := Option.bind_eq_some_iff.mp H
                        obtain ⟨⟨t174, t177⟩, A350, H⟩ := H
                        replace H : (if t177 = 0 then (signatorylaw14_VersionsOrder.l1 k2 l0 a2 a3 a4 t174 x11_1 (x11_1.length : Int) (wrap64 (x74_2 + 1))) else (some false)) = some r := H
                        have A35 := Aside0.mk A350
                        clear A350
                        by_cases c36 : t177 = 0
                        · rw [if_pos c36] at H
                          have c36b0 : (t177 == 0) = true := beq_iff_eq.mpr c36
                          have c36b1 : (t177 != 0) = false := bne_eq_false_iff_eq.mpr c36
                          clear c36
                          have H' := Aside0.mk H
                          clear H
                          have p172 : 0 ≤ (x74_2 : Int) := of_decide_eq_true (by first | (with_reducible assumption) | assumption)
                          have q172 : x74_2 < (x11_1.length : Int) := of_decide_eq_true (by first | (with_reducible assumption) | assumption)
                          obtain ⟨ad172, e172, hx172_0, hx172_1, hx172_2, hx172_3, hx172_4, hx172_5⟩ := at_T24 (Kd.R_reads' HO_72.out).2.2 x74_2 p172 q172
                          cases e172
                          replace p172 := eq_true p172
                          replace q172 := eq_true q172
                          go_wp2_with (first | ((with_reducible refine gate_dst (N := 18) rfl ?_); refine box_event ?hg (N := 18) ?hd (cs := #[.int .i64 0, .int .i64 0, .int .i64 0, .int .i64 0, .int .i64 0, .bool false]) (t := 24) ?hr ?_; (case hd => rfl); (case hg => rfl); (case hr => first | (go_simp; done) | (go_simp; rfl)); intro gb173 hg w37 hbox hb; have n0_ := Aside0.mk (Kd.R_below (Kd.R_elderB (by (with_reducible repeat (first | apply Kd.R_alloc | apply Kd.R_drewN | apply Kd.R_drew)); exact HO_15.out) gb173 (Nat.le_of_eq hg.symm)) hb); have n1_ := Aside0.mk (Kd.R_below (Kd.R_elderB (by (with_reducible repeat (first | apply Kd.R_alloc | apply Kd.R_drewN | apply Kd.R_drew)); exact HO_72.out) gb173 (Nat.le_of_eq hg.symm)) hb); have n2_ := Aside0.mk (below_step (by repeat (first | (with_reducible first | exact HB.out | apply below_alloc | apply pw_below_drewN | apply below_drew1) | exact HB.out)) hb); have n3_ := Aside0.mk (hbox); have n4_ := Aside0.mk ((by rw [hg]; exact (below_size (by repeat (first | (with_reducible first | exact HB.out | apply below_alloc | apply pw_below_drewN | apply below_drew1) | exact HB.out))) : w.heap.size ≤ gb173)); have n5_ := Aside0.mk ((by rw [hg]; exact (below_size (by repeat (first | (with_reducible first | exact HB.out | apply below_alloc | apply pw_below_drewN | apply below_drew1) | exact HB.out))) : w.heap.size ≤ gb173)); clear HO_15; clear HO_72; clear HB; have HO_15 := n0_; have HO_72 := n1_; have HB := n2_; have BK173 := n3_; have GW173 := n4_; have GE173 := n5_; clear n0_ n1_ n2_ n3_ n4_ n5_; clear hb hbox hg; have hcz38_0 : w37.cell? ⟨gb173, 0, none⟩ = some (.int .i64 0) := (blk_cell BK173.out 0).trans rfl; have hcz38_1 : w37.cell? ⟨gb173, 1, none⟩ = some (.int .i64 0) := (blk_cell BK173.out 1).trans rfl; have hcz38_2 : w37.cell? ⟨gb173, 2, none⟩ = some (.int .i64 0) := (blk_cell BK173.out 2).trans rfl; have hcz38_3 : w37.cell? ⟨gb173, 3, none⟩ = some (.int .i64 0) := (blk_cell BK173.out 3).trans rfl; have hcz38_4 : w37.cell? ⟨gb173, 4, none⟩ = some (.int .i64 0) := (blk_cell BK173.out 4).trans rfl; have hcz38_5 : w37.cell? ⟨gb173, 5, none⟩ = some (.bool false) := (blk_cell BK173.out 5).trans rfl; have hfz38_0 := blk_frozen BK173.out 0; have hfz38_1 := blk_frozen BK173.out 1; have hfz38_2 := blk_frozen BK173.out 2; have hfz38_3 := blk_frozen BK173.out 3; have hfz38_4 := blk_frozen BK173.out 4; have hfz38_5 := blk_frozen BK173.out 5; obtain ⟨Ao39, co39, eo39⟩ := Kd.R_slice HO_15.out; subst eo39) | ((with_reducible refine gate_callee (f := 11) rfl ?_); refine goesL_ (some 81) rfl rfl Try.func11 (by kernel_rfl) rfl #[.slice Ao39 x15_2.length co39, .agg #[.int .i64 ((rd_T24 x11_1 x74_2).f0), .int .i64 ((rd_T24 x11_1 x74_2).f1), .int .i64 ((rd_T24 x11_1 x74_2).f2), .int .i64 ((rd_T24 x11_1 x74_2).f3), .int .i64 ((rd_T24 x11_1 x74_2).f4), .bool ((rd_T24 x11_1 x74_2).f5)]] rfl (by (try simp only [List.map_toArray, List.map_cons, List.map_nil]); first | done | rfl | (simp only [List.length_drop, List.length_take]; rfl)) ?_; (with_reducible refine (versions_Add.calls k2 _ _ x15_2 ((rd_T24 x11_1 x74_2).f0) ((rd_T24 x11_1 x74_2).f1) ((rd_T24 x11_1 x74_2).f2) ((rd_T24 x11_1 x74_2).f3) ((rd_T24 x11_1 x74_2).f4) ((rd_T24 x11_1 x74_2).f5) t174 t177 _ ?side1 ?side2 A35.out).mono ?_); (case side1 => refine (Kd.R_reads' (e := 24) (base := w.heap.size) (ok := fun k_ => (some k_ ≠ (.slice (some ad172) x11_1.length co31 : Value).ownBlock ∧ k_ ≠ gb173)) (n := x15_2.length) (c := co39) ?_).2.2; exact (by (with_reducible repeat (first | apply Kd.R_alloc | apply Kd.R_drewN | apply Kd.R_drew)); exact (Kd.R_mono (Kd.R_far (p := ⟨gb173, 5, none⟩) (Kd.R_far (p := ⟨gb173, 4, none⟩) (Kd.R_far (p := ⟨gb173, 3, none⟩) (Kd.R_far (p := ⟨gb173, 2, none⟩) (Kd.R_far (p := ⟨gb173, 1, none⟩) (Kd.R_far (p := ⟨gb173, 0, none⟩) (Kd.R_mono HO_15.out (fun k_ hk => (⟨hk, hk.2⟩ : _ ∧ k_ ≠ gb173))) (fun _ hk => hk.2) (.int .i64 ((rd_T24 x11_1 x74_2).f0))) (fun _ hk => hk.2) (.int .i64 ((rd_T24 x11_1 x74_2).f1))) (fun _ hk => hk.2) (.int .i64 ((rd_T24 x11_1 x74_2).f2))) (fun _ hk => hk.2) (.int .i64 ((rd_T24 x11_1 x74_2).f3))) (fun _ hk => hk.2) (.int .i64 ((rd_T24 x11_1 x74_2).f4))) (fun _ hk => hk.2) (.bool ((rd_T24 x11_1 x74_2).f5))) (fun _ h_ => h_.1)))); (case side2 => exact (Kd.R_reads' HO_15.out).2.1); rintro e w40 ⟨v175, rfl, ho0, hb⟩; refine ⟨_, rfl, ?_⟩; have n0_ := Aside0.mk (Kd.R_elder' (by (with_reducible repeat (first | apply Kd.R_alloc | apply Kd.R_drewN | apply Kd.R_drew)); exact (Kd.R_mono (Kd.R_far (p := ⟨gb173, 5, none⟩) (Kd.R_far (p := ⟨gb173, 4, none⟩) (Kd.R_far (p := ⟨gb173, 3, none⟩) (Kd.R_far (p := ⟨gb173, 2, none⟩) (Kd.R_far (p := ⟨gb173, 1, none⟩) (Kd.R_far (p := ⟨gb173, 0, none⟩) (Kd.R_mono HO_15.out (fun k_ hk => (⟨hk, hk.2⟩ : _ ∧ k_ ≠ gb173))) (fun _ hk => hk.2) (.int .i64 ((rd_T24 x11_1 x74_2).f0))) (fun _ hk => hk.2) (.int .i64 ((rd_T24 x11_1 x74_2).f1))) (fun _ hk => hk.2) (.int .i64 ((rd_T24 x11_1 x74_2).f2))) (fun _ hk => hk.2) (.int .i64 ((rd_T24 x11_1 x74_2).f3))) (fun _ hk => hk.2) (.int .i64 ((rd_T24 x11_1 x74_2).f4))) (fun _ hk => hk.2) (.bool ((rd_T24 x11_1 x74_2).f5))) (fun _ h_ => h_.1))) (Kd.R_base ho0) hb); have n1_ := Aside0.mk (Kd.R_elder' (by (with_reducible repeat (first | apply Kd.R_alloc | apply Kd.R_drewN | apply Kd.R_drew)); exact (Kd.R_mono (Kd.R_far (p := ⟨gb173, 5, none⟩) (Kd.R_far (p := ⟨gb173, 4, none⟩) (Kd.R_far (p := ⟨gb173, 3, none⟩) (Kd.R_far (p := ⟨gb173, 2, none⟩) (Kd.R_far (p := ⟨gb173, 1, none⟩) (Kd.R_far (p := ⟨gb173, 0, none⟩) (Kd.R_mono HO_72.out (fun k_ hk => (⟨hk, hk.2⟩ : _ ∧ k_ ≠ gb173))) (fun _ hk => hk.2) (.int .i64 ((rd_T24 x11_1 x74_2).f0))) (fun _ hk => hk.2) (.int .i64 ((rd_T24 x11_1 x74_2).f1))) (fun _ hk => hk.2) (.int .i64 ((rd_T24 x11_1 x74_2).f2))) (fun _ hk => hk.2) (.int .i64 ((rd_T24 x11_1 x74_2).f3))) (fun _ hk => hk.2) (.int .i64 ((rd_T24 x11_1 x74_2).f4))) (fun _ hk => hk.2) (.bool ((rd_T24 x11_1 x74_2).f5))) (fun _ h_ => h_.1))) (Kd.R_base ho0) hb); have n2_ := Aside0.mk (Kd.R_lower (Kd.R_newB (Kd.R_new' (Kd.R_new' ho0 (Kd.R_lt (by (with_reducible repeat (first | apply Kd.R_alloc | apply Kd.R_drewN | apply Kd.R_drew)); exact (Kd.R_mono (Kd.R_far (p := ⟨gb173, 5, none⟩) (Kd.R_far (p := ⟨gb173, 4, none⟩) (Kd.R_far (p := ⟨gb173, 3, none⟩) (Kd.R_far (p := ⟨gb173, 2, none⟩) (Kd.R_far (p := ⟨gb173, 1, none⟩) (Kd.R_far (p := ⟨gb173, 0, none⟩) (Kd.R_mono HO_15.out (fun k_ hk => (⟨hk, hk.2⟩ : _ ∧ k_ ≠ gb173))) (fun _ hk => hk.2) (.int .i64 ((rd_T24 x11_1 x74_2).f0))) (fun _ hk => hk.2) (.int .i64 ((rd_T24 x11_1 x74_2).f1))) (fun _ hk => hk.2) (.int .i64 ((rd_T24 x11_1 x74_2).f2))) (fun _ hk => hk.2) (.int .i64 ((rd_T24 x11_1 x74_2).f3))) (fun _ hk => hk.2) (.int .i64 ((rd_T24 x11_1 x74_2).f4))) (fun _ hk => hk.2) (.bool ((rd_T24 x11_1 x74_2).f5))) (fun _ h_ => h_.1))))) (Kd.R_lt (by (with_reducible repeat (first | apply Kd.R_alloc | apply Kd.R_drewN | apply Kd.R_drew)); exact (Kd.R_mono (Kd.R_far (p := ⟨gb173, 5, none⟩) (Kd.R_far (p := ⟨gb173, 4, none⟩) (Kd.R_far (p := ⟨gb173, 3, none⟩) (Kd.R_far (p := ⟨gb173, 2, none⟩) (Kd.R_far (p := ⟨gb173, 1, none⟩) (Kd.R_far (p := ⟨gb173, 0, none⟩) (Kd.R_mono HO_72.out (fun k_ hk => (⟨hk, hk.2⟩ : _ ∧ k_ ≠ gb173))) (fun _ hk => hk.2) (.int .i64 ((rd_T24 x11_1 x74_2).f0))) (fun _ hk => hk.2) (.int .i64 ((rd_T24 x11_1 x74_2).f1))) (fun _ hk => hk.2) (.int .i64 ((rd_T24 x11_1 x74_2).f2))) (fun _ hk => hk.2) (.int .i64 ((rd_T24 x11_1 x74_2).f3))) (fun _ hk => hk.2) (.int .i64 ((rd_T24 x11_1 x74_2).f4))) (fun _ hk => hk.2) (.bool ((rd_T24 x11_1 x74_2).f5))) (fun _ h_ => h_.1))))) (g := gb173) (o := .cells #[.int .i64 ((rd_T24 x11_1 x74_2).f0), .int .i64 ((rd_T24 x11_1 x74_2).f1), .int .i64 ((rd_T24 x11_1 x74_2).f2), .int .i64 ((rd_T24 x11_1 x74_2).f3), .int .i64 ((rd_T24 x11_1 x74_2).f4), .bool ((rd_T24 x11_1 x74_2).f5)] 24 (0, 0)) (by (with_reducible repeat (first | refine blk_drewN ?_ _ | refine blk_drew ?_ | refine blk_alloc ?_ _)); refine blk_put (cs := #[.int .i64 ((rd_T24 x11_1 x74_2).f0), .int .i64 ((rd_T24 x11_1 x74_2).f1), .int .i64 ((rd_T24 x11_1 x74_2).f2), .int .i64 ((rd_T24 x11_1 x74_2).f3), .int .i64 ((rd_T24 x11_1 x74_2).f4), .bool false]) ?_ 5 _ rfl; (with_reducible repeat (first | refine blk_drewN ?_ _ | refine blk_drew ?_ | refine blk_alloc ?_ _)); refine blk_put (cs := #[.int .i64 ((rd_T24 x11_1 x74_2).f0), .int .i64 ((rd_T24 x11_1 x74_2).f1), .int .i64 ((rd_T24 x11_1 x74_2).f2), .int .i64 ((rd_T24 x11_1 x74_2).f3), .int .i64 0, .bool false]) ?_ 4 _ rfl; (with_reducible repeat (first | refine blk_drewN ?_ _ | refine blk_drew ?_ | refine blk_alloc ?_ _)); refine blk_put (cs := #[.int .i64 ((rd_T24 x11_1 x74_2).f0), .int .i64 ((rd_T24 x11_1 x74_2).f1), .int .i64 ((rd_T24 x11_1 x74_2).f2), .int .i64 0, .int .i64 0, .bool false]) ?_ 3 _ rfl; (with_reducible repeat (first | refine blk_drewN ?_ _ | refine blk_drew ?_ | refine blk_alloc ?_ _)); refine blk_put (cs := #[.int .i64 ((rd_T24 x11_1 x74_2).f0), .int .i64 ((rd_T24 x11_1 x74_2).f1), .int .i64 0, .int .i64 0, .int .i64 0, .bool false]) ?_ 2 _ rfl; (with_reducible repeat (first | refine blk_drewN ?_ _ | refine blk_drew ?_ | refine blk_alloc ?_ _)); refine blk_put (cs := #[.int .i64 ((rd_T24 x11_1 x74_2).f0), .int .i64 0, .int .i64 0, .int .i64 0, .int .i64 0, .bool false]) ?_ 1 _ rfl; (with_reducible repeat (first | refine blk_drewN ?_ _ | refine blk_drew ?_ | refine blk_alloc ?_ _)); refine blk_put (cs := #[.int .i64 0, .int .i64 0, .int .i64 0, .int .i64 0, .int .i64 0, .bool false]) ?_ 0 _ rfl; (with_reducible repeat (first | refine blk_drewN ?_ _ | refine blk_drew ?_ | refine blk_alloc ?_ _)); exact BK173.out)) (below_size (by repeat (first | (with_reducible first | exact HB.out | apply below_alloc | apply pw_below_drewN | apply below_drew1 | refine below_set ?_ GE173.out) | exact HB.out)))); have n3_ := Aside0.mk (blk_below (g := gb173) (o := .cells #[.int .i64 ((rd_T24 x11_1 x74_2).f0), .int .i64 ((rd_T24 x11_1 x74_2).f1), .int .i64 ((rd_T24 x11_1 x74_2).f2), .int .i64 ((rd_T24 x11_1 x74_2).f3), .int .i64 ((rd_T24 x11_1 x74_2).f4), .bool ((rd_T24 x11_1 x74_2).f5)] 24 (0, 0)) (by (with_reducible repeat (first | refine blk_drewN ?_ _ | refine blk_drew ?_ | refine blk_alloc ?_ _)); refine blk_put (cs := #[.int .i64 ((rd_T24 x11_1 x74_2).f0), .int .i64 ((rd_T24 x11_1 x74_2).f1), .int .i64 ((rd_T24 x11_1 x74_2).f2), .int .i64 ((rd_T24 x11_1 x74_2).f3), .int .i64 ((rd_T24 x11_1 x74_2).f4), .bool false]) ?_ 5 _ rfl; (with_reducible repeat (first | refine blk_drewN ?_ _ | refine blk_drew ?_ | refine blk_alloc ?_ _)); refine blk_put (cs := #[.int .i64 ((rd_T24 x11_1 x74_2).f0), .int .i64 ((rd_T24 x11_1 x74_2).f1), .int .i64 ((rd_T24 x11_1 x74_2).f2), .int .i64 ((rd_T24 x11_1 x74_2).f3), .int .i64 0, .bool false]) ?_ 4 _ rfl; (with_reducible repeat (first | refine blk_drewN ?_ _ | refine blk_drew ?_ | refine blk_alloc ?_ _)); refine blk_put (cs := #[.int .i64 ((rd_T24 x11_1 x74_2).f0), .int .i64 ((rd_T24 x11_1 x74_2).f1), .int .i64 ((rd_T24 x11_1 x74_2).f2), .int .i64 0, .int .i64 0, .bool false]) ?_ 3 _ rfl; (with_reducible repeat (first | refine blk_drewN ?_ _ | refine blk_drew ?_ | refine blk_alloc ?_ _)); refine blk_put (cs := #[.int .i64 ((rd_T24 x11_1 x74_2).f0), .int .i64 ((rd_T24 x11_1 x74_2).f1), .int .i64 0, .int .i64 0, .int .i64 0, .bool false]) ?_ 2 _ rfl; (with_reducible repeat (first | refine blk_drewN ?_ _ | refine blk_drew ?_ | refine blk_alloc ?_ _)); refine blk_put (cs := #[.int .i64 ((rd_T24 x11_1 x74_2).f0), .int .i64 0, .int .i64 0, .int .i64 0, .int .i64 0, .bool false]) ?_ 1 _ rfl; (with_reducible repeat (first | refine blk_drewN ?_ _ | refine blk_drew ?_ | refine blk_alloc ?_ _)); refine blk_put (cs := #[.int .i64 0, .int .i64 0, .int .i64 0, .int .i64 0, .int .i64 0, .bool false]) ?_ 0 _ rfl; (with_reducible repeat (first | refine blk_drewN ?_ _ | refine blk_drew ?_ | refine blk_alloc ?_ _)); exact BK173.out) hb); have n4_ := Aside0.mk (below_step (by repeat (first | (with_reducible first | exact HB.out | apply below_alloc | apply pw_below_drewN | apply below_drew1 | refine below_set ?_ GE173.out) | exact HB.out)) hb); clear HO_15; clear HO_72; clear BK173; clear HB; have HO_15 := n0_; have HO_72 := n1_; have HO176 := n2_; have BK173 := n3_; have HB := n4_; clear n0_ n1_ n2_ n3_ n4_; (try clear hb); (try clear hb2); (try clear hk); (try clear hi); (try clear ho0)))
                          go_roundg k2
                          case measure => have := HK1.out; have := HK2.out; omega
                          case rel => exact ⟨(t174), (wrap64 (x74_2 + 1)), (by first | rfl | (simp; done) | (simp [*]; done)), H', ⟨by have := HK1.out; have := HK2.out; omega⟩, ⟨by (with_reducible repeat (first | apply Kd.R_alloc | apply Kd.R_drewN | apply Kd.R_drew)); exact Kd.R_mono HO176.out (fun _ hk => hk.1.2)⟩, ⟨by (with_reducible repeat (first | apply Kd.R_alloc | apply Kd.R_drewN | apply Kd.R_drew)); exact Kd.R_mono HO_72.out (fun _ hk => hk.2)⟩, ⟨by repeat (first | (with_reducible first | exact HB.out | apply below_alloc | apply pw_below_drewN | apply below_drew1 | refine below_set ?_ GE173.out) | exact HB.out)⟩⟩
                        · rw [if_neg c36] at H
                          have c36b0 : (t177 == 0) = false := beq_eq_false_iff_ne.mpr c36
                          have c36b1 : (t177 != 0) = true := bne_iff_ne.mpr c36
                          obtain rfl := Option.some.inj H
                          have p172 : 0 ≤ (x74_2 : Int) := of_decide_eq_true (by first | (with_reducible assumption) | assumption)
                          have q172 : x74_2 < (x11_1.length : Int) := of_decide_eq_true (by first | (with_reducible assumption) | assumption)
                          obtain ⟨ad172, e172, hx172_0, hx172_1, hx172_2, hx172_3, hx172_4, hx172_5⟩ := at_T24 (Kd.R_reads' HO_72.out).2.2 x74_2 p172 q172
                          cases e172
                          replace p172 := eq_true p172
                          replace q172 := eq_true q172
                          go_wp2_with (first | ((with_reducible refine gate_dst (N := 18) rfl ?_); refine box_event ?hg (N := 18) ?hd (cs := #[.int .i64 0, .int .i64 0, .int .i64 0, .int .i64 0, .int .i64 0, .bool false]) (t := 24) ?hr ?_; (case hd => rfl); (case hg => rfl); (case hr => first | (go_simp; done) | (go_simp; rfl)); intro gb173 hg w41 hbox hb; have n0_ := Aside0.mk (Kd.R_below (Kd.R_elderB (by (with_reducible repeat (first | apply Kd.R_alloc | apply Kd.R_drewN | apply Kd.R_drew)); exact HO_15.out) gb173 (Nat.le_of_eq hg.symm)) hb); have n1_ := Aside0.mk (Kd.R_below (Kd.R_elderB (by (with_reducible repeat (first | apply Kd.R_alloc | apply Kd.R_drewN | apply Kd.R_drew)); exact HO_72.out) gb173 (Nat.le_of_eq hg.symm)) hb); have n2_ := Aside0.mk (below_step (by repeat (first | (with_reducible first | exact HB.out | apply below_alloc | apply pw_below_drewN | apply below_drew1) | exact HB.out)) hb); have n3_ := Aside0.mk (hbox); have n4_ := Aside0.mk ((by rw [hg]; exact (below_size (by repeat (first | (with_reducible first | exact HB.out | apply below_alloc | apply pw_below_drewN | apply below_drew1) | exact HB.out))) : w.heap.size ≤ gb173)); have n5_ := Aside0.mk ((by rw [hg]; exact (below_size (by repeat (first | (with_reducible first | exact HB.out | apply below_alloc | apply pw_below_drewN | apply below_drew1) | exact HB.out))) : w.heap.size ≤ gb173)); clear HO_15; clear HO_72; clear HB; have HO_15 := n0_; have HO_72 := n1_; have HB := n2_; have BK173 := n3_; have GW173 := n4_; have GE173 := n5_; clear n0_ n1_ n2_ n3_ n4_ n5_; clear hb hbox hg; have hcz42_0 : w41.cell? ⟨gb173, 0, none⟩ = some (.int .i64 0) := (blk_cell BK173.out 0).trans rfl; have hcz42_1 : w41.cell? ⟨gb173, 1, none⟩ = some (.int .i64 0) := (blk_cell BK173.out 1).trans rfl; have hcz42_2 : w41.cell? ⟨gb173, 2, none⟩ = some (.int .i64 0) := (blk_cell BK173.out 2).trans rfl; have hcz42_3 : w41.cell? ⟨gb173, 3, none⟩ = some (.int .i64 0) := (blk_cell BK173.out 3).trans rfl; have hcz42_4 : w41.cell? ⟨gb173, 4, none⟩ = some (.int .i64 0) := (blk_cell BK173.out 4).trans rfl; have hcz42_5 : w41.cell? ⟨gb173, 5, none⟩ = some (.bool false) := (blk_cell BK173.out 5).trans rfl; have hfz42_0 := blk_frozen BK173.out 0; have hfz42_1 := blk_frozen BK173.out 1; have hfz42_2 := blk_frozen BK173.out 2; have hfz42_3 := blk_frozen BK173.out 3; have hfz42_4 := blk_frozen BK173.out 4; have hfz42_5 := blk_frozen BK173.out 5; obtain ⟨Ao43, co43, eo43⟩ := Kd.R_slice HO_15.out; subst eo43) | ((with_reducible refine gate_callee (f := 11) rfl ?_); refine goesL_ (some 81) rfl rfl Try.func11 (by kernel_rfl) rfl #[.slice Ao43 x15_2.length co43, .agg #[.int .i64 ((rd_T24 x11_1 x74_2).f0), .int .i64 ((rd_T24 x11_1 x74_2).f1), .int .i64 ((rd_T24 x11_1 x74_2).f2), .int .i64 ((rd_T24 x11_1 x74_2).f3), .int .i64 ((rd_T24 x11_1 x74_2).f4), .bool ((rd_T24 x11_1 x74_2).f5)]] rfl (by (try simp only [List.map_toArray, List.map_cons, List.map_nil]); first | done | rfl | (simp only [List.length_drop, List.length_take]; rfl)) ?_; (with_reducible refine (versions_Add.calls k2 _ _ x15_2 ((rd_T24 x11_1 x74_2).f0) ((rd_T24 x11_1 x74_2).f1) ((rd_T24 x11_1 x74_2).f2) ((rd_T24 x11_1 x74_2).f3) ((rd_T24 x11_1 x74_2).f4) ((rd_T24 x11_1 x74_2).f5) t174 t177 _ ?side1 ?side2 A35.out).mono ?_); (case side1 => refine (Kd.R_reads' (e := 24) (base := w.heap.size) (ok := fun k_ => (some k_ ≠ (.slice (some ad172) x11_1.length co31 : Value).ownBlock ∧ k_ ≠ gb173)) (n := x15_2.length) (c := co43) ?_).2.2; exact (by (with_reducible repeat (first | apply Kd.R_alloc | apply Kd.R_drewN | apply Kd.R_drew)); exact (Kd.R_mono (Kd.R_far (p := ⟨gb173, 5, none⟩) (Kd.R_far (p := ⟨gb173, 4, none⟩) (Kd.R_far (p := ⟨gb173, 3, none⟩) (Kd.R_far (p := ⟨gb173, 2, none⟩) (Kd.R_far (p := ⟨gb173, 1, none⟩) (Kd.R_far (p := ⟨gb173, 0, none⟩) (Kd.R_mono HO_15.out (fun k_ hk => (⟨hk, hk.2⟩ : _ ∧ k_ ≠ gb173))) (fun _ hk => hk.2) (.int .i64 ((rd_T24 x11_1 x74_2).f0))) (fun _ hk => hk.2) (.int .i64 ((rd_T24 x11_1 x74_2).f1))) (fun _ hk => hk.2) (.int .i64 ((rd_T24 x11_1 x74_2).f2))) (fun _ hk => hk.2) (.int .i64 ((rd_T24 x11_1 x74_2).f3))) (fun _ hk => hk.2) (.int .i64 ((rd_T24 x11_1 x74_2).f4))) (fun _ hk => hk.2) (.bool ((rd_T24 x11_1 x74_2).f5))) (fun _ h_ => h_.1)))); (case side2 => exact (Kd.R_reads' HO_15.out).2.1); rintro e w44 ⟨v175, rfl, ho0, hb⟩; refine ⟨_, rfl, ?_⟩; have n0_ := Aside0.mk (Kd.R_elder' (by (with_reducible repeat (first | apply Kd.R_alloc | apply Kd.R_drewN | apply Kd.R_drew)); exact (Kd.R_mono (Kd.R_far (p := ⟨gb173, 5, none⟩) (Kd.R_far (p := ⟨gb173, 4, none⟩) (Kd.R_far (p := ⟨gb173, 3, none⟩) (Kd.R_far (p := ⟨gb173, 2, none⟩) (Kd.R_far (p := ⟨gb173, 1, none⟩) (Kd.R_far (p := ⟨gb173, 0, none⟩) (Kd.R_mono HO_15.out (fun k_ hk => (⟨hk, hk.2⟩ : _ ∧ k_ ≠ gb173))) (fun _ hk => hk.2) (.int .i64 ((rd_T24 x11_1 x74_2).f0))) (fun _ hk => hk.2) (.int .i64 ((rd_T24 x11_1 x74_2).f1))) (fun _ hk => hk.2) (.int .i64 ((rd_T24 x11_1 x74_2).f2))) (fun _ hk => hk.2) (.int .i64 ((rd_T24 x11_1 x74_2).f3))) (fun _ hk => hk.2) (.int .i64 ((rd_T24 x11_1 x74_2).f4))) (fun _ hk => hk.2) (.bool ((rd_T24 x11_1 x74_2).f5))) (fun _ h_ => h_.1))) (Kd.R_base ho0) hb); have n1_ := Aside0.mk (Kd.R_elder' (by (with_reducible repeat (first | apply Kd.R_alloc | apply Kd.R_drewN | apply Kd.R_drew)); exact (Kd.R_mono (Kd.R_far (p := ⟨gb173, 5, none⟩) (Kd.R_far (p := ⟨gb173, 4, none⟩) (Kd.R_far (p := ⟨gb173, 3, none⟩) (Kd.R_far (p := ⟨gb173, 2, none⟩) (Kd.R_far (p := ⟨gb173, 1, none⟩) (Kd.R_far (p := ⟨gb173, 0, none⟩) (Kd.R_mono HO_72.out (fun k_ hk => (⟨hk, hk.2⟩ : _ ∧ k_ ≠ gb173))) (fun _ hk => hk.2) (.int .i64 ((rd_T24 x11_1 x74_2).f0))) (fun _ hk => hk.2) (.int .i64 ((rd_T24 x11_1 x74_2).f1))) (fun _ hk => hk.2) (.int .i64 ((rd_T24 x11_1 x74_2).f2))) (fun _ hk => hk.2) (.int .i64 ((rd_T24 x11_1 x74_2).f3))) (fun _ hk => hk.2) (.int .i64 ((rd_T24 x11_1 x74_2).f4))) (fun _ hk => hk.2) (.bool ((rd_T24 x11_1 x74_2).f5))) (fun _ h_ => h_.1))) (Kd.R_base ho0) hb); have n2_ := Aside0.mk (Kd.R_lower (Kd.R_newB (Kd.R_new' (Kd.R_new' ho0 (Kd.R_lt (by (with_reducible repeat (first | apply Kd.R_alloc | apply Kd.R_drewN | apply Kd.R_drew)); exact (Kd.R_mono (Kd.R_far (p := ⟨gb173, 5, none⟩) (Kd.R_far (p := ⟨gb173, 4, none⟩) (Kd.R_far (p := ⟨gb173, 3, none⟩) (Kd.R_far (p := ⟨gb173, 2, none⟩) (Kd.R_far (p := ⟨gb173, 1, none⟩) (Kd.R_far (p := ⟨gb173, 0, none⟩) (Kd.R_mono HO_15.out (fun k_ hk => (⟨hk, hk.2⟩ : _ ∧ k_ ≠ gb173))) (fun _ hk => hk.2) (.int .i64 ((rd_T24 x11_1 x74_2).f0))) (fun _ hk => hk.2) (.int .i64 ((rd_T24 x11_1 x74_2).f1))) (fun _ hk => hk.2) (.int .i64 ((rd_T24 x11_1 x74_2).f2))) (fun _ hk => hk.2) (.int .i64 ((rd_T24 x11_1 x74_2).f3))) (fun _ hk => hk.2) (.int .i64 ((rd_T24 x11_1 x74_2).f4))) (fun _ hk => hk.2) (.bool ((rd_T24 x11_1 x74_2).f5))) (fun _ h_ => h_.1))))) (Kd.R_lt (by (with_reducible repeat (first | apply Kd.R_alloc | apply Kd.R_drewN | apply Kd.R_drew)); exact (Kd.R_mono (Kd.R_far (p := ⟨gb173, 5, none⟩) (Kd.R_far (p := ⟨gb173, 4, none⟩) (Kd.R_far (p := ⟨gb173, 3, none⟩) (Kd.R_far (p := ⟨gb173, 2, none⟩) (Kd.R_far (p := ⟨gb173, 1, none⟩) (Kd.R_far (p := ⟨gb173, 0, none⟩) (Kd.R_mono HO_72.out (fun k_ hk => (⟨hk, hk.2⟩ : _ ∧ k_ ≠ gb173))) (fun _ hk => hk.2) (.int .i64 ((rd_T24 x11_1 x74_2).f0))) (fun _ hk => hk.2) (.int .i64 ((rd_T24 x11_1 x74_2).f1))) (fun _ hk => hk.2) (.int .i64 ((rd_T24 x11_1 x74_2).f2))) (fun _ hk => hk.2) (.int .i64 ((rd_T24 x11_1 x74_2).f3))) (fun _ hk => hk.2) (.int .i64 ((rd_T24 x11_1 x74_2).f4))) (fun _ hk => hk.2) (.bool ((rd_T24 x11_1 x74_2).f5))) (fun _ h_ => h_.1))))) (g := gb173) (o := .cells #[.int .i64 ((rd_T24 x11_1 x74_2).f0), .int .i64 ((rd_T24 x11_1 x74_2).f1), .int .i64 ((rd_T24 x11_1 x74_2).f2), .int .i64 ((rd_T24 x11_1 x74_2).f3), .int .i64 ((rd_T24 x11_1 x74_2).f4), .bool ((rd_T24 x11_1 x74_2).f5)] 24 (0, 0)) (by (with_reducible repeat (first | refine blk_drewN ?_ _ | refine blk_drew ?_ | refine blk_alloc ?_ _)); refine blk_put (cs := #[.int .i64 ((rd_T24 x11_1 x74_2).f0), .int .i64 ((rd_T24 x11_1 x74_2).f1), .int .i64 ((rd_T24 x11_1 x74_2).f2), .int .i64 ((rd_T24 x11_1 x74_2).f3), .int .i64 ((rd_T24 x11_1 x74_2).f4), .bool false]) ?_ 5 _ rfl; (with_reducible repeat (first | refine blk_drewN ?_ _ | refine blk_drew ?_ | refine blk_alloc ?_ _)); refine blk_put (cs := #[.int .i64 ((rd_T24 x11_1 x74_2).f0), .int .i64 ((rd_T24 x11_1 x74_2).f1), .int .i64 ((rd_T24 x11_1 x74_2).f2), .int .i64 ((rd_T24 x11_1 x74_2).f3), .int .i64 0, .bool false]) ?_ 4 _ rfl; (with_reducible repeat (first | refine blk_drewN ?_ _ | refine blk_drew ?_ | refine blk_alloc ?_ _)); refine blk_put (cs := #[.int .i64 ((rd_T24 x11_1 x74_2).f0), .int .i64 ((rd_T24 x11_1 x74_2).f1), .int .i64 ((rd_T24 x11_1 x74_2).f2), .int .i64 0, .int .i64 0, .bool false]) ?_ 3 _ rfl; (with_reducible repeat (first | refine blk_drewN ?_ _ | refine blk_drew ?_ | refine blk_alloc ?_ _)); refine blk_put (cs := #[.int .i64 ((rd_T24 x11_1 x74_2).f0), .int .i64 ((rd_T24 x11_1 x74_2).f1), .int .i64 0, .int .i64 0, .int .i64 0, .bool false]) ?_ 2 _ rfl; (with_reducible repeat (first | refine blk_drewN ?_ _ | refine blk_drew ?_ | refine blk_alloc ?_ _)); refine blk_put (cs := #[.int .i64 ((rd_T24 x11_1 x74_2).f0), .int .i64 0, .int .i64 0, .int .i64 0, .int .i64 0, .bool false]) ?_ 1 _ rfl; (with_reducible repeat (first | refine blk_drewN ?_ _ | refine blk_drew ?_ | refine blk_alloc ?_ _)); refine blk_put (cs := #[.int .i64 0, .int .i64 0, .int .i64 0, .int .i64 0, .int .i64 0, .bool false]) ?_ 0 _ rfl; (with_reducible repeat (first | refine blk_drewN ?_ _ | refine blk_drew ?_ | refine blk_alloc ?_ _)); exact BK173.out)) (below_size (by repeat (first | (with_reducible first | exact HB.out | apply below_alloc | apply pw_below_drewN | apply below_drew1 | refine below_set ?_ GE173.out) | exact HB.out)))); have n3_ := Aside0.mk (blk_below (g := gb173) (o := .cells #[.int .i64 ((rd_T24 x11_1 x74_2).f0), .int .i64 ((rd_T24 x11_1 x74_2).f1), .int .i64 ((rd_T24 x11_1 x74_2).f2), .int .i64 ((rd_T24 x11_1 x74_2).f3), .int .i64 ((rd_T24 x11_1 x74_2).f4), .bool ((rd_T24 x11_1 x74_2).f5)] 24 (0, 0)) (by (with_reducible repeat (first | refine blk_drewN ?_ _ | refine blk_drew ?_ | refine blk_alloc ?_ _)); refine blk_put (cs := #[.int .i64 ((rd_T24 x11_1 x74_2).f0), .int .i64 ((rd_T24 x11_1 x74_2).f1), .int .i64 ((rd_T24 x11_1 x74_2).f2), .int .i64 ((rd_T24 x11_1 x74_2).f3), .int .i64 ((rd_T24 x11_1 x74_2).f4), .bool false]) ?_ 5 _ rfl; (with_reducible repeat (first | refine blk_drewN ?_ _ | refine blk_drew ?_ | refine blk_alloc ?_ _)); refine blk_put (cs := #[.int .i64 ((rd_T24 x11_1 x74_2).f0), .int .i64 ((rd_T24 x11_1 x74_2).f1), .int .i64 ((rd_T24 x11_1 x74_2).f2), .int .i64 ((rd_T24 x11_1 x74_2).f3), .int .i64 0, .bool false]) ?_ 4 _ rfl; (with_reducible repeat (first | refine blk_drewN ?_ _ | refine blk_drew ?_ | refine blk_alloc ?_ _)); refine blk_put (cs := #[.int .i64 ((rd_T24 x11_1 x74_2).f0), .int .i64 ((rd_T24 x11_1 x74_2).f1), .int .i64 ((rd_T24 x11_1 x74_2).f2), .int .i64 0, .int .i64 0, .bool false]) ?_ 3 _ rfl; (with_reducible repeat (first | refine blk_drewN ?_ _ | refine blk_drew ?_ | refine blk_alloc ?_ _)); refine blk_put (cs := #[.int .i64 ((rd_T24 x11_1 x74_2).f0), .int .i64 ((rd_T24 x11_1 x74_2).f1), .int .i64 0, .int .i64 0, .int .i64 0, .bool false]) ?_ 2 _ rfl; (with_reducible repeat (first | refine blk_drewN ?_ _ | refine blk_drew ?_ | refine blk_alloc ?_ _)); refine blk_put (cs := #[.int .i64 ((rd_T24 x11_1 x74_2).f0), .int .i64 0, .int .i64 0, .int .i64 0, .int .i64 0, .bool false]) ?_ 1 _ rfl; (with_reducible repeat (first | refine blk_drewN ?_ _ | refine blk_drew ?_ | refine blk_alloc ?_ _)); refine blk_put (cs := #[.int .i64 0, .int .i64 0, .int .i64 0, .int .i64 0, .int .i64 0, .bool false]) ?_ 0 _ rfl; (with_reducible repeat (first | refine blk_drewN ?_ _ | refine blk_drew ?_ | refine blk_alloc ?_ _)); exact BK173.out) hb); have n4_ := Aside0.mk (below_step (by repeat (first | (with_reducible first | exact HB.out | apply below_alloc | apply pw_below_drewN | apply below_drew1 | refine below_set ?_ GE173.out) | exact HB.out)) hb); clear HO_15; clear HO_72; clear BK173; clear HB; have HO_15 := n0_; have HO_72 := n1_; have HO176 := n2_; have BK173 := n3_; have HB := n4_; clear n0_ n1_ n2_ n3_ n4_; (try clear hb); (try clear hb2); (try clear hk); (try clear hi); (try clear ho0)))
                          go_ret
                          exact ⟨by first | rfl | (simp [errW_none, errW_some] <;> rfl) | (simp [*, errW_none, errW_some] <;> rfl), by repeat (first | (with_reducible first | exact HB.out | apply below_alloc | apply pw_below_drewN | apply below_drew1 | refine below_set ?_ GE173.out) | exact HB.out)⟩
                      · rw [if_neg c34] at H
                        exact absurd H (by simp)
                    · rw [if_neg c33] at H
                      exact absurd H (by simp)
                  · rw [if_neg c32] at H
                    have c32b0 : decide (x74_2 < (x11_1.length : Int)) = false := decide_eq_false c32
                    clear c32
                    have H' := Aside0.mk H
                    clear H
                    go_wp2
                    go_loopg [16, 90] k2 (fun kq v16 v90 w' => ∃ (x16_3 : List (S24)) (x90_3 : Int), v90 = .int .i64 x90_3 ∧ Aside0 (signatorylaw14_VersionsOrder.l2 kq l0 a2 a3 a4 x15_2 x16_3 l0 (l0.length : Int) x90_3 = some r) ∧ Aside0 (kq ≤ k2) ∧ Aside0 (Kd.R k24 24 w' w.heap.size (fun k_ => some k_ ≠ (v16 : Value).ownBlock) u15 x15_2) ∧ Aside0 (Kd.R k24 24 w' w.heap.size (fun k_ => some k_ ≠ (u15 : Value).ownBlock) v16 x16_3) ∧ Aside0 (Below w.heap.size w w'))
                    case atStart => exact ⟨(([] : List (S24))), (0), (by first | rfl | (simp; done) | (simp [*]; done)), H', ⟨Nat.le_refl _⟩, ⟨by (with_reducible repeat (first | apply Kd.R_alloc | apply Kd.R_drewN | apply Kd.R_drew)); exact Kd.R_mono HO_15.out (fun _ hk => (by simp [Value.ownBlock]))⟩, ⟨by first | exact Kd.R_nil _ _ _ _ _ | exact Kd.N_nil _ _ _ _ _ | exact Kd.V_nil _ _ _ _ _ | exact Kd.Q_nil _ _ _ _ _ | exact Kd.S_nil _ _ _ _ _⟩, ⟨by repeat (first | (with_reducible first | exact HB.out | apply below_alloc | apply pw_below_drewN | apply below_drew1) | exact HB.out)⟩⟩
                    case round =>
                      clear H'
                      try clear c1
                      try clear p1
                      try clear q1
                      try clear hx1
                      try clear c2
                      try clear p2
                      try clear q2
                      try clear hx2
                      try clear c3
                      try clear p6
                      try clear c7
                      try clear c9
                      try clear c10
                      try clear c11
                      try clear c16
                      try clear c16b0
                      try clear p16
                      try clear q16
                      try clear hx16
                      try clear c17
                      try clear c17b0
                      try clear p17
                      try clear q17
                      try clear hx17
                      try clear c18
                      try clear c18b0
                      try clear c19
                      try clear c19b0
                      try clear c20
                      try clear c20b0
                      try clear c20b1
                      try clear c21
                      try clear c22
                      try clear c22b0
                      try clear c23
                      try clear c23b0
                      try clear c24
                      try clear p24
                      try clear q24
                      try clear hx24
                      try clear hf24
                      try clear c25
                      try clear p25
                      try clear q25
                      try clear hx25
                      try clear hf25
                      try clear c28
                      try clear c29
                      try clear c32
                      try clear c32b0
                      try clear c33
                      try clear c33b0
                      try clear c34
                      try clear c34b0
                      try clear c36
                      try clear c36b0
                      try clear c36b1
                      try clear hcz38_0
                      try clear hcz38_1
                      try clear hcz38_2
                      try clear hcz38_3
                      try clear hcz38_4
                      try clear hcz38_5
                      try clear hcz42_0
                      try clear hcz42_1
                      try clear hcz42_2
                      try clear hcz42_3
                      try clear hcz42_4
                      try clear hcz42_5
                      try clear hfz38_0
                      try clear hfz38_1
                      try clear hfz38_2
                      try clear hfz38_3
                      try clear hfz38_4
                      try clear hfz38_5
                      try clear hfz42_0
                      try clear hfz42_1
                      try clear hfz42_2
                      try clear hfz42_3
                      try clear hfz42_4
                      try clear hfz42_5
                      try clear hx167_0
                      try clear hx168_0
                      try clear hx168_1
                      try clear hx168_2
                      try clear hx168_3
                      try clear hx168_4
                      try clear hx168_5
                      try clear hx169_0
                      try clear hx169_1
                      try clear hx169_2
                      try clear hx169_3
                      try clear hx169_4
                      try clear hx169_5
                      try clear hx172_0
                      try clear hx172_1
                      try clear hx172_2
                      try clear hx172_3
                      try clear hx172_4
                      try clear hx172_5
                      try clear hx24_0
                      try clear hx24_1
                      try clear hx24_2
                      try clear hx24_3
                      try clear hx24_4
                      try clear hx24_5
                      try clear hx25_0
                      try clear hx25_1
                      try clear hx25_2
                      try clear hx25_3
                      try clear hx25_4
                      try clear hx25_5
                      try clear p1
                      try clear p16
                      try clear p167
                      try clear p168
                      try clear p169
                      try clear p172
                      try clear p2
                      try clear p24
                      try clear p25
                      try clear p6
                      try clear q1
                      try clear q16
                      try clear q167
                      try clear q168
                      try clear q169
                      try clear q172
                      try clear q2
                      try clear q24
                      try clear q25
                      obtain ⟨x16_3, x90_3, rfl, HA, HK3, HO_15, HO_16, HB⟩ := hrel
                      cases gk with
                      | zero => exact absurd HA.out (by simp [signatorylaw14_VersionsOrder.l2])
                      | succ k3 =>
                        have H := HA.out
                        clear HA
                        simp only [signatorylaw14_VersionsOrder.l2] at H
                        by_cases c45 : x90_3 < (l0.length : Int)
                        · rw [if_pos c45] at H
                          have c45b0 : decide (x90_3 < (l0.length : Int)) = true := decide_eq_true c45
                          clear c45
                          by_cases c46 : 0 ≤ x90_3
                          · rw [if_pos c46] at H
                            have c46b0 : decide (0 ≤ x90_3) = true := decide_eq_true c46
                            clear c46
                            by_cases c47 : x90_3 < (l0.length : Int)
                            · rw [if_pos c47] at H
                              have c47b0 : decide (x90_3 < (l0.length : Int)) = true := decide_eq_true c47
                              clear c47
                              by_cases c48 : ((rd_T24 l0 x90_3).f3) = a2
                              · rw [if_pos c48] at H
                                have c48b0 : (((rd_T24 l0 x90_3).f3) == a2) = true := beq_iff_eq.mpr c48
                                have c48b1 : (((rd_T24 l0 x90_3).f3) != a2) = false := bne_eq_false_iff_eq.mpr c48
                                clear c48
                                by_cases c49 : x16_3.length < 2932031007402
                                · rw [if_pos c49] at H
                                  have LMc49 := Aside0.mk c49
                                  clear c49
                                  obtain ⟨y180, hy180⟩ : ∃ y_ : List (S24), y_ = (x16_3 ++ [(⟨(rd_T24 l0 x90_3).f0, (rd_T24 l0 x90_3).f1, (rd_T24 l0 x90_3).f2, (rd_T24 l0 x90_3).f3, (rd_T24 l0 x90_3).f4, (rd_T24 l0 x90_3).f5⟩ : S24)]) := ⟨_, rfl⟩
                                  replace H : (signatorylaw14_VersionsOrder.l2 k3 l0 a2 a3 a4 x15_2 y180 l0 (l0.length : Int) (wrap64 (x90_3 + 1))) = some r := by first | (rw [hy180]; with_reducible exact H) | (have H2_ := (Option.bind_some _ _).symm.trans H; rw [hy180]; with_reducible exact H2_) | (have H2_ := (Option.bind_some _ _).symm.trans H; with_reducible exact H2_) | with_reducible exact H | (rw [hy180]; exact H) | exact H
                                  have Ny180 := Aside0.mk hy180
                                  clear hy180
                                  have H' := Aside0.mk H
                                  clear H
                                  have p178 : 0 ≤ (x90_3 : Int) := of_decide_eq_true (by first | (with_reducible assumption) | assumption)
                                  have q178 : x90_3 < (l0.length : Int) := of_decide_eq_true (by first | (with_reducible assumption) | assumption)
                                  obtain ⟨ad178, e178, hx178_0, hx178_1, hx178_2, hx178_3, hx178_4, hx178_5⟩ := at_T24 HR0.out x90_3 p178 q178
                                  cases e178
                                  replace hx178_0 := (HB.out.cell (World.block_lt_of_cell? w _ hx178_0)).trans hx178_0
                                  replace hx178_1 := (HB.out.cell (World.block_lt_of_cell? w _ hx178_1)).trans hx178_1
                                  replace hx178_2 := (HB.out.cell (World.block_lt_of_cell? w _ hx178_2)).trans hx178_2
                                  replace hx178_3 := (HB.out.cell (World.block_lt_of_cell? w _ hx178_3)).trans hx178_3
                                  replace hx178_4 := (HB.out.cell (World.block_lt_of_cell? w _ hx178_4)).trans hx178_4
                                  replace hx178_5 := (HB.out.cell (World.block_lt_of_cell? w _ hx178_5)).trans hx178_5
                                  replace p178 := eq_true p178
                                  replace q178 := eq_true q178
                                  go_wp2_with (first | ((with_reducible refine gate_dst (N := 22) rfl ?_); refine box_event ?hg (N := 22) ?hd (cs := #[.int .i64 0, .int .i64 0, .int .i64 0, .int .i64 0, .int .i64 0, .bool false]) (t := 24) ?hr ?_; (case hd => rfl); (case hg => rfl); (case hr => first | (go_simp; done) | (go_simp; rfl)); intro gb179 hg w50 hbox hb; have n0_ := Aside0.mk (Kd.R_below (Kd.R_elderB (by (with_reducible repeat (first | apply Kd.R_alloc | apply Kd.R_drewN | apply Kd.R_drew)); exact HO_15.out) gb179 (Nat.le_of_eq hg.symm)) hb); have n1_ := Aside0.mk (Kd.R_below (Kd.R_elderB (by (with_reducible repeat (first | apply Kd.R_alloc | apply Kd.R_drewN | apply Kd.R_drew)); exact HO_16.out) gb179 (Nat.le_of_eq hg.symm)) hb); have n2_ := Aside0.mk (below_step (by repeat (first | (with_reducible first | exact HB.out | apply below_alloc | apply pw_below_drewN | apply below_drew1) | exact HB.out)) hb); have n3_ := Aside0.mk (hbox); have n4_ := Aside0.mk ((by rw [hg]; exact (below_size (by repeat (first | (with_reducible first | exact HB.out | apply below_alloc | apply pw_below_drewN | apply below_drew1) | exact HB.out))) : w.heap.size ≤ gb179)); have n5_ := Aside0.mk ((by rw [hg]; exact (below_size (by repeat (first | (with_reducible first | exact HB.out | apply below_alloc | apply pw_below_drewN | apply below_drew1) | exact HB.out))) : w.heap.size ≤ gb179)); clear HO_15; clear HO_16; clear HB; have HO_15 := n0_; have HO_16 := n1_; have HB := n2_; have BK179 := n3_; have GW179 := n4_; have GE179 := n5_; clear n0_ n1_ n2_ n3_ n4_ n5_; clear hb hbox hg; have hcz51_0 : w50.cell? ⟨gb179, 0, none⟩ = some (.int .i64 0) := (blk_cell BK179.out 0).trans rfl; have hcz51_1 : w50.cell? ⟨gb179, 1, none⟩ = some (.int .i64 0) := (blk_cell BK179.out 1).trans rfl; have hcz51_2 : w50.cell? ⟨gb179, 2, none⟩ = some (.int .i64 0) := (blk_cell BK179.out 2).trans rfl; have hcz51_3 : w50.cell? ⟨gb179, 3, none⟩ = some (.int .i64 0) := (blk_cell BK179.out 3).trans rfl; have hcz51_4 : w50.cell? ⟨gb179, 4, none⟩ = some (.int .i64 0) := (blk_cell BK179.out 4).trans rfl; have hcz51_5 : w50.cell? ⟨gb179, 5, none⟩ = some (.bool false) := (blk_cell BK179.out 5).trans rfl; have hfz51_0 := blk_frozen BK179.out 0; have hfz51_1 := blk_frozen BK179.out 1; have hfz51_2 := blk_frozen BK179.out 2; have hfz51_3 := blk_frozen BK179.out 3; have hfz51_4 := blk_frozen BK179.out 4; have hfz51_5 := blk_frozen BK179.out 5) | ((with_reducible refine gate_builtin (b := .append) (xs := #[.tmp 98, .tmp 100]) rfl ?_); at_builtin; refine Kd.R_append k24 (w0 := w) w.heap.size rfl (.tmp 98) (.tmp 100) 22 24 (.agg #[(.int .i64 0), (.int .i64 0), (.int .i64 0), (.int .i64 0), (.int .i64 0), (.bool false)]) 48 rfl Try.underlying22 info24 rfl (by decide) (by omega) u16 x16_3 (⟨(rd_T24 l0 x90_3).f0, (rd_T24 l0 x90_3).f1, (rd_T24 l0 x90_3).f2, (rd_T24 l0 x90_3).f3, (rd_T24 l0 x90_3).f4, (rd_T24 l0 x90_3).f5⟩ : S24) [.int .i64 ((rd_T24 l0 x90_3).f0), .int .i64 ((rd_T24 l0 x90_3).f1), .int .i64 ((rd_T24 l0 x90_3).f2), .int .i64 ((rd_T24 l0 x90_3).f3), .int .i64 ((rd_T24 l0 x90_3).f4), .bool ((rd_T24 l0 x90_3).f5)] (fun k_ => some k_ ≠ (u15 : Value).ownBlock ∧ k_ ≠ gb179) (fun _ => False) rfl (by first | (go_simp; done) | (go_simp; rfl)) ?aP (fun _ hk => hk.elim) ?aF ?aO ?aB ?aS ?aL ?_; (case aP => exact k24_mkM _ _ _ (⟨(rd_T24 l0 x90_3).f0, (rd_T24 l0 x90_3).f1, (rd_T24 l0 x90_3).f2, (rd_T24 l0 x90_3).f3, (rd_T24 l0 x90_3).f4, (rd_T24 l0 x90_3).f5⟩ : S24)); (case aB => exact (by repeat (first | (with_reducible first | exact HB.out | apply below_alloc | apply pw_below_drewN | apply below_drew1 | refine below_set ?_ GE179.out) | exact HB.out))); (case aF => exact (fun k_ hk => ⟨Kd.fresh' (Kd.R_lt (by (with_reducible repeat (first | apply Kd.R_alloc | apply Kd.R_drewN | apply Kd.R_drew)); exact (Kd.R_mono (Kd.R_far (p := ⟨gb179, 5, none⟩) (Kd.R_far (p := ⟨gb179, 4, none⟩) (Kd.R_far (p := ⟨gb179, 3, none⟩) (Kd.R_far (p := ⟨gb179, 2, none⟩) (Kd.R_far (p := ⟨gb179, 1, none⟩) (Kd.R_far (p := ⟨gb179, 0, none⟩) (Kd.R_mono HO_15.out (fun k_ hk => (⟨hk, hk.2⟩ : _ ∧ k_ ≠ gb179))) (fun _ hk => hk.2) (.int .i64 ((rd_T24 l0 x90_3).f0))) (fun _ hk => hk.2) (.int .i64 ((rd_T24 l0 x90_3).f1))) (fun _ hk => hk.2) (.int .i64 ((rd_T24 l0 x90_3).f2))) (fun _ hk => hk.2) (.int .i64 ((rd_T24 l0 x90_3).f3))) (fun _ hk => hk.2) (.int .i64 ((rd_T24 l0 x90_3).f4))) (fun _ hk => hk.2) (.bool ((rd_T24 l0 x90_3).f5))) (fun _ h_ => h_.1)))) k_ hk, Kd.freshB (g := gb179) (o := .cells #[.int .i64 ((rd_T24 l0 x90_3).f0), .int .i64 ((rd_T24 l0 x90_3).f1), .int .i64 ((rd_T24 l0 x90_3).f2), .int .i64 ((rd_T24 l0 x90_3).f3), .int .i64 ((rd_T24 l0 x90_3).f4), .bool ((rd_T24 l0 x90_3).f5)] 24 (0, 0)) (by (with_reducible repeat (first | refine blk_drewN ?_ _ | refine blk_drew ?_ | refine blk_alloc ?_ _)); refine blk_put (cs := #[.int .i64 ((rd_T24 l0 x90_3).f0), .int .i64 ((rd_T24 l0 x90_3).f1), .int .i64 ((rd_T24 l0 x90_3).f2), .int .i64 ((rd_T24 l0 x90_3).f3), .int .i64 ((rd_T24 l0 x90_3).f4), .bool false]) ?_ 5 _ rfl; (with_reducible repeat (first | refine blk_drewN ?_ _ | refine blk_drew ?_ | refine blk_alloc ?_ _)); refine blk_put (cs := #[.int .i64 ((rd_T24 l0 x90_3).f0), .int .i64 ((rd_T24 l0 x90_3).f1), .int .i64 ((rd_T24 l0 x90_3).f2), .int .i64 ((rd_T24 l0 x90_3).f3), .int .i64 0, .bool false]) ?_ 4 _ rfl; (with_reducible repeat (first | refine blk_drewN ?_ _ | refine blk_drew ?_ | refine blk_alloc ?_ _)); refine blk_put (cs := #[.int .i64 ((rd_T24 l0 x90_3).f0), .int .i64 ((rd_T24 l0 x90_3).f1), .int .i64 ((rd_T24 l0 x90_3).f2), .int .i64 0, .int .i64 0, .bool false]) ?_ 3 _ rfl; (with_reducible repeat (first | refine blk_drewN ?_ _ | refine blk_drew ?_ | refine blk_alloc ?_ _)); refine blk_put (cs := #[.int .i64 ((rd_T24 l0 x90_3).f0), .int .i64 ((rd_T24 l0 x90_3).f1), .int .i64 0, .int .i64 0, .int .i64 0, .bool false]) ?_ 2 _ rfl; (with_reducible repeat (first | refine blk_drewN ?_ _ | refine blk_drew ?_ | refine blk_alloc ?_ _)); refine blk_put (cs := #[.int .i64 ((rd_T24 l0 x90_3).f0), .int .i64 0, .int .i64 0, .int .i64 0, .int .i64 0, .bool false]) ?_ 1 _ rfl; (with_reducible repeat (first | refine blk_drewN ?_ _ | refine blk_drew ?_ | refine blk_alloc ?_ _)); refine blk_put (cs := #[.int .i64 0, .int .i64 0, .int .i64 0, .int .i64 0, .int .i64 0, .bool false]) ?_ 0 _ rfl; (with_reducible repeat (first | refine blk_drewN ?_ _ | refine blk_drew ?_ | refine blk_alloc ?_ _)); exact BK179.out) k_ hk⟩)); (case aO => exact (by (with_reducible repeat (first | apply Kd.R_alloc | apply Kd.R_drewN | apply Kd.R_drew)); exact Kd.R_mono (Kd.R_far (p := ⟨gb179, 5, none⟩) (Kd.R_far (p := ⟨gb179, 4, none⟩) (Kd.R_far (p := ⟨gb179, 3, none⟩) (Kd.R_far (p := ⟨gb179, 2, none⟩) (Kd.R_far (p := ⟨gb179, 1, none⟩) (Kd.R_far (p := ⟨gb179, 0, none⟩) (Kd.R_mono HO_16.out (fun k_ hk => (⟨hk, hk.2⟩ : _ ∧ k_ ≠ gb179))) (fun _ hk => hk.2) (.int .i64 ((rd_T24 l0 x90_3).f0))) (fun _ hk => hk.2) (.int .i64 ((rd_T24 l0 x90_3).f1))) (fun _ hk => hk.2) (.int .i64 ((rd_T24 l0 x90_3).f2))) (fun _ hk => hk.2) (.int .i64 ((rd_T24 l0 x90_3).f3))) (fun _ hk => hk.2) (.int .i64 ((rd_T24 l0 x90_3).f4))) (fun _ hk => hk.2) (.bool ((rd_T24 l0 x90_3).f5))) (fun _ hk => ⟨hk.1.1, hk.1.2⟩))); (case aS => exact (below_size (by repeat (first | (with_reducible first | exact HB.out | apply below_alloc | apply pw_below_drewN | apply below_drew1 | refine below_set ?_ GE179.out) | exact HB.out)))); (case aL => have := LMc49.out; omega); intro v181 w52 ho hb hg hat; rw [← Ny180.out] at ho; have n0_ := Aside0.mk (Kd.R_after (ok := (fun k_ => k_ ≠ gb179)) (by (with_reducible repeat (first | apply Kd.R_alloc | apply Kd.R_drewN | apply Kd.R_drew)); exact Kd.R_mono (Kd.R_far (p := ⟨gb179, 5, none⟩) (Kd.R_far (p := ⟨gb179, 4, none⟩) (Kd.R_far (p := ⟨gb179, 3, none⟩) (Kd.R_far (p := ⟨gb179, 2, none⟩) (Kd.R_far (p := ⟨gb179, 1, none⟩) (Kd.R_far (p := ⟨gb179, 0, none⟩) (Kd.R_mono HO_15.out (fun k_ hk => (⟨hk, hk.2⟩ : _ ∧ k_ ≠ gb179))) (fun _ hk => hk.2) (.int .i64 ((rd_T24 l0 x90_3).f0))) (fun _ hk => hk.2) (.int .i64 ((rd_T24 l0 x90_3).f1))) (fun _ hk => hk.2) (.int .i64 ((rd_T24 l0 x90_3).f2))) (fun _ hk => hk.2) (.int .i64 ((rd_T24 l0 x90_3).f3))) (fun _ hk => hk.2) (.int .i64 ((rd_T24 l0 x90_3).f4))) (fun _ hk => hk.2) (.bool ((rd_T24 l0 x90_3).f5))) (fun _ hk => ⟨hk.1.2, hk.1.1⟩)) hg hat); have n1_ := Aside0.mk (blk_grown (g := gb179) (o := .cells #[.int .i64 ((rd_T24 l0 x90_3).f0), .int .i64 ((rd_T24 l0 x90_3).f1), .int .i64 ((rd_T24 l0 x90_3).f2), .int .i64 ((rd_T24 l0 x90_3).f3), .int .i64 ((rd_T24 l0 x90_3).f4), .bool ((rd_T24 l0 x90_3).f5)] 24 (0, 0)) (by (with_reducible repeat (first | refine blk_drewN ?_ _ | refine blk_drew ?_ | refine blk_alloc ?_ _)); refine blk_put (cs := #[.int .i64 ((rd_T24 l0 x90_3).f0), .int .i64 ((rd_T24 l0 x90_3).f1), .int .i64 ((rd_T24 l0 x90_3).f2), .int .i64 ((rd_T24 l0 x90_3).f3), .int .i64 ((rd_T24 l0 x90_3).f4), .bool false]) ?_ 5 _ rfl; (with_reducible repeat (first | refine blk_drewN ?_ _ | refine blk_drew ?_ | refine blk_alloc ?_ _)); refine blk_put (cs := #[.int .i64 ((rd_T24 l0 x90_3).f0), .int .i64 ((rd_T24 l0 x90_3).f1), .int .i64 ((rd_T24 l0 x90_3).f2), .int .i64 ((rd_T24 l0 x90_3).f3), .int .i64 0, .bool false]) ?_ 4 _ rfl; (with_reducible repeat (first | refine blk_drewN ?_ _ | refine blk_drew ?_ | refine blk_alloc ?_ _)); refine blk_put (cs := #[.int .i64 ((rd_T24 l0 x90_3).f0), .int .i64 ((rd_T24 l0 x90_3).f1), .int .i64 ((rd_T24 l0 x90_3).f2), .int .i64 0, .int .i64 0, .bool false]) ?_ 3 _ rfl; (with_reducible repeat (first | refine blk_drewN ?_ _ | refine blk_drew ?_ | refine blk_alloc ?_ _)); refine blk_put (cs := #[.int .i64 ((rd_T24 l0 x90_3).f0), .int .i64 ((rd_T24 l0 x90_3).f1), .int .i64 0, .int .i64 0, .int .i64 0, .bool false]) ?_ 2 _ rfl; (with_reducible repeat (first | refine blk_drewN ?_ _ | refine blk_drew ?_ | refine blk_alloc ?_ _)); refine blk_put (cs := #[.int .i64 ((rd_T24 l0 x90_3).f0), .int .i64 0, .int .i64 0, .int .i64 0, .int .i64 0, .bool false]) ?_ 1 _ rfl; (with_reducible repeat (first | refine blk_drewN ?_ _ | refine blk_drew ?_ | refine blk_alloc ?_ _)); refine blk_put (cs := #[.int .i64 0, .int .i64 0, .int .i64 0, .int .i64 0, .int .i64 0, .bool false]) ?_ 0 _ rfl; (with_reducible repeat (first | refine blk_drewN ?_ _ | refine blk_drew ?_ | refine blk_alloc ?_ _)); exact BK179.out) hg (Kd.R_away HO_16.out (fun _ hk => hk.2))); have n2_ := Aside0.mk (hb); have n3_ := Aside0.mk (ho); clear HO_15; clear BK179; clear HB; clear HO_16; have HO_15 := n0_; have BK179 := n1_; have HB := n2_; have HO182 := n3_; clear n0_ n1_ n2_ n3_; clear ho hb hg hat))
                                  go_roundg k3
                                  case measure => have := HK1.out; have := HK2.out; have := HK3.out; omega
                                  case rel => exact ⟨(y180), (wrap64 (x90_3 + 1)), (by first | rfl | (simp; done) | (simp [*]; done)), H', ⟨by have := HK1.out; have := HK2.out; have := HK3.out; omega⟩, ⟨by (with_reducible repeat (first | apply Kd.R_alloc | apply Kd.R_drewN | apply Kd.R_drew)); exact Kd.R_mono HO_15.out (fun _ hk => hk.2)⟩, ⟨by (with_reducible repeat (first | apply Kd.R_alloc | apply Kd.R_drewN | apply Kd.R_drew)); exact Kd.R_mono HO182.out (fun _ hk => hk.1)⟩, ⟨by repeat (first | (with_reducible first | exact HB.out | apply below_alloc | apply pw_below_drewN | apply below_drew1 | refine below_set ?_ GE179.out) | exact HB.out)⟩⟩
                                · rw [if_neg c49] at H
                                  exact absurd H (by simp)
                              · rw [if_neg c48] at H
                                have c48b0 : (((rd_T24 l0 x90_3).f3) == a2) = false := beq_eq_false_iff_ne.mpr c48
                                have c48b1 : (((rd_T24 l0 x90_3).f3) != a2) = true := bne_iff_ne.mpr c48
                                have H' := Aside0.mk H
                                clear H
                                have p178 : 0 ≤ (x90_3 : Int) := of_decide_eq_true (by first | (with_reducible assumption) | assumption)
                                have q178 : x90_3 < (l0.length : Int) := of_decide_eq_true (by first | (with_reducible assumption) | assumption)
                                obtain ⟨ad178, e178, hx178_0, hx178_1, hx178_2, hx178_3, hx178_4, hx178_5⟩ := at_T24 HR0.out x90_3 p178 q178
                                cases e178
                                replace hx178_0 := (HB.out.cell (World.block_lt_of_cell? w _ hx178_0)).trans hx178_0
                                replace hx178_1 := (HB.out.cell (World.block_lt_of_cell? w _ hx178_1)).trans hx178_1
                                replace hx178_2 := (HB.out.cell (World.block_lt_of_cell? w _ hx178_2)).trans hx178_2
                                replace hx178_3 := (HB.out.cell (World.block_lt_of_cell? w _ hx178_3)).trans hx178_3
                                replace hx178_4 := (HB.out.cell (World.block_lt_of_cell? w _ hx178_4)).trans hx178_4
                                replace hx178_5 := (HB.out.cell (World.block_lt_of_cell? w _ hx178_5)).trans hx178_5
                                replace p178 := eq_true p178
                                replace q178 := eq_true q178
                                go_wp2_with (first | ((with_reducible refine gate_dst (N := 22) rfl ?_); refine box_event ?hg (N := 22) ?hd (cs := #[.int .i64 0, .int .i64 0, .int .i64 0, .int .i64 0, .int .i64 0, .bool false]) (t := 24) ?hr ?_; (case hd => rfl); (case hg => rfl); (case hr => first | (go_simp; done) | (go_simp; rfl)); intro gb179 hg w53 hbox hb; have n0_ := Aside0.mk (Kd.R_below (Kd.R_elderB (by (with_reducible repeat (first | apply Kd.R_alloc | apply Kd.R_drewN | apply Kd.R_drew)); exact HO_15.out) gb179 (Nat.le_of_eq hg.symm)) hb); have n1_ := Aside0.mk (Kd.R_below (Kd.R_elderB (by (with_reducible repeat (first | apply Kd.R_alloc | apply Kd.R_drewN | apply Kd.R_drew)); exact HO_16.out) gb179 (Nat.le_of_eq hg.symm)) hb); have n2_ := Aside0.mk (below_step (by repeat (first | (with_reducible first | exact HB.out | apply below_alloc | apply pw_below_drewN | apply below_drew1) | exact HB.out)) hb); have n3_ := Aside0.mk (hbox); have n4_ := Aside0.mk ((by rw [hg]; exact (below_size (by repeat (first | (with_reducible first | exact HB.out | apply below_alloc | apply pw_below_drewN | apply below_drew1) | exact HB.out))) : w.heap.size ≤ gb179)); have n5_ := Aside0.mk ((by rw [hg]; exact (below_size (by repeat (first | (with_reducible first | exact HB.out | apply below_alloc | apply pw_below_drewN | apply below_drew1) | exact HB.out))) : w.heap.size ≤ gb179)); clear HO_15; clear HO_16; clear HB; have HO_15 := n0_; have HO_16 := n1_; have HB := n2_; have BK179 := n3_; have GW179 := n4_; have GE179 := n5_; clear n0_ n1_ n2_ n3_ n4_ n5_; clear hb hbox hg; have hcz54_0 : w53.cell? ⟨gb179, 0, none⟩ = some (.int .i64 0) := (blk_cell BK179.out 0).trans rfl; have hcz54_1 : w53.cell? ⟨gb179, 1, none⟩ = some (.int .i64 0) := (blk_cell BK179.out 1).trans rfl; have hcz54_2 : w53.cell? ⟨gb179, 2, none⟩ = some (.int .i64 0) := (blk_cell BK179.out 2).trans rfl; have hcz54_3 : w53.cell? ⟨gb179, 3, none⟩ = some (.int .i64 0) := (blk_cell BK179.out 3).trans rfl; have hcz54_4 : w53.cell? ⟨gb179, 4, none⟩ = some (.int .i64 0) := (blk_cell BK179.out 4).trans rfl; have hcz54_5 : w53.cell? ⟨gb179, 5, none⟩ = some (.bool false) := (blk_cell BK179.out 5).trans rfl; have hfz54_0 := blk_frozen BK179.out 0; have hfz54_1 := blk_frozen BK179.out 1; have hfz54_2 := blk_frozen BK179.out 2; have hfz54_3 := blk_frozen BK179.out 3; have hfz54_4 := blk_frozen BK179.out 4; have hfz54_5 := blk_frozen BK179.out 5))
                                go_roundg k3
                                case measure => have := HK1.out; have := HK2.out; have := HK3.out; omega
                                case rel => exact ⟨(x16_3), (wrap64 (x90_3 + 1)), (by first | rfl | (simp; done) | (simp [*]; done)), H', ⟨by have := HK1.out; have := HK2.out; have := HK3.out; omega⟩, ⟨by (with_reducible repeat (first | apply Kd.R_alloc | apply Kd.R_drewN | apply Kd.R_drew)); exact Kd.R_mono (Kd.R_far (p := ⟨gb179, 5, none⟩) (Kd.R_far (p := ⟨gb179, 4, none⟩) (Kd.R_far (p := ⟨gb179, 3, none⟩) (Kd.R_far (p := ⟨gb179, 2, none⟩) (Kd.R_far (p := ⟨gb179, 1, none⟩) (Kd.R_far (p := ⟨gb179, 0, none⟩) (Kd.R_mono HO_15.out (fun k_ hk => (⟨hk, hk.2⟩ : _ ∧ k_ ≠ gb179))) (fun _ hk => hk.2) (.int .i64 ((rd_T24 l0 x90_3).f0))) (fun _ hk => hk.2) (.int .i64 ((rd_T24 l0 x90_3).f1))) (fun _ hk => hk.2) (.int .i64 ((rd_T24 l0 x90_3).f2))) (fun _ hk => hk.2) (.int .i64 ((rd_T24 l0 x90_3).f3))) (fun _ hk => hk.2) (.int .i64 ((rd_T24 l0 x90_3).f4))) (fun _ hk => hk.2) (.bool ((rd_T24 l0 x90_3).f5))) (fun _ hk => hk.1.1)⟩, ⟨by (with_reducible repeat (first | apply Kd.R_alloc | apply Kd.R_drewN | apply Kd.R_drew)); exact Kd.R_mono (Kd.R_far (p := ⟨gb179, 5, none⟩) (Kd.R_far (p := ⟨gb179, 4, none⟩) (Kd.R_far (p := ⟨gb179, 3, none⟩) (Kd.R_far (p := ⟨gb179, 2, none⟩) (Kd.R_far (p := ⟨gb179, 1, none⟩) (Kd.R_far (p := ⟨gb179, 0, none⟩) (Kd.R_mono HO_16.out (fun k_ hk => (⟨hk, hk.2⟩ : _ ∧ k_ ≠ gb179))) (fun _ hk => hk.2) (.int .i64 ((rd_T24 l0 x90_3).f0))) (fun _ hk => hk.2) (.int .i64 ((rd_T24 l0 x90_3).f1))) (fun _ hk => hk.2) (.int .i64 ((rd_T24 l0 x90_3).f2))) (fun _ hk => hk.2) (.int .i64 ((rd_T24 l0 x90_3).f3))) (fun _ hk => hk.2) (.int .i64 ((rd_T24 l0 x90_3).f4))) (fun _ hk => hk.2) (.bool ((rd_T24 l0 x90_3).f5))) (fun _ hk => hk.1.1)⟩, ⟨by repeat (first | (with_reducible first | exact HB.out | apply below_alloc | apply pw_below_drewN | apply below_drew1 | refine below_set ?_ GE179.out) | exact HB.out)⟩⟩
                            · rw [if_neg c47] at H
                              exact absurd H (by simp)
                          · rw [if_neg c46] at H
                            exact absurd H (by simp)
                        · rw [if_neg c45] at H
                          have c45b0 : decide (x90_3 < (l0.length : Int)) = false := decide_eq_false c45
                          clear c45
                          replace H := Option.bind_eq_some_iff.mp H
                          obtain ⟨⟨t183, t184, t185⟩, A550, H⟩ := H
                          replace H : ((versions_Value.f k3 x16_3 a2 a3 a4).bind fun bt186 => ((signatoryref14_Same.f k3 x15_2 l0).bind fun t189 => (if t189 = true then (if t183 = bt186.1 then (if (t184 == bt186.2.1) = true then (some (t185 == bt186.2.2)) else (some false)) else (some false)) else (some false)))) = some r := H
                          have A55 := Aside0.mk A550
                          clear A550
                          replace H := Option.bind_eq_some_iff.mp H
                          obtain ⟨⟨t186, t187, t188⟩, A560, H⟩ := H
                          replace H : ((signatoryref14_Same.f k3 x15_2 l0).bind fun t189 => (if t189 = true then (if t183 = t186 then (if (t184 == t187) = true then (some (t185 == t188)) else (some false)) else (some false)) else (some false))) = some r := H
                          have A56 := Aside0.mk A560
                          clear A560
                          replace H := Option.bind_eq_some_iff.mp H
                          obtain ⟨t189, A570, H⟩ := H
                          replace H : (if t189 = true then (if t183 = t186 then (if (t184 == t187) = true then (some (t185 == t188)) else (some false)) else (some false)) else (some false)) = some r := H
                          have A57 := Aside0.mk A570
                          clear A570
                          by_cases c58 : t189 = true
                          · subst c58
                            have H1 : (if t183 = t186 then (if (t184 == t187) = true then (some (t185 == t188)) else (some false)) else (some false)) = some r := by rw [if_pos rfl] at H; exact H
                            clear H
                            have H := H1
                            clear H1
                            by_cases c59 : t183 = t186
                            · rw [if_pos c59] at H
                              have c59b0 : (t183 == t186) = true := beq_iff_eq.mpr c59
                              have c59b1 : (t183 != t186) = false := bne_eq_false_iff_eq.mpr c59
                              clear c59
                              by_cases c60 : (t184 == t187) = true
                              · rw [if_pos c60] at H
                                have c60b0 : (t184 == t187) = true := c60
                                (try (have c60b1 : decide (t184 = t187) = true := by simpa using c60))
                                (try (have c60b2 : (t184 == t187) = true := by simpa using c60))
                                clear c60
                                obtain rfl := Option.some.inj H
                                go_wp2_with (first | ((with_reducible refine gate_callee (f := 16) rfl ?_); refine goesL_ (some 108) rfl rfl Try.func16 (by kernel_rfl) rfl #[.slice A0 l0.length c0, .int .i64 a2, .int .i64 a3, .int .i64 a4] rfl (by (try simp only [List.map_toArray, List.map_cons, List.map_nil]); first | done | rfl | (simp only [List.length_drop, List.length_take]; rfl)) ?_; (with_reducible refine (versions_Value.calls k3 _ _ l0 a2 a3 a4 t183 t184 t185 _ ?side1 ?side2 A55.out).mono ?_); (case side1 => repeat (first | exact (Kd.C_below HR0.out HB.out) | (with_reducible refine Kd.C_alloc ?_ _) | (with_reducible refine Kd.C_drewN ?_ _) | (with_reducible refine Kd.C_drew ?_))); (case side2 => exact HC0.out); rintro e w61 ⟨rfl, hb⟩; refine ⟨_, rfl, ?_⟩; have n0_ := Aside0.mk (Kd.R_below (by (with_reducible repeat (first | apply Kd.R_alloc | apply Kd.R_drewN | apply Kd.R_drew)); exact HO_15.out) hb); have n1_ := Aside0.mk (Kd.R_below (by (with_reducible repeat (first | apply Kd.R_alloc | apply Kd.R_drewN | apply Kd.R_drew)); exact HO_16.out) hb); have n2_ := Aside0.mk (below_step (by repeat (first | (with_reducible first | exact HB.out | apply below_alloc | apply pw_below_drewN | apply below_drew1) | exact HB.out)) hb); clear HO_15; clear HO_16; clear HB; have HO_15 := n0_; have HO_16 := n1_; have HB := n2_; clear n0_ n1_ n2_; (try clear hb); (try clear hb2); (try clear hk); (try clear hi); obtain ⟨Ao62, co62, eo62⟩ := Kd.R_slice HO_16.out; subst eo62) | ((with_reducible refine gate_callee (f := 16) rfl ?_); refine goesL_ (some 117) rfl rfl Try.func16 (by kernel_rfl) rfl #[.slice Ao62 x16_3.length co62, .int .i64 a2, .int .i64 a3, .int .i64 a4] rfl (by (try simp only [List.map_toArray, List.map_cons, List.map_nil]); first | done | rfl | (simp only [List.length_drop, List.length_take]; rfl)) ?_; (with_reducible refine (versions_Value.calls k3 _ _ x16_3 a2 a3 a4 t186 t187 t188 _ ?side1 ?side2 A56.out).mono ?_); (case side1 => repeat (first | exact (Kd.R_reads' HO_16.out).2.2 | (with_reducible refine Kd.C_alloc ?_ _) | (with_reducible refine Kd.C_drewN ?_ _) | (with_reducible refine Kd.C_drew ?_))); (case side2 => exact (Kd.R_reads' HO_16.out).2.1); rintro e w63 ⟨rfl, hb⟩; refine ⟨_, rfl, ?_⟩; have n0_ := Aside0.mk (Kd.R_below (by (with_reducible repeat (first | apply Kd.R_alloc | apply Kd.R_drewN | apply Kd.R_drew)); exact HO_15.out) hb); have n1_ := Aside0.mk (Kd.R_below (by (with_reducible repeat (first | apply Kd.R_alloc | apply Kd.R_drewN | apply Kd.R_drew)); exact HO_16.out) hb); have n2_ := Aside0.mk (below_step (by repeat (first | (with_reducible first | exact HB.out | apply below_alloc | apply pw_below_drewN | apply below_drew1) | exact HB.out)) hb); clear HO_15; clear HO_16; clear HB; have HO_15 := n0_; have HO_16 := n1_; have HB := n2_; clear n0_ n1_ n2_; (try clear hb); (try clear hb2); (try clear hk); (try clear hi); obtain ⟨Ao64, co64, eo64⟩ := Kd.R_slice HO_15.out; subst eo64) | ((with_reducible refine gate_callee (f := 15) rfl ?_); refine goesL_ (some 123) rfl rfl Try.func15 (by kernel_rfl) rfl #[.slice Ao64 x15_2.length co64, .slice A0 l0.length c0] rfl (by (try simp only [List.map_toArray, List.map_cons, List.map_nil]); first | done | rfl | (simp only [List.length_drop, List.length_take]; rfl)) ?_; (with_reducible refine (signatoryref14_Same.calls k3 _ _ x15_2 _ _ l0 true _ ?side1 ?side2 ?side3 ?side4 A57.out).mono ?_); (case side1 => repeat (first | exact (Kd.R_reads' HO_15.out).2.2 | (with_reducible refine Kd.C_alloc ?_ _) | (with_reducible refine Kd.C_drewN ?_ _) | (with_reducible refine Kd.C_drew ?_))); (case side2 => exact (Kd.R_reads' HO_15.out).2.1); (case side3 => repeat (first | exact (Kd.C_below HR0.out HB.out) | (with_reducible refine Kd.C_alloc ?_ _) | (with_reducible refine Kd.C_drewN ?_ _) | (with_reducible refine Kd.C_drew ?_))); (case side4 => exact HC0.out); rintro e w' ⟨rfl, ⟨nd, rfl⟩⟩; refine ⟨_, rfl, ?_⟩))
                                go_ret
                                exact ⟨by first | rfl | (simp [errW_none, errW_some] <;> rfl) | (simp [*, errW_none, errW_some] <;> rfl), by repeat (first | (with_reducible first | exact HB.out | apply below_alloc | apply pw_below_drewN | apply below_drew1) | exact HB.out)⟩
                              · rw [if_neg c60] at H
                                have c60b0 : (t184 == t187) = false := by simpa using c60
                                (try (have c60b1 : decide (t184 = t187) = false := by simpa using c60))
                                (try (have c60b2 : (t184 == t187) = false := by simpa using c60))
                                (try (have c60b3 : ¬ (t184 = t187) := by simpa using c60))
                                clear c60
                                obtain rfl := Option.some.inj H
                                go_wp2_with (first | ((with_reducible refine gate_callee (f := 16) rfl ?_); refine goesL_ (some 108) rfl rfl Try.func16 (by kernel_rfl) rfl #[.slice A0 l0.length c0, .int .i64 a2, .int .i64 a3, .int .i64 a4] rfl (by (try simp only [List.map_toArray, List.map_cons, List.map_nil]); first | done | rfl | (simp only [List.length_drop, List.length_take]; rfl)) ?_; (with_reducible refine (versions_Value.calls k3 _ _ l0 a2 a3 a4 t183 t184 t185 _ ?side1 ?side2 A55.out).mono ?_); (case side1 => repeat (first | exact (Kd.C_below HR0.out HB.out) | (with_reducible refine Kd.C_alloc ?_ _) | (with_reducible refine Kd.C_drewN ?_ _) | (with_reducible refine Kd.C_drew ?_))); (case side2 => exact HC0.out); rintro e w65 ⟨rfl, hb⟩; refine ⟨_, rfl, ?_⟩; have n0_ := Aside0.mk (Kd.R_below (by (with_reducible repeat (first | apply Kd.R_alloc | apply Kd.R_drewN | apply Kd.R_drew)); exact HO_15.out) hb); have n1_ := Aside0.mk (Kd.R_below (by (with_reducible repeat (first | apply Kd.R_alloc | apply Kd.R_drewN | apply Kd.R_drew)); exact HO_16.out) hb); have n2_ := Aside0.mk (below_step (by repeat (first | (with_reducible first | exact HB.out | apply below_alloc | apply pw_below_drewN | apply below_drew1) | exact HB.out)) hb); clear HO_15; clear HO_16; clear HB; have HO_15 := n0_; have HO_16 := n1_; have HB := n2_; clear n0_ n1_ n2_; (try clear hb); (try clear hb2); (try clear hk); (try clear hi); obtain ⟨Ao66, co66, eo66⟩ := Kd.R_slice HO_16.out; subst eo66) | ((with_reducible refine gate_callee (f := 16) rfl ?_); refine goesL_ (some 117) rfl rfl Try.func16 (by kernel_rfl) rfl #[.slice Ao66 x16_3.length co66, .int .i64 a2, .int .i64 a3, .int .i64 a4] rfl (by (try simp only [List.map_toArray, List.map_cons, List.map_nil]); first | done | rfl | (simp only [List.length_drop, List.length_take]; rfl)) ?_; (with_reducible refine (versions_Value.calls k3 _ _ x16_3 a2 a3 a4 t186 t187 t188 _ ?side1 ?side2 A56.out).mono ?_); (case side1 => repeat (first | exact (Kd.R_reads' HO_16.out).2.2 | (with_reducible refine Kd.C_alloc ?_ _) | (with_reducible refine Kd.C_drewN ?_ _) | (with_reducible refine Kd.C_drew ?_))); (case side2 => exact (Kd.R_reads' HO_16.out).2.1); rintro e w67 ⟨rfl, hb⟩; refine ⟨_, rfl, ?_⟩; have n0_ := Aside0.mk (Kd.R_below (by (with_reducible repeat (first | apply Kd.R_alloc | apply Kd.R_drewN | apply Kd.R_drew)); exact HO_15.out) hb); have n1_ := Aside0.mk (Kd.R_below (by (with_reducible repeat (first | apply Kd.R_alloc | apply Kd.R_drewN | apply Kd.R_drew)); exact HO_16.out) hb); have n2_ := Aside0.mk (below_step (by repeat (first | (with_reducible first | exact HB.out | apply below_alloc | apply pw_below_drewN | apply below_drew1) | exact HB.out)) hb); clear HO_15; clear HO_16; clear HB; have HO_15 := n0_; have HO_16 := n1_; have HB := n2_; clear n0_ n1_ n2_; (try clear hb); (try clear hb2); (try clear hk); (try clear hi); obtain ⟨Ao68, co68, eo68⟩ := Kd.R_slice HO_15.out; subst eo68) | ((with_reducible refine gate_callee (f := 15) rfl ?_); refine goesL_ (some 123) rfl rfl Try.func15 (by kernel_rfl) rfl #[.slice Ao68 x15_2.length co68, .slice A0 l0.length c0] rfl (by (try simp only [List.map_toArray, List.map_cons, List.map_nil]); first | done | rfl | (simp only [List.length_drop, List.length_take]; rfl)) ?_; (with_reducible refine (signatoryref14_Same.calls k3 _ _ x15_2 _ _ l0 true _ ?side1 ?side2 ?side3 ?side4 A57.out).mono ?_); (case side1 => repeat (first | exact (Kd.R_reads' HO_15.out).2.2 | (with_reducible refine Kd.C_alloc ?_ _) | (with_reducible refine Kd.C_drewN ?_ _) | (with_reducible refine Kd.C_drew ?_))); (case side2 => exact (Kd.R_reads' HO_15.out).2.1); (case side3 => repeat (first | exact (Kd.C_below HR0.out HB.out) | (with_reducible refine Kd.C_alloc ?_ _) | (with_reducible refine Kd.C_drewN ?_ _) | (with_reducible refine Kd.C_drew ?_))); (case side4 => exact HC0.out); rintro e w' ⟨rfl, ⟨nd, rfl⟩⟩; refine ⟨_, rfl, ?_⟩))
                                go_ret
                                exact ⟨by first | rfl | (simp [errW_none, errW_some] <;> rfl) | (simp [*, errW_none, errW_some] <;> rfl), by repeat (first | (with_reducible first | exact HB.out | apply below_alloc | apply pw_below_drewN | apply below_drew1) | exact HB.out)⟩
                            · rw [if_neg c59] at H
                              have c59b0 : (t183 == t186) = false := beq_eq_false_iff_ne.mpr c59
                              have c59b1 : (t183 != t186) = true := bne_iff_ne.mpr c59
                              obtain rfl := Option.some.inj H
                              go_wp2_with (first | ((with_reducible refine gate_callee (f := 16) rfl ?_); refine goesL_ (some 108) rfl rfl Try.func16 (by kernel_rfl) rfl #[.slice A0 l0.length c0, .int .i64 a2, .int .i64 a3, .int .i64 a4] rfl (by (try simp only [List.map_toArray, List.map_cons, List.map_nil]); first | done | rfl | (simp only [List.length_drop, List.length_take]; rfl)) ?_; (with_reducible refine (versions_Value.calls k3 _ _ l0 a2 a3 a4 t183 t184 t185 _ ?side1 ?side2 A55.out).mono ?_); (case side1 => repeat (first | exact (Kd.C_below HR0.out HB.out) | (with_reducible refine Kd.C_alloc ?_ _) | (with_reducible refine Kd.C_drewN ?_ _) | (with_reducible refine Kd.C_drew ?_))); (case side2 => exact HC0.out); rintro e w69 ⟨rfl, hb⟩; refine ⟨_, rfl, ?_⟩; have n0_ := Aside0.mk (Kd.R_below (by (with_reducible repeat (first | apply Kd.R_alloc | apply Kd.R_drewN | apply Kd.R_drew)); exact HO_15.out) hb); have n1_ := Aside0.mk (Kd.R_below (by (with_reducible repeat (first | apply Kd.R_alloc | apply Kd.R_drewN | apply Kd.R_drew)); exact HO_16.out) hb); have n2_ := Aside0.mk (below_step (by repeat (first | (with_reducible first | exact HB.out | apply below_alloc | apply pw_below_drewN | apply below_drew1) | exact HB.out)) hb); clear HO_15; clear HO_16; clear HB; have HO_15 := n0_; have HO_16 := n1_; have HB := n2_; clear n0_ n1_ n2_; (try clear hb); (try clear hb2); (try clear hk); (try clear hi); obtain ⟨Ao70, co70, eo70⟩ := Kd.R_slice HO_16.out; subst eo70) | ((with_reducible refine gate_callee (f := 16) rfl ?_); refine goesL_ (some 117) rfl rfl Try.func16 (by kernel_rfl) rfl #[.slice Ao70 x16_3.length co70, .int .i64 a2, .int .i64 a3, .int .i64 a4] rfl (by (try simp only [List.map_toArray, List.map_cons, List.map_nil]); first | done | rfl | (simp only [List.length_drop, List.length_take]; rfl)) ?_; (with_reducible refine (versions_Value.calls k3 _ _ x16_3 a2 a3 a4 t186 t187 t188 _ ?side1 ?side2 A56.out).mono ?_); (case side1 => repeat (first | exact (Kd.R_reads' HO_16.out).2.2 | (with_reducible refine Kd.C_alloc ?_ _) | (with_reducible refine Kd.C_drewN ?_ _) | (with_reducible refine Kd.C_drew ?_))); (case side2 => exact (Kd.R_reads' HO_16.out).2.1); rintro e w71 ⟨rfl, hb⟩; refine ⟨_, rfl, ?_⟩; have n0_ := Aside0.mk (Kd.R_below (by (with_reducible repeat (first | apply Kd.R_alloc | apply Kd.R_drewN | apply Kd.R_drew)); exact HO_15.out) hb); have n1_ := Aside0.mk (Kd.R_below (by (with_reducible repeat (first | apply Kd.R_alloc | apply Kd.R_drewN | apply Kd.R_drew)); exact HO_16.out) hb); have n2_ := Aside0.mk (below_step (by repeat (first | (with_reducible first | exact HB.out | apply below_alloc | apply pw_below_drewN | apply below_drew1) | exact HB.out)) hb); clear HO_15; clear HO_16; clear HB; have HO_15 := n0_; have HO_16 := n1_; have HB := n2_; clear n0_ n1_ n2_; (try clear hb); (try clear hb2); (try clear hk); (try clear hi); obtain ⟨Ao72, co72, eo72⟩ := Kd.R_slice HO_15.out; subst eo72) | ((with_reducible refine gate_callee (f := 15) rfl ?_); refine goesL_ (some 123) rfl rfl Try.func15 (by kernel_rfl) rfl #[.slice Ao72 x15_2.length co72, .slice A0 l0.length c0] rfl (by (try simp only [List.map_toArray, List.map_cons, List.map_nil]); first | done | rfl | (simp only [List.length_drop, List.length_take]; rfl)) ?_; (with_reducible refine (signatoryref14_Same.calls k3 _ _ x15_2 _ _ l0 true _ ?side1 ?side2 ?side3 ?side4 A57.out).mono ?_); (case side1 => repeat (first | exact (Kd.R_reads' HO_15.out).2.2 | (with_reducible refine Kd.C_alloc ?_ _) | (with_reducible refine Kd.C_drewN ?_ _) | (with_reducible refine Kd.C_drew ?_))); (case side2 => exact (Kd.R_reads' HO_15.out).2.1); (case side3 => repeat (first | exact (Kd.C_below HR0.out HB.out) | (with_reducible refine Kd.C_alloc ?_ _) | (with_reducible refine Kd.C_drewN ?_ _) | (with_reducible refine Kd.C_drew ?_))); (case side4 => exact HC0.out); rintro e w' ⟨rfl, ⟨nd, rfl⟩⟩; refine ⟨_, rfl, ?_⟩))
                              go_ret
                              exact ⟨by first | rfl | (simp [errW_none, errW_some] <;> rfl) | (simp [*, errW_none, errW_some] <;> rfl), by repeat (first | (with_reducible first | exact HB.out | apply below_alloc | apply pw_below_drewN | apply below_drew1) | exact HB.out)⟩
                          · replace c58 := Bool.eq_false_iff.mpr c58
                            subst c58
                            have H1 : (some false) = some r := by rw [if_neg (show ¬ (false = true) by decide)] at H; exact H
                            clear H
                            have H := H1
                            clear H1
                            obtain rfl := Option.some.inj H
                            go_wp2_with (first | ((with_reducible refine gate_callee (f := 16) rfl ?_); refine goesL_ (some 108) rfl rfl Try.func16 (by kernel_rfl) rfl #[.slice A0 l0.length c0, .int .i64 a2, .int .i64 a3, .int .i64 a4] rfl (by (try simp only [List.map_toArray, List.map_cons, List.map_nil]); first | done | rfl | (simp only [List.length_drop, List.length_take]; rfl)) ?_; (with_reducible refine (versions_Value.calls k3 _ _ l0 a2 a3 a4 t183 t184 t185 _ ?side1 ?side2 A55.out).mono ?_); (case side1 => repeat (first | exact (Kd.C_below HR0.out HB.out) | (with_reducible refine Kd.C_alloc ?_ _) | (with_reducible refine Kd.C_drewN ?_ _) | (with_reducible refine Kd.C_drew ?_))); (case side2 => exact HC0.out); rintro e w73 ⟨rfl, hb⟩; refine ⟨_, rfl, ?_⟩; have n0_ := Aside0.mk (Kd.R_below (by (with_reducible repeat (first | apply Kd.R_alloc | apply Kd.R_drewN | apply Kd.R_drew)); exact HO_15.out) hb); have n1_ := Aside0.mk (Kd.R_below (by (with_reducible repeat (first | apply Kd.R_alloc | apply Kd.R_drewN | apply Kd.R_drew)); exact HO_16.out) hb); have n2_ := Aside0.mk (below_step (by repeat (first | (with_reducible first | exact HB.out | apply below_alloc | apply pw_below_drewN | apply below_drew1) | exact HB.out)) hb); clear HO_15; clear HO_16; clear HB; have HO_15 := n0_; have HO_16 := n1_; have HB := n2_; clear n0_ n1_ n2_; (try clear hb); (try clear hb2); (try clear hk); (try clear hi); obtain ⟨Ao74, co74, eo74⟩ := Kd.R_slice HO_16.out; subst eo74) | ((with_reducible refine gate_callee (f := 16) rfl ?_); refine goesL_ (some 117) rfl rfl Try.func16 (by kernel_rfl) rfl #[.slice Ao74 x16_3.length co74, .int .i64 a2, .int .i64 a3, .int .i64 a4] rfl (by (try simp only [List.map_toArray, List.map_cons, List.map_nil]); first | done | rfl | (simp only [List.length_drop, List.length_take]; rfl)) ?_; (with_reducible refine (versions_Value.calls k3 _ _ x16_3 a2 a3 a4 t186 t187 t188 _ ?side1 ?side2 A56.out).mono ?_); (case side1 => repeat (first | exact (Kd.R_reads' HO_16.out).2.2 | (with_reducible refine Kd.C_alloc ?_ _) | (with_reducible refine Kd.C_drewN ?_ _) | (with_reducible refine Kd.C_drew ?_))); (case side2 => exact (Kd.R_reads' HO_16.out).2.1); rintro e w75 ⟨rfl, hb⟩; refine ⟨_, rfl, ?_⟩; have n0_ := Aside0.mk (Kd.R_below (by (with_reducible repeat (first | apply Kd.R_alloc | apply Kd.R_drewN | apply Kd.R_drew)); exact HO_15.out) hb); have n1_ := Aside0.mk (Kd.R_below (by (with_reducible repeat (first | apply Kd.R_alloc | apply Kd.R_drewN | apply Kd.R_drew)); exact HO_16.out) hb); have n2_ := Aside0.mk (below_step (by repeat (first | (with_reducible first | exact HB.out | apply below_alloc | apply pw_below_drewN | apply below_drew1) | exact HB.out)) hb); clear HO_15; clear HO_16; clear HB; have HO_15 := n0_; have HO_16 := n1_; have HB := n2_; clear n0_ n1_ n2_; (try clear hb); (try clear hb2); (try clear hk); (try clear hi); obtain ⟨Ao76, co76, eo76⟩ := Kd.R_slice HO_15.out; subst eo76) | ((with_reducible refine gate_callee (f := 15) rfl ?_); refine goesL_ (some 123) rfl rfl Try.func15 (by kernel_rfl) rfl #[.slice Ao76 x15_2.length co76, .slice A0 l0.length c0] rfl (by (try simp only [List.map_toArray, List.map_cons, List.map_nil]); first | done | rfl | (simp only [List.length_drop, List.length_take]; rfl)) ?_; (with_reducible refine (signatoryref14_Same.calls k3 _ _ x15_2 _ _ l0 false _ ?side1 ?side2 ?side3 ?side4 A57.out).mono ?_); (case side1 => repeat (first | exact (Kd.R_reads' HO_15.out).2.2 | (with_reducible refine Kd.C_alloc ?_ _) | (with_reducible refine Kd.C_drewN ?_ _) | (with_reducible refine Kd.C_drew ?_))); (case side2 => exact (Kd.R_reads' HO_15.out).2.1); (case side3 => repeat (first | exact (Kd.C_below HR0.out HB.out) | (with_reducible refine Kd.C_alloc ?_ _) | (with_reducible refine Kd.C_drewN ?_ _) | (with_reducible refine Kd.C_drew ?_))); (case side4 => exact HC0.out); rintro e w' ⟨rfl, ⟨nd, rfl⟩⟩; refine ⟨_, rfl, ?_⟩))
                            go_ret
                            exact ⟨by first | rfl | (simp [errW_none, errW_some] <;> rfl) | (simp [*, errW_none, errW_some] <;> rfl), by repeat (first | (with_reducible first | exact HB.out | apply below_alloc | apply pw_below_drewN | apply below_drew1) | exact HB.out)⟩
      · rw [if_neg c10] at H
        exact absurd H (by simp)
    · replace c9 := Bool.eq_false_iff.mpr c9
      subst c9
      have H1 : (some true) = some r := by rw [if_neg (show ¬ (false = true) by decide)] at H; exact H
      clear H
      have H := H1
      clear H1
      obtain rfl := Option.some.inj H
      go_enter Try.func7, Try.ntmps7
      go_wp2_with (first | ((with_reducible refine gate_callee (f := 9) rfl ?_); refine goesL_ (some 29) rfl rfl Try.func9 (by kernel_rfl) rfl #[] rfl (by (try simp only [List.map_toArray, List.map_cons, List.map_nil]); first | done | rfl | (simp only [List.length_drop, List.length_take]; rfl)) ?_; (with_reducible refine (signatorylaw14_sane.calls k  true _ A6.out).mono ?_); rintro e w77 ⟨rfl, hb⟩; refine ⟨_, rfl, ?_⟩; have n0_ := Aside0.mk (below_step (by repeat (first | (with_reducible first | exact HB.out | apply below_alloc | apply pw_below_drewN | apply below_drew1) | exact HB.out)) hb); clear HB; have HB := n0_; clear n0_; (try clear hb); (try clear hb2); (try clear hk); (try clear hi)) | ((with_reducible refine gate_callee (f := 21) rfl ?_); refine goesL_ (some 32) rfl rfl Try.func21 (by kernel_rfl) rfl #[.slice A0 l0.length c0] rfl (by (try simp only [List.map_toArray, List.map_cons, List.map_nil]); first | done | rfl | (simp only [List.length_drop, List.length_take]; rfl)) ?_; (with_reducible refine (signatorylaw14_right.calls k _ _ l0 false _ ?side1 ?side2 A8.out).mono ?_); (case side1 => repeat (first | exact (Kd.C_below HR0.out HB.out) | (with_reducible refine Kd.C_alloc ?_ _) | (with_reducible refine Kd.C_drewN ?_ _) | (with_reducible refine Kd.C_drew ?_))); (case side2 => exact HC0.out); rintro e w78 ⟨rfl, hb⟩; refine ⟨_, rfl, ?_⟩; have n0_ := Aside0.mk (below_step (by repeat (first | (with_reducible first | exact HB.out | apply below_alloc | apply pw_below_drewN | apply below_drew1) | exact HB.out)) hb); clear HB; have HB := n0_; clear n0_; (try clear hb); (try clear hb2); (try clear hk); (try clear hi)))
      go_ret
      exact ⟨by first | rfl | (simp [errW_none, errW_some] <;> rfl) | (simp [*, errW_none, errW_some] <;> rfl), by repeat (first | (with_reducible first | exact HB.out | apply below_alloc | apply pw_below_drewN | apply below_drew1) | exact HB.out)⟩
  · replace c7 := Bool.eq_false_iff.mpr c7
    subst c7
    have H1 : (some false) = some r := by rw [if_neg (show ¬ (false = true) by decide)] at H; exact H
    clear H
    have H := H1
    clear H1
    obtain rfl := Option.some.inj H
    go_enter Try.func7, Try.ntmps7
    go_wp2_with (first | ((with_reducible refine gate_callee (f := 9) rfl ?_); refine goesL_ (some 29) rfl rfl Try.func9 (by kernel_rfl) rfl #[] rfl (by (try simp only [List.map_toArray, List.map_cons, List.map_nil]); first | done | rfl | (simp only [List.length_drop, List.length_take]; rfl)) ?_; (with_reducible refine (signatorylaw14_sane.calls k  false _ A6.out).mono ?_); rintro e w79 ⟨rfl, hb⟩; refine ⟨_, rfl, ?_⟩; have n0_ := Aside0.mk (below_step (by repeat (first | (with_reducible first | exact HB.out | apply below_alloc | apply pw_below_drewN | apply below_drew1) | exact HB.out)) hb); clear HB; have HB := n0_; clear n0_; (try clear hb); (try clear hb2); (try clear hk); (try clear hi)))
    go_ret
    exact ⟨by first | rfl | (simp [errW_none, errW_some] <;> rfl) | (simp [*, errW_none, errW_some] <;> rfl), by repeat (first | (with_reducible first | exact HB.out | apply below_alloc | apply pw_below_drewN | apply below_drew1) | exact HB.out)⟩

end Go.Proofs.Ytnahfhbnfidanaa.Q
