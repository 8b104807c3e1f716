-- Written by wip/tools/extprint.py of this repo (a program of this claim's own, over the kit's printer) out of the translation; Lean checks it.
import Derived.Test.YtnahfhbnfidanaaQ0
import Derived.Test.YtnahfhbnfidanaaQ3
import Derived.Test.YtnahfhbnfidanaaQ10
import Derived.Test.YtnahfhbnfidanaaQ11
namespace Go.Proofs.Ytnahfhbnfidanaa.Q
open Go.RowKit Go.Proofs.YtnahfhbnfidanaaW.PrintWords Go.Proofs.YtnahfhbnfidanaaW.PrintLast Go.Proofs.YtnahfhbnfidanaaW.PrintMore
attribute [local go_sem] max2_int min2_int max_two min_two max_three min_three max_four min_four   -- for this text's walks alone
set_option linter.unusedVariables false
set_option linter.unusedSimpArgs false

section
open Go.Shelf Go.Sort
section
/-- Draws and blocks behind a world. -/
def Gr (w w' : World) : Prop := ∃ (q : Nat) (os : Array Obj), w' = grow (w.drewN q) os
theorem Gr.refl (w : World) : Gr w w := ⟨0, #[], by rw [grow_empty]; rfl⟩
theorem Gr.drew {w w' : World} (h : Gr w w') : Gr w w'.drew := by
  obtain ⟨q, os, rfl⟩ := h
  exact ⟨q + 1, os, rfl⟩
theorem Gr.drewN {w w' : World} (h : Gr w w') (n : Nat) : Gr w (w'.drewN n) := by
  obtain ⟨q, os, rfl⟩ := h
  exact ⟨q + n, os, by rw [← World.drewN_drewN]; rfl⟩
theorem Gr.alloc {w w' : World} (h : Gr w w') (o : Obj) : Gr w (w'.alloc o) := by
  obtain ⟨q, os, rfl⟩ := h
  exact ⟨q, os ++ #[o], by rw [alloc_eq_grow, grow_grow]⟩
theorem Gr.drew0 {w w1 w2 : World} (h : Gr w w1) (hd : Drawn0 w1 w2) : Gr w w2 := by
  obtain ⟨n, rfl⟩ := hd.out
  exact h.drewN n
theorem two_ints {w : World} {b : Nat} {x y : Int} (h0 : w.cell? ⟨b, 0, none⟩ = some (.int .i64 x)) (h1 : w.cell? ⟨b, 1, none⟩ = some (.int .i64 y)) : Kd.C (Kd.int .i64) w (some ⟨b, 0, none⟩) [x, y].length [x, y] := by
  refine ⟨rfl, by simp, fun _ => ⟨⟨b, 0, none⟩, rfl, fun j v hj => ?_⟩⟩
  match j, hj with
  | 0, hj =>
    obtain rfl := Option.some.inj hj
    refine ⟨[.int .i64 x], rfl, rfl, fun i u hu => ?_⟩
    match i, hu with
    | 0, hu =>
      obtain rfl := Option.some.inj hu
      exact h0
  | 1, hj =>
    obtain rfl := Option.some.inj hj
    refine ⟨[.int .i64 y], rfl, rfl, fun i u hu => ?_⟩
    match i, hu with
    | 0, hu =>
      obtain rfl := Option.some.inj hu
      exact h1
set_option maxHeartbeats 4000000 in
set_option maxRecDepth 100000 in
theorem byAt_grows (x y : S24) (w : World) : Calls Try.prog 34 #[ag24 x, ag24 y] w fun e w' => e = .returned (.int .i64 (atCmp x y)) ∧ Gr w w' := by
  have hbox := @Nat.lt_irrefl 0
  obtain ⟨c1, hc1⟩ : ∃ c, (if x.f1 < y.f1 then -1 else if y.f1 < x.f1 then 1 else 0 : Int) = c := ⟨_, rfl⟩
  obtain ⟨c2, hc2⟩ : ∃ c, (if x.f0 < y.f0 then -1 else if y.f0 < x.f0 then 1 else 0 : Int) = c := ⟨_, rfl⟩
  have hor : cmp_Or_int.f 4 [c1, c2] = some (atCmp x y) := by
    have h := byAt_eq x y
    unfold versions_byAt.f at h
    rw [compare_eq, compare_eq, hc1, hc2] at h
    simpa using h
  have K1 : Aside0 (cmp_Compare_int.f x.f1 y.f1 = some c1) := ⟨by rw [compare_eq, hc1]⟩
  have K2 : Aside0 (cmp_Compare_int.f x.f0 y.f0 = some c2) := ⟨by rw [compare_eq, hc2]⟩
  have HOR := Aside0.mk hor
  clear hbox hc1 hc2 hor
  obtain ⟨g1, hg1⟩ : ∃ g, w.heap.size = g := ⟨_, rfl⟩
  obtain ⟨g2, hg2⟩ : ∃ g, (w.alloc (.cells #[.int .i64 x.f0, .int .i64 x.f1, .int .i64 x.f2, .int .i64 x.f3, .int .i64 x.f4, .bool x.f5] 24)).heap.size = g := ⟨_, rfl⟩
  have A1 := World.alloc_heap_new w (.cells #[.int .i64 x.f0, .int .i64 x.f1, .int .i64 x.f2, .int .i64 x.f3, .int .i64 x.f4, .bool x.f5] 24)
  have A2 := blk_alloc A1 (.cells #[.int .i64 y.f0, .int .i64 y.f1, .int .i64 y.f2, .int .i64 y.f3, .int .i64 y.f4, .bool y.f5] 24)
  have C2 := World.alloc_heap_new (w.alloc (.cells #[.int .i64 x.f0, .int .i64 x.f1, .int .i64 x.f2, .int .i64 x.f3, .int .i64 x.f4, .bool x.f5] 24)) (.cells #[.int .i64 y.f0, .int .i64 y.f1, .int .i64 y.f2, .int .i64 y.f3, .int .i64 y.f4, .bool y.f5] 24)
  have G2 := ((Gr.refl w).alloc (.cells #[.int .i64 x.f0, .int .i64 x.f1, .int .i64 x.f2, .int .i64 x.f3, .int .i64 x.f4, .bool x.f5] 24)).alloc (.cells #[.int .i64 y.f0, .int .i64 y.f1, .int .i64 y.f2, .int .i64 y.f3, .int .i64 y.f4, .bool y.f5] 24)
  rw [hg1] at A2
  rw [hg2] at C2
  clear A1
  rw [World.size_alloc, hg1] at hg2
  go_enter Try.func34, Try.ntmps34
  go_wp2
  try rw [hg1]
  try rw [hg2]
  generalize (w.alloc (.cells #[.int .i64 x.f0, .int .i64 x.f1, .int .i64 x.f2, .int .i64 x.f3, .int .i64 x.f4, .bool x.f5] 24)).alloc (.cells #[.int .i64 y.f0, .int .i64 y.f1, .int .i64 y.f2, .int .i64 y.f3, .int .i64 y.f4, .bool y.f5] 24) = w2 at *
  refine start_ (n := 13) (S := fun w' => w'.cell? ⟨g1, 0, none⟩ = some (.int .i64 x.f0) ∧ w'.cell? ⟨g1, 1, none⟩ = some (.int .i64 x.f1) ∧ w'.cell? ⟨g2, 0, none⟩ = some (.int .i64 y.f0) ∧ w'.cell? ⟨g2, 1, none⟩ = some (.int .i64 y.f1) ∧ Gr w w') (ds := []) #[false, false, false, false, false, false, false, false, false, false, false, false, false] (by kernel_rfl) rfl rfl ⟨(blk_cell (blk_drew A2) 0).trans rfl, (blk_cell (blk_drew A2) 1).trans rfl, (blk_cell (blk_drew C2) 0).trans rfl, (blk_cell (blk_drew C2) 1).trans rfl, G2.drew⟩ (fun hHeld => ?_)
  have A3 := blk_drew A2
  have C3 := blk_drew C2
  have G3 := G2.drew
  generalize w2.drew = w3 at *
  refine pure_ (i := 0) (N := some 5) (v := ?_) (a' := ?_) #[true, false, false, false, false, false, false, false, false, false, false, false, false] rfl rfl (by kernel_rfl) (fun _ _ _ h => h) (Or.inl ⟨by rfl, ?_⟩) ?_ ?_
  rotate_left
  · intro w'
    go_simp
    with_reducible rfl
  rotate_left
  · simp only [Act.put, List.setIfInBounds_toArray, List.set_cons_zero, List.set_cons_succ, i64_w, i32_w]
    rfl
  refine pure_ (i := 2) (N := some 7) (v := ?_) (a' := ?_) #[true, false, true, false, false, false, false, false, false, false, false, false, false] rfl rfl (by kernel_rfl) (fun _ _ _ h => h) (Or.inl ⟨by rfl, ?_⟩) ?_ ?_
  rotate_left
  · intro w'
    go_simp
    with_reducible rfl
  rotate_left
  · simp only [Act.put, List.setIfInBounds_toArray, List.set_cons_zero, List.set_cons_succ, i64_w, i32_w]
    rfl
  refine pure_ (i := 5) (N := some 10) (v := ?_) (a' := ?_) #[true, false, true, false, false, true, false, false, false, false, false, false, false] rfl rfl (by kernel_rfl) (fun _ _ _ h => h) (Or.inl ⟨by rfl, ?_⟩) ?_ ?_
  rotate_left
  · intro w'
    go_simp
    with_reducible rfl
  rotate_left
  · simp only [Act.put, List.setIfInBounds_toArray, List.set_cons_zero, List.set_cons_succ, i64_w, i32_w]
    rfl
  refine pure_ (i := 7) (N := some 12) (v := ?_) (a' := ?_) #[true, false, true, false, false, true, false, true, false, false, false, false, false] rfl rfl (by kernel_rfl) (fun _ _ _ h => h) (Or.inl ⟨by rfl, ?_⟩) ?_ ?_
  rotate_left
  · intro w'
    go_simp
    with_reducible rfl
  rotate_left
  · simp only [Act.put, List.setIfInBounds_toArray, List.set_cons_zero, List.set_cons_succ, i64_w, i32_w]
    rfl
  refine take_ (i := 1) (N := some 6) (v := ?_) (a' := ?_) #[true, true, true, false, false, true, false, true, false, false, false, false, false] rfl rfl (by kernel_rfl) (fun _ _ _ h => h) (Or.inl ⟨by rfl, ?_⟩) hHeld ?_ ?_
  rotate_left
  · rintro w' ⟨s0, s1, s2, s3, s4⟩
    go_simp
    with_reducible rfl
  rotate_left
  · simp only [Act.put, List.setIfInBounds_toArray, List.set_cons_zero, List.set_cons_succ, i64_w, i32_w]
    rfl
  refine take_ (i := 3) (N := some 8) (v := ?_) (a' := ?_) #[true, true, true, true, false, true, false, true, false, false, false, false, false] rfl rfl (by kernel_rfl) (fun _ _ _ h => h) (Or.inl ⟨by rfl, ?_⟩) hHeld ?_ ?_
  rotate_left
  · rintro w' ⟨s0, s1, s2, s3, s4⟩
    go_simp
    with_reducible rfl
  rotate_left
  · simp only [Act.put, List.setIfInBounds_toArray, List.set_cons_zero, List.set_cons_succ, i64_w, i32_w]
    rfl
  refine take_ (i := 6) (N := some 11) (v := ?_) (a' := ?_) #[true, true, true, true, false, true, true, true, false, false, false, false, false] rfl rfl (by kernel_rfl) (fun _ _ _ h => h) (Or.inl ⟨by rfl, ?_⟩) hHeld ?_ ?_
  rotate_left
  · rintro w' ⟨s0, s1, s2, s3, s4⟩
    go_simp
    with_reducible rfl
  rotate_left
  · simp only [Act.put, List.setIfInBounds_toArray, List.set_cons_zero, List.set_cons_succ, i64_w, i32_w]
    rfl
  refine take_ (i := 8) (N := some 13) (v := ?_) (a' := ?_) #[true, true, true, true, false, true, true, true, true, false, false, false, false] rfl rfl (by kernel_rfl) (fun _ _ _ h => h) (Or.inl ⟨by rfl, ?_⟩) hHeld ?_ ?_
  rotate_left
  · rintro w' ⟨s0, s1, s2, s3, s4⟩
    go_simp
    with_reducible rfl
  rotate_left
  · simp only [Act.put, List.setIfInBounds_toArray, List.set_cons_zero, List.set_cons_succ, i64_w, i32_w]
    rfl
  refine one_ (i := 4) (N := some 9) #[true, true, true, true, true, true, true, true, true, false, false, false, false] rfl rfl (by kernel_rfl) (by decide) (fun K hK => ?_)
  refine goes_ Try.func39 (by kernel_rfl) rfl #[.int .i64 x.f1, .int .i64 y.f1] (by rfl) rfl rfl (by (try simp only [List.map_toArray, List.map_cons, List.map_nil]); first | done | rfl) ?_
  refine (cmp_Compare_int.calls _ _ _ _ K1.out).mono ?_
  rintro e w4 ⟨rfl, hd⟩
  have A4 := blk_below A3 hd.below
  have C4 := blk_below C3 hd.below
  have G4 := G3.drew0 hd
  clear hd
  refine ⟨_, rfl, ?_⟩
  refine hK.out _ _ ⟨(blk_cell A4 0).trans rfl, (blk_cell A4 1).trans rfl, (blk_cell C4 0).trans rfl, (blk_cell C4 1).trans rfl, G4⟩ (fun hHeld => ?_)
  clear hK K
  refine norm_ (a' := ?_) ?_ ?_
  rotate_left
  · show Act.put _ (some 9) _ = _
    simp only [Act.put, List.setIfInBounds_toArray, List.set_cons_zero, List.set_cons_succ, i64_w, i32_w]
    rfl
  refine one_ (i := 9) (N := some 14) #[true, true, true, true, true, true, true, true, true, true, false, false, false] rfl rfl (by kernel_rfl) (by decide) (fun K hK => ?_)
  refine goes_ Try.func39 (by kernel_rfl) rfl #[.int .i64 x.f0, .int .i64 y.f0] (by rfl) rfl rfl (by (try simp only [List.map_toArray, List.map_cons, List.map_nil]); first | done | rfl) ?_
  refine (cmp_Compare_int.calls _ _ _ _ K2.out).mono ?_
  rintro e w5 ⟨rfl, hd⟩
  have A5 := blk_below A4 hd.below
  have C5 := blk_below C4 hd.below
  have G5 := G4.drew0 hd
  clear hd
  refine ⟨_, rfl, ?_⟩
  refine hK.out _ _ ⟨(blk_cell A5 0).trans rfl, (blk_cell A5 1).trans rfl, (blk_cell C5 0).trans rfl, (blk_cell C5 1).trans rfl, G5⟩ (fun hHeld => ?_)
  clear hK K
  refine norm_ (a' := ?_) ?_ ?_
  rotate_left
  · show Act.put _ (some 14) _ = _
    simp only [Act.put, List.setIfInBounds_toArray, List.set_cons_zero, List.set_cons_succ, i64_w, i32_w]
    rfl
  refine one_ (i := 10) (N := some 15) #[true, true, true, true, true, true, true, true, true, true, true, false, false] rfl rfl (by kernel_rfl) (by decide) (fun K hK => ?_)
  refine value_ (w1 := ?_) (v := ?_) (by rfl) rfl ?_ ?_
  rotate_left 2
  · go_simp
    constructor
    · rfl
    · rfl
  have hs := two_ints (blk_cell (World.alloc_heap_new w5 (.cells #[.int .i64 c1, .int .i64 c2] 3)) 0) (blk_cell (World.alloc_heap_new w5 (.cells #[.int .i64 c1, .int .i64 c2] 3)) 1)
  refine hK.out _ _ ⟨(blk_cell (blk_alloc A5 _) 0).trans rfl, (blk_cell (blk_alloc A5 _) 1).trans rfl, (blk_cell (blk_alloc C5 _) 0).trans rfl, (blk_cell (blk_alloc C5 _) 1).trans rfl, (G5.alloc _)⟩ (fun hHeld => ?_)
  clear hK K
  refine norm_ (a' := ?_) ?_ ?_
  rotate_left
  · show Act.put _ (some 15) _ = _
    simp only [Act.put, List.setIfInBounds_toArray, List.set_cons_zero, List.set_cons_succ, i64_w, i32_w]
    rfl
  refine one_ (i := 11) (N := some 16) #[true, true, true, true, true, true, true, true, true, true, true, true, false] rfl rfl (by kernel_rfl) (by decide) (fun K hK => ?_)
  refine goes_ Try.func43 (by kernel_rfl) rfl #[.slice (some ⟨w5.heap.size, 0, none⟩) 2 2] (by rfl) rfl rfl (by (try simp only [List.map_toArray, List.map_cons, List.map_nil]); first | done | rfl) ?_
  refine (cmp_Or_int.calls 4 _ _ [c1, c2] _ _ hs (Nat.le_refl _) HOR.out).mono ?_
  rintro e w6 ⟨rfl, hd⟩
  have G6 := (G5.alloc _).drew0 hd
  refine ⟨_, rfl, ?_⟩
  refine hK.out _ _ ⟨(hd.below.cell (p := ⟨g1, 0, none⟩) (blk_lt (blk_alloc A5 _))).trans ((blk_cell (blk_alloc A5 _) 0).trans rfl), (hd.below.cell (p := ⟨g1, 1, none⟩) (blk_lt (blk_alloc A5 _))).trans ((blk_cell (blk_alloc A5 _) 1).trans rfl), (hd.below.cell (p := ⟨g2, 0, none⟩) (blk_lt (blk_alloc C5 _))).trans ((blk_cell (blk_alloc C5 _) 0).trans rfl), (hd.below.cell (p := ⟨g2, 1, none⟩) (blk_lt (blk_alloc C5 _))).trans ((blk_cell (blk_alloc C5 _) 1).trans rfl), G6⟩ (fun hHeld => ?_)
  clear hK K
  refine norm_ (a' := ?_) ?_ ?_
  rotate_left
  · show Act.put _ (some 16) _ = _
    simp only [Act.put, List.setIfInBounds_toArray, List.set_cons_zero, List.set_cons_succ, i64_w, i32_w]
    rfl
  refine pure_ (i := 12) (N := some 4) (v := ?_) (a' := ?_) #[true, true, true, true, true, true, true, true, true, true, true, true, true] rfl rfl (by kernel_rfl) (fun _ _ _ h => h) (Or.inl ⟨by rfl, ?_⟩) ?_ ?_
  rotate_left
  · intro w'
    go_simp
    with_reducible rfl
  rotate_left
  · simp only [Act.put, List.setIfInBounds_toArray, List.set_cons_zero, List.set_cons_succ, i64_w, i32_w]
    rfl
  refine done_ (by kernel_rfl) ?_
  go_wp2
  go_ret
  exact ⟨rfl, hHeld.2.2.2.2⟩
end
end
section
open Go.Shelf
section
attribute [local go_sem] Oper.semAt_some
/-- Between two rounds: the box Bs holds the row so far. -/
def CI (w : World) (n₁ Bs : Nat) (pre : List S24) (W : World) : Prop := (∃ v, W.heap[Bs]? = some (.cells #[v] 22 (0, 0)) ∧ W.ownsRow n₁ 24 6 v pre.length (cells24 pre)) ∧ n₁ ≤ W.heap.size ∧ Below w.heap.size w W
theorem CI.own {w : World} {n₁ Bs : Nat} (hn : w.heap.size ≤ n₁) : OwnFrom n₁ (CI w n₁ Bs) := by
  rintro pre A B row ⟨⟨v, h1, h2⟩, h3, h4⟩ hg hr
  have hr' : ∀ r, row = some r → ∃ o : Obj, A.heap[r]? = some o ∧ o.isCells = false := fun r e => (hr r e).2
  refine ⟨⟨v, blk_own h1 hg hr', h2.kept hg ?_⟩, Nat.le_trans h3 hg.size, h4.grown hg (Nat.le_trans hn h3) (fun k e => Nat.le_trans hn (hr k e).1)⟩
  cases hv : v.ownBlock with
  | none => exact .inl rfl
  | some g =>
    refine .inr (fun e => ?_)
    obtain ⟨_, o, ho, hc⟩ := hr g e.symm
    rcases h2.2 with ⟨rfl, _⟩ | ⟨g', cap, cur, rfl, hb, hh, _⟩
    · simp [Value.ownBlock] at hv
    · simp [Value.ownBlock] at hv
      subst hv
      rw [hh] at ho
      cases ho
      cases hc
theorem CI.later {w : World} {n₁ Bs : Nat} {pre : List S24} {W W' : World} (h : CI w n₁ Bs pre W) (hb : Below W.heap.size W W') : CI w n₁ Bs pre W' := by
  obtain ⟨⟨v, h1, h2⟩, h3, h4⟩ := h
  refine ⟨⟨v, blk_below h1 hb, h2.1, ?_⟩, Nat.le_trans h3 hb.size, h4.trans (hb.mono h4.size)⟩
  rcases h2.2 with h | ⟨g, cap, cur, e, hg, hh, hr⟩
  · exact .inl h
  · exact .inr ⟨g, cap, cur, e, hg, (hb.block g (Array.getElem?_eq_some_iff.1 hh).1).trans hh, hr⟩
/-- One round: what the append and the store leave. -/
theorem CI.round {w : World} {n₁ Bs : Nat} {pre : List S24} {W w1 : World} {v v' : Value} {x : S24} (hX : w.heap.size ≤ Bs) (hn : w.heap.size ≤ n₁) (hXn : Bs < n₁) (h1 : W.heap[Bs]? = some (.cells #[v] 22 (0, 0))) (h2 : W.ownsRow n₁ 24 6 v pre.length (cells24 pre)) (h3 : n₁ ≤ W.heap.size) (h4 : Below w.heap.size w W) {o : Obj}
    (hown : w1.ownsRow n₁ 24 6 v' (pre.length + 1) (cells24 pre ++ cell6 x)) (hg : (W.alloc o).grownBy w1 v.ownBlock) :
    w1.heap[Bs]? = some (.cells #[v] 22 (0, 0)) ∧ KeepsFrom n₁ W (w1.setCell ⟨Bs, 0, none⟩ v') ∧ Below w.heap.size W (w1.setCell ⟨Bs, 0, none⟩ v') ∧ CI w n₁ Bs (pre ++ [x]) (w1.setCell ⟨Bs, 0, none⟩ v') := by
  have hvr : ∀ k, v.ownBlock = some k → n₁ ≤ k := fun k hk => (h2.lt k hk).1
  have hvr' : ∀ k, v'.ownBlock = some k → n₁ ≤ k := fun k hk => (hown.lt k hk).1
  have hba : Below W.heap.size W (W.alloc o) := (Below.refl _ W).alloc (Nat.le_refl _) _
  have hlt : Bs < (W.alloc o).heap.size := by have := hba.size; omega
  have hX1 : w1.heap[Bs]? = some (.cells #[v] 22 (0, 0)) := (hg.block Bs hlt (fun e => by have := hvr Bs e.symm; omega)).trans ((hba.block Bs (by omega)).trans h1)
  have hsz : W.heap.size ≤ w1.heap.size := Nat.le_trans hba.size hg.size
  have hset : w1.grownBy (w1.setCell ⟨Bs, 0, none⟩ v') (some Bs) := ⟨rfl, rfl, rfl, (KeepsWalks.setCell w1 _ v').size, fun k _ hk => Below.heap_setCell _ _ _ k (fun e => hk (by rw [e]))⟩
  have hB : Below w.heap.size W (w1.setCell ⟨Bs, 0, none⟩ v') := (((Below.refl w.heap.size W).alloc h4.size o).grown hg (Nat.le_trans h4.size hba.size) (fun k e => Nat.le_trans hn (hvr k e))).grown hset (Nat.le_trans h4.size hsz) (fun k e => by cases e; exact hX)
  refine ⟨hX1, ?_, hB, ⟨⟨v', ?_, ?_⟩, ?_, ?_⟩⟩
  · refine ⟨Nat.le_trans hsz hset.size, fun k o' hk ho hc => ?_⟩
    have hkl : k < W.heap.size := (Array.getElem?_eq_some_iff.1 ho).1
    refine (hset.block k (by omega) (fun e => by have := Option.some.inj e; omega)).trans ((hg.block k (by have := hba.size; omega) (fun e => ?_)).trans ((hba.block k hkl).trans ho))
    rcases h2.2 with ⟨rfl, _⟩ | ⟨g, cap, cur, rfl, _, hh, _⟩
    · simp [Value.ownBlock] at e
    · simp [Value.ownBlock] at e
      subst e
      rw [hh] at ho
      cases ho
      cases hc
  · exact blk_put hX1 0 _ rfl
  · rw [cells24_append, List.length_append]
    have : cells24 [x] = cell6 x := by simp [cells24]
    rw [this]
    exact hown.kept hset (by
      cases hv : v'.ownBlock with
      | none => exact .inl rfl
      | some g => exact .inr (fun e => by have := hvr' g hv; have := Option.some.inj e; omega))
  · exact Nat.le_trans h3 (Nat.le_trans hsz hset.size)
  · exact h4.trans hB
theorem load_slice (w : World) (g : Nat) (A : Option Addr) (n c : Nat) (h : w.cell? ⟨g, 0, none⟩ = some (.slice A n c)) : (loadVar 22 ⟨g, 0, none⟩).run Try.prog w = .ok (.slice A n c) w := by
  go_simp
theorem results_t {P : Program} {fn : Func} {p : Tmp} (h : fn.results = #[.tmp p]) (tmps : Array Value) (w : World) : (results fn tmps).run P w = .ok (tmps.getD p undef) w := by
  simp [results, h]
set_option maxRecDepth 100000 in
set_option maxHeartbeats 200000000 in
theorem appendSeq_calls (B1 B2 B3 : Nat) (A : Option Addr) (c : Nat) (xs : List S24) (key time : Int) (w : World)
    (h1 : w.cell? ⟨B1, 0, none⟩ = some (.slice A xs.length c)) (h2 : w.cell? ⟨B2, 0, none⟩ = some (.int .i64 key)) (h3 : w.cell? ⟨B3, 0, none⟩ = some (.int .i64 time))
    (n1 : B1 < w.heap.size) (n2 : B2 < w.heap.size) (n3 : B3 < w.heap.size) (hC : ∀ W', Below w.heap.size w W' → Kd.C k24 W' A xs.length xs) (hl : xs.length ≤ 1000000) :
    Calls Try.prog 48 #[.slice none 0 0, .func (.func 42) #[] #[.pointer (some ⟨B1, 0, none⟩), .pointer (some ⟨B2, 0, none⟩), .pointer (some ⟨B3, 0, none⟩)]] w fun e w' =>
      ∃ v, e = .returned v ∧ w'.ownsRow w.heap.size 24 6 v (pick key time xs).length (cells24 (pick key time xs)) ∧ Below w.heap.size w w' := by
  refine (callsIn_wide (n := 9)).1 (callsIn_of_wp_marks (F := Fence.wide) Try.func48 rfl trivial (wpIn_wide.2 ?_) rfl)
  simp only [Try.ntmps48, List.size_toArray, List.length_cons, List.length_nil, Nat.reduceAdd, Nat.reduceSub, Array.replicate_succ, Array.replicate_zero, List.push_toArray, List.append_toArray, List.nil_append, List.cons_append]
  go_wp2
  rename_i K0_ hK0_
  obtain ⟨w4, hw4⟩ : ∃ w4, w.alloc (.cells #[.slice none 0 0] 22) = w4 := ⟨_, rfl⟩
  have hs4 : w4.heap.size = w.heap.size + 1 := by rw [← hw4]; simp
  have q1 : w4.heap[w.heap.size]? = some (.cells #[.slice none 0 0] 22 (0, 0)) := by rw [← hw4]; exact World.alloc_heap_new w _
  have hb4 : Below w.heap.size w w4 := by rw [← hw4]; exact (Below.refl _ w).alloc (Nat.le_refl _) _
  rw [hw4]
  clear hw4
  obtain ⟨i0, hi0, hz0, hsz0, hby0⟩ := info_parts info24c
  have hst := known_stops 8 w.heap.size B1 B2 B3 (by omega) A c xs key time w4 ((hb4.cell (p := ⟨B1, 0, none⟩) n1).trans h1) ((hb4.cell (p := ⟨B2, 0, none⟩) n2).trans h2) ((hb4.cell (p := ⟨B3, 0, none⟩) n3).trans h3) n1 n2 n3 (by omega) (fun W' hW' => hC W' (hb4.trans hW')) hl
  refine wpIn_wide.1 (wpIn_rangeFunc_ownH (F := Fence.wide) (n := 9) rfl (by omega) (gf := 42) (lb := #[.pointer (some ⟨B1, 0, none⟩), .pointer (some ⟨B2, 0, none⟩), .pointer (some ⟨B3, 0, none⟩)]) rfl trivial (enters_of Try.func42 (by kernel_rfl) rfl) hst
    belowK_t (belowK_b (by omega)) (Below.refl _ _) (fun _ => rfl)
    (CI w w4.heap.size w.heap.size) (fun _ _ _ => False) (CI.own (by omega)) (fun _ _ _ _ _ hs _ _ => hs) ⟨⟨_, q1, World.ownsRow_nil _ _ _ _⟩, Nat.le_refl _, hb4⟩
    (fun x a' W => ∃ Bx, w4.heap.size ≤ Bx ∧ W.heap[Bx]? = some (.cells #[.int .i64 x.f0, .int .i64 x.f1, .int .i64 x.f2, .int .i64 x.f3, .int .i64 x.f4, .bool x.f5] 24 (0, 0)) ∧ a' = ⟨#[.slice none 0 0, .func (.func 42) #[] #[.pointer (some ⟨B1, 0, none⟩), .pointer (some ⟨B2, 0, none⟩), .pointer (some ⟨B3, 0, none⟩)], .pointer (some ⟨w.heap.size, 0, none⟩), undef, .slice none 0 0, .pointer (some ⟨Bx, 0, none⟩), .func (.func 42) #[] #[.pointer (some ⟨B1, 0, none⟩), .pointer (some ⟨B2, 0, none⟩), .pointer (some ⟨B3, 0, none⟩)], ag24 x, undef, undef, undef, undef, undef], []⟩)
    (fun x a' _ P Q row hs hg hr => by
      obtain ⟨Bx, h0, h1, h2⟩ := hs
      exact ⟨Bx, h0, blk_own h1 hg (fun r e => (hr r e).2), h2⟩)
    ?assign ?body ?done ?stop)
  case assign =>
    rintro l pre x W K hi hK
    gi_wp2
    have hba : Below W.heap.size W (W.alloc (.cells #[.int .i64 x.f0, .int .i64 x.f1, .int .i64 x.f2, .int .i64 x.f3, .int .i64 x.f4, .bool x.f5] 24)) := (Below.refl _ W).alloc (Nat.le_refl _) _
    exact hK _ _ (keepsF_below hba) (hba.mono hi.2.2.size) (hi.later hba) ⟨W.heap.size, hi.2.1, World.alloc_heap_new W _, rfl⟩
  case body =>
    rintro l pre x a' W hl ⟨r, hr⟩ ⟨⟨v, hv, hrow⟩, hnW, hBW⟩ ⟨Bx, hBx, bx, rfl⟩ hlt
    have e0 := (blk_cell bx 0).trans rfl
    have e1 := (blk_cell bx 1).trans rfl
    have e2 := (blk_cell bx 2).trans rfl
    have e3 := (blk_cell bx 3).trans rfl
    have e4 := (blk_cell bx 4).trans rfl
    have e5 := (blk_cell bx 5).trans rfl
    have f1 : W.cell? ⟨w.heap.size, 0, none⟩ = some v := (blk_cell hv 0).trans rfl
    have hcell : ∀ j u, (cell6 x)[j]? = some u → (W.alloc (.cells #[.int .i64 x.f0, .int .i64 x.f1, .int .i64 x.f2, .int .i64 x.f3, .int .i64 x.f4, .bool x.f5] 24)).cell? ((⟨W.heap.size, 0, none⟩ : Addr).add j) = some u := by
      intro j u hj
      have hz : (⟨W.heap.size, 0, none⟩ : Addr).add j = ⟨W.heap.size, j, none⟩ := by simp [Addr.add]; try omega
      rw [hz, blk_cell (World.alloc_heap_new W _) j]
      exact (by simpa [cell6] using hj : (#[.int .i64 x.f0, .int .i64 x.f1, .int .i64 x.f2, .int .i64 x.f3, .int .i64 x.f4, .bool x.f5] : Array Value)[j]? = some u)
    gi_wp2_with (gi_at_builtin; refine wpListIn_append_own _ rfl _ _ 22 rfl w4.heap.size 24 i0 _ 6 48 Try.underlying22 hi0 hz0 hsz0 hby0 rfl (by decide) _ _ _ rfl (hrow.alloc _) ⟨W.heap.size, 0, none⟩ 1 1 (cell6 x) rfl rfl hcell (by simp [Value.oneCell', cell6]) (by unfold maxLen; omega) (by omega) (by simp [cell6]; omega) ?_; intro v' w1 hown' hgrow _; obtain ⟨g', cap', rfl⟩ := ownsRow_succ hown'; obtain ⟨hX1, hk2, hkb, hI2⟩ := CI.round (x := x) (Nat.le_refl _) (by omega) (by omega) hv hrow hnW hBW hown' hgrow; have hf1 := blk_frozen hX1 0; have hc1 : w1.cell? ⟨w.heap.size, 0, none⟩ = some v := (blk_cell hX1 0).trans rfl)
    exact ⟨hk2, hkb, hI2⟩
  case done =>
    rintro D ys W hD hys ⟨⟨v, hv, hrow⟩, hnW, hBW⟩ hK
    replace hys : ys = pick key time xs := hys
    subst hys
    obtain ⟨A26, c26, rfl⟩ : ∃ A2 c2, v = .slice A2 (pick key time xs).length c2 := by
      rcases hrow.2 with ⟨rfl, h0⟩ | ⟨g, cap, cur, rfl, _⟩
      · exact ⟨none, 0, by rw [h0]⟩
      · exact ⟨_, _, rfl⟩
    have f1 : W.cell? ⟨w.heap.size, 0, none⟩ = some (.slice A26 (pick key time xs).length c26) := (blk_cell hv 0).trans rfl
    have z1 := blk_frozen hv 0
    simp only [Exit.inBlock, Exit.then]
    refine hK0_ _ _ ?_
    go_wp2
    refine ⟨by simp, .inl ⟨_, _, rfl, run_takeDeferred hK, ?_⟩⟩
    have hXD : w.heap.size ≠ D := fun e => by rw [e, hK] at hv; cases hv
    have hBW2 : Below w.heap.size w (W.putObj D (.deferred none)) := hBW.trans (belowK_b (w := w) (Nat.le_refl _) W D _ _ (by omega) hK rfl rfl)
    refine ⟨.slice A26 (pick key time xs).length c26, results_t (fn := Try.f48) rfl _ _, _, rfl, ?_, hBW2⟩
    have hq := ownsRow_putObj hrow (.deferred none) hK rfl
    exact ⟨hq.1, hq.2.imp id (fun ⟨g, cap, cur, e, hg, h⟩ => ⟨g, cap, cur, e, by omega, h⟩)⟩
  case stop =>
    rintro D c pre W _ _ h _
    exact h.elim
end
end
section
open Go.Shelf Go.Sort
section
def sf_ren : Go.Shelf.Ren := ⟨fun | 6 => 45 | 15 => 50 | 14 => 49 | 28 => 60 | 29 => 61 | 20 => 52 | 21 => 53 | 22 => 54 | 23 => 55 | 24 => 56 | 25 => 57 | 26 => 58 | 27 => 59 | 46 => 62 | 47 => 63 | 48 => 64 | 49 => 65 | 50 => 66 | 57 => 67 | n => n, fun | 22 => 22 | 24 => 24 | 25 => 49 | 3 => 3 | 39 => 62 | 0 => 0 | 53 => 82 | 55 => 84 | 4 => 4 | 46 => 76 | 45 => 75 | 50 => 47 | 5 => 5 | 9 => 9 | 66 => 85 | 70 => 89 | 76 => 91 | 77 => 92 | n => n, fun | n => n⟩
theorem sf : Go.Proofs.SlLaysF0.n6 Try.prog sf_ren := {
  mixed := by kernel_rfl
  f6 := ⟨Try.f45.name, by decide, Try.func45.trans (congrArg some (by kernel_rfl))⟩
  f14 := ⟨Try.f49.name, by decide, Try.func49.trans (congrArg some (by kernel_rfl))⟩
  f15 := Try.func50.trans (congrArg some (by kernel_rfl))
  f20 := ⟨Try.f52.name, by decide, Try.func52.trans (congrArg some (by kernel_rfl))⟩
  f21 := ⟨Try.f53.name, by decide, Try.func53.trans (congrArg some (by kernel_rfl))⟩
  f22 := ⟨Try.f54.name, by decide, Try.func54.trans (congrArg some (by kernel_rfl))⟩
  f23 := ⟨Try.f55.name, by decide, Try.func55.trans (congrArg some (by kernel_rfl))⟩
  f24 := ⟨Try.f56.name, by decide, Try.func56.trans (congrArg some (by kernel_rfl))⟩
  f25 := ⟨Try.f57.name, by decide, Try.func57.trans (congrArg some (by kernel_rfl))⟩
  f26 := ⟨Try.f58.name, by decide, Try.func58.trans (congrArg some (by kernel_rfl))⟩
  f27 := ⟨Try.f59.name, by decide, Try.func59.trans (congrArg some (by kernel_rfl))⟩
  f28 := Try.func60.trans (congrArg some (by kernel_rfl))
  f29 := Try.func61.trans (congrArg some (by kernel_rfl))
  f46 := ⟨Try.f62.name, by decide, Try.func62.trans (congrArg some (by kernel_rfl))⟩
  f47 := Try.func63.trans (congrArg some (by kernel_rfl))
  f48 := Try.func64.trans (congrArg some (by kernel_rfl))
  f49 := ⟨Try.f65.name, by decide, Try.func65.trans (congrArg some (by kernel_rfl))⟩
  f50 := ⟨Try.f66.name, by decide, Try.func66.trans (congrArg some (by kernel_rfl))⟩
  f57 := ⟨Try.f67.name, by decide, Try.func67.trans (congrArg some (by kernel_rfl))⟩
  t0 := Try.underlying0
  a0 := Try.isAgg0
  z0 := Try.sizeOf0
  v0 := Try.zeroValue0
  t3 := Try.underlying3
  a3 := Try.isAgg3
  z3 := Try.sizeOf3
  v3 := Try.zeroValue3
  t4 := Try.underlying4
  a4 := Try.isAgg4
  z4 := Try.sizeOf4
  v4 := Try.zeroValue4
  t5 := Try.underlying5
  a5 := Try.isAgg5
  z5 := Try.sizeOf5
  v5 := Try.zeroValue5
  t9 := Try.underlying9
  a9 := Try.isAgg9
  z9 := Try.sizeOf9
  v9 := Try.zeroValue9
  t22 := Try.underlying22
  a22 := Try.isAgg22
  z22 := Try.sizeOf22
  v22 := Try.zeroValue22
  t25 := Try.underlying49
  a25 := Try.isAgg49
  z25 := Try.sizeOf49
  v25 := Try.zeroValue49
  t39 := Try.underlying62
  a39 := Try.isAgg62
  z39 := Try.sizeOf62
  v39 := Try.zeroValue62
  t45 := Try.underlying75
  a45 := Try.isAgg75
  z45 := Try.sizeOf75
  v45 := Try.zeroValue75
  t46 := Try.underlying76
  a46 := Try.isAgg76
  z46 := Try.sizeOf76
  v46 := Try.zeroValue76
  t50 := Try.underlying47
  a50 := Try.isAgg47
  z50 := Try.sizeOf47
  v50 := Try.zeroValue47
  t53 := Try.underlying82
  a53 := Try.isAgg82
  z53 := Try.sizeOf82
  v53 := Try.zeroValue82
  t55 := Try.underlying84
  a55 := Try.isAgg84
  z55 := Try.sizeOf84
  v55 := Try.zeroValue84
  t66 := Try.underlying85
  a66 := Try.isAgg85
  z66 := Try.sizeOf85
  v66 := Try.zeroValue85
  t70 := Try.underlying89
  a70 := Try.isAgg89
  z70 := Try.sizeOf89
  v70 := Try.zeroValue89
  t76 := Try.underlying91
  a76 := Try.isAgg91
  z76 := Try.sizeOf91
  v76 := Try.zeroValue91
  t77 := Try.underlying92
  a77 := Try.isAgg92
  z77 := Try.sizeOf92
  v77 := Try.zeroValue92 }
end
section
instance instInh24 : Inhabited S24 := ⟨z24⟩
theorem ltAt (x y : S24) : ltOf atCmp x y = atLt x y := atCmp_lt x y
theorem atLt_iff (x y : S24) : atLt x y = true ↔ (x.f1 < y.f1 ∨ (x.f1 = y.f1 ∧ x.f0 < y.f0)) := by
  unfold atLt
  simp
theorem atSWO : SWO (ltOf atCmp) := by
  have key : ∀ x y, ltOf atCmp x y = false ↔ ¬ (x.f1 < y.f1 ∨ (x.f1 = y.f1 ∧ x.f0 < y.f0)) := fun x y => by
    rw [ltAt, ← atLt_iff]; simp
  refine ⟨fun x => (key x x).2 (by omega), fun x y z h1 h2 => ?_, fun x y z h1 h2 => ?_⟩
  · rw [ltAt, atLt_iff] at h1 h2 ⊢
    omega
  · rw [key] at h1 h2 ⊢
    omega
/-- What the sort leaves of a row. -/
def sortP (l : List S24) : List S24 := (pdq (ltOf atCmp) l.toArray 0 l.toArray.size (Lib.bitLen l.toArray.size) true true).toList
theorem sortP_both (l : List S24) : PermIn 0 l.toArray.size l.toArray (pdq (ltOf atCmp) l.toArray 0 l.toArray.size (Lib.bitLen l.toArray.size) true true) ∧ SortedIn (ltOf atCmp) 0 l.toArray.size (pdq (ltOf atCmp) l.toArray 0 l.toArray.size (Lib.bitLen l.toArray.size) true true) :=
  pdq_sorts (ltOf atCmp) atSWO l.toArray 0 l.toArray.size (Lib.bitLen l.toArray.size) true true (Nat.zero_le _) (Nat.le_refl _) (Or.inl rfl)
theorem sortP_perm (l : List S24) : (sortP l).Perm l := by
  obtain ⟨hs, _, hp⟩ := (sortP_both l).1
  have h1 : ∀ a : Array S24, a.size = l.toArray.size → (a.extract 0 l.toArray.size).toList = a.toList := fun a ha => by rw [← ha, Array.extract_size]
  rw [h1 _ hs, h1 _ rfl] at hp
  exact hp
theorem sortP_len (l : List S24) : (sortP l).length = l.length := (sortP_perm l).length_eq
theorem sortP_le (l : List S24) (i j : Nat) (x y : S24) (hij : i < j) (hi : (sortP l)[i]? = some x) (hj : (sortP l)[j]? = some y) : atLt y x = false := by
  have hjl : j < (sortP l).length := (List.getElem?_eq_some_iff.1 hj).1
  have hlen := sortP_len l
  have hs := (sortP_both l).2 i j (Nat.zero_le _) hij (by simp; omega)
  have e : ∀ k z, (sortP l)[k]? = some z → (pdq (ltOf atCmp) l.toArray 0 l.toArray.size (Lib.bitLen l.toArray.size) true true)[k]! = z := fun k z h => by
    unfold sortP at h
    rw [Array.getElem!_eq_getD, Array.getD_eq_getD_getElem?, ← Array.getElem?_toList, h]
    rfl
  rw [e j y hj, e i x hi, ltAt] at hs
  exact hs
/-- The row's cells, each. -/
theorem cells24_at (xs : List S24) : ∀ (i j : Nat) (x : S24), xs[i]? = some x → j < 6 → (cells24 xs)[i * 6 + j]? = (cell6 x)[j]? := by
  induction xs with
  | nil => intro i j x h; simp at h
  | cons y t ih =>
    intro i j x h hj
    rw [cells24_cons]
    cases i with
    | zero =>
      simp at h
      subst h
      rw [List.getElem?_append_left (by rw [c6_len]; omega)]
      simp
    | succ i =>
      rw [List.getElem?_append_right (by rw [c6_len]; omega), c6_len, show (i + 1) * 6 + j - 6 = i * 6 + j by omega]
      exact ih i j x (by simpa using h) hj
theorem flat_get (d : Array S24) (t : Nat) (h : t < d.size * 6) : (cells24 d.toList)[t]? = some ((flatK cell6 6 d)[t]!) := by
  have h1 : t / 6 < d.size := by omega
  have h2 : t % 6 < 6 := Nat.mod_lt _ (by omega)
  rw [get_flatK cell6 6 d t h]
  have := cells24_at d.toList (t / 6) (t % 6) (d[t / 6]!) (by rw [Array.getElem?_toList, Array.getElem?_eq_getElem h1, getElem!_pos d _ h1]) h2
  rw [show t / 6 * 6 + t % 6 = t by omega] at this
  rw [this, getElem!_pos (cell6 d[t / 6]!) (t % 6) (by rw [c6_len]; exact h2)]
  exact List.getElem?_eq_getElem _
theorem holds_own {w : World} {g : Nat} {cur : Array Value} {xs : List S24} (h1 : w.heap[g]? = some (.cells cur 24 (0, 0))) (h2 : cur.toList.take (xs.length * 6) = cells24 xs) : HoldsK cell6 6 w g 0 xs.toArray := by
  intro j hj
  rw [size_flatK] at hj
  have hf := flat_get xs.toArray j hj
  have hj' : j < xs.length * 6 := by simpa using hj
  refine ⟨?_, ?_⟩
  · rw [Nat.zero_add, blk_cell h1 j]
    have : cur.toList[j]? = some ((flatK cell6 6 xs.toArray)[j]!) := by
      rw [← hf, show xs.toArray.toList = xs by simp, ← h2, List.getElem?_take_of_lt hj']
    rw [← Array.getElem?_toList]
    exact this
  · rw [Nat.zero_add]
    exact blk_frozen h1 j
/-- What the sort leaves: the row's cells. -/
theorem own_sorted {w : World} {base g cap m : Nat} {cur : Array Value} {xs : List S24} {d : Array S24} {os : Array Obj} (hb : base ≤ g) (h1 : w.heap[g]? = some (.cells cur 24 (0, 0))) (h2 : xs.length ≤ cap) (h3 : cap ≤ maxLen) (h4 : cur.size = cap * 6)
    (hd : d.size = xs.length) : (sortWorldK cell6 6 w g 0 m d os).ownsRow base 24 6 (.slice (some ⟨g, 0, none⟩) xs.length cap) d.toList.length (cells24 d.toList) ∧ Below base w (sortWorldK cell6 6 w g 0 m d os) := by
  have hg : g < w.heap.size := (Array.getElem?_eq_some_iff.1 h1).1
  have hsz : (putRowK cell6 6 (Sort.ahead w m) g 0 d).heap.size = w.heap.size := by rw [size_putRowK]; rfl
  have hheap : ∀ k, k < w.heap.size → (sortWorldK cell6 6 w g 0 m d os).heap[k]? = (w.heap.modify g (onCells (putCells id 0 (flatK cell6 6 d))))[k]? := fun k hk => by
    unfold sortWorldK grow
    show ((putRowK cell6 6 (Sort.ahead w m) g 0 d).heap ++ os)[k]? = _
    rw [Array.getElem?_append_left (by omega)]
    rfl
  refine ⟨⟨by rw [cells24_len], .inr ⟨g, cap, putCells id 0 (flatK cell6 6 d) cur, by simp [hd], hb, ?_, by simp [hd]; omega, h3, by simp [putCells, h4], ?_⟩⟩, ?_⟩
  · rw [hheap g hg, Array.getElem?_modify, if_pos rfl, h1]
    rfl
  · apply List.ext_getElem?
    intro t
    by_cases ht : t < d.size * 6
    · rw [flat_get d t ht, List.getElem?_take_of_lt (by simpa using ht)]
      have hc : t < cur.size := by rw [h4]; omega
      rw [Array.getElem?_toList]
      unfold putCells
      rw [Array.getElem?_mapIdx, Array.getElem?_eq_getElem hc, Option.map_some, if_pos ⟨Nat.zero_le _, by simpa using ht⟩]
      simp
    · rw [List.getElem?_eq_none (by simp; omega), List.getElem?_eq_none (by rw [cells24_len]; simpa using ht)]
  · refine ⟨rfl, rfl, rfl, ?_, fun k hk => ?_⟩
    · unfold sortWorldK grow
      show w.heap.size ≤ ((putRowK cell6 6 (Sort.ahead w m) g 0 d).heap ++ os).size
      rw [Array.size_append, hsz]
      omega
    · rw [hheap k (by omega), Array.getElem?_modify, if_neg (by omega)]
attribute [local go_sem] Oper.semAt_some
theorem pick_le (key time : Int) (xs : List S24) : (pick key time xs).length ≤ xs.length := by unfold pick; exact List.length_filter_le _ _
theorem collect_calls (B1 B2 B3 : Nat) (A : Option Addr) (c : Nat) (xs : List S24) (key time : Int) (w : World)
    (h1 : w.cell? ⟨B1, 0, none⟩ = some (.slice A xs.length c)) (h2 : w.cell? ⟨B2, 0, none⟩ = some (.int .i64 key)) (h3 : w.cell? ⟨B3, 0, none⟩ = some (.int .i64 time))
    (n1 : B1 < w.heap.size) (n2 : B2 < w.heap.size) (n3 : B3 < w.heap.size) (hC : ∀ W', Below w.heap.size w W' → Kd.C k24 W' A xs.length xs) (hl : xs.length ≤ 1000000) :
    Calls Try.prog 44 #[.func (.func 42) #[] #[.pointer (some ⟨B1, 0, none⟩), .pointer (some ⟨B2, 0, none⟩), .pointer (some ⟨B3, 0, none⟩)]] w fun e w' =>
      ∃ v, e = .returned v ∧ w'.ownsRow w.heap.size 24 6 v (pick key time xs).length (cells24 (pick key time xs)) ∧ Below w.heap.size w w' := by
  have e48 : ∀ args w, (callFunc 48 args).run Try.prog w = .ok (.enter 48 args) w := enters_of Try.func48 (by kernel_rfl) rfl
  go_enter Try.func44, Try.ntmps44
  go_wp2_with fail
  refine (appendSeq_calls B1 B2 B3 A c xs key time w h1 h2 h3 n1 n2 n3 hC hl).mono ?_
  rintro e w' ⟨v, rfl, ho, hb⟩
  go_wp2
  go_ret
  exact ⟨v, rfl, ho, hb⟩
theorem ins_none (p : Option Addr) (cap : Nat) (fv : Value) (w : World) :
    Calls Try.prog 52 #[.slice p 0 cap, .int .i64 0, .int .i64 0, fv] w fun e w' => e = .returned (.tuple #[]) ∧ w' = w := by
  go_enter Try.func52, Try.ntmps52
  go_wp2
  refine wp_loop_rounds 1 ?_
  rw [rounds_succ]
  go_wp2
  go_end0
  exact ⟨rfl, rfl⟩
theorem pdq_none (p : Option Addr) (cap : Nat) (lim : Int) (fv : Value) (w : World) :
    Calls Try.prog 49 #[.slice p 0 cap, .int .i64 0, .int .i64 0, .int .i64 lim, fv] w fun e w' => e = .returned (.tuple #[]) ∧ w' = w := by
  have e52 : ∀ args w, (callFunc 52 args).run Try.prog w = .ok (.enter 52 args) w := enters_of Try.func52 (by kernel_rfl) rfl
  go_enter Try.func49, Try.ntmps49
  go_wp2
  refine wp_loop_rounds 1 ?_
  rw [rounds_succ]
  go_wp2_with fail
  refine (ins_none p cap fv _).mono ?_
  rintro e w' ⟨rfl, rfl⟩
  go_wp2
  (try simp only [Exit.inBlock, Exit.then]); refine bodyPost_ret (results_none rfl _ _ _) rfl ?_
  exact ⟨rfl, rfl⟩
theorem sort_none (p : Option Addr) (cap : Nat) (fv : Value) (w : World) :
    Calls Try.prog 45 #[.slice p 0 cap, fv] w fun e w' => e = .returned (.tuple #[]) ∧ w' = w := by
  have e49 : ∀ args w, (callFunc 49 args).run Try.prog w = .ok (.enter 49 args) w := enters_of Try.func49 (by kernel_rfl) rfl
  have e50 : ∀ args w, (callFunc 50 args).run Try.prog w = .ok (.enter 50 args) w := enters_of Try.func50 (by kernel_rfl) rfl
  have hl : ∀ W, Calls Try.prog 50 #[.int .u64 0] W fun e w' => e = .returned (.int .i64 (Lib.bitLen 0 : Nat)) ∧ w' = W := fun W =>
    Any.bits_Len (SlLaysF0.n15.bits (P := Try.prog) (ρ := sf_ren) { sf with }) 0 W (by omega) (by omega)
  go_enter Try.func45, Try.ntmps45
  go_wp2_with fail
  refine (hl _).mono ?_
  rintro e w' ⟨rfl, rfl⟩
  go_wp2_with fail
  refine (pdq_none p cap _ fv _).mono ?_
  rintro e w' ⟨rfl, rfl⟩
  go_wp2
  go_end0
  exact ⟨rfl, rfl⟩
theorem byAt_lays (g n : Nat) (w : World) : CmpLays Try.prog 34 #[] cell6 6 atCmp g 0 n w := fun m os dk hd x y =>
  (byAt_grows x y _).mono fun e w' ⟨he, q, os', hw⟩ => ⟨he, q, os', hw⟩
theorem sort_calls (base : Nat) (v : Value) (xs : List S24) (w : World) (h : w.ownsRow base 24 6 v xs.length (cells24 xs)) (hl : xs.length ≤ 1000000) :
    Calls Try.prog 45 #[v, .func (.func 34) #[] #[]] w fun e w' => e = .returned (.tuple #[]) ∧ w'.ownsRow base 24 6 v (sortP xs).length (cells24 (sortP xs)) ∧ Below base w w' := by
  obtain ⟨hlen, ⟨rfl, h0⟩ | ⟨g, cap, cur, rfl, hb, hh, hc, hm, hs, ht⟩⟩ := h
  · obtain rfl : xs = [] := List.length_eq_zero_iff.1 h0
    have e0 : sortP [] = [] := List.length_eq_zero_iff.1 (sortP_len [])
    refine (sort_none none 0 _ w).mono ?_
    rintro e w' ⟨rfl, rfl⟩
    rw [e0]
    exact ⟨rfl, World.ownsRow_nil _ _ _ _, Below.refl _ _⟩
  · have hx : xs.length = xs.toArray.size := by simp
    have hS := AnyQ.slices_SortFunc_eq (P := Try.prog) (ρ := sf_ren) sf 6 (fun w => Try.isAgg24 w) (fun w => Try.sizeOf24 w) cell6 c6_len c6_one atCmp atSWO 34 #[] g 0 cap xs.toArray w
      (enters_of Try.func34 (by kernel_rfl) rfl) (byAt_lays g _ w) (holds_own hh ht) (Array.getElem?_eq_some_iff.1 hh).1 (by simp; omega)
    rw [← hx] at hS
    refine hS.mono ?_
    rintro e w' ⟨rfl, n, os, rfl⟩
    obtain ⟨k1, k2⟩ := own_sorted (m := n) (os := os) (d := pdq (ltOf atCmp) xs.toArray 0 xs.length (Lib.bitLen xs.length) true true) hb hh hc hm hs (by have := (sortP_both xs).1.1; rw [← hx] at this; exact this)
    have e1 : (pdq (ltOf atCmp) xs.toArray 0 xs.length (Lib.bitLen xs.length) true true).toList = sortP xs := by unfold sortP; rw [← hx]
    rw [e1] at k1
    exact ⟨rfl, k1, k2⟩
theorem sortedFunc_calls (B1 B2 B3 : Nat) (A : Option Addr) (c : Nat) (xs : List S24) (key time : Int) (w : World)
    (h1 : w.cell? ⟨B1, 0, none⟩ = some (.slice A xs.length c)) (h2 : w.cell? ⟨B2, 0, none⟩ = some (.int .i64 key)) (h3 : w.cell? ⟨B3, 0, none⟩ = some (.int .i64 time))
    (n1 : B1 < w.heap.size) (n2 : B2 < w.heap.size) (n3 : B3 < w.heap.size) (hC : ∀ W', Below w.heap.size w W' → Kd.C k24 W' A xs.length xs) (hl : xs.length ≤ 1000000) :
    Calls Try.prog 37 #[.func (.func 42) #[] #[.pointer (some ⟨B1, 0, none⟩), .pointer (some ⟨B2, 0, none⟩), .pointer (some ⟨B3, 0, none⟩)], .func (.func 34) #[] #[]] w fun e w' =>
      ∃ v, e = .returned v ∧ w'.ownsRow w.heap.size 24 6 v (sortP (pick key time xs)).length (cells24 (sortP (pick key time xs))) ∧ Below w.heap.size w w' := by
  have e44 : ∀ args w, (callFunc 44 args).run Try.prog w = .ok (.enter 44 args) w := enters_of Try.func44 (by kernel_rfl) rfl
  have e45 : ∀ args w, (callFunc 45 args).run Try.prog w = .ok (.enter 45 args) w := enters_of Try.func45 (by kernel_rfl) rfl
  go_enter Try.func37, Try.ntmps37
  go_wp2_with fail
  refine (collect_calls B1 B2 B3 A c xs key time w h1 h2 h3 n1 n2 n3 hC hl).mono ?_
  rintro e w1 ⟨v, rfl, ho, hb⟩
  go_wp2_with fail
  refine (sort_calls w.heap.size v (pick key time xs) w1 ho (Nat.le_trans (pick_le key time xs) hl)).mono ?_
  rintro e w2 ⟨rfl, ho2, hb2⟩
  go_wp2
  go_ret
  exact ⟨v, rfl, ho2, hb.trans hb2⟩
end
end

end Go.Proofs.Ytnahfhbnfidanaa.Q
