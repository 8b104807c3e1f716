-- Written by wip/tools/extprint.py of this repo (a program of this claim's own, over the kit's printer) out of the translation; Lean checks it.
import Derived.Test.YthlehlbokaeigaaQ0
import Derived.Test.YthlehlbokaeigaaQ1
import Derived.Test.YthlehlbokaeigaaQ2
import Derived.Test.YthlehlbokaeigaaQ3
import Derived.Test.YthlehlbokaeigaaQ4
import Derived.Test.YthlehlbokaeigaaQ6
namespace Go.Proofs.Ythlehlbokaeigaa.Q
open Go.RowKit Go.Proofs.YthlehlbokaeigaaW.PrintWords Go.Proofs.YthlehlbokaeigaaW.PrintLast Go.Proofs.YthlehlbokaeigaaW.PrintMore
attribute [local go_sem] max2_int min2_int max_two min_two max_three min_three max_four min_four   -- for this text's walks alone
set_option linter.unusedVariables false
set_option linter.unusedSimpArgs false

section
attribute [local go_sem] Oper.semAt_some
theorem eqA58 (d : Nat) (w : World) (x0 y0 : Int) (x1 y1 : Int) :
  (Op.equalIn (d + 2) 58 (.agg #[.int .i64 x0, .int .i64 x1]) (.agg #[.int .i64 y0, .int .i64 y1])).run Try.prog w = .ok (x0 == y0 && (x1 == y1)) w :=
 eqArr2 w Try.underlying58 (by go_simp) (by go_simp) (by go_simp) (by go_simp) (by go_simp) (by go_simp) (by go_simp)
attribute [local go_sem high] eqA58
/-- Is the pair among these. -/
def has55 (l : List S55) (a b : Int) : Bool := l.any fun p => a == p.f0 && b == p.f1
theorem index2 (l : List S55) (hl : l.length ≤ 9223372036854775807) (a b : Int) : ∀ (d k : Nat) (i : Nat), d + i = l.length → d < k → ∃ r : Int, slices_Index_2_int_2_int.l0 k l (l.length : Int) (i : Int) a b = some r ∧ (r ≥ 0 ↔ has55 (l.drop i) a b = true) := by
 intro d
 induction d with
 | zero =>
  intro k i h hk
  obtain ⟨k, rfl⟩ : ∃ m, k = m + 1 := ⟨k - 1, by omega⟩
  refine ⟨-1, ?_, ?_⟩
  ·simp only [slices_Index_2_int_2_int.l0]
   rw [if_neg (by omega)]
  ·rw [List.drop_eq_nil_of_le (by omega)]
   simp [has55]
 | succ d ih =>
  intro k i h hk
  obtain ⟨k, rfl⟩ : ∃ m, k = m + 1 := ⟨k - 1, by omega⟩
  have hi : i < l.length := by omega
  have hr : rd_T55 l (i : Int) = l[i] := by unfold rd_T55; simp [List.getD_eq_getElem?_getD, hi]
  rw [List.drop_eq_getElem_cons hi]
  obtain ⟨r, h1, h2⟩ := ih k (i + 1) (by omega) (by omega)
  simp only [slices_Index_2_int_2_int.l0]
  rw [if_pos (by omega), if_pos (by omega), if_pos (by omega), hr]
  unfold has55 at h2 ⊢
  simp only [List.any_cons]
  cases hp : (a == l[i].f0 && b == l[i].f1) with
  | true => exact ⟨(i : Int), by simp, by simp⟩
  | false =>
   refine ⟨r, ?_, by simpa using h2⟩
   rw [if_neg (by simp), show wrap64 ((i : Int) + 1) = ((i + 1 : Nat) : Int) from by unfold wrap64; omega]
   exact h1
theorem contains2 (l : List S55) (hl : l.length ≤ 9223372036854775807) (a b : Int) : slices_Contains_2_int_2_int.f (l.length + 1) l a b = some (has55 l a b) := by
 obtain ⟨r, h1, h2⟩ := index2 l hl a b l.length (l.length + 1) 0 (by omega) (by omega)
 unfold slices_Contains_2_int_2_int.f slices_Index_2_int_2_int.f
 rw [show ((0 : Nat) : Int) = 0 from rfl] at h1
 rw [h1]
 simp only [Option.bind_some, List.drop_zero] at h2 ⊢
 congr 1
 cases h : has55 l a b with
 | true => exact decide_eq_true (h2.2 h)
 | false => exact decide_eq_false (fun hr => by have := h2.1 hr; rw [h] at this; cases this)
/-- Is the link still cut, after (c0, c1) was cut or mended. -/
def keepB (ap : List S55) (c0 c1 : Int) (on : Bool) (a b : Int) : Bool := if (a == c0 && b == c1) = true then on else has55 ap a b
/-- The links (i, b), b < j, that are cut. -/
def cutRow (kp : Int → Int → Bool) (i : Nat) : Nat → List S55
 | 0 => []
 | j + 1 => cutRow kp i j ++ (if i < j ∧ kp i j = true then [⟨i, j⟩] else [])
/-- The links (a, b), a < i, that are cut. -/
def cutUp (kp : Int → Int → Bool) : Nat → List S55
 | 0 => []
 | i + 1 => cutUp kp i ++ cutRow kp i 24
theorem cutRow_low (kp : Int → Int → Bool) (i : Nat) : ∀ j, j ≤ i + 1 → cutRow kp i j = []
 | 0, _ => rfl
 | j + 1, h => by rw [cutRow, cutRow_low kp i j (by omega), if_neg (by omega)]; rfl
theorem cutRow_len (kp : Int → Int → Bool) (i : Nat) : ∀ j, (cutRow kp i j).length ≤ j
 | 0 => Nat.le_refl _
 | j + 1 => by
  have := cutRow_len kp i j
  rw [cutRow, List.length_append]
  split <;> simp <;> omega
theorem cutUp_len (kp : Int → Int → Bool) : ∀ i, (cutUp kp i).length ≤ 24 * i
 | 0 => Nat.le_refl _
 | i + 1 => by
  have h1 := cutUp_len kp i
  have h2 := cutRow_len kp i 24
  rw [cutUp, List.length_append]
  omega
def cutRows.f (ap : List S55) (c0 c1 : Int) (on : Bool) : Option (List S55) := some (cutUp (keepB ap c0 c1 on) 24)
/-- What lies below n₁ lies as it lay, but for one block. -/
def KB (X n₁ : Nat) (W W' : World) : Prop := W.heap.size ≤ W'.heap.size ∧ ∀ k, k < n₁ → k ≠ X → W'.heap[k]? = W.heap[k]?
theorem KB.refl (X n₁ : Nat) (A : World) : KB X n₁ A A := ⟨Nat.le_refl _, fun _ _ _ => rfl⟩
theorem KB.trans {X n₁ : Nat} {A B C : World} (h : KB X n₁ A B) (k : KB X n₁ B C) : KB X n₁ A C := ⟨Nat.le_trans h.1 k.1, fun i h1 h2 => (k.2 i h1 h2).trans (h.2 i h1 h2)⟩
theorem KB.of_below {X n₁ : Nat} {A B : World} (hn : n₁ ≤ A.heap.size) (h : Below A.heap.size A B) : KB X n₁ A B := ⟨h.size, fun i h1 _ => h.block i (by omega)⟩
theorem KB.cell {X n₁ : Nat} {A B : World} (h : KB X n₁ A B) {p : Addr} (h1 : p.block < n₁) (h2 : p.block ≠ X) : B.cell? p = A.cell? p := World.cell?_of_block (h.2 p.block h1 h2)
theorem i64_nat (n : Nat) (h : n < 1000) : IntKind.i64.wrap ((n : Int) + 1) = ((n + 1 : Nat) : Int) := by rw [i64_w]; unfold wrap64; omega
set_option maxRecDepth 100000 in
set_option maxHeartbeats 2000000 in
theorem cuts1_in (n : Nat) (hn : 3 ≤ n) (l X n₁ B3 B4 B5 : Nat) (A : Option Addr) (c : Nat) (ap : List S55) (c0 c1 : Int) (on : Bool) (J Jx : List S55 → World → Prop) (w : World)
  (h3 : w.cell? ⟨B3, 0, none⟩ = some (.slice A ap.length c)) (h40 : w.cell? ⟨B4, 0, none⟩ = some (.int .i64 c0)) (h41 : w.cell? ⟨B4, 1, none⟩ = some (.int .i64 c1)) (h5 : w.cell? ⟨B5, 0, none⟩ = some (.bool on))
  (n3 : B3 < n₁) (n4 : B4 < n₁) (n5 : B5 < n₁) (x3 : B3 ≠ X) (x4 : B4 ≠ X) (x5 : B5 ≠ X) (hC : ∀ W', KB X n₁ w W' → Kd.C k55 W' A ap.length ap) (hc : ap.length ≤ c) (hl : ap.length ≤ 9223372036854775807)
  (W : World) (hJ : AbidesFrom W.heap.size J)
  (hY : ∀ pre x W1, J pre W1 → pre.length < 601 → YieldAt Fence.wide (n - 1) Try.prog l #[.agg #[.int .i64 x.f0, .int .i64 x.f1]] W1 fun e W' =>
   (e = .returned (.bool true) ∧ J (pre ++ [x]) W' ∧ KB X n₁ W1 W') ∨ (e = .returned (.bool false) ∧ Jx (pre ++ [x]) W'))
  (hW : KB X n₁ w W) (hn1 : n₁ ≤ W.heap.size) (h0 : J [] W) :
  CallsIn Fence.wide n Try.prog 46 #[.func (.yield l) #[] #[], .pointer (some ⟨B4, 0, none⟩), .pointer (some ⟨B5, 0, none⟩), .pointer (some ⟨B3, 0, none⟩)] W fun e W' => (∃ v, e = .returned v) ∧
   ((∃ ys, ys = cutUp (keepB ap c0 c1 on) 24 ∧ J ys W') ∨ (∃ pre, True ∧ Jx pre W')) := by
 have h1n : 1 ≤ n := by omega
 generalize hkp : keepB ap c0 c1 on = kp
 refine callsIn_of_wp Try.func46 rfl trivial ?_ rfl
 simp only [Try.ntmps46, List.size_toArray, List.length_cons, List.length_nil, Nat.reduceAdd, Nat.reduceSub, Array.replicate_succ, Array.replicate_zero, List.push_toArray, List.append_toArray, List.nil_append, List.cons_append]
 gi_wp2
 gi_loopw [8] (fun v wr => ∃ i : Nat, i ≤ 24 ∧ v = .int .i64 i ∧ J (cutUp kp i) wr ∧ KB X n₁ w wr ∧ W.heap.size ≤ wr.heap.size) (fun v _ => 24 - (intOf v).toNat)
 case atStart =>
  exact ⟨0, by omega, rfl, h0, hW, Nat.le_refl _⟩
 case round =>
  obtain ⟨i, hi, rfl, hJi, hKi, hsi⟩ := hrel
  by_cases h24 : i = 24
  ·subst h24
   gi_wp2
   go_end0
   exact ⟨⟨_, rfl⟩, .inl ⟨_, rfl, hJi⟩⟩
  ·have hi24 : ((i : Int) < 24) := by omega
   gi_wp2
   obtain ⟨wo, hwo⟩ : ∃ wo : World, wo = wr := ⟨_, rfl⟩
   gi_loopw [6] (fun v wr => ∃ j : Nat, i + 1 ≤ j ∧ j ≤ 24 ∧ v = .int .i64 j ∧ J (cutUp kp i ++ cutRow kp i j) wr ∧ KB X n₁ w wr ∧ W.heap.size ≤ wr.heap.size) (fun v _ => 24 - (intOf v).toNat)
   case atStart =>
    exact ⟨i + 1, by omega, by omega, by simp, by rw [cutRow_low kp i (i + 1) (Nat.le_refl _), List.append_nil]; exact hJi, hKi, hsi⟩
   case round =>
    clear hwo hJi hKi hsi wo
    obtain ⟨j, hij, hj, rfl, hJj, hKj, hsj⟩ := hrel
    by_cases hj24 : j = 24
    ·subst hj24
     gi_wp2
     go_roundw
     case rel => exact ⟨i + 1, by omega, by simp, hJj, hKj, hsj⟩
     case measure => dsimp only [intOf]; omega
    ·have hj24' : ((j : Int) < 24) := by omega
     have b3 := (hKj.cell (p := ⟨B3, 0, none⟩) n3 x3).trans h3
     have b40 := (hKj.cell (p := ⟨B4, 0, none⟩) n4 x4).trans h40
     have b41 := (hKj.cell (p := ⟨B4, 1, none⟩) n4 x4).trans h41
     have b5 := (hKj.cell (p := ⟨B5, 0, none⟩) n5 x5).trans h5
     have hbA : Below wr.heap.size wr (wr.alloc (.cells #[.int .i64 (i : Int), .int .i64 (j : Int)] 58)) := (Below.refl _ wr).alloc (Nat.le_refl _) _
     have hnr : n₁ ≤ wr.heap.size := Nat.le_trans hn1 hsj
     have a3 := (hbA.cell (p := ⟨B3, 0, none⟩) (show B3 < wr.heap.size by omega)).trans b3
     have a40 := (hbA.cell (p := ⟨B4, 0, none⟩) (show B4 < wr.heap.size by omega)).trans b40
     have a41 := (hbA.cell (p := ⟨B4, 1, none⟩) (show B4 < wr.heap.size by omega)).trans b41
     have a5 := (hbA.cell (p := ⟨B5, 0, none⟩) (show B5 < wr.heap.size by omega)).trans b5
     clear b3 b40 b41 b5
     have hJA := hJ _ wr _ none hJj (grown_of_below hbA none) (fun _ e => by cases e)
     have hKA := hKj.trans (KB.of_below hnr hbA)
     have hsA : W.heap.size ≤ (wr.alloc (.cells #[.int .i64 (i : Int), .int .i64 (j : Int)] 58)).heap.size := Nat.le_trans hsj hbA.size
     have hlen : (cutUp kp i ++ cutRow kp i j).length < 601 := by
      have h1 := cutUp_len kp i
      have h2 := cutRow_len kp i j
      rw [List.length_append]; omega
     by_cases hE : (i : Int) = c0 ∧ (j : Int) = c1
     ·obtain ⟨rfl, rfl⟩ := hE
      cases on with
      | true =>
       have hk : kp i j = true := by rw [← hkp]; unfold keepB; simp
       have hrow : cutUp kp i ++ cutRow kp i (j + 1) = (cutUp kp i ++ cutRow kp i j) ++ [⟨i, j⟩] := by rw [cutRow, if_pos ⟨by omega, hk⟩, List.append_assoc]
       obtain ⟨fn, tmps, assign, body, hy, hR⟩ := hY _ ⟨i, j⟩ _ hJA hlen
       dsimp only at hy
       gi_wp2
       refine ⟨trivial, ?_⟩
       gi_wp2
       refine hR.mono ?_
       rintro e W3 (⟨rfl, hJ3, hk3⟩ | ⟨rfl, hJx3⟩)
       ·gi_wp2
        go_roundw
        case rel => exact ⟨j + 1, by omega, by omega, by simp, by rw [hrow]; exact hJ3, hKA.trans hk3, Nat.le_trans hsA hk3.1⟩
        case measure => dsimp only [intOf]; omega
       ·gi_wp2
        refine bodyPost_ret (results_none rfl _ _ _) rfl ?_
        exact ⟨⟨_, rfl⟩, .inr ⟨_, trivial, hJx3⟩⟩
      | false =>
       have hk : kp i j = false := by rw [← hkp]; unfold keepB; simp
       have hrow : cutUp kp i ++ cutRow kp i (j + 1) = (cutUp kp i ++ cutRow kp i j) := by rw [cutRow, if_neg (by simp [hk]), List.append_nil]
       gi_wp2
       all_goals try (rename_i h1_ _; exact absurd h1_ (by simp [undef]))
       skip
       refine ⟨trivial, ?_⟩
       gi_wp2
       go_roundw
       case rel => exact ⟨j + 1, by omega, by omega, by simp, by rw [hrow]; exact hJA, hKA, hsA⟩
       case measure => dsimp only [intOf]; omega
     ·have hEb : ((i : Int) == c0 && ((j : Int) == c1)) = false := by simpa using hE
      have hCA := hC _ hKA
      cases hh : has55 ap i j with
      | true =>
       have hk : kp i j = true := by rw [← hkp]; unfold keepB; rw [hEb]; simp [hh]
       have hrow : cutUp kp i ++ cutRow kp i (j + 1) = (cutUp kp i ++ cutRow kp i j) ++ [⟨i, j⟩] := by rw [cutRow, if_pos ⟨by omega, hk⟩, List.append_assoc]
       gi_wp2
       refine ⟨trivial, ?_⟩
       refine ((callsIn_wide).2 (slices_Contains_2_int_2_int.calls (ap.length + 1) A c ap i j true _ hCA hc ((contains2 ap hl i j).trans (by rw [hh])))).mono ?_
       rintro e W2 ⟨rfl, hb⟩
       have d0 := (hb.cell (p := ⟨wr.heap.size, 0, none⟩) (by simp)).trans ((show (wr.alloc (.cells #[.int .i64 (i : Int), .int .i64 (j : Int)] 58)).cell? ⟨wr.heap.size, 0, none⟩ = some (.int .i64 (i : Int)) from (blk_cell (World.alloc_heap_new wr _) 0).trans rfl))
       have d1 := (hb.cell (p := ⟨wr.heap.size, 1, none⟩) (by simp)).trans (show (wr.alloc (.cells #[.int .i64 (i : Int), .int .i64 (j : Int)] 58)).cell? ⟨wr.heap.size, 1, none⟩ = some (.int .i64 (j : Int)) from (blk_cell (World.alloc_heap_new wr _) 1).trans rfl)
       have hJ2 := hJ _ _ _ none hJA (grown_of_below hb none) (fun _ e => by cases e)
       have hK2 := hKA.trans (KB.of_below (Nat.le_trans hn1 hsA) hb)
       have hs2 := Nat.le_trans hsA hb.size
       obtain ⟨fn, tmps, assign, body, hy, hR⟩ := hY _ ⟨i, j⟩ _ hJ2 hlen
       dsimp only at hy
       gi_wp2
       refine hR.mono ?_
       rintro e W3 (⟨rfl, hJ3, hk3⟩ | ⟨rfl, hJx3⟩)
       ·gi_wp2
        go_roundw
        case rel => exact ⟨j + 1, by omega, by omega, by simp, by rw [hrow]; exact hJ3, hK2.trans hk3, Nat.le_trans hs2 hk3.1⟩
        case measure => dsimp only [intOf]; omega
       ·gi_wp2
        refine bodyPost_ret (results_none rfl _ _ _) rfl ?_
        exact ⟨⟨_, rfl⟩, .inr ⟨_, trivial, hJx3⟩⟩
      | false =>
       have hk : kp i j = false := by rw [← hkp]; unfold keepB; rw [hEb]; simp [hh]
       have hrow : cutUp kp i ++ cutRow kp i (j + 1) = (cutUp kp i ++ cutRow kp i j) := by rw [cutRow, if_neg (by simp [hk]), List.append_nil]
       gi_wp2
       refine ⟨trivial, ?_⟩
       refine ((callsIn_wide).2 (slices_Contains_2_int_2_int.calls (ap.length + 1) A c ap i j false _ hCA hc ((contains2 ap hl i j).trans (by rw [hh])))).mono ?_
       rintro e W2 ⟨rfl, hb⟩
       have d0 := (hb.cell (p := ⟨wr.heap.size, 0, none⟩) (by simp)).trans ((show (wr.alloc (.cells #[.int .i64 (i : Int), .int .i64 (j : Int)] 58)).cell? ⟨wr.heap.size, 0, none⟩ = some (.int .i64 (i : Int)) from (blk_cell (World.alloc_heap_new wr _) 0).trans rfl))
       have d1 := (hb.cell (p := ⟨wr.heap.size, 1, none⟩) (by simp)).trans (show (wr.alloc (.cells #[.int .i64 (i : Int), .int .i64 (j : Int)] 58)).cell? ⟨wr.heap.size, 1, none⟩ = some (.int .i64 (j : Int)) from (blk_cell (World.alloc_heap_new wr _) 1).trans rfl)
       have hJ2 := hJ _ _ _ none hJA (grown_of_below hb none) (fun _ e => by cases e)
       have hK2 := hKA.trans (KB.of_below (Nat.le_trans hn1 hsA) hb)
       have hs2 := Nat.le_trans hsA hb.size
       gi_wp2
       go_roundw
       case rel => exact ⟨j + 1, by omega, by omega, by simp, by rw [hrow]; exact hJ2, hK2, hs2⟩
       case measure => dsimp only [intOf]; omega
theorem cuts_calls (A : Option Addr) (m c : Nat) (c0 c1 : Int) (on : Bool) (w : World) :
  Calls Try.prog 39 #[.slice A m c, .agg #[.int .i64 c0, .int .i64 c1], .bool on] w fun e w' => ∃ b3 b4 b5 : Nat, e = .returned (.func (.func 46) #[] #[.pointer (some ⟨b4, 0, none⟩), .pointer (some ⟨b5, 0, none⟩), .pointer (some ⟨b3, 0, none⟩)]) ∧
   (w.heap.size ≤ b3 ∧ b3 < w'.heap.size ∧ w'.cell? ⟨b3, 0, none⟩ = some (.slice A m c)) ∧ (w.heap.size ≤ b4 ∧ b4 < w'.heap.size ∧ w'.cell? ⟨b4, 0, none⟩ = some (.int .i64 c0) ∧ w'.cell? ⟨b4, 1, none⟩ = some (.int .i64 c1)) ∧
   (w.heap.size ≤ b5 ∧ b5 < w'.heap.size ∧ w'.cell? ⟨b5, 0, none⟩ = some (.bool on)) ∧ Below w.heap.size w w' := by
 go_enter Try.func39, Try.ntmps39
 go_wp2
 go_ret
 have hb1 : Below w.heap.size w (w.alloc (.cells #[.slice A m c] 23)) := (Below.refl _ w).alloc (Nat.le_refl _) _
 have q3 := World.alloc_heap_new w (.cells #[.slice A m c] 23)
 generalize hw1 : w.alloc (.cells #[.slice A m c] 23) = w1 at *
 have hs1 : w1.heap.size = w.heap.size + 1 := by rw [← hw1]; simp
 have hb2 : Below w1.heap.size w1 (w1.alloc (.cells #[.int .i64 c0, .int .i64 c1] 58)) := (Below.refl _ w1).alloc (Nat.le_refl _) _
 have q4 := World.alloc_heap_new w1 (.cells #[.int .i64 c0, .int .i64 c1] 58)
 generalize hw2 : w1.alloc (.cells #[.int .i64 c0, .int .i64 c1] 58) = w2 at *
 have hs2 : w2.heap.size = w1.heap.size + 1 := by rw [← hw2]; simp
 have hb3 : Below w2.heap.size w2 (w2.alloc (.cells #[.bool on] 4)) := (Below.refl _ w2).alloc (Nat.le_refl _) _
 have q5 := World.alloc_heap_new w2 (.cells #[.bool on] 4)
 generalize hw3 : w2.alloc (.cells #[.bool on] 4) = w3 at *
 have hs3 : w3.heap.size = w2.heap.size + 1 := by rw [← hw3]; simp
 replace q4 := (hb3.block _ (by omega)).trans q4
 replace q3 := (hb3.block _ (by omega)).trans ((hb2.block _ (by omega)).trans q3)
 exact ⟨w.heap.size, w1.heap.size, w2.heap.size, by rw [hs2, hs1]; rfl, ⟨by omega, by omega, (blk_cell q3 0).trans rfl⟩, ⟨by omega, by omega, (blk_cell q4 0).trans rfl, (blk_cell q4 1).trans rfl⟩, ⟨by omega, by omega, (blk_cell q5 0).trans rfl⟩,
  (hb1.trans (hb2.mono (by omega))).trans (hb3.mono (by omega))⟩
/-- The cells of a row of links. -/
def cells55 (xs : List S55) : List Value := xs.flatMap fun x => [.int .i64 x.f0, .int .i64 x.f1]
theorem cells55_len (xs : List S55) : (cells55 xs).length = xs.length * 2 := by
 induction xs with
 | nil => rfl
 | cons x t ih => unfold cells55 at *; rw [List.flatMap_cons, List.length_append, ih]; simp; omega
theorem cells55_snoc (xs : List S55) (x : S55) : cells55 (xs ++ [x]) = cells55 xs ++ [.int .i64 x.f0, .int .i64 x.f1] := by unfold cells55; simp
theorem reps55 {R : S55 → List Value → Prop} (hR : ∀ x : S55, R x [.int .i64 x.f0, .int .i64 x.f1]) : ∀ xs : List S55, Reps R 2 xs (cells55 xs)
 | [] => Reps.none _ _
 | x :: t => Reps.c2 (hR x) (reps55 hR t)
theorem R_of_own {W : World} {base base' : Nat} {v : Value} {xs : List S55} (h : W.ownsRow base 55 2 v xs.length (cells55 xs)) (hb : base' ≤ base) : Kd.R k55 55 W base' (fun k => base' ≤ k) v xs := by
 refine ⟨fun k hk => Nat.le_trans hb (h.lt k hk).1, cells55 xs, ⟨h.1, ?_⟩, reps55 (fun x => ⟨[_], [_], rfl, rfl, rfl⟩) xs⟩
 rcases h.2 with h0 | ⟨g, cap, cur, h1, h2, h3⟩
 ·exact .inl h0
 ·exact .inr ⟨g, cap, cur, h1, Nat.le_trans hb h2, h3⟩
/-- The caller's word between two rounds: the box X holds the net so far. -/
def CutI (w : World) (X n₁ : Nat) (q : Value) (pre : List S55) (W : World) : Prop := (∃ v, W.heap[X]? = some (.cells #[q, v] 25 (0, 0)) ∧ W.ownsRow n₁ 55 2 v pre.length (cells55 pre)) ∧ n₁ ≤ W.heap.size ∧ Below w.heap.size w W
theorem CutI.own {w : World} {X n₁ : Nat} {q : Value} (hX : w.heap.size ≤ X) (hn : w.heap.size ≤ n₁) : OwnFrom n₁ (CutI w X n₁ q) := by
 rintro pre A B row ⟨⟨v, h1, h2⟩, h3, h4⟩ hg hr
 have hlt : X < A.heap.size := (Array.getElem?_eq_some_iff.1 h1).1
 refine ⟨⟨v, (hg.block X hlt (fun e => ?_)).trans h1, h2.kept hg ?_⟩, Nat.le_trans h3 hg.size, h4.grown hg (Nat.le_trans hn h3) (fun k e => Nat.le_trans hn (hr k e).1)⟩
 ·obtain ⟨_, o, ho, hc⟩ := hr X e.symm
  rw [h1] at ho
  cases ho
  cases hc
 ·cases hv : v.ownBlock with
  | none => exact .inl rfl
  | some g =>
   refine .inr (fun e => ?_)
   obtain ⟨_, o, ho, hc⟩ := hr g e.symm
   rcases h2.2 with ⟨rfl, _⟩ | ⟨g', cap, cur, rfl, hb, hh, _⟩
   ·simp [Value.ownBlock] at hv
   ·simp [Value.ownBlock] at hv
    subst hv
    rw [hh] at ho
    cases ho
    cases hc
theorem cuts_stops (X B3 B4 B5 : Nat) (A : Option Addr) (c : Nat) (ap : List S55) (c0 c1 : Int) (on : Bool) (w : World)
  (h3 : w.cell? ⟨B3, 0, none⟩ = some (.slice A ap.length c)) (h40 : w.cell? ⟨B4, 0, none⟩ = some (.int .i64 c0)) (h41 : w.cell? ⟨B4, 1, none⟩ = some (.int .i64 c1)) (h5 : w.cell? ⟨B5, 0, none⟩ = some (.bool on))
  (n3 : B3 < w.heap.size) (n4 : B4 < w.heap.size) (n5 : B5 < w.heap.size) (x3 : B3 ≠ X) (x4 : B4 ≠ X) (x5 : B5 ≠ X) (hC : ∀ W', KB X w.heap.size w W' → Kd.C k55 W' A ap.length ap) (hc : ap.length ≤ c) (hl : ap.length ≤ 9223372036854775807) :
  SeqStopsK Fence.wide 8 Try.prog 46 #[.pointer (some ⟨B4, 0, none⟩), .pointer (some ⟨B5, 0, none⟩), .pointer (some ⟨B3, 0, none⟩)] (fun x : S55 => #[.agg #[.int .i64 x.f0, .int .i64 x.f1]]) (KB X w.heap.size) (fun ys => ys = cutUp (keepB ap c0 c1 on) 24) (fun _ => True) 601 w :=
 fun l J Jx W hW hJ _ hY h0 => cuts1_in 8 (by omega) l X w.heap.size B3 B4 B5 A c ap c0 c1 on J Jx w h3 h40 h41 h5 n3 n4 n5 x3 x4 x5 hC hc hl W hJ hY (KB.of_below (Nat.le_refl _) hW) hW.size h0
theorem KB.putObj {X n₁ : Nat} {W : World} {l : Nat} (o' : Obj) (hl : n₁ ≤ l) : KB X n₁ W (W.putObj l o') := ⟨by simp, fun k h1 _ => World.putObj_heap_other (by omega)⟩
/-- One round: what the append and the store leave. -/
theorem cut_round {w : World} {X n₁ : Nat} {q : Value} {pre : List S55} {W w1 : World} {v v' : Value} {x : S55} (hX : w.heap.size ≤ X) (hn : w.heap.size ≤ n₁) (hXn : X < n₁) (h1 : W.heap[X]? = some (.cells #[q, v] 25 (0, 0))) (h2 : W.ownsRow n₁ 55 2 v pre.length (cells55 pre)) (h3 : n₁ ≤ W.heap.size) (h4 : Below w.heap.size w W) {o : Obj}
  (hown : w1.ownsRow n₁ 55 2 v' (pre.length + 1) (cells55 pre ++ [.int .i64 x.f0, .int .i64 x.f1])) (hg : (W.alloc o).grownBy w1 v.ownBlock) :
  w1.heap[X]? = some (.cells #[q, v] 25 (0, 0)) ∧ KeepsFrom n₁ W (w1.setCell ⟨X, 1, none⟩ v') ∧ KB X n₁ W (w1.setCell ⟨X, 1, none⟩ v') ∧ CutI w X n₁ q (pre ++ [x]) (w1.setCell ⟨X, 1, none⟩ v') := by
 have hvr : ∀ k, v.ownBlock = some k → n₁ ≤ k := fun k hk => (h2.lt k hk).1
 have hvr' : ∀ k, v'.ownBlock = some k → n₁ ≤ k := fun k hk => (hown.lt k hk).1
 have hba : Below W.heap.size W (W.alloc o) := (Below.refl _ W).alloc (Nat.le_refl _) _
 have hlt : X < (W.alloc o).heap.size := by have := hba.size; omega
 have hX1 : w1.heap[X]? = some (.cells #[q, v] 25 (0, 0)) := (hg.block X hlt (fun e => by have := hvr X e.symm; omega)).trans ((hba.block X (by omega)).trans h1)
 have hb1 : ∀ k, k < n₁ → w1.heap[k]? = W.heap[k]? := fun k hk => (hg.block k (by have := hba.size; omega) (fun e => by have := hvr k e.symm; omega)).trans (hba.block k (by omega))
 have hsz : W.heap.size ≤ w1.heap.size := Nat.le_trans hba.size hg.size
 have hset : w1.grownBy (w1.setCell ⟨X, 1, none⟩ v') (some X) := ⟨rfl, rfl, rfl, (KeepsWalks.setCell w1 _ v').size, fun k _ hk => Below.heap_setCell _ _ _ k (fun e => hk (by rw [e]))⟩
 refine ⟨hX1, ?_, ⟨Nat.le_trans hsz hset.size, fun k h1 h2 => (hset.block k (by omega) (fun e => h2 (Option.some.inj e))).trans (hb1 k h1)⟩, ⟨⟨v', ?_, ?_⟩, ?_, ?_⟩⟩
 ·refine ⟨Nat.le_trans hsz hset.size, fun k o' hk ho hc => ?_⟩
  have hkl : k < W.heap.size := (Array.getElem?_eq_some_iff.1 ho).1
  refine (hset.block k (by omega) (fun e => by have := Option.some.inj e; omega)).trans ((hg.block k (by have := hba.size; omega) (fun e => ?_)).trans ((hba.block k hkl).trans ho))
  rcases h2.2 with ⟨rfl, _⟩ | ⟨g, cap, cur, rfl, _, hh, _⟩
  ·simp [Value.ownBlock] at e
  ·simp [Value.ownBlock] at e
   subst e
   rw [hh] at ho
   cases ho
   cases hc
 ·exact blk_put hX1 1 _ rfl
 ·rw [cells55_snoc, List.length_append]
  exact hown.kept hset (by
   cases hv : v'.ownBlock with
   | none => exact .inl rfl
   | some g => exact .inr (fun e => by have := hvr' g hv; have := Option.some.inj e; omega))
 ·exact Nat.le_trans h3 (Nat.le_trans hsz hset.size)
 ·exact ((h4.alloc h4.size o).grown hg (Nat.le_trans h4.size hba.size) (fun k e => Nat.le_trans hn (hvr k e))).grown hset (Nat.le_trans h4.size hsz) (fun k e => by cases e; exact hX)
theorem info55c : (Try.prog.info? 55).map (fun i => (i.zero, i.size, i.bytes)) = some (some (.agg #[(.int .i64 0), (.int .i64 0)]), 2, 16) := by kernel_rfl
/-! ### network_Cut: function 20 -/
def network_Cut.f (k : Nat) (l0_0 : List (S28)) (l0_1 : List (S55)) (a1 : Int) (a2 : Int) (a3 : Bool) : Option ((List (S28)) × (List (S55)) × Int) := (network_Check.f k l0_0 l0_1).bind fun t189 => (if t189 = 0 then ((network_between.f a1 a2).bind fun bt190 => ((network_link_valid.f bt190.1 bt190.2).bind fun t193 => (if t193 = true then ((cutRows.f l0_1 bt190.1 bt190.2 a3).bind fun t194 => (some (l0_0, t194, 0))) else (some (([] : List (S28)), ([] : List (S55)), 1))))) else (some (([] : List (S28)), ([] : List (S55)), 60)))
theorem network_Cut.mono : ∀ a0 a1 a2 a3 a4 k, LeO (network_Cut.f k a0 a1 a2 a3 a4) (network_Cut.f (k + 1) a0 a1 a2 a3 a4) := by
 intro a0 a1 a2 a3 a4 k
 unfold network_Cut.f
 repeat' first
   | (with_reducible exact network_Check.mono _ _ _)
   | (with_reducible exact LeO.refl _)
   | (with_reducible exact LeO.none _)
   | (with_reducible refine LeO.ite ?_ ?_)
   | (with_reducible refine LeO.bind ?_ (fun _ => ?_))
   | exact network_Check.mono _ _ _
   | exact LeO.none _
   | refine LeO.ite ?_ ?_
   | refine LeO.bind ?_ (fun _ => ?_)
set_option maxHeartbeats 8000000 in
set_option maxRecDepth 100000 in
theorem network_Cut.calls (k : Nat) (P0_0_ : Nat → Prop) (A0_0 : Option Addr) (c0_0 : Nat) (l0_0 : List (S28)) (A0_1 : Option Addr) (c0_1 : Nat) (l0_1 : List (S55)) (a1 : Int) (a2 : Int) (a3 : Bool) (r1 : List (S28)) (r2 : List (S55)) (r3 : Int) (w : World) (hs0_0 : Kd.V k28 28 w w.heap.size (fun k_ => P0_0_ k_) (.slice A0_0 l0_0.length c0_0) l0_0) (hr0_1 : Kd.C k55 w A0_1 l0_1.length l0_1) (hc0_1 : l0_1.length ≤ c0_1) (h : network_Cut.f k l0_0 l0_1 a1 a2 a3 = some (r1, r2, r3)) :
  Calls Try.prog 20 #[.agg #[.slice A0_0 l0_0.length c0_0, .slice A0_1 l0_1.length c0_1], .int .i64 a1, .int .i64 a2, .bool a3] w fun e w' => ∃ v0_ v1_ : Value, e = .returned (.tuple #[.agg #[v0_, v1_], .int .i64 r3]) ∧ Kd.V k28 28 w' w.heap.size (fun k_ => (P0_0_ k_ ∨ w.heap.size ≤ k_) ∧ some k_ ≠ (v1_ : Value).ownBlock) v0_ r1 ∧ Kd.R k55 55 w' w.heap.size (fun k_ => (w.heap.size ≤ k_)) v1_ r2 ∧ Below w.heap.size w w' := by
 have hu25 := Try.underlying25
 have hu58 := Try.underlying58
 have HO0_0 := Aside0.mk (show Kd.V k28 28 w w.heap.size (fun k_ => (P0_0_ k_ ∨ w.heap.size ≤ k_)) (.slice A0_0 l0_0.length c0_0) l0_0 from Kd.V_mono hs0_0 (fun k_ hk => .inl hk))
 have HR0_1 := Aside0.mk hr0_1
 have HC0_1 := Aside0.mk hc0_1
 clear hr0_1 hc0_1
 have HB := Aside0.mk (Below.refl w.heap.size w)
 have H : ((network_Check.f k l0_0 l0_1).bind fun t189 => (if t189 = 0 then ((network_between.f a1 a2).bind fun bt190 => ((network_link_valid.f bt190.1 bt190.2).bind fun t193 => (if t193 = true then ((cutRows.f l0_1 bt190.1 bt190.2 a3).bind fun t194 => (some (l0_0, t194, 0))) else (some (([] : List (S28)), ([] : List (S55)), 1))))) else (some (([] : List (S28)), ([] : List (S55)), 60)))) = some (r1, r2, r3) := h
 clear h
 replace H := Option.bind_eq_some_iff.mp H
 obtain ⟨t189, A50, H⟩ := H
 replace H : (if t189 = 0 then ((network_between.f a1 a2).bind fun bt190 => ((network_link_valid.f bt190.1 bt190.2).bind fun t193 => (if t193 = true then ((cutRows.f l0_1 bt190.1 bt190.2 a3).bind fun t194 => (some (l0_0, t194, 0))) else (some (([] : List (S28)), ([] : List (S55)), 1))))) else (some (([] : List (S28)), ([] : List (S55)), 60))) = some (r1, r2, r3) := H
 have A5 := Aside0.mk A50
 clear A50
 by_cases c6 : t189 = 0
 ·rw [if_pos c6] at H
  have c6b0 : (t189 == 0) = true := beq_iff_eq.mpr c6
  have c6b1 : (t189 != 0) = false := bne_eq_false_iff_eq.mpr c6
  clear c6
  replace H := Option.bind_eq_some_iff.mp H
  obtain ⟨⟨t190, t191⟩, A70, H⟩ := H
  replace H : ((network_link_valid.f t190 t191).bind fun t193 => (if t193 = true then ((cutRows.f l0_1 t190 t191 a3).bind fun t194 => (some (l0_0, t194, 0))) else (some (([] : List (S28)), ([] : List (S55)), 1)))) = some (r1, r2, r3) := H
  have A7 := Aside0.mk A70
  clear A70
  replace H := Option.bind_eq_some_iff.mp H
  obtain ⟨t193, A80, H⟩ := H
  replace H : (if t193 = true then ((cutRows.f l0_1 t190 t191 a3).bind fun t194 => (some (l0_0, t194, 0))) else (some (([] : List (S28)), ([] : List (S55)), 1))) = some (r1, r2, r3) := H
  have A8 := Aside0.mk A80
  clear A80
  by_cases c9 : t193 = true
  ·subst c9
   have H1 : ((cutRows.f l0_1 t190 t191 a3).bind fun t194 => (some (l0_0, t194, 0))) = some (r1, r2, r3) := by rw [if_pos rfl] at H; exact H
   clear H
   have H := H1
   clear H1
   replace H := Option.bind_eq_some_iff.mp H
   obtain ⟨t194, A100, H⟩ := H
   replace H : (some (l0_0, t194, 0)) = some (r1, r2, r3) := H
   have A10 := Aside0.mk A100
   clear A100
   simp only [Option.some.injEq, Prod.mk.injEq] at H
   obtain ⟨rfl, rfl, rfl⟩ := H
   refine (callsIn_wide (n := 9)).1 (callsIn_of_wp_marks (F := Fence.wide) Try.func20 rfl trivial (wpIn_wide.2 ?_) rfl)
   simp only [Try.ntmps20, List.size_toArray, List.length_cons, List.length_nil, Nat.reduceAdd, Nat.reduceSub, Array.replicate_succ, Array.replicate_zero, List.push_toArray, List.append_toArray, List.nil_append, List.cons_append]
   go_wp2_with (first | ((with_reducible refine gate_dst (N := 4) rfl ?_); refine box_event ?hg (N := 4) ?hd (cs := #[.slice A0_0 l0_0.length c0_0, .slice A0_1 l0_1.length c0_1]) (t := 25) ?hr ?_; (case hd => rfl); (case hg => rfl); (case hr => first | (go_simp; done) | (go_simp; rfl)); intro gb187 hg w11 hbox hb; have n0_ := Aside0.mk (Kd.V_below (Kd.V_elderB (Zv HO0_0.out) gb187 (Nat.le_of_eq hg.symm)) hb); have n1_ := Aside0.mk (below_step (Z0 HB) hb); have n2_ := Aside0.mk (hbox); have n3_ := Aside0.mk ((by rw [hg]; exact (below_size (Z0 HB)) : w.heap.size ≤ gb187)); have n4_ := Aside0.mk ((by rw [hg]; exact (below_size (Z0 HB)) : w.heap.size ≤ gb187)); clear HO0_0; clear HB; have HO0_0 := n0_; have HB := n1_; have BK187 := n2_; have GW187 := n3_; have GE187 := n4_; clear n0_ n1_ n2_ n3_ n4_; clear hb hbox hg) | ((with_reducible refine gate_dst (N := 8) rfl ?_); refine box_event ?hg (N := 8) ?hd (cs := #[.slice none 0 0, .slice none 0 0]) (t := 25) ?hr ?_; (case hd => rfl); (case hg => rfl); (case hr => first | (go_simp; done) | (go_simp; rfl)); intro gb188 hg w12 hbox hb; have n0_ := Aside0.mk (Kd.V_below (Kd.V_elderB (Zv HO0_0.out) gb188 (Nat.le_of_eq hg.symm)) hb); have n1_ := Aside0.mk (blk_below (g := gb187) (o := .cells #[.slice A0_0 l0_0.length c0_0, .slice A0_1 l0_1.length c0_1] 25 (0, 0)) (Zb BK187.out) hb); have n2_ := Aside0.mk (below_step (Z1 HB GE187) hb); have n3_ := Aside0.mk (hbox); have n4_ := Aside0.mk ((by rw [hg]; exact (below_size (Z1 HB GE187)) : w.heap.size ≤ gb188)); have n5_ := Aside0.mk ((by rw [hg]; exact (below_size (Z1 HB GE187)) : w.heap.size ≤ gb188)); have n6_ := Aside0.mk ((by rw [hg]; exact Nat.ne_of_lt (blk_lt (g := gb187) (o := .cells #[.slice A0_0 l0_0.length c0_0, .slice A0_1 l0_1.length c0_1] 25 (0, 0)) (Zb BK187.out)) : gb187 ≠ gb188)); have n7_ := Aside0.mk ((by rw [hg]; exact Nat.ne_of_gt (blk_lt (g := gb187) (o := .cells #[.slice A0_0 l0_0.length c0_0, .slice A0_1 l0_1.length c0_1] 25 (0, 0)) (Zb BK187.out)) : gb188 ≠ gb187)); clear HO0_0; clear BK187; clear HB; have HO0_0 := n0_; have BK187 := n1_; have HB := n2_; have BK188 := n3_; have GW188 := n4_; have GE188 := n5_; have NB187_188 := n6_; have NB188_187 := n7_; clear n0_ n1_ n2_ n3_ n4_ n5_ n6_ n7_; clear hb hbox hg; have hnb13 := NB187_188.out; have hnc13 := NB188_187.out; have hcz14_0 : w12.cell? ⟨gb187, 0, none⟩ = some (.slice A0_0 l0_0.length c0_0) := (blk_cell BK187.out 0).trans rfl; have hcz14_1 : w12.cell? ⟨gb187, 1, none⟩ = some (.slice A0_1 l0_1.length c0_1) := (blk_cell BK187.out 1).trans rfl; have hfz14_0 := blk_frozen BK187.out 0; have hfz14_1 := blk_frozen BK187.out 1) | ((with_reducible refine gate_callee (f := 13) rfl ?_); refine goesL_ (some 13) rfl rfl Try.func13 (by kernel_rfl) rfl #[.agg #[.slice A0_0 l0_0.length c0_0, .slice A0_1 l0_1.length c0_1]] rfl (by (try simp only [List.map_toArray, List.map_cons, List.map_nil]); first | done | rfl | (simp only [List.length_drop, List.length_take]; rfl)) ?_; (with_reducible refine (network_Check.calls k _ _ l0_0 _ _ l0_1 t189 _ ?side1 ?side2 ?side3 ?side4 A5.out).mono ?_); (case side1 => repeat (first | exact (Kd.V_reads' HO0_0.out).2.2 | (with_reducible refine Kd.C_alloc ?_ _) | (with_reducible refine Kd.C_drewN ?_ _) | (with_reducible refine Kd.C_drew ?_))); (case side2 => exact (Kd.V_reads' HO0_0.out).2.1); (case side3 => repeat (first | exact (Kd.C_below HR0_1.out HB.out) | (with_reducible refine Kd.C_alloc ?_ _) | (with_reducible refine Kd.C_drewN ?_ _) | (with_reducible refine Kd.C_drew ?_))); (case side4 => exact HC0_1.out); rintro e w15 ⟨rfl, hb⟩; refine ⟨_, rfl, ?_⟩; have n0_ := Aside0.mk (Kd.V_below (Zv HO0_0.out) hb); have n1_ := Aside0.mk (blk_below (g := gb187) (o := .cells #[.slice A0_0 l0_0.length c0_0, .slice A0_1 l0_1.length c0_1] 25 (0, 0)) (Zb BK187.out) hb); have n2_ := Aside0.mk (blk_below (g := gb188) (o := .cells #[.slice none 0 0, .slice none 0 0] 25 (0, 0)) (Zb BK188.out) hb); have n3_ := Aside0.mk (below_step (Z2 HB GE187 GE188) hb); clear HO0_0; clear BK187; clear BK188; clear HB; have HO0_0 := n0_; have BK187 := n1_; have BK188 := n2_; have HB := n3_; clear n0_ n1_ n2_ n3_; (try clear hb); (try clear hb2); (try clear hk); (try clear hi)) | ((with_reducible refine gate_callee (f := 37) rfl ?_); refine goesL_ (some 18) rfl rfl Try.func37 (by kernel_rfl) rfl #[.int .i64 a1, .int .i64 a2] rfl (by (try simp only [List.map_toArray, List.map_cons, List.map_nil]); first | done | rfl | (simp only [List.length_drop, List.length_take]; rfl)) ?_; (with_reducible refine (network_between.calls a1 a2 t190 t191 _ A7.out).mono ?_); rintro e w16 ⟨rfl, hb⟩; refine ⟨_, rfl, ?_⟩; have n0_ := Aside0.mk (Kd.V_below (Zv HO0_0.out) hb); have n1_ := Aside0.mk (blk_below (g := gb187) (o := .cells #[.slice A0_0 l0_0.length c0_0, .slice A0_1 l0_1.length c0_1] 25 (0, 0)) (Zb BK187.out) hb); have n2_ := Aside0.mk (blk_below (g := gb188) (o := .cells #[.slice none 0 0, .slice none 0 0] 25 (0, 0)) (Zb BK188.out) hb); have n3_ := Aside0.mk (below_step (Z2 HB GE187 GE188) hb); clear HO0_0; clear BK187; clear BK188; clear HB; have HO0_0 := n0_; have BK187 := n1_; have BK188 := n2_; have HB := n3_; clear n0_ n1_ n2_ n3_; (try clear hb); (try clear hb2); (try clear hk); (try clear hi)) | ((with_reducible refine gate_dst (N := 10) rfl ?_); refine box_event ?hg (N := 10) ?hd (cs := #[.int .i64 0, .int .i64 0]) (t := 58) ?hr ?_; (case hd => rfl); (case hg => rfl); (case hr => first | (go_simp; done) | (go_simp; rfl)); intro gb192 hg w17 hbox hb; have n0_ := Aside0.mk (Kd.V_below (Kd.V_elderB (Zv HO0_0.out) gb192 (Nat.le_of_eq hg.symm)) hb); have n1_ := Aside0.mk (blk_below (g := gb187) (o := .cells #[.slice A0_0 l0_0.length c0_0, .slice A0_1 l0_1.length c0_1] 25 (0, 0)) (Zb BK187.out) hb); have n2_ := Aside0.mk (blk_below (g := gb188) (o := .cells #[.slice none 0 0, .slice none 0 0] 25 (0, 0)) (Zb BK188.out) hb); have n3_ := Aside0.mk (below_step (Z2 HB GE187 GE188) hb); have n4_ := Aside0.mk (hbox); have n5_ := Aside0.mk ((by rw [hg]; exact (below_size (Z2 HB GE187 GE188)) : w.heap.size ≤ gb192)); have n6_ := Aside0.mk ((by rw [hg]; exact (below_size (Z2 HB GE187 GE188)) : w.heap.size ≤ gb192)); have n7_ := Aside0.mk ((by rw [hg]; exact Nat.ne_of_lt (blk_lt (g := gb187) (o := .cells #[.slice A0_0 l0_0.length c0_0, .slice A0_1 l0_1.length c0_1] 25 (0, 0)) (Zb BK187.out)) : gb187 ≠ gb192)); have n8_ := Aside0.mk ((by rw [hg]; exact Nat.ne_of_gt (blk_lt (g := gb187) (o := .cells #[.slice A0_0 l0_0.length c0_0, .slice A0_1 l0_1.length c0_1] 25 (0, 0)) (Zb BK187.out)) : gb192 ≠ gb187)); have n9_ := Aside0.mk ((by rw [hg]; exact Nat.ne_of_lt (blk_lt (g := gb188) (o := .cells #[.slice none 0 0, .slice none 0 0] 25 (0, 0)) (Zb BK188.out)) : gb188 ≠ gb192)); have n10_ := Aside0.mk ((by rw [hg]; exact Nat.ne_of_gt (blk_lt (g := gb188) (o := .cells #[.slice none 0 0, .slice none 0 0] 25 (0, 0)) (Zb BK188.out)) : gb192 ≠ gb188)); clear HO0_0; clear BK187; clear BK188; clear HB; have HO0_0 := n0_; have BK187 := n1_; have BK188 := n2_; have HB := n3_; have BK192 := n4_; have GW192 := n5_; have GE192 := n6_; have NB187_192 := n7_; have NB192_187 := n8_; have NB188_192 := n9_; have NB192_188 := n10_; clear n0_ n1_ n2_ n3_ n4_ n5_ n6_ n7_ n8_ n9_ n10_; clear hb hbox hg; have hnb18 := NB192_187.out; have hnc18 := NB187_192.out; have hnb19 := NB192_188.out; have hnc19 := NB188_192.out; have hcz20_0 : w17.cell? ⟨gb192, 0, none⟩ = some (.int .i64 0) := (blk_cell BK192.out 0).trans rfl; have hcz20_1 : w17.cell? ⟨gb192, 1, none⟩ = some (.int .i64 0) := (blk_cell BK192.out 1).trans rfl; have hfz20_0 := blk_frozen BK192.out 0; have hfz20_1 := blk_frozen BK192.out 1) | ((with_reducible refine gate_callee (f := 32) rfl ?_); refine goesL_ (some 20) rfl rfl Try.func32 (by kernel_rfl) rfl #[.agg #[.int .i64 t190, .int .i64 t191]] rfl (by (try simp only [List.map_toArray, List.map_cons, List.map_nil]); first | done | rfl | (simp only [List.length_drop, List.length_take]; rfl)) ?_; (with_reducible refine (network_link_valid.calls t190 t191 true _ A8.out).mono ?_); rintro e w21 ⟨rfl, hb⟩; refine ⟨_, rfl, ?_⟩; have n0_ := Aside0.mk (Kd.V_below (by refine Zv ?_; exact (Kd.V_mono (Kd.V_far (p := ⟨gb192, 1, none⟩) (Kd.V_far (p := ⟨gb192, 0, none⟩) (Kd.V_mono HO0_0.out (fun k_ hk => (⟨hk, hk.2⟩ : _ ∧ k_ ≠ gb192))) (fun _ hk => hk.2) (.int .i64 t190)) (fun _ hk => hk.2) (.int .i64 t191)) (fun _ h_ => h_.1))) hb); have n1_ := Aside0.mk (blk_below (g := gb187) (o := .cells #[.slice A0_0 l0_0.length c0_0, .slice A0_1 l0_1.length c0_1] 25 (0, 0)) (by refine Zb ?_; refine blk_far ?_ NB187_192.out _; refine Zb ?_; refine blk_far ?_ NB187_192.out _; refine Zb ?_; exact BK187.out) hb); have n2_ := Aside0.mk (blk_below (g := gb188) (o := .cells #[.slice none 0 0, .slice none 0 0] 25 (0, 0)) (by refine Zb ?_; refine blk_far ?_ NB188_192.out _; refine Zb ?_; refine blk_far ?_ NB188_192.out _; refine Zb ?_; exact BK188.out) hb); have n3_ := Aside0.mk (blk_below (g := gb192) (o := .cells #[.int .i64 t190, .int .i64 t191] 58 (0, 0)) (by refine Zb ?_; refine blk_put (cs := #[.int .i64 t190, .int .i64 0]) ?_ 1 _ rfl; refine Zb ?_; refine blk_put (cs := #[.int .i64 0, .int .i64 0]) ?_ 0 _ rfl; refine Zb ?_; exact BK192.out) hb); have n4_ := Aside0.mk (below_step (Z3 HB GE187 GE188 GE192) hb); clear HO0_0; clear BK187; clear BK188; clear BK192; clear HB; have HO0_0 := n0_; have BK187 := n1_; have BK188 := n2_; have BK192 := n3_; have HB := n4_; clear n0_ n1_ n2_ n3_ n4_; (try clear hb); (try clear hb2); (try clear hk); (try clear hi); have hcz22_0 : w21.cell? ⟨gb187, 0, none⟩ = some (.slice A0_0 l0_0.length c0_0) := (blk_cell BK187.out 0).trans rfl; have hcz22_1 : w21.cell? ⟨gb187, 1, none⟩ = some (.slice A0_1 l0_1.length c0_1) := (blk_cell BK187.out 1).trans rfl; have hfz22_0 := blk_frozen BK187.out 0; have hfz22_1 := blk_frozen BK187.out 1; have hcz23_0 : w21.cell? ⟨gb188, 0, none⟩ = some (.slice none 0 0) := (blk_cell BK188.out 0).trans rfl; have hcz23_1 : w21.cell? ⟨gb188, 1, none⟩ = some (.slice none 0 0) := (blk_cell BK188.out 1).trans rfl; have hfz23_0 := blk_frozen BK188.out 0; have hfz23_1 := blk_frozen BK188.out 1; have hcz24_0 : w21.cell? ⟨gb192, 0, none⟩ = some (.int .i64 t190) := (blk_cell BK192.out 0).trans rfl; have hcz24_1 : w21.cell? ⟨gb192, 1, none⟩ = some (.int .i64 t191) := (blk_cell BK192.out 1).trans rfl; have hfz24_0 := blk_frozen BK192.out 0; have hfz24_1 := blk_frozen BK192.out 1))
   obtain ⟨w22, hw22⟩ : ∃ w22, ((w21.setCell ⟨gb188, 0, none⟩ (.slice A0_0 l0_0.length c0_0)).setCell ⟨gb188, 1, none⟩ (.slice none 0 0)) = w22 := ⟨_, rfl⟩
   have BX0 : w22.heap[gb188]? = some (.cells #[.slice A0_0 l0_0.length c0_0, .slice none 0 0] 25 (0, 0)) := by rw [← hw22]; exact blk_put (blk_put BK188.out 0 _ rfl) 1 _ rfl
   have HX0 : Below w.heap.size w w22 := by rw [← hw22]; exact below_set (below_set HB.out GE188.out) GE188.out
   rw [hw22]
   clear hw22
   refine (cuts_calls A0_1 l0_1.length c0_1 t190 t191 a3 w22).mono ?_
   rintro e w23 ⟨b3, b4, b5, rfl, ⟨g3, m3, d3⟩, ⟨g4, m4, d40, d41⟩, ⟨g5, m5, d5⟩, hb23⟩
   dsimp only
   go_wp2
   rename_i K0_ hK0_
   have hXlt : gb188 < w22.heap.size := (Array.getElem?_eq_some_iff.1 BX0).1
   have hXge := GE188.out
   have hs22 := HX0.size
   have hs23 := hb23.size
   have hCw : ∀ W', KB gb188 w23.heap.size w23 W' → Kd.C k55 W' A0_1 l0_1.length l0_1 := fun W' hk =>
    k55_heap.C (fun i hi => (hk.2 i (by omega) (by omega)).trans ((hb23.block i (by omega)).trans (HX0.block i hi))) HR0_1.out
   have hBw : Below w.heap.size w w23 := HX0.trans (hb23.mono hs22)
   obtain ⟨i055, hi055, hz055, hsz55, hby55⟩ := info_parts info55c
   have hst := cuts_stops gb188 b3 b4 b5 A0_1 c0_1 l0_1 t190 t191 a3 w23 d3 d40 d41 d5 m3 m4 m5 (by omega) (by omega) (by omega) hCw HC0_1.out HR0_1.out.2.1
   rw [show cutUp (keepB l0_1 t190 t191 a3) 24 = t194 from Option.some.inj A10.out] at hst
   refine wpIn_wide.1 (wpIn_rangeFunc_ownH (F := Fence.wide) (n := 9) rfl (by omega) (gf := 46) (lb := #[.pointer (some ⟨b4, 0, none⟩), .pointer (some ⟨b5, 0, none⟩), .pointer (some ⟨b3, 0, none⟩)]) rfl trivial (enters_of Try.func46 (by kernel_rfl) rfl)
    hst (fun h k => h.trans k) (fun W l o o' hl _ _ _ => KB.putObj o' hl) (Below.refl _ _) (fun _ => rfl)
    (CutI w gb188 w23.heap.size (.slice A0_0 l0_0.length c0_0)) (fun _ _ _ => False) (CutI.own hXge (by omega)) (fun _ _ _ _ _ hs _ _ => hs)
    ⟨⟨_, (hb23.block _ hXlt).trans BX0, World.ownsRow_nil _ _ _ _⟩, Nat.le_refl _, hBw⟩
    (fun x a' W => ∃ Bx, W.heap[Bx]? = some (.cells #[.int .i64 x.f0, .int .i64 x.f1] 55 (0, 0)) ∧ a' = ⟨#[.agg #[.slice A0_0 l0_0.length c0_0, .slice A0_1 l0_1.length c0_1], .int .i64 a1,
        .int .i64 a2, .bool a3, .pointer (some ⟨gb187, 0, none⟩), undef, undef, undef, .pointer (some ⟨gb188, 0, none⟩), .int .i64 0, .pointer (some ⟨gb192, 0, none⟩), .pointer (some ⟨Bx, 0, none⟩),
        .agg #[.slice A0_0 l0_0.length c0_0, .slice A0_1 l0_1.length c0_1], .int .i64 t189, .bool false, undef, .int .i64 a1, .int .i64 a2, .agg #[.int .i64 t190, .int .i64 t191],
        .agg #[.int .i64 t190, .int .i64 t191], .bool true, .bool false, undef, .pointer (some ⟨gb187, 0, none⟩), .slice A0_0 l0_0.length c0_0, .agg #[.slice A0_0 l0_0.length c0_0, .slice none 0 0],
        .pointer (some ⟨gb187, 1, none⟩), .slice A0_1 l0_1.length c0_1, .agg #[.int .i64 t190, .int .i64 t191], .bool a3,
        .func (.func 46) #[] #[.pointer (some ⟨b4, 0, none⟩), .pointer (some ⟨b5, 0, none⟩), .pointer (some ⟨b3, 0, none⟩)],
        .agg #[.int .i64 x.f0, .int .i64 x.f1], undef, undef, undef, undef, undef, undef, undef], []⟩)
    (fun x a' _ P Q row hs hg hr => by
     obtain ⟨Bx, h1, h2⟩ := hs
     exact ⟨Bx, (hg.block Bx (Array.getElem?_eq_some_iff.1 h1).1 (fun e => by obtain ⟨_, o, ho, hc⟩ := hr Bx e.symm; rw [h1] at ho; cases ho; cases hc)).trans h1, h2⟩)
    ?assign ?body ?done ?stop)
   case assign =>
    rintro l pre x W K hi hK
    gi_wp2
    have hba : Below W.heap.size W (W.alloc (.cells #[.int .i64 x.f0, .int .i64 x.f1] 55)) := (Below.refl _ W).alloc (Nat.le_refl _) _
    exact hK _ _ ((KeepsOthers.alloc _ _).from _) (KB.of_below hi.2.1 hba) ((CutI.own hXge (by omega)).alloc _ hi) ⟨W.heap.size, World.alloc_heap_new W _, rfl⟩
   case body =>
    rintro l pre x a' W hl ⟨r, hr⟩ ⟨⟨v, hv, hrow⟩, hnW, hBW⟩ ⟨Bx, hBx, rfl⟩ hlt
    have e0 := (blk_cell hBx 0).trans rfl
    have e1 := (blk_cell hBx 1).trans rfl
    have f1 : W.cell? ⟨gb188, 1, none⟩ = some v := (blk_cell hv 1).trans rfl
    have hcell : ∀ j u, ([.int .i64 x.f0, .int .i64 x.f1] : List Value)[j]? = some u → (W.alloc (.cells #[.int .i64 x.f0, .int .i64 x.f1] 55)).cell? ((⟨W.heap.size, 0, none⟩ : Addr).add j) = some u := by
     intro j u hj
     have hz : (⟨W.heap.size, 0, none⟩ : Addr).add j = ⟨W.heap.size, j, none⟩ := by simp [Addr.add]; try omega
     rw [hz, blk_cell (World.alloc_heap_new W _) j]
     exact (by simpa using hj : (#[.int .i64 x.f0, .int .i64 x.f1] : Array Value)[j]? = some u)
    gi_wp2_with (gi_at_builtin; refine wpListIn_append_own _ rfl _ _ 23 rfl w23.heap.size 55 i055 _ 2 16 Try.underlying23 hi055 hz055 hsz55 hby55 rfl (by decide) _ _ _ rfl (hrow.alloc _) ⟨W.heap.size, 0, none⟩ 1 1 [.int .i64 x.f0, .int .i64 x.f1] rfl rfl hcell (by simp [Value.oneCell']) (by unfold maxLen; omega) (by omega) (by simp; omega) ?_; intro v' w1 hown' hgrow _; obtain ⟨g', cap', rfl⟩ := ownsRow_succ hown'; obtain ⟨hX1, hk2, hkb, hI2⟩ := cut_round (x := x) hXge (by omega) (by omega) hv hrow hnW hBW hown' hgrow; have hf1 := blk_frozen hX1 1; have hc1 : w1.cell? ⟨gb188, 1, none⟩ = some v := (blk_cell hX1 1).trans rfl)
    exact ⟨hk2, hkb, hI2⟩
   case done =>
    rintro D xs W hD hxs ⟨⟨v, hv, hrow⟩, hnW, hBW⟩ hK
    replace hxs : xs = t194 := hxs
    subst hxs
    obtain ⟨A26, c26, rfl⟩ : ∃ A2 c2, v = .slice A2 xs.length c2 := by
     rcases hrow.2 with ⟨rfl, h0⟩ | ⟨g, cap, cur, rfl, _⟩
     ·exact ⟨none, 0, by rw [h0]⟩
     ·exact ⟨_, _, rfl⟩
    have f0 : W.cell? ⟨gb188, 0, none⟩ = some (.slice A0_0 l0_0.length c0_0) := (blk_cell hv 0).trans rfl
    have f1 : W.cell? ⟨gb188, 1, none⟩ = some (.slice A26 xs.length c26) := (blk_cell hv 1).trans rfl
    have z0 := blk_frozen hv 0
    have z1 := blk_frozen hv 1
    simp only [Exit.inBlock, Exit.then]
    refine hK0_ _ _ ?_
    go_wp2
    rw [set_same f0, set_same f1]
    refine ⟨by simp, .inl ⟨_, _, rfl, run_takeDeferred hK, ?_⟩⟩
    have hXD : gb188 ≠ D := fun e => by rw [e, hK] at hv; cases hv
    have hBW2 : Below w.heap.size w (W.putObj D (.deferred none)) := hBW.trans (belowK_b (w := w) (Nat.le_refl _) W D _ _ (by omega) hK rfl rfl)
    have hq1 := Kd.V_mono (ok' := fun k_ => (P0_0_ k_ ∨ w.heap.size ≤ k_) ∧ some k_ ≠ (Value.slice A26 xs.length c26).ownBlock) (Kd.V_map (base' := w.heap.size) hs0_0 (fun A h => Kd.F_bound h)) (fun k hk => ⟨.inl hk.1, fun e => by have h1 := (hrow.lt k e.symm).1; have h2 := hk.2; omega⟩)
    refine ⟨_, results_ct rfl _ _ gb188 25 #[.slice A0_0 l0_0.length c0_0, .slice A26 xs.length c26] (0, 0) _ rfl ((World.putObj_heap_other hXD).trans hv) Try.underlying25 rfl (by kernel_rfl), _, _, rfl, Kd.V_below hq1 hBW2, R_of_own (ownsRow_putObj hrow _ hK rfl) (by omega), hBW2⟩
   case stop =>
    rintro D c pre W _ _ h _
    exact h.elim
  ·replace c9 := Bool.eq_false_iff.mpr c9
   subst c9
   have H1 : (some (([] : List (S28)), ([] : List (S55)), 1)) = some (r1, r2, r3) := by rw [if_neg (show ¬ (false = true) by decide)] at H; exact H
   clear H
   have H := H1
   clear H1
   simp only [Option.some.injEq, Prod.mk.injEq] at H
   obtain ⟨rfl, rfl, rfl⟩ := H
   go_enter Try.func20, Try.ntmps20
   go_wp2_with (first | ((with_reducible refine gate_dst (N := 4) rfl ?_); refine box_event ?hg (N := 4) ?hd (cs := #[.slice A0_0 l0_0.length c0_0, .slice A0_1 l0_1.length c0_1]) (t := 25) ?hr ?_; (case hd => rfl); (case hg => rfl); (case hr => first | (go_simp; done) | (go_simp; rfl)); intro gb187 hg w28 hbox hb; have n0_ := Aside0.mk (Kd.V_below (Kd.V_elderB (Zv HO0_0.out) gb187 (Nat.le_of_eq hg.symm)) hb); have n1_ := Aside0.mk (below_step (Z0 HB) hb); have n2_ := Aside0.mk (hbox); have n3_ := Aside0.mk ((by rw [hg]; exact (below_size (Z0 HB)) : w.heap.size ≤ gb187)); have n4_ := Aside0.mk ((by rw [hg]; exact (below_size (Z0 HB)) : w.heap.size ≤ gb187)); clear HO0_0; clear HB; have HO0_0 := n0_; have HB := n1_; have BK187 := n2_; have GW187 := n3_; have GE187 := n4_; clear n0_ n1_ n2_ n3_ n4_; clear hb hbox hg) | ((with_reducible refine gate_dst (N := 8) rfl ?_); refine box_event ?hg (N := 8) ?hd (cs := #[.slice none 0 0, .slice none 0 0]) (t := 25) ?hr ?_; (case hd => rfl); (case hg => rfl); (case hr => first | (go_simp; done) | (go_simp; rfl)); intro gb188 hg w29 hbox hb; have n0_ := Aside0.mk (Kd.V_below (Kd.V_elderB (Zv HO0_0.out) gb188 (Nat.le_of_eq hg.symm)) hb); have n1_ := Aside0.mk (blk_below (g := gb187) (o := .cells #[.slice A0_0 l0_0.length c0_0, .slice A0_1 l0_1.length c0_1] 25 (0, 0)) (Zb BK187.out) hb); have n2_ := Aside0.mk (below_step (Z1 HB GE187) hb); have n3_ := Aside0.mk (hbox); have n4_ := Aside0.mk ((by rw [hg]; exact (below_size (Z1 HB GE187)) : w.heap.size ≤ gb188)); have n5_ := Aside0.mk ((by rw [hg]; exact (below_size (Z1 HB GE187)) : w.heap.size ≤ gb188)); have n6_ := Aside0.mk ((by rw [hg]; exact Nat.ne_of_lt (blk_lt (g := gb187) (o := .cells #[.slice A0_0 l0_0.length c0_0, .slice A0_1 l0_1.length c0_1] 25 (0, 0)) (Zb BK187.out)) : gb187 ≠ gb188)); have n7_ := Aside0.mk ((by rw [hg]; exact Nat.ne_of_gt (blk_lt (g := gb187) (o := .cells #[.slice A0_0 l0_0.length c0_0, .slice A0_1 l0_1.length c0_1] 25 (0, 0)) (Zb BK187.out)) : gb188 ≠ gb187)); clear HO0_0; clear BK187; clear HB; have HO0_0 := n0_; have BK187 := n1_; have HB := n2_; have BK188 := n3_; have GW188 := n4_; have GE188 := n5_; have NB187_188 := n6_; have NB188_187 := n7_; clear n0_ n1_ n2_ n3_ n4_ n5_ n6_ n7_; clear hb hbox hg; have hnb30 := NB187_188.out; have hnc30 := NB188_187.out; have hcz31_0 : w29.cell? ⟨gb187, 0, none⟩ = some (.slice A0_0 l0_0.length c0_0) := (blk_cell BK187.out 0).trans rfl; have hcz31_1 : w29.cell? ⟨gb187, 1, none⟩ = some (.slice A0_1 l0_1.length c0_1) := (blk_cell BK187.out 1).trans rfl; have hfz31_0 := blk_frozen BK187.out 0; have hfz31_1 := blk_frozen BK187.out 1) | ((with_reducible refine gate_callee (f := 13) rfl ?_); refine goesL_ (some 13) rfl rfl Try.func13 (by kernel_rfl) rfl #[.agg #[.slice A0_0 l0_0.length c0_0, .slice A0_1 l0_1.length c0_1]] rfl (by (try simp only [List.map_toArray, List.map_cons, List.map_nil]); first | done | rfl | (simp only [List.length_drop, List.length_take]; rfl)) ?_; (with_reducible refine (network_Check.calls k _ _ l0_0 _ _ l0_1 t189 _ ?side1 ?side2 ?side3 ?side4 A5.out).mono ?_); (case side1 => repeat (first | exact (Kd.V_reads' HO0_0.out).2.2 | (with_reducible refine Kd.C_alloc ?_ _) | (with_reducible refine Kd.C_drewN ?_ _) | (with_reducible refine Kd.C_drew ?_))); (case side2 => exact (Kd.V_reads' HO0_0.out).2.1); (case side3 => repeat (first | exact (Kd.C_below HR0_1.out HB.out) | (with_reducible refine Kd.C_alloc ?_ _) | (with_reducible refine Kd.C_drewN ?_ _) | (with_reducible refine Kd.C_drew ?_))); (case side4 => exact HC0_1.out); rintro e w32 ⟨rfl, hb⟩; refine ⟨_, rfl, ?_⟩; have n0_ := Aside0.mk (Kd.V_below (Zv HO0_0.out) hb); have n1_ := Aside0.mk (blk_below (g := gb187) (o := .cells #[.slice A0_0 l0_0.length c0_0, .slice A0_1 l0_1.length c0_1] 25 (0, 0)) (Zb BK187.out) hb); have n2_ := Aside0.mk (blk_below (g := gb188) (o := .cells #[.slice none 0 0, .slice none 0 0] 25 (0, 0)) (Zb BK188.out) hb); have n3_ := Aside0.mk (below_step (Z2 HB GE187 GE188) hb); clear HO0_0; clear BK187; clear BK188; clear HB; have HO0_0 := n0_; have BK187 := n1_; have BK188 := n2_; have HB := n3_; clear n0_ n1_ n2_ n3_; (try clear hb); (try clear hb2); (try clear hk); (try clear hi)) | ((with_reducible refine gate_callee (f := 37) rfl ?_); refine goesL_ (some 18) rfl rfl Try.func37 (by kernel_rfl) rfl #[.int .i64 a1, .int .i64 a2] rfl (by (try simp only [List.map_toArray, List.map_cons, List.map_nil]); first | done | rfl | (simp only [List.length_drop, List.length_take]; rfl)) ?_; (with_reducible refine (network_between.calls a1 a2 t190 t191 _ A7.out).mono ?_); rintro e w33 ⟨rfl, hb⟩; refine ⟨_, rfl, ?_⟩; have n0_ := Aside0.mk (Kd.V_below (Zv HO0_0.out) hb); have n1_ := Aside0.mk (blk_below (g := gb187) (o := .cells #[.slice A0_0 l0_0.length c0_0, .slice A0_1 l0_1.length c0_1] 25 (0, 0)) (Zb BK187.out) hb); have n2_ := Aside0.mk (blk_below (g := gb188) (o := .cells #[.slice none 0 0, .slice none 0 0] 25 (0, 0)) (Zb BK188.out) hb); have n3_ := Aside0.mk (below_step (Z2 HB GE187 GE188) hb); clear HO0_0; clear BK187; clear BK188; clear HB; have HO0_0 := n0_; have BK187 := n1_; have BK188 := n2_; have HB := n3_; clear n0_ n1_ n2_ n3_; (try clear hb); (try clear hb2); (try clear hk); (try clear hi)) | ((with_reducible refine gate_dst (N := 10) rfl ?_); refine box_event ?hg (N := 10) ?hd (cs := #[.int .i64 0, .int .i64 0]) (t := 58) ?hr ?_; (case hd => rfl); (case hg => rfl); (case hr => first | (go_simp; done) | (go_simp; rfl)); intro gb192 hg w34 hbox hb; have n0_ := Aside0.mk (Kd.V_below (Kd.V_elderB (Zv HO0_0.out) gb192 (Nat.le_of_eq hg.symm)) hb); have n1_ := Aside0.mk (blk_below (g := gb187) (o := .cells #[.slice A0_0 l0_0.length c0_0, .slice A0_1 l0_1.length c0_1] 25 (0, 0)) (Zb BK187.out) hb); have n2_ := Aside0.mk (blk_below (g := gb188) (o := .cells #[.slice none 0 0, .slice none 0 0] 25 (0, 0)) (Zb BK188.out) hb); have n3_ := Aside0.mk (below_step (Z2 HB GE187 GE188) hb); have n4_ := Aside0.mk (hbox); have n5_ := Aside0.mk ((by rw [hg]; exact (below_size (Z2 HB GE187 GE188)) : w.heap.size ≤ gb192)); have n6_ := Aside0.mk ((by rw [hg]; exact (below_size (Z2 HB GE187 GE188)) : w.heap.size ≤ gb192)); have n7_ := Aside0.mk ((by rw [hg]; exact Nat.ne_of_lt (blk_lt (g := gb187) (o := .cells #[.slice A0_0 l0_0.length c0_0, .slice A0_1 l0_1.length c0_1] 25 (0, 0)) (Zb BK187.out)) : gb187 ≠ gb192)); have n8_ := Aside0.mk ((by rw [hg]; exact Nat.ne_of_gt (blk_lt (g := gb187) (o := .cells #[.slice A0_0 l0_0.length c0_0, .slice A0_1 l0_1.length c0_1] 25 (0, 0)) (Zb BK187.out)) : gb192 ≠ gb187)); have n9_ := Aside0.mk ((by rw [hg]; exact Nat.ne_of_lt (blk_lt (g := gb188) (o := .cells #[.slice none 0 0, .slice none 0 0] 25 (0, 0)) (Zb BK188.out)) : gb188 ≠ gb192)); have n10_ := Aside0.mk ((by rw [hg]; exact Nat.ne_of_gt (blk_lt (g := gb188) (o := .cells #[.slice none 0 0, .slice none 0 0] 25 (0, 0)) (Zb BK188.out)) : gb192 ≠ gb188)); clear HO0_0; clear BK187; clear BK188; clear HB; have HO0_0 := n0_; have BK187 := n1_; have BK188 := n2_; have HB := n3_; have BK192 := n4_; have GW192 := n5_; have GE192 := n6_; have NB187_192 := n7_; have NB192_187 := n8_; have NB188_192 := n9_; have NB192_188 := n10_; clear n0_ n1_ n2_ n3_ n4_ n5_ n6_ n7_ n8_ n9_ n10_; clear hb hbox hg; have hnb35 := NB192_187.out; have hnc35 := NB187_192.out; have hnb36 := NB192_188.out; have hnc36 := NB188_192.out; have hcz37_0 : w34.cell? ⟨gb192, 0, none⟩ = some (.int .i64 0) := (blk_cell BK192.out 0).trans rfl; have hcz37_1 : w34.cell? ⟨gb192, 1, none⟩ = some (.int .i64 0) := (blk_cell BK192.out 1).trans rfl; have hfz37_0 := blk_frozen BK192.out 0; have hfz37_1 := blk_frozen BK192.out 1) | ((with_reducible refine gate_callee (f := 32) rfl ?_); refine goesL_ (some 20) rfl rfl Try.func32 (by kernel_rfl) rfl #[.agg #[.int .i64 t190, .int .i64 t191]] rfl (by (try simp only [List.map_toArray, List.map_cons, List.map_nil]); first | done | rfl | (simp only [List.length_drop, List.length_take]; rfl)) ?_; (with_reducible refine (network_link_valid.calls t190 t191 false _ A8.out).mono ?_); rintro e w38 ⟨rfl, hb⟩; refine ⟨_, rfl, ?_⟩; have n0_ := Aside0.mk (Kd.V_below (by refine Zv ?_; exact (Kd.V_mono (Kd.V_far (p := ⟨gb192, 1, none⟩) (Kd.V_far (p := ⟨gb192, 0, none⟩) (Kd.V_mono HO0_0.out (fun k_ hk => (⟨hk, hk.2⟩ : _ ∧ k_ ≠ gb192))) (fun _ hk => hk.2) (.int .i64 t190)) (fun _ hk => hk.2) (.int .i64 t191)) (fun _ h_ => h_.1))) hb); have n1_ := Aside0.mk (blk_below (g := gb187) (o := .cells #[.slice A0_0 l0_0.length c0_0, .slice A0_1 l0_1.length c0_1] 25 (0, 0)) (by refine Zb ?_; refine blk_far ?_ NB187_192.out _; refine Zb ?_; refine blk_far ?_ NB187_192.out _; refine Zb ?_; exact BK187.out) hb); have n2_ := Aside0.mk (blk_below (g := gb188) (o := .cells #[.slice none 0 0, .slice none 0 0] 25 (0, 0)) (by refine Zb ?_; refine blk_far ?_ NB188_192.out _; refine Zb ?_; refine blk_far ?_ NB188_192.out _; refine Zb ?_; exact BK188.out) hb); have n3_ := Aside0.mk (blk_below (g := gb192) (o := .cells #[.int .i64 t190, .int .i64 t191] 58 (0, 0)) (by refine Zb ?_; refine blk_put (cs := #[.int .i64 t190, .int .i64 0]) ?_ 1 _ rfl; refine Zb ?_; refine blk_put (cs := #[.int .i64 0, .int .i64 0]) ?_ 0 _ rfl; refine Zb ?_; exact BK192.out) hb); have n4_ := Aside0.mk (below_step (Z3 HB GE187 GE188 GE192) hb); clear HO0_0; clear BK187; clear BK188; clear BK192; clear HB; have HO0_0 := n0_; have BK187 := n1_; have BK188 := n2_; have BK192 := n3_; have HB := n4_; clear n0_ n1_ n2_ n3_ n4_; (try clear hb); (try clear hb2); (try clear hk); (try clear hi); have hcz39_0 : w38.cell? ⟨gb188, 0, none⟩ = some (.slice none 0 0) := (blk_cell BK188.out 0).trans rfl; have hcz39_1 : w38.cell? ⟨gb188, 1, none⟩ = some (.slice none 0 0) := (blk_cell BK188.out 1).trans rfl; have hfz39_0 := blk_frozen BK188.out 0; have hfz39_1 := blk_frozen BK188.out 1))
   refine bodyPost_ret (results_ct rfl _ _ gb188 25 #[.slice none 0 0, .slice none 0 0] (0, 0) _ rfl (by refine Zb ?_; refine blk_put (cs := #[.slice none 0 0, .slice none 0 0]) ?_ 1 _ rfl; refine Zb ?_; refine blk_put (cs := #[.slice none 0 0, .slice none 0 0]) ?_ 0 _ rfl; refine Zb ?_; exact BK188.out) Try.underlying25 rfl (by kernel_rfl)) rfl ?_
   exact ⟨_, _, by first | rfl | (simp [errW_none, errW_some] <;> rfl) | (simp [*, errW_none, errW_some] <;> rfl), (Kd.V_nil _ _ _ _ _), by first | exact Kd.R_nil _ _ _ _ _ | exact Kd.N_nil _ _ _ _ _ | exact Kd.V_nil _ _ _ _ _ | exact Kd.Q_nil _ _ _ _ _ | exact Kd.S_nil _ _ _ _ _, (Z3 HB GE187 GE188 GE192)⟩
 ·rw [if_neg c6] at H
  have c6b0 : (t189 == 0) = false := beq_eq_false_iff_ne.mpr c6
  have c6b1 : (t189 != 0) = true := bne_iff_ne.mpr c6
  simp only [Option.some.injEq, Prod.mk.injEq] at H
  obtain ⟨rfl, rfl, rfl⟩ := H
  go_enter Try.func20, Try.ntmps20
  go_wp2_with (first | ((with_reducible refine gate_dst (N := 4) rfl ?_); refine box_event ?hg (N := 4) ?hd (cs := #[.slice A0_0 l0_0.length c0_0, .slice A0_1 l0_1.length c0_1]) (t := 25) ?hr ?_; (case hd => rfl); (case hg => rfl); (case hr => first | (go_simp; done) | (go_simp; rfl)); intro gb187 hg w40 hbox hb; have n0_ := Aside0.mk (Kd.V_below (Kd.V_elderB (Zv HO0_0.out) gb187 (Nat.le_of_eq hg.symm)) hb); have n1_ := Aside0.mk (below_step (Z0 HB) hb); have n2_ := Aside0.mk (hbox); have n3_ := Aside0.mk ((by rw [hg]; exact (below_size (Z0 HB)) : w.heap.size ≤ gb187)); have n4_ := Aside0.mk ((by rw [hg]; exact (below_size (Z0 HB)) : w.heap.size ≤ gb187)); clear HO0_0; clear HB; have HO0_0 := n0_; have HB := n1_; have BK187 := n2_; have GW187 := n3_; have GE187 := n4_; clear n0_ n1_ n2_ n3_ n4_; clear hb hbox hg) | ((with_reducible refine gate_dst (N := 8) rfl ?_); refine box_event ?hg (N := 8) ?hd (cs := #[.slice none 0 0, .slice none 0 0]) (t := 25) ?hr ?_; (case hd => rfl); (case hg => rfl); (case hr => first | (go_simp; done) | (go_simp; rfl)); intro gb188 hg w41 hbox hb; have n0_ := Aside0.mk (Kd.V_below (Kd.V_elderB (Zv HO0_0.out) gb188 (Nat.le_of_eq hg.symm)) hb); have n1_ := Aside0.mk (blk_below (g := gb187) (o := .cells #[.slice A0_0 l0_0.length c0_0, .slice A0_1 l0_1.length c0_1] 25 (0, 0)) (Zb BK187.out) hb); have n2_ := Aside0.mk (below_step (Z1 HB GE187) hb); have n3_ := Aside0.mk (hbox); have n4_ := Aside0.mk ((by rw [hg]; exact (below_size (Z1 HB GE187)) : w.heap.size ≤ gb188)); have n5_ := Aside0.mk ((by rw [hg]; exact (below_size (Z1 HB GE187)) : w.heap.size ≤ gb188)); have n6_ := Aside0.mk ((by rw [hg]; exact Nat.ne_of_lt (blk_lt (g := gb187) (o := .cells #[.slice A0_0 l0_0.length c0_0, .slice A0_1 l0_1.length c0_1] 25 (0, 0)) (Zb BK187.out)) : gb187 ≠ gb188)); have n7_ := Aside0.mk ((by rw [hg]; exact Nat.ne_of_gt (blk_lt (g := gb187) (o := .cells #[.slice A0_0 l0_0.length c0_0, .slice A0_1 l0_1.length c0_1] 25 (0, 0)) (Zb BK187.out)) : gb188 ≠ gb187)); clear HO0_0; clear BK187; clear HB; have HO0_0 := n0_; have BK187 := n1_; have HB := n2_; have BK188 := n3_; have GW188 := n4_; have GE188 := n5_; have NB187_188 := n6_; have NB188_187 := n7_; clear n0_ n1_ n2_ n3_ n4_ n5_ n6_ n7_; clear hb hbox hg; have hnb42 := NB187_188.out; have hnc42 := NB188_187.out; have hcz43_0 : w41.cell? ⟨gb187, 0, none⟩ = some (.slice A0_0 l0_0.length c0_0) := (blk_cell BK187.out 0).trans rfl; have hcz43_1 : w41.cell? ⟨gb187, 1, none⟩ = some (.slice A0_1 l0_1.length c0_1) := (blk_cell BK187.out 1).trans rfl; have hfz43_0 := blk_frozen BK187.out 0; have hfz43_1 := blk_frozen BK187.out 1) | ((with_reducible refine gate_callee (f := 13) rfl ?_); refine goesL_ (some 13) rfl rfl Try.func13 (by kernel_rfl) rfl #[.agg #[.slice A0_0 l0_0.length c0_0, .slice A0_1 l0_1.length c0_1]] rfl (by (try simp only [List.map_toArray, List.map_cons, List.map_nil]); first | done | rfl | (simp only [List.length_drop, List.length_take]; rfl)) ?_; (with_reducible refine (network_Check.calls k _ _ l0_0 _ _ l0_1 t189 _ ?side1 ?side2 ?side3 ?side4 A5.out).mono ?_); (case side1 => repeat (first | exact (Kd.V_reads' HO0_0.out).2.2 | (with_reducible refine Kd.C_alloc ?_ _) | (with_reducible refine Kd.C_drewN ?_ _) | (with_reducible refine Kd.C_drew ?_))); (case side2 => exact (Kd.V_reads' HO0_0.out).2.1); (case side3 => repeat (first | exact (Kd.C_below HR0_1.out HB.out) | (with_reducible refine Kd.C_alloc ?_ _) | (with_reducible refine Kd.C_drewN ?_ _) | (with_reducible refine Kd.C_drew ?_))); (case side4 => exact HC0_1.out); rintro e w44 ⟨rfl, hb⟩; refine ⟨_, rfl, ?_⟩; have n0_ := Aside0.mk (Kd.V_below (Zv HO0_0.out) hb); have n1_ := Aside0.mk (blk_below (g := gb187) (o := .cells #[.slice A0_0 l0_0.length c0_0, .slice A0_1 l0_1.length c0_1] 25 (0, 0)) (Zb BK187.out) hb); have n2_ := Aside0.mk (blk_below (g := gb188) (o := .cells #[.slice none 0 0, .slice none 0 0] 25 (0, 0)) (Zb BK188.out) hb); have n3_ := Aside0.mk (below_step (Z2 HB GE187 GE188) hb); clear HO0_0; clear BK187; clear BK188; clear HB; have HO0_0 := n0_; have BK187 := n1_; have BK188 := n2_; have HB := n3_; clear n0_ n1_ n2_ n3_; (try clear hb); (try clear hb2); (try clear hk); (try clear hi); have hcz45_0 : w44.cell? ⟨gb188, 0, none⟩ = some (.slice none 0 0) := (blk_cell BK188.out 0).trans rfl; have hcz45_1 : w44.cell? ⟨gb188, 1, none⟩ = some (.slice none 0 0) := (blk_cell BK188.out 1).trans rfl; have hfz45_0 := blk_frozen BK188.out 0; have hfz45_1 := blk_frozen BK188.out 1))
  refine bodyPost_ret (results_ct rfl _ _ gb188 25 #[.slice none 0 0, .slice none 0 0] (0, 0) _ rfl (by refine Zb ?_; refine blk_put (cs := #[.slice none 0 0, .slice none 0 0]) ?_ 1 _ rfl; refine Zb ?_; refine blk_put (cs := #[.slice none 0 0, .slice none 0 0]) ?_ 0 _ rfl; refine Zb ?_; exact BK188.out) Try.underlying25 rfl (by kernel_rfl)) rfl ?_
  exact ⟨_, _, by first | rfl | (simp [errW_none, errW_some] <;> rfl) | (simp [*, errW_none, errW_some] <;> rfl), (Kd.V_nil _ _ _ _ _), by first | exact Kd.R_nil _ _ _ _ _ | exact Kd.N_nil _ _ _ _ _ | exact Kd.V_nil _ _ _ _ _ | exact Kd.Q_nil _ _ _ _ _ | exact Kd.S_nil _ _ _ _ _, (Z2 HB GE187 GE188)⟩

end

/-! ### network_Repeat: function 25 -/
def network_Repeat.f (k : Nat) (l0_0 : List (S28)) (l0_1 : List (S55)) (a1 : Int) : Option ((List (S28)) × (List (S55)) × Int) := (network_at.f k l0_0 l0_1 a1).bind fun bt199 => (if bt199.2.2.2 = 0 then ((network_Send.f k l0_0 l0_1 bt199.1 bt199.2.1 bt199.2.2.1).bind fun bt206 => (some (bt206.1, bt206.2.1, bt206.2.2))) else (some (([] : List (S28)), ([] : List (S55)), bt199.2.2.2)))
theorem network_Repeat.mono : ∀ a0 a1 a2 k, LeO (network_Repeat.f k a0 a1 a2) (network_Repeat.f (k + 1) a0 a1 a2) := by
 intro a0 a1 a2 k
 unfold network_Repeat.f
 repeat' first
   | (with_reducible exact network_Send.mono _ _ _ _ _ _)
   | (with_reducible exact network_at.mono _ _ _ _)
   | (with_reducible exact LeO.refl _)
   | (with_reducible exact LeO.none _)
   | (with_reducible refine LeO.ite ?_ ?_)
   | (with_reducible refine LeO.bind ?_ (fun _ => ?_))
   | exact network_Send.mono _ _ _ _ _ _
   | exact network_at.mono _ _ _ _
   | exact LeO.none _
   | refine LeO.ite ?_ ?_
   | refine LeO.bind ?_ (fun _ => ?_)
set_option maxHeartbeats 8000000 in
set_option maxRecDepth 100000 in
theorem network_Repeat.calls (k : Nat) (P0_0_ : Nat → Prop) (A0_0 : Option Addr) (c0_0 : Nat) (l0_0 : List (S28)) (P0_1_ : Nat → Prop) (A0_1 : Option Addr) (c0_1 : Nat) (l0_1 : List (S55)) (a1 : Int) (r1 : List (S28)) (r2 : List (S55)) (r3 : Int) (w : World) (hs0_0 : Kd.V k28 28 w w.heap.size (fun k_ => P0_0_ k_) (.slice A0_0 l0_0.length c0_0) l0_0) (hs0_1 : Kd.V k55 55 w w.heap.size (fun k_ => P0_1_ k_) (.slice A0_1 l0_1.length c0_1) l0_1) (h : network_Repeat.f k l0_0 l0_1 a1 = some (r1, r2, r3)) :
  Calls Try.prog 25 #[.agg #[.slice A0_0 l0_0.length c0_0, .slice A0_1 l0_1.length c0_1], .int .i64 a1] w fun e w' => ∃ v0_ v1_ : Value, e = .returned (.tuple #[.agg #[v0_, v1_], .int .i64 r3]) ∧ Kd.V k28 28 w' w.heap.size (fun k_ => ((P0_0_ k_ ∨ P0_1_ k_) ∨ w.heap.size ≤ k_)) v0_ r1 ∧ Kd.V k55 55 w' w.heap.size (fun k_ => ((P0_0_ k_ ∨ P0_1_ k_) ∨ w.heap.size ≤ k_)) v1_ r2 ∧ Below w.heap.size w w' := by
 have hu25 := Try.underlying25
 have hu28 := Try.underlying28
 have HO0_0 := Aside0.mk (show Kd.V k28 28 w w.heap.size (fun k_ => ((P0_0_ k_ ∨ P0_1_ k_) ∨ w.heap.size ≤ k_)) (.slice A0_0 l0_0.length c0_0) l0_0 from Kd.V_mono hs0_0 (fun k_ hk => .inl (.inl hk)))
 have HO0_1 := Aside0.mk (show Kd.V k55 55 w w.heap.size (fun k_ => ((P0_0_ k_ ∨ P0_1_ k_) ∨ w.heap.size ≤ k_)) (.slice A0_1 l0_1.length c0_1) l0_1 from Kd.V_mono hs0_1 (fun k_ hk => .inl (.inr hk)))
 have HB := Aside0.mk (Below.refl w.heap.size w)
 have H : ((network_at.f k l0_0 l0_1 a1).bind fun bt199 => (if bt199.2.2.2 = 0 then ((network_Send.f k l0_0 l0_1 bt199.1 bt199.2.1 bt199.2.2.1).bind fun bt206 => (some (bt206.1, bt206.2.1, bt206.2.2))) else (some (([] : List (S28)), ([] : List (S55)), bt199.2.2.2)))) = some (r1, r2, r3) := h
 clear h
 replace H := Option.bind_eq_some_iff.mp H
 obtain ⟨⟨t199, t200, t201, t204⟩, A30, H⟩ := H
 replace H : (if t204 = 0 then ((network_Send.f k l0_0 l0_1 t199 t200 t201).bind fun bt206 => (some (bt206.1, bt206.2.1, bt206.2.2))) else (some (([] : List (S28)), ([] : List (S55)), t204))) = some (r1, r2, r3) := H
 have A3 := Aside0.mk A30
 clear A30
 by_cases c4 : t204 = 0
 ·rw [if_pos c4] at H
  have c4b0 : (t204 == 0) = true := beq_iff_eq.mpr c4
  have c4b1 : (t204 != 0) = false := bne_eq_false_iff_eq.mpr c4
  clear c4
  replace H := Option.bind_eq_some_iff.mp H
  obtain ⟨⟨t206, t209, t212⟩, A50, H⟩ := H
  replace H : (some (t206, t209, t212)) = some (r1, r2, r3) := H
  have A5 := Aside0.mk A50
  clear A50
  simp only [Option.some.injEq, Prod.mk.injEq] at H
  obtain ⟨rfl, rfl, rfl⟩ := H
  go_enter Try.func25, Try.ntmps25
  go_wp2_with (first | ((with_reducible refine gate_dst (N := 2) rfl ?_); refine box_event ?hg (N := 2) ?hd (cs := #[.slice A0_0 l0_0.length c0_0, .slice A0_1 l0_1.length c0_1]) (t := 25) ?hr ?_; (case hd => rfl); (case hg => rfl); (case hr => first | (go_simp; done) | (go_simp; rfl)); intro gb197 hg w6 hbox hb; have n0_ := Aside0.mk (Kd.V_below (Kd.V_elderB (Zv HO0_0.out) gb197 (Nat.le_of_eq hg.symm)) hb); have n1_ := Aside0.mk (Kd.V_below (Kd.V_elderB (Zv HO0_1.out) gb197 (Nat.le_of_eq hg.symm)) hb); have n2_ := Aside0.mk (below_step (Z0 HB) hb); have n3_ := Aside0.mk (hbox); have n4_ := Aside0.mk ((by rw [hg]; exact (below_size (Z0 HB)) : w.heap.size ≤ gb197)); have n5_ := Aside0.mk ((by rw [hg]; exact (below_size (Z0 HB)) : w.heap.size ≤ gb197)); clear HO0_0; clear HO0_1; clear HB; have HO0_0 := n0_; have HO0_1 := n1_; have HB := n2_; have BK197 := n3_; have GW197 := n4_; have GE197 := n5_; clear n0_ n1_ n2_ n3_ n4_ n5_; clear hb hbox hg) | ((with_reducible refine gate_dst (N := 4) rfl ?_); refine box_event ?hg (N := 4) ?hd (cs := #[.slice none 0 0, .slice none 0 0]) (t := 25) ?hr ?_; (case hd => rfl); (case hg => rfl); (case hr => first | (go_simp; done) | (go_simp; rfl)); intro gb198 hg w7 hbox hb; have n0_ := Aside0.mk (Kd.V_below (Kd.V_elderB (Zv HO0_0.out) gb198 (Nat.le_of_eq hg.symm)) hb); have n1_ := Aside0.mk (Kd.V_below (Kd.V_elderB (Zv HO0_1.out) gb198 (Nat.le_of_eq hg.symm)) hb); have n2_ := Aside0.mk (blk_below (g := gb197) (o := .cells #[.slice A0_0 l0_0.length c0_0, .slice A0_1 l0_1.length c0_1] 25 (0, 0)) (Zb BK197.out) hb); have n3_ := Aside0.mk (below_step (Z1 HB GE197) hb); have n4_ := Aside0.mk (hbox); have n5_ := Aside0.mk ((by rw [hg]; exact (below_size (Z1 HB GE197)) : w.heap.size ≤ gb198)); have n6_ := Aside0.mk ((by rw [hg]; exact (below_size (Z1 HB GE197)) : w.heap.size ≤ gb198)); have n7_ := Aside0.mk ((by rw [hg]; exact Nat.ne_of_lt (blk_lt (g := gb197) (o := .cells #[.slice A0_0 l0_0.length c0_0, .slice A0_1 l0_1.length c0_1] 25 (0, 0)) (Zb BK197.out)) : gb197 ≠ gb198)); have n8_ := Aside0.mk ((by rw [hg]; exact Nat.ne_of_gt (blk_lt (g := gb197) (o := .cells #[.slice A0_0 l0_0.length c0_0, .slice A0_1 l0_1.length c0_1] 25 (0, 0)) (Zb BK197.out)) : gb198 ≠ gb197)); clear HO0_0; clear HO0_1; clear BK197; clear HB; have HO0_0 := n0_; have HO0_1 := n1_; have BK197 := n2_; have HB := n3_; have BK198 := n4_; have GW198 := n5_; have GE198 := n6_; have NB197_198 := n7_; have NB198_197 := n8_; clear n0_ n1_ n2_ n3_ n4_ n5_ n6_ n7_ n8_; clear hb hbox hg; have hnb8 := NB197_198.out; have hnc8 := NB198_197.out; have hcz9_0 : w7.cell? ⟨gb197, 0, none⟩ = some (.slice A0_0 l0_0.length c0_0) := (blk_cell BK197.out 0).trans rfl; have hcz9_1 : w7.cell? ⟨gb197, 1, none⟩ = some (.slice A0_1 l0_1.length c0_1) := (blk_cell BK197.out 1).trans rfl; have hfz9_0 := blk_frozen BK197.out 0; have hfz9_1 := blk_frozen BK197.out 1) | ((with_reducible refine gate_callee (f := 35) rfl ?_); refine goesL_ (some 10) rfl rfl Try.func35 (by kernel_rfl) rfl #[.agg #[.slice A0_0 l0_0.length c0_0, .slice A0_1 l0_1.length c0_1], .int .i64 a1] rfl (by (try simp only [List.map_toArray, List.map_cons, List.map_nil]); first | done | rfl | (simp only [List.length_drop, List.length_take]; rfl)) ?_; (with_reducible refine (network_at.calls k (fun k_ => ((((P0_0_ k_ ∨ P0_1_ k_) ∨ w.heap.size ≤ k_) ∧ k_ ≠ gb197) ∧ k_ ≠ gb198)) _ _ l0_0 _ _ l0_1 a1 t199 t200 t201 t204 _ ?side1 ?side2 ?side3 A3.out).mono ?_); (case side1 => exact HO0_0.out); (case side2 => repeat (first | exact (Kd.V_reads' HO0_1.out).2.2 | (with_reducible refine Kd.C_alloc ?_ _) | (with_reducible refine Kd.C_drewN ?_ _) | (with_reducible refine Kd.C_drew ?_))); (case side3 => exact (Kd.V_reads' HO0_1.out).2.1); rintro e w10 ⟨v202, rfl, ho0, hb⟩; refine ⟨_, rfl, ?_⟩; have n0_ := Aside0.mk (Kd.V_below (Zv HO0_0.out) hb); have n1_ := Aside0.mk (Kd.V_below (Zv HO0_1.out) hb); have n2_ := Aside0.mk (Kd.V_lower (Kd.V_mono (ok' := fun k_ => ((P0_0_ k_ ∨ P0_1_ k_) ∨ w.heap.size ≤ k_) ∧ k_ ≠ gb197 ∧ k_ ≠ gb198) ho0 (fun k_ hk_ => ⟨Or.elim hk_ (fun hs_ => hs_.1.1) (fun hn_ => (.inr (Nat.le_trans (below_size (Z2 HB GE197 GE198)) hn_))), Or.elim hk_ (fun hs_ => hs_.1.2) (fun hn_ => (Kd.freshB (g := gb197) (o := .cells #[.slice A0_0 l0_0.length c0_0, .slice A0_1 l0_1.length c0_1] 25 (0, 0)) (Zb BK197.out) k_ hn_)), Or.elim hk_ (fun hs_ => hs_.2) (fun hn_ => (Kd.freshB (g := gb198) (o := .cells #[.slice none 0 0, .slice none 0 0] 25 (0, 0)) (Zb BK198.out) k_ hn_))⟩)) (below_size (Z2 HB GE197 GE198))); have n3_ := Aside0.mk (blk_below (g := gb197) (o := .cells #[.slice A0_0 l0_0.length c0_0, .slice A0_1 l0_1.length c0_1] 25 (0, 0)) (Zb BK197.out) hb); have n4_ := Aside0.mk (blk_below (g := gb198) (o := .cells #[.slice none 0 0, .slice none 0 0] 25 (0, 0)) (Zb BK198.out) hb); have n5_ := Aside0.mk (below_step (Z2 HB GE197 GE198) hb); clear HO0_0; clear HO0_1; clear BK197; clear BK198; clear HB; have HO0_0 := n0_; have HO0_1 := n1_; have HO203 := n2_; have BK197 := n3_; have BK198 := n4_; have HB := n5_; clear n0_ n1_ n2_ n3_ n4_ n5_; (try clear hb); (try clear hb2); (try clear hk); (try clear hi); (try clear ho0)) | ((with_reducible refine gate_dst (N := 6) rfl ?_); refine box_event ?hg (N := 6) ?hd (cs := #[.int .i64 0, .int .i64 0, .slice none 0 0]) (t := 28) ?hr ?_; (case hd => rfl); (case hg => rfl); (case hr => first | (go_simp; done) | (go_simp; rfl)); intro gb205 hg w11 hbox hb; have n0_ := Aside0.mk (Kd.V_below (Kd.V_elderB (Zv HO0_0.out) gb205 (Nat.le_of_eq hg.symm)) hb); have n1_ := Aside0.mk (Kd.V_below (Kd.V_elderB (Zv HO0_1.out) gb205 (Nat.le_of_eq hg.symm)) hb); have n2_ := Aside0.mk (Kd.V_below (Kd.V_elderB (Zv HO203.out) gb205 (Nat.le_of_eq hg.symm)) hb); have n3_ := Aside0.mk (blk_below (g := gb197) (o := .cells #[.slice A0_0 l0_0.length c0_0, .slice A0_1 l0_1.length c0_1] 25 (0, 0)) (Zb BK197.out) hb); have n4_ := Aside0.mk (blk_below (g := gb198) (o := .cells #[.slice none 0 0, .slice none 0 0] 25 (0, 0)) (Zb BK198.out) hb); have n5_ := Aside0.mk (below_step (Z2 HB GE197 GE198) hb); have n6_ := Aside0.mk (hbox); have n7_ := Aside0.mk ((by rw [hg]; exact (below_size (Z2 HB GE197 GE198)) : w.heap.size ≤ gb205)); have n8_ := Aside0.mk ((by rw [hg]; exact (below_size (Z2 HB GE197 GE198)) : w.heap.size ≤ gb205)); have n9_ := Aside0.mk ((by rw [hg]; exact Nat.ne_of_lt (blk_lt (g := gb197) (o := .cells #[.slice A0_0 l0_0.length c0_0, .slice A0_1 l0_1.length c0_1] 25 (0, 0)) (Zb BK197.out)) : gb197 ≠ gb205)); have n10_ := Aside0.mk ((by rw [hg]; exact Nat.ne_of_gt (blk_lt (g := gb197) (o := .cells #[.slice A0_0 l0_0.length c0_0, .slice A0_1 l0_1.length c0_1] 25 (0, 0)) (Zb BK197.out)) : gb205 ≠ gb197)); have n11_ := Aside0.mk ((by rw [hg]; exact Nat.ne_of_lt (blk_lt (g := gb198) (o := .cells #[.slice none 0 0, .slice none 0 0] 25 (0, 0)) (Zb BK198.out)) : gb198 ≠ gb205)); have n12_ := Aside0.mk ((by rw [hg]; exact Nat.ne_of_gt (blk_lt (g := gb198) (o := .cells #[.slice none 0 0, .slice none 0 0] 25 (0, 0)) (Zb BK198.out)) : gb205 ≠ gb198)); clear HO0_0; clear HO0_1; clear HO203; clear BK197; clear BK198; clear HB; have HO0_0 := n0_; have HO0_1 := n1_; have HO203 := n2_; have BK197 := n3_; have BK198 := n4_; have HB := n5_; have BK205 := n6_; have GW205 := n7_; have GE205 := n8_; have NB197_205 := n9_; have NB205_197 := n10_; have NB198_205 := n11_; have NB205_198 := n12_; clear n0_ n1_ n2_ n3_ n4_ n5_ n6_ n7_ n8_ n9_ n10_ n11_ n12_; clear hb hbox hg; have hnb12 := NB205_197.out; have hnc12 := NB197_205.out; have hnb13 := NB205_198.out; have hnc13 := NB198_205.out; have hcz14_0 : w11.cell? ⟨gb205, 0, none⟩ = some (.int .i64 0) := (blk_cell BK205.out 0).trans rfl; have hcz14_1 : w11.cell? ⟨gb205, 1, none⟩ = some (.int .i64 0) := (blk_cell BK205.out 1).trans rfl; have hcz14_2 : w11.cell? ⟨gb205, 2, none⟩ = some (.slice none 0 0) := (blk_cell BK205.out 2).trans rfl; have hfz14_0 := blk_frozen BK205.out 0; have hfz14_1 := blk_frozen BK205.out 1; have hfz14_2 := blk_frozen BK205.out 2; obtain ⟨Ao15, co15, eo15⟩ := Kd.V_slice HO203.out; subst eo15) | ((with_reducible refine gate_store (t := 28) (p := 6) rfl ?_); refine store_event (t := 28) (p := 6) (v := ?vo_w16) (w1 := (((w11.setCell ⟨gb205, 0, none⟩ (.int .i64 t199)).setCell ⟨gb205, 1, none⟩ (.int .i64 t200)).setCell ⟨gb205, 2, none⟩ (.slice Ao15 t201.length co15))) ?hg ?ho ?hn ?hr ?_; (case ho => rfl); (case hg => rfl); (case hn => rfl); (case hr => first | (go_simp; done) | (go_simp; rfl)); intro w16 hw; have n0_ : Aside0 (Kd.V k28 28 w16 w.heap.size (fun k_ => ((P0_0_ k_ ∨ P0_1_ k_) ∨ w.heap.size ≤ k_) ∧ k_ ≠ gb197 ∧ k_ ≠ gb198 ∧ k_ ≠ gb205) (.slice A0_0 l0_0.length c0_0) l0_0) := ⟨(by rw [hw]; exact (by refine Zv ?_; exact Kd.V_mono (Kd.V_far (p := ⟨gb205, 2, none⟩) (Kd.V_far (p := ⟨gb205, 1, none⟩) (Kd.V_far (p := ⟨gb205, 0, none⟩) (Kd.V_mono HO0_0.out (fun k_ hk => (⟨hk, hk.2⟩ : _ ∧ k_ ≠ gb205))) (fun _ hk => hk.2) (.int .i64 t199)) (fun _ hk => hk.2) (.int .i64 t200)) (fun _ hk => hk.2) (.slice Ao15 t201.length co15)) (fun _ hk => ⟨hk.1.1.1.1, ⟨hk.1.1.1.2, ⟨hk.1.1.2, hk.1.2⟩⟩⟩)))⟩; have n1_ : Aside0 (Kd.V k55 55 w16 w.heap.size (fun k_ => ((P0_0_ k_ ∨ P0_1_ k_) ∨ w.heap.size ≤ k_) ∧ k_ ≠ gb197 ∧ k_ ≠ gb198 ∧ k_ ≠ gb205) (.slice A0_1 l0_1.length c0_1) l0_1) := ⟨(by rw [hw]; exact (by refine Zv ?_; exact Kd.V_mono (Kd.V_far (p := ⟨gb205, 2, none⟩) (Kd.V_far (p := ⟨gb205, 1, none⟩) (Kd.V_far (p := ⟨gb205, 0, none⟩) (Kd.V_mono HO0_1.out (fun k_ hk => (⟨hk, hk.2⟩ : _ ∧ k_ ≠ gb205))) (fun _ hk => hk.2) (.int .i64 t199)) (fun _ hk => hk.2) (.int .i64 t200)) (fun _ hk => hk.2) (.slice Ao15 t201.length co15)) (fun _ hk => ⟨hk.1.1.1.1, ⟨hk.1.1.1.2, ⟨hk.1.1.2, hk.1.2⟩⟩⟩)))⟩; have n2_ : Aside0 (Kd.V (Kd.int .u8) 5 w16 w.heap.size (fun k_ => ((P0_0_ k_ ∨ P0_1_ k_) ∨ w.heap.size ≤ k_) ∧ k_ ≠ gb197 ∧ k_ ≠ gb198 ∧ k_ ≠ gb205) (.slice Ao15 t201.length co15) t201) := ⟨(by rw [hw]; exact (by refine Zv ?_; exact Kd.V_mono (Kd.V_far (p := ⟨gb205, 2, none⟩) (Kd.V_far (p := ⟨gb205, 1, none⟩) (Kd.V_far (p := ⟨gb205, 0, none⟩) (Kd.V_mono HO203.out (fun k_ hk => (⟨hk, hk.2⟩ : _ ∧ k_ ≠ gb205))) (fun _ hk => hk.2) (.int .i64 t199)) (fun _ hk => hk.2) (.int .i64 t200)) (fun _ hk => hk.2) (.slice Ao15 t201.length co15)) (fun _ hk => ⟨hk.1.1.1, ⟨hk.1.1.2.1, ⟨hk.1.1.2.2, hk.1.2⟩⟩⟩)))⟩; have n3_ : Aside0 (w16.heap[gb197]? = some (.cells #[.slice A0_0 l0_0.length c0_0, .slice A0_1 l0_1.length c0_1] 25 (0, 0))) := ⟨(by rw [hw]; exact (by refine Zb ?_; refine blk_far ?_ NB197_205.out _; refine Zb ?_; refine blk_far ?_ NB197_205.out _; refine Zb ?_; refine blk_far ?_ NB197_205.out _; refine Zb ?_; exact BK197.out))⟩; have n4_ : Aside0 (w16.heap[gb198]? = some (.cells #[.slice none 0 0, .slice none 0 0] 25 (0, 0))) := ⟨(by rw [hw]; exact (by refine Zb ?_; refine blk_far ?_ NB198_205.out _; refine Zb ?_; refine blk_far ?_ NB198_205.out _; refine Zb ?_; refine blk_far ?_ NB198_205.out _; refine Zb ?_; exact BK198.out))⟩; have n5_ : Aside0 (w16.heap[gb205]? = some (.cells #[.int .i64 t199, .int .i64 t200, .slice Ao15 t201.length co15] 28 (0, 0))) := ⟨(by rw [hw]; exact (by refine Zb ?_; refine blk_put (cs := #[.int .i64 t199, .int .i64 t200, .slice none 0 0]) ?_ 2 _ rfl; refine Zb ?_; refine blk_put (cs := #[.int .i64 t199, .int .i64 0, .slice none 0 0]) ?_ 1 _ rfl; refine Zb ?_; refine blk_put (cs := #[.int .i64 0, .int .i64 0, .slice none 0 0]) ?_ 0 _ rfl; refine Zb ?_; exact BK205.out))⟩; have n6_ : Aside0 (Below w.heap.size w w16) := ⟨(by rw [hw]; exact (Z3 HB GE197 GE198 GE205))⟩; clear hw; clear HO0_0; clear HO0_1; clear HO203; clear BK197; clear BK198; clear BK205; clear HB; have HO0_0 := n0_; have HO0_1 := n1_; have HO203 := n2_; have BK197 := n3_; have BK198 := n4_; have BK205 := n5_; have HB := n6_; clear n0_ n1_ n2_ n3_ n4_ n5_ n6_; have hcz17_0 : w16.cell? ⟨gb197, 0, none⟩ = some (.slice A0_0 l0_0.length c0_0) := (blk_cell BK197.out 0).trans rfl; have hcz17_1 : w16.cell? ⟨gb197, 1, none⟩ = some (.slice A0_1 l0_1.length c0_1) := (blk_cell BK197.out 1).trans rfl; have hfz17_0 := blk_frozen BK197.out 0; have hfz17_1 := blk_frozen BK197.out 1; have hcz18_0 : w16.cell? ⟨gb205, 0, none⟩ = some (.int .i64 t199) := (blk_cell BK205.out 0).trans rfl; have hcz18_1 : w16.cell? ⟨gb205, 1, none⟩ = some (.int .i64 t200) := (blk_cell BK205.out 1).trans rfl; have hcz18_2 : w16.cell? ⟨gb205, 2, none⟩ = some (.slice Ao15 t201.length co15) := (blk_cell BK205.out 2).trans rfl; have hfz18_0 := blk_frozen BK205.out 0; have hfz18_1 := blk_frozen BK205.out 1; have hfz18_2 := blk_frozen BK205.out 2) | ((with_reducible refine gate_callee (f := 11) rfl ?_); refine goesL_ (some 19) rfl rfl Try.func11 (by kernel_rfl) rfl #[.agg #[.slice A0_0 l0_0.length c0_0, .slice A0_1 l0_1.length c0_1], .agg #[.int .i64 t199, .int .i64 t200, .slice Ao15 t201.length co15]] rfl (by (try simp only [List.map_toArray, List.map_cons, List.map_nil]); first | done | rfl | (simp only [List.length_drop, List.length_take]; rfl)) ?_; (with_reducible refine (network_Send.calls k (fun k_ => (((P0_0_ k_ ∨ P0_1_ k_) ∨ w.heap.size ≤ k_) ∧ (k_ ≠ gb197 ∧ (k_ ≠ gb198 ∧ k_ ≠ gb205)))) _ _ l0_0 (fun k_ => (((P0_0_ k_ ∨ P0_1_ k_) ∨ w.heap.size ≤ k_) ∧ (k_ ≠ gb197 ∧ (k_ ≠ gb198 ∧ k_ ≠ gb205)))) _ _ l0_1 t199 t200 (fun k_ => (((P0_0_ k_ ∨ P0_1_ k_) ∨ w.heap.size ≤ k_) ∧ (k_ ≠ gb197 ∧ (k_ ≠ gb198 ∧ k_ ≠ gb205)))) _ _ t201 t206 t209 t212 _ ?side1 ?side2 ?side3 A5.out).mono ?_); (case side1 => exact HO0_0.out); (case side2 => exact HO0_1.out); (case side3 => exact HO203.out); rintro e w19 ⟨v207, v210, rfl, ho0, ho1, hb⟩; refine ⟨_, rfl, ?_⟩; have n0_ := Aside0.mk (Kd.V_below (Zv HO0_0.out) hb); have n1_ := Aside0.mk (Kd.V_below (Zv HO0_1.out) hb); have n2_ := Aside0.mk (Kd.V_below (Zv HO203.out) hb); have n3_ := Aside0.mk (Kd.V_lower (Kd.V_mono (ok' := fun k_ => ((P0_0_ k_ ∨ P0_1_ k_) ∨ w.heap.size ≤ k_) ∧ k_ ≠ gb197 ∧ k_ ≠ gb198 ∧ k_ ≠ gb205) ho0 (fun k_ hk_ => ⟨Or.elim hk_ (fun hs_ => Or.elim hs_ (fun hs_ => hs_.1) (fun hs_ => Or.elim hs_ (fun hs_ => hs_.1) (fun hs_ => hs_.1))) (fun hn_ => (.inr (Nat.le_trans (below_size (Z3 HB GE197 GE198 GE205)) hn_))), Or.elim hk_ (fun hs_ => Or.elim hs_ (fun hs_ => hs_.2.1) (fun hs_ => Or.elim hs_ (fun hs_ => hs_.2.1) (fun hs_ => hs_.2.1))) (fun hn_ => (Kd.freshB (g := gb197) (o := .cells #[.slice A0_0 l0_0.length c0_0, .slice A0_1 l0_1.length c0_1] 25 (0, 0)) (Zb BK197.out) k_ hn_)), Or.elim hk_ (fun hs_ => Or.elim hs_ (fun hs_ => hs_.2.2.1) (fun hs_ => Or.elim hs_ (fun hs_ => hs_.2.2.1) (fun hs_ => hs_.2.2.1))) (fun hn_ => (Kd.freshB (g := gb198) (o := .cells #[.slice none 0 0, .slice none 0 0] 25 (0, 0)) (Zb BK198.out) k_ hn_)), Or.elim hk_ (fun hs_ => Or.elim hs_ (fun hs_ => hs_.2.2.2) (fun hs_ => Or.elim hs_ (fun hs_ => hs_.2.2.2) (fun hs_ => hs_.2.2.2))) (fun hn_ => (Kd.freshB (g := gb205) (o := .cells #[.int .i64 t199, .int .i64 t200, .slice Ao15 t201.length co15] 28 (0, 0)) (Zb BK205.out) k_ hn_))⟩)) (below_size (Z3 HB GE197 GE198 GE205))); have n4_ := Aside0.mk (Kd.V_lower (Kd.V_mono (ok' := fun k_ => ((P0_0_ k_ ∨ P0_1_ k_) ∨ w.heap.size ≤ k_) ∧ k_ ≠ gb197 ∧ k_ ≠ gb198 ∧ k_ ≠ gb205) ho1 (fun k_ hk_ => ⟨Or.elim hk_ (fun hs_ => Or.elim hs_ (fun hs_ => hs_.1) (fun hs_ => Or.elim hs_ (fun hs_ => hs_.1) (fun hs_ => hs_.1))) (fun hn_ => (.inr (Nat.le_trans (below_size (Z3 HB GE197 GE198 GE205)) hn_))), Or.elim hk_ (fun hs_ => Or.elim hs_ (fun hs_ => hs_.2.1) (fun hs_ => Or.elim hs_ (fun hs_ => hs_.2.1) (fun hs_ => hs_.2.1))) (fun hn_ => (Kd.freshB (g := gb197) (o := .cells #[.slice A0_0 l0_0.length c0_0, .slice A0_1 l0_1.length c0_1] 25 (0, 0)) (Zb BK197.out) k_ hn_)), Or.elim hk_ (fun hs_ => Or.elim hs_ (fun hs_ => hs_.2.2.1) (fun hs_ => Or.elim hs_ (fun hs_ => hs_.2.2.1) (fun hs_ => hs_.2.2.1))) (fun hn_ => (Kd.freshB (g := gb198) (o := .cells #[.slice none 0 0, .slice none 0 0] 25 (0, 0)) (Zb BK198.out) k_ hn_)), Or.elim hk_ (fun hs_ => Or.elim hs_ (fun hs_ => hs_.2.2.2) (fun hs_ => Or.elim hs_ (fun hs_ => hs_.2.2.2) (fun hs_ => hs_.2.2.2))) (fun hn_ => (Kd.freshB (g := gb205) (o := .cells #[.int .i64 t199, .int .i64 t200, .slice Ao15 t201.length co15] 28 (0, 0)) (Zb BK205.out) k_ hn_))⟩)) (below_size (Z3 HB GE197 GE198 GE205))); have n5_ := Aside0.mk (blk_below (g := gb197) (o := .cells #[.slice A0_0 l0_0.length c0_0, .slice A0_1 l0_1.length c0_1] 25 (0, 0)) (Zb BK197.out) hb); have n6_ := Aside0.mk (blk_below (g := gb198) (o := .cells #[.slice none 0 0, .slice none 0 0] 25 (0, 0)) (Zb BK198.out) hb); have n7_ := Aside0.mk (blk_below (g := gb205) (o := .cells #[.int .i64 t199, .int .i64 t200, .slice Ao15 t201.length co15] 28 (0, 0)) (Zb BK205.out) hb); have n8_ := Aside0.mk (below_step (Z3 HB GE197 GE198 GE205) hb); clear HO0_0; clear HO0_1; clear HO203; clear BK197; clear BK198; clear BK205; clear HB; have HO0_0 := n0_; have HO0_1 := n1_; have HO203 := n2_; have HO208 := n3_; have HO211 := n4_; have BK197 := n5_; have BK198 := n6_; have BK205 := n7_; have HB := n8_; clear n0_ n1_ n2_ n3_ n4_ n5_ n6_ n7_ n8_; (try clear hb); (try clear hb2); (try clear hk); (try clear hi); (try clear ho0); (try clear ho1); obtain ⟨Ao20, co20, eo20⟩ := Kd.V_slice HO208.out; subst eo20; have hcz21_0 : w19.cell? ⟨gb198, 0, none⟩ = some (.slice none 0 0) := (blk_cell BK198.out 0).trans rfl; have hcz21_1 : w19.cell? ⟨gb198, 1, none⟩ = some (.slice none 0 0) := (blk_cell BK198.out 1).trans rfl; have hfz21_0 := blk_frozen BK198.out 0; have hfz21_1 := blk_frozen BK198.out 1; obtain ⟨Ao22, co22, eo22⟩ := Kd.V_slice HO211.out; subst eo22))
  refine bodyPost_ret (results_ct rfl _ _ gb198 25 #[.slice Ao20 t206.length co20, .slice Ao22 t209.length co22] (0, 0) _ rfl (by refine Zb ?_; refine blk_put (cs := #[.slice Ao20 t206.length co20, .slice none 0 0]) ?_ 1 _ rfl; refine Zb ?_; refine blk_put (cs := #[.slice none 0 0, .slice none 0 0]) ?_ 0 _ rfl; refine Zb ?_; exact BK198.out) Try.underlying25 rfl (by kernel_rfl)) rfl ?_
  exact ⟨_, _, by first | rfl | (simp [errW_none, errW_some] <;> rfl) | (simp [*, errW_none, errW_some] <;> rfl), by refine Zv ?_; exact Kd.V_mono (Kd.V_far (p := ⟨gb198, 1, none⟩) (Kd.V_far (p := ⟨gb198, 0, none⟩) (Kd.V_mono HO208.out (fun k_ hk => (⟨hk, hk.2.2.1⟩ : _ ∧ k_ ≠ gb198))) (fun _ hk => hk.2) (.slice Ao20 t206.length co20)) (fun _ hk => hk.2) (.slice Ao22 t209.length co22)) (fun _ hk => hk.1.1), by refine Zv ?_; exact Kd.V_mono (Kd.V_far (p := ⟨gb198, 1, none⟩) (Kd.V_far (p := ⟨gb198, 0, none⟩) (Kd.V_mono HO211.out (fun k_ hk => (⟨hk, hk.2.2.1⟩ : _ ∧ k_ ≠ gb198))) (fun _ hk => hk.2) (.slice Ao20 t206.length co20)) (fun _ hk => hk.2) (.slice Ao22 t209.length co22)) (fun _ hk => hk.1.1), (Z3 HB GE197 GE198 GE205)⟩
 ·rw [if_neg c4] at H
  have c4b0 : (t204 == 0) = false := beq_eq_false_iff_ne.mpr c4
  have c4b1 : (t204 != 0) = true := bne_iff_ne.mpr c4
  simp only [Option.some.injEq, Prod.mk.injEq] at H
  obtain ⟨rfl, rfl, rfl⟩ := H
  go_enter Try.func25, Try.ntmps25
  go_wp2_with (first | ((with_reducible refine gate_dst (N := 2) rfl ?_); refine box_event ?hg (N := 2) ?hd (cs := #[.slice A0_0 l0_0.length c0_0, .slice A0_1 l0_1.length c0_1]) (t := 25) ?hr ?_; (case hd => rfl); (case hg => rfl); (case hr => first | (go_simp; done) | (go_simp; rfl)); intro gb197 hg w23 hbox hb; have n0_ := Aside0.mk (Kd.V_below (Kd.V_elderB (Zv HO0_0.out) gb197 (Nat.le_of_eq hg.symm)) hb); have n1_ := Aside0.mk (Kd.V_below (Kd.V_elderB (Zv HO0_1.out) gb197 (Nat.le_of_eq hg.symm)) hb); have n2_ := Aside0.mk (below_step (Z0 HB) hb); have n3_ := Aside0.mk (hbox); have n4_ := Aside0.mk ((by rw [hg]; exact (below_size (Z0 HB)) : w.heap.size ≤ gb197)); have n5_ := Aside0.mk ((by rw [hg]; exact (below_size (Z0 HB)) : w.heap.size ≤ gb197)); clear HO0_0; clear HO0_1; clear HB; have HO0_0 := n0_; have HO0_1 := n1_; have HB := n2_; have BK197 := n3_; have GW197 := n4_; have GE197 := n5_; clear n0_ n1_ n2_ n3_ n4_ n5_; clear hb hbox hg) | ((with_reducible refine gate_dst (N := 4) rfl ?_); refine box_event ?hg (N := 4) ?hd (cs := #[.slice none 0 0, .slice none 0 0]) (t := 25) ?hr ?_; (case hd => rfl); (case hg => rfl); (case hr => first | (go_simp; done) | (go_simp; rfl)); intro gb198 hg w24 hbox hb; have n0_ := Aside0.mk (Kd.V_below (Kd.V_elderB (Zv HO0_0.out) gb198 (Nat.le_of_eq hg.symm)) hb); have n1_ := Aside0.mk (Kd.V_below (Kd.V_elderB (Zv HO0_1.out) gb198 (Nat.le_of_eq hg.symm)) hb); have n2_ := Aside0.mk (blk_below (g := gb197) (o := .cells #[.slice A0_0 l0_0.length c0_0, .slice A0_1 l0_1.length c0_1] 25 (0, 0)) (Zb BK197.out) hb); have n3_ := Aside0.mk (below_step (Z1 HB GE197) hb); have n4_ := Aside0.mk (hbox); have n5_ := Aside0.mk ((by rw [hg]; exact (below_size (Z1 HB GE197)) : w.heap.size ≤ gb198)); have n6_ := Aside0.mk ((by rw [hg]; exact (below_size (Z1 HB GE197)) : w.heap.size ≤ gb198)); have n7_ := Aside0.mk ((by rw [hg]; exact Nat.ne_of_lt (blk_lt (g := gb197) (o := .cells #[.slice A0_0 l0_0.length c0_0, .slice A0_1 l0_1.length c0_1] 25 (0, 0)) (Zb BK197.out)) : gb197 ≠ gb198)); have n8_ := Aside0.mk ((by rw [hg]; exact Nat.ne_of_gt (blk_lt (g := gb197) (o := .cells #[.slice A0_0 l0_0.length c0_0, .slice A0_1 l0_1.length c0_1] 25 (0, 0)) (Zb BK197.out)) : gb198 ≠ gb197)); clear HO0_0; clear HO0_1; clear BK197; clear HB; have HO0_0 := n0_; have HO0_1 := n1_; have BK197 := n2_; have HB := n3_; have BK198 := n4_; have GW198 := n5_; have GE198 := n6_; have NB197_198 := n7_; have NB198_197 := n8_; clear n0_ n1_ n2_ n3_ n4_ n5_ n6_ n7_ n8_; clear hb hbox hg; have hnb25 := NB197_198.out; have hnc25 := NB198_197.out; have hcz26_0 : w24.cell? ⟨gb197, 0, none⟩ = some (.slice A0_0 l0_0.length c0_0) := (blk_cell BK197.out 0).trans rfl; have hcz26_1 : w24.cell? ⟨gb197, 1, none⟩ = some (.slice A0_1 l0_1.length c0_1) := (blk_cell BK197.out 1).trans rfl; have hfz26_0 := blk_frozen BK197.out 0; have hfz26_1 := blk_frozen BK197.out 1) | ((with_reducible refine gate_callee (f := 35) rfl ?_); refine goesL_ (some 10) rfl rfl Try.func35 (by kernel_rfl) rfl #[.agg #[.slice A0_0 l0_0.length c0_0, .slice A0_1 l0_1.length c0_1], .int .i64 a1] rfl (by (try simp only [List.map_toArray, List.map_cons, List.map_nil]); first | done | rfl | (simp only [List.length_drop, List.length_take]; rfl)) ?_; (with_reducible refine (network_at.calls k (fun k_ => ((((P0_0_ k_ ∨ P0_1_ k_) ∨ w.heap.size ≤ k_) ∧ k_ ≠ gb197) ∧ k_ ≠ gb198)) _ _ l0_0 _ _ l0_1 a1 t199 t200 t201 t204 _ ?side1 ?side2 ?side3 A3.out).mono ?_); (case side1 => exact HO0_0.out); (case side2 => repeat (first | exact (Kd.V_reads' HO0_1.out).2.2 | (with_reducible refine Kd.C_alloc ?_ _) | (with_reducible refine Kd.C_drewN ?_ _) | (with_reducible refine Kd.C_drew ?_))); (case side3 => exact (Kd.V_reads' HO0_1.out).2.1); rintro e w27 ⟨v202, rfl, ho0, hb⟩; refine ⟨_, rfl, ?_⟩; have n0_ := Aside0.mk (Kd.V_below (Zv HO0_0.out) hb); have n1_ := Aside0.mk (Kd.V_below (Zv HO0_1.out) hb); have n2_ := Aside0.mk (Kd.V_lower (Kd.V_mono (ok' := fun k_ => ((P0_0_ k_ ∨ P0_1_ k_) ∨ w.heap.size ≤ k_) ∧ k_ ≠ gb197 ∧ k_ ≠ gb198) ho0 (fun k_ hk_ => ⟨Or.elim hk_ (fun hs_ => hs_.1.1) (fun hn_ => (.inr (Nat.le_trans (below_size (Z2 HB GE197 GE198)) hn_))), Or.elim hk_ (fun hs_ => hs_.1.2) (fun hn_ => (Kd.freshB (g := gb197) (o := .cells #[.slice A0_0 l0_0.length c0_0, .slice A0_1 l0_1.length c0_1] 25 (0, 0)) (Zb BK197.out) k_ hn_)), Or.elim hk_ (fun hs_ => hs_.2) (fun hn_ => (Kd.freshB (g := gb198) (o := .cells #[.slice none 0 0, .slice none 0 0] 25 (0, 0)) (Zb BK198.out) k_ hn_))⟩)) (below_size (Z2 HB GE197 GE198))); have n3_ := Aside0.mk (blk_below (g := gb197) (o := .cells #[.slice A0_0 l0_0.length c0_0, .slice A0_1 l0_1.length c0_1] 25 (0, 0)) (Zb BK197.out) hb); have n4_ := Aside0.mk (blk_below (g := gb198) (o := .cells #[.slice none 0 0, .slice none 0 0] 25 (0, 0)) (Zb BK198.out) hb); have n5_ := Aside0.mk (below_step (Z2 HB GE197 GE198) hb); clear HO0_0; clear HO0_1; clear BK197; clear BK198; clear HB; have HO0_0 := n0_; have HO0_1 := n1_; have HO203 := n2_; have BK197 := n3_; have BK198 := n4_; have HB := n5_; clear n0_ n1_ n2_ n3_ n4_ n5_; (try clear hb); (try clear hb2); (try clear hk); (try clear hi); (try clear ho0)) | ((with_reducible refine gate_dst (N := 6) rfl ?_); refine box_event ?hg (N := 6) ?hd (cs := #[.int .i64 0, .int .i64 0, .slice none 0 0]) (t := 28) ?hr ?_; (case hd => rfl); (case hg => rfl); (case hr => first | (go_simp; done) | (go_simp; rfl)); intro gb205 hg w28 hbox hb; have n0_ := Aside0.mk (Kd.V_below (Kd.V_elderB (Zv HO0_0.out) gb205 (Nat.le_of_eq hg.symm)) hb); have n1_ := Aside0.mk (Kd.V_below (Kd.V_elderB (Zv HO0_1.out) gb205 (Nat.le_of_eq hg.symm)) hb); have n2_ := Aside0.mk (Kd.V_below (Kd.V_elderB (Zv HO203.out) gb205 (Nat.le_of_eq hg.symm)) hb); have n3_ := Aside0.mk (blk_below (g := gb197) (o := .cells #[.slice A0_0 l0_0.length c0_0, .slice A0_1 l0_1.length c0_1] 25 (0, 0)) (Zb BK197.out) hb); have n4_ := Aside0.mk (blk_below (g := gb198) (o := .cells #[.slice none 0 0, .slice none 0 0] 25 (0, 0)) (Zb BK198.out) hb); have n5_ := Aside0.mk (below_step (Z2 HB GE197 GE198) hb); have n6_ := Aside0.mk (hbox); have n7_ := Aside0.mk ((by rw [hg]; exact (below_size (Z2 HB GE197 GE198)) : w.heap.size ≤ gb205)); have n8_ := Aside0.mk ((by rw [hg]; exact (below_size (Z2 HB GE197 GE198)) : w.heap.size ≤ gb205)); have n9_ := Aside0.mk ((by rw [hg]; exact Nat.ne_of_lt (blk_lt (g := gb197) (o := .cells #[.slice A0_0 l0_0.length c0_0, .slice A0_1 l0_1.length c0_1] 25 (0, 0)) (Zb BK197.out)) : gb197 ≠ gb205)); have n10_ := Aside0.mk ((by rw [hg]; exact Nat.ne_of_gt (blk_lt (g := gb197) (o := .cells #[.slice A0_0 l0_0.length c0_0, .slice A0_1 l0_1.length c0_1] 25 (0, 0)) (Zb BK197.out)) : gb205 ≠ gb197)); have n11_ := Aside0.mk ((by rw [hg]; exact Nat.ne_of_lt (blk_lt (g := gb198) (o := .cells #[.slice none 0 0, .slice none 0 0] 25 (0, 0)) (Zb BK198.out)) : gb198 ≠ gb205)); have n12_ := Aside0.mk ((by rw [hg]; exact Nat.ne_of_gt (blk_lt (g := gb198) (o := .cells #[.slice none 0 0, .slice none 0 0] 25 (0, 0)) (Zb BK198.out)) : gb205 ≠ gb198)); clear HO0_0; clear HO0_1; clear HO203; clear BK197; clear BK198; clear HB; have HO0_0 := n0_; have HO0_1 := n1_; have HO203 := n2_; have BK197 := n3_; have BK198 := n4_; have HB := n5_; have BK205 := n6_; have GW205 := n7_; have GE205 := n8_; have NB197_205 := n9_; have NB205_197 := n10_; have NB198_205 := n11_; have NB205_198 := n12_; clear n0_ n1_ n2_ n3_ n4_ n5_ n6_ n7_ n8_ n9_ n10_ n11_ n12_; clear hb hbox hg; have hnb29 := NB205_197.out; have hnc29 := NB197_205.out; have hnb30 := NB205_198.out; have hnc30 := NB198_205.out; have hcz31_0 : w28.cell? ⟨gb205, 0, none⟩ = some (.int .i64 0) := (blk_cell BK205.out 0).trans rfl; have hcz31_1 : w28.cell? ⟨gb205, 1, none⟩ = some (.int .i64 0) := (blk_cell BK205.out 1).trans rfl; have hcz31_2 : w28.cell? ⟨gb205, 2, none⟩ = some (.slice none 0 0) := (blk_cell BK205.out 2).trans rfl; have hfz31_0 := blk_frozen BK205.out 0; have hfz31_1 := blk_frozen BK205.out 1; have hfz31_2 := blk_frozen BK205.out 2; obtain ⟨Ao32, co32, eo32⟩ := Kd.V_slice HO203.out; subst eo32; have hcz33_0 : w28.cell? ⟨gb198, 0, none⟩ = some (.slice none 0 0) := (blk_cell BK198.out 0).trans rfl; have hcz33_1 : w28.cell? ⟨gb198, 1, none⟩ = some (.slice none 0 0) := (blk_cell BK198.out 1).trans rfl; have hfz33_0 := blk_frozen BK198.out 0; have hfz33_1 := blk_frozen BK198.out 1))
  refine bodyPost_ret (results_ct rfl _ _ gb198 25 #[.slice none 0 0, .slice none 0 0] (0, 0) _ rfl (by refine Zb ?_; refine blk_put (cs := #[.slice none 0 0, .slice none 0 0]) ?_ 1 _ rfl; refine Zb ?_; refine blk_put (cs := #[.slice none 0 0, .slice none 0 0]) ?_ 0 _ rfl; refine Zb ?_; refine blk_far ?_ NB198_205.out _; refine Zb ?_; refine blk_far ?_ NB198_205.out _; refine Zb ?_; refine blk_far ?_ NB198_205.out _; refine Zb ?_; exact BK198.out) Try.underlying25 rfl (by kernel_rfl)) rfl ?_
  exact ⟨_, _, by first | rfl | (simp [errW_none, errW_some] <;> rfl) | (simp [*, errW_none, errW_some] <;> rfl), (Kd.V_nil _ _ _ _ _), (Kd.V_nil _ _ _ _ _), (Z3 HB GE197 GE198 GE205)⟩

end Go.Proofs.Ythlehlbokaeigaa.Q
