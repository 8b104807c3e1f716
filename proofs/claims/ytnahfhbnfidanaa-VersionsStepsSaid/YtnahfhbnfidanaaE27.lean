import Derived.Test.YtnahfhbnfidanaaE26
namespace Go.Proofs.Ytnahfhbnfidanaa.Q
open Go.RowKit Go.Proofs.YtnahfhbnfidanaaW.PrintWords
set_option linter.unusedVariables false
set_option linter.unusedSimpArgs false
theorem rdAt42 (l : List S42) (i : Nat) (h : i < l.length) : rd_T42 l (i : Int) = l[i] := by unfold rd_T42; simp [List.getD_eq_getElem?_getD, h]
/-- The value of the last step that is not later. -/
def lastOf (at_ : Int) (init : Int × Bool) (s : List S42) : Int × Bool := s.foldl (fun a x => if x.f0 ≤ at_ then (x.f1, x.f2) else a) init
/-- Steps that follow each other, behind a time and a value. -/
def okS (l : List S24) (key known : Int) : Int → Int × Bool → List S42 → Prop
  | _, _, [] => True
  | lo, last, x :: t => lo < x.f0 ∧ (x.f1, x.f2) ≠ last ∧ (x.f2 = false → x.f1 = 0) ∧ (∃ y ∈ l, y.f1 = x.f0 ∧ y.f3 = key ∧ y.f2 ≤ known) ∧ okS l key known x.f0 (x.f1, x.f2) t
theorem okS_lower {l : List S24} {key known lo lo' : Int} {last : Int × Bool} {s : List S42} (h : okS l key known lo last s) (hl : lo' ≤ lo) : okS l key known lo' last s := by
  cases s with
  | nil => trivial
  | cons x t => exact ⟨by have := h.1; omega, h.2⟩
theorem lastOf_far {l : List S24} {key known at_ : Int} (init : Int × Bool) : ∀ (s : List S42) (lo : Int) (last : Int × Bool), okS l key known lo last s → at_ ≤ lo → lastOf at_ init s = init
  | [], _, _, _, _ => rfl
  | x :: t, lo, last, h, ha => by
    unfold lastOf
    rw [List.foldl_cons, if_neg (by have := h.1; omega)]
    exact lastOf_far init t x.f0 _ h.2.2.2.2 (by have := h.1; omega)
theorem valP_gone {l : List S24} (hv : ∀ x ∈ l, vR x = true) (key at_ known : Int) (h : (valP l key at_ known).2 = false) : (valP l key at_ known).1 = 0 := by
  unfold valP at h ⊢
  rcases great_is at_ (pick key known l) with ⟨hn, _⟩ | ⟨m, hm, _, hm2, _⟩
  · rw [hn]; rfl
  · rw [hm] at h ⊢
    simp at h ⊢
    have := hv m (mem_pick.1 hm2).1
    unfold vR at this
    simp [h] at this
    exact this.2
theorem steps_ok {l : List S24} (hc : chk l = 0) (key known : Int) : okS l key known (-1) (0, false) (histP l key known) ∧ ∀ at_, 0 ≤ at_ → lastOf at_ (0, false) (histP l key known) = valP l key at_ known := by
  obtain ⟨k1, k2, k3⟩ := chk_ok hc
  have h0 : ∀ y ∈ l, 0 ≤ y.f1 := fun y hy => by have := k2 y hy; unfold vR at this; simp at this; omega
  have hsame : ∀ lo at_, lo ≤ at_ → (nextP l lo = -1 ∨ at_ < nextP l lo) → valP l key at_ known = valP l key lo known := by
    intro lo at_ hle hn
    unfold valP
    have : great at_ (pick key known l) = great lo (pick key known l) := great_congr _ _ (fun y hy => by
      have hyl := (mem_pick.1 hy).1
      constructor
      · intro h1
        by_cases c : y.f1 ≤ lo
        · exact c
        · rcases next_is l h0 lo with ⟨_, h⟩ | ⟨n1, n2, _, n4⟩
          · exact absurd (by omega) (h y hyl)
          · have := n4 y hyl (by omega)
            omega
      · intro h1; omega)
    rw [this]
  obtain ⟨e1, e2⟩ := start_eq hc key known
  have := hist_ind hc key known (fun lo s => okS l key known lo (valP l key lo known) s ∧ ∀ at_, lo ≤ at_ → lastOf at_ (valP l key lo known) s = valP l key at_ known) ?_ ?_ ?_ (-1)
  · rw [← e1, e2] at this
    exact ⟨this.1, fun at_ h => this.2 at_ (by omega)⟩
  · intro lo hn
    exact ⟨trivial, fun at_ h => (hsame lo at_ h (.inl hn)).symm⟩
  · intro lo s n1 n2 he ih
    rw [he] at ih
    refine ⟨okS_lower ih.1 (by omega), fun at_ ha => ?_⟩
    by_cases c : nextP l lo ≤ at_
    · exact ih.2 at_ c
    · rw [lastOf_far _ s _ _ ih.1 (by omega), hsame lo at_ ha (.inr (by omega))]
  · intro lo s n1 n2 he hy ih
    refine ⟨⟨n1, he, fun h => valP_gone k2 key _ known h, hy, ih.1⟩, fun at_ ha => ?_⟩
    by_cases c : nextP l lo ≤ at_
    · have := ih.2 at_ c
      unfold lastOf at this ⊢
      rw [List.foldl_cons, if_pos c]
      exact this
    · have hf := lastOf_far (at_ := at_) (valP l key lo known) s _ _ ih.1 (by omega)
      unfold lastOf at hf ⊢
      rw [List.foldl_cons, if_neg c, hf, hsame lo at_ ha (.inr (by omega))]
section
variable (l : List S24) (hl : l.length ≤ 30) (key at_ known : Int) (s : List S42) (v : Int) (ok : Bool)
include hl
/-- What stands ahead of a place. -/
def ahead (s : List S42) : Nat → S42
  | 0 => ⟨-1, 0, false⟩
  | i + 1 => s.getD i z42
end
end Go.Proofs.Ytnahfhbnfidanaa.Q
