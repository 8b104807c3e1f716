import Derived.Test.YtomlcakliljmbaaE36
namespace Go.Proofs.Ytomlcakliljmbaa.Q
open Go.RowKit Go.Proofs.YtomlcakliljmbaaW.PrintWords
set_option linter.unusedVariables false
set_option linter.unusedSimpArgs false
section
set_option maxRecDepth 100000
/-- Is one later than another. -/
def latr (x y : S24) : Bool := decide (y.f1 > x.f1) || (decide (y.f1 = x.f1) && decide (y.f0 > x.f0))
/-- None of these that match is later. -/
def noLater (o p at_ known : Int) (x : S24) (l : List S24) : Bool := l.all (fun y => !(mt o p at_ known y && latr x y))
/-- How much the outer loop takes. -/
def need : Nat → Nat
  | 0 => 5010
  | d + 1 => need d + 5010
theorem need_s (d : Nat) : need (d + 1) = need d + 5010 := rfl
theorem need_le : ∀ d, need d ≤ d * 5010 + 5010
  | 0 => Nat.le_refl _
  | d + 1 => by have := need_le d; rw [need_s, Nat.succ_mul]; exact Nat.add_le_add_right this _
attribute [irreducible] need
/-- The last one, and not gone. -/
def isLast (o p at_ known : Int) (l : List S24) (x : S24) : Bool := mt o p at_ known x && !x.f6 && noLater o p at_ known x l
theorem filter_one : ∀ (l : List S24) (f : S24 → Bool) (y : S24), l.Pairwise (fun a b => a.f0 < b.f0) → y ∈ l → (∀ x ∈ l, f x = true ↔ x = y) → (l.filter f).length = 1
  | [], _, _, _, h, _ => by simp at h
  | x :: t, f, y, hp, hy, hf => by
    obtain ⟨h1, h2⟩ := List.pairwise_cons.1 hp
    by_cases hx : x = y
    · subst hx
      have h0 : t.filter f = [] := List.filter_eq_nil_iff.2 (fun z hz hfz => by
        have := (hf z (by simp [hz])).1 hfz
        have := h1 z hz
        subst z
        omega)
      rw [List.filter_cons, if_pos ((hf x (by simp)).2 rfl), h0]
      rfl
    · rw [List.filter_cons, if_neg (fun h => hx ((hf x (by simp)).1 h))]
      exact filter_one t f y h2 (by simpa [Ne.symm hx] using hy) (fun z hz => hf z (by simp [hz]))
end
end Go.Proofs.Ytomlcakliljmbaa.Q
