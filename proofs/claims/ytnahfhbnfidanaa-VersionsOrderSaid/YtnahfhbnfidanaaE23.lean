import Derived.Test.YtnahfhbnfidanaaE22
namespace Go.Proofs.Ytnahfhbnfidanaa.Q
open Go.RowKit Go.Proofs.YtnahfhbnfidanaaW.PrintWords
set_option linter.unusedVariables false
set_option linter.unusedSimpArgs false
theorem atLt_false {a b : S24} (h : atLt a b = false) : ¬ (a.f1 < b.f1 ∨ (a.f1 = b.f1 ∧ a.f0 < b.f0)) := fun h2 => by rw [(atLt_iff a b).2 h2] at h; cases h
theorem atLt_false_of {a b : S24} (h : ¬ (a.f1 < b.f1 ∨ (a.f1 = b.f1 ∧ a.f0 < b.f0))) : atLt a b = false := by
  cases hb : atLt a b with
  | false => rfl
  | true => exact absurd ((atLt_iff a b).1 hb) h
theorem great_cases (at_ : Int) : ∀ (l : List S24) (acc : Option S24), (∀ m, acc = some m → m.f1 ≤ at_) →
    (l.foldl (gre at_) acc = none ∧ acc = none ∧ ∀ y ∈ l, ¬ y.f1 ≤ at_) ∨
    (∃ m, l.foldl (gre at_) acc = some m ∧ m.f1 ≤ at_ ∧ (m ∈ l ∨ acc = some m) ∧ (∀ y ∈ l, y.f1 ≤ at_ → atLt m y = false) ∧ (∀ y, acc = some y → atLt m y = false)) := by
  intro l
  induction l with
  | nil =>
    intro acc hacc
    cases acc with
    | none => exact .inl ⟨rfl, rfl, by simp⟩
    | some m => exact .inr ⟨m, rfl, hacc m rfl, .inr rfl, by simp, fun y hy => by obtain rfl := Option.some.inj hy; exact atLt_false_of (by omega)⟩
  | cons x t ih =>
    intro acc hacc
    rw [List.foldl_cons]
    by_cases hx : x.f1 ≤ at_
    · -- the next state is some
      have hg : ∃ z, gre at_ acc x = some z ∧ z.f1 ≤ at_ ∧ (z = x ∨ acc = some z) ∧ atLt z x = false ∧ (∀ y, acc = some y → atLt z y = false) := by
        unfold gre
        rw [if_pos (by simpa using hx)]
        cases acc with
        | none => exact ⟨x, rfl, hx, .inl rfl, atLt_false_of (by omega), fun y hy => by cases hy⟩
        | some z =>
          cases hz : atLt z x with
          | true =>
            have := (atLt_iff z x).1 hz
            exact ⟨x, if_pos hz, hx, .inl rfl, atLt_false_of (by omega), fun y hy => by obtain rfl := Option.some.inj hy; exact atLt_false_of (by omega)⟩
          | false => exact ⟨z, if_neg (by rw [hz]; decide), hacc z rfl, .inr rfl, hz, fun y hy => by obtain rfl := Option.some.inj hy; exact atLt_false_of (by omega)⟩
      obtain ⟨z, hz, hz1, hz2, hz3, hz4⟩ := hg
      rw [hz]
      rcases ih (some z) (fun m hm => by obtain rfl := Option.some.inj hm; exact hz1) with ⟨_, h, _⟩ | ⟨m, h1, h2, h3, h4, h5⟩
      · cases h
      · have hmz := atLt_false (h5 z rfl)
        refine .inr ⟨m, h1, h2, ?_, ?_, ?_⟩
        · rcases h3 with h3 | h3
          · exact .inl (List.mem_cons_of_mem _ h3)
          · obtain rfl := Option.some.inj h3
            rcases hz2 with rfl | hz2
            · exact .inl (by simp)
            · exact .inr hz2
        · intro y hy hy1
          rcases List.mem_cons.1 hy with rfl | hy
          · have := atLt_false hz3; exact atLt_false_of (by omega)
          · exact h4 y hy hy1
        · intro y hy
          have := atLt_false (hz4 y hy)
          exact atLt_false_of (by omega)
    · have hg : gre at_ acc x = acc := by unfold gre; rw [if_neg (by simpa using hx)]
      rw [hg]
      rcases ih acc hacc with ⟨h1, h2, h3⟩ | ⟨m, h1, h2, h3, h4, h5⟩
      · refine .inl ⟨h1, h2, fun y hy => ?_⟩
        rcases List.mem_cons.1 hy with rfl | hy
        · exact hx
        · exact h3 y hy
      · refine .inr ⟨m, h1, h2, h3.imp (List.mem_cons_of_mem _) id, fun y hy hy1 => ?_, h5⟩
        rcases List.mem_cons.1 hy with rfl | hy
        · exact absurd hy1 hx
        · exact h4 y hy hy1
theorem great_is (at_ : Int) (l : List S24) : (great at_ l = none ∧ ∀ y ∈ l, ¬ y.f1 ≤ at_) ∨ (∃ m, great at_ l = some m ∧ m.f1 ≤ at_ ∧ m ∈ l ∧ ∀ y ∈ l, y.f1 ≤ at_ → atLt m y = false) := by
  rcases great_cases at_ l none (fun m h => by cases h) with ⟨h1, _, h3⟩ | ⟨m, h1, h2, h3, h4, _⟩
  · exact .inl ⟨h1, h3⟩
  · exact .inr ⟨m, h1, h2, h3.resolve_right (fun h => by cases h), h4⟩
/-- The greatest is the one that is not below another. -/
theorem great_uniq {at_ : Int} {l : List S24} {m : S24} (hm : m ∈ l) (h1 : m.f1 ≤ at_) (h2 : ∀ y ∈ l, y.f1 ≤ at_ → y = m ∨ atLt y m = true) : great at_ l = some m := by
  rcases great_is at_ l with ⟨_, h⟩ | ⟨z, hz, hz1, hz2, hz3⟩
  · exact absurd h1 (h m hm)
  · rcases h2 z hz2 hz1 with rfl | h
    · exact hz
    · rw [hz3 m hm h1] at h; cases h
theorem great_none {at_ : Int} {l : List S24} (h : ∀ y ∈ l, ¬ y.f1 ≤ at_) : great at_ l = none := by
  rcases great_is at_ l with ⟨h1, _⟩ | ⟨z, _, hz1, hz2, _⟩
  · exact h1
  · exact absurd hz1 (h z hz2)
theorem mem_pick {key time : Int} {l : List S24} {y : S24} : y ∈ pick key time l ↔ y ∈ l ∧ y.f3 = key ∧ y.f2 ≤ time := by
  unfold pick
  rw [List.mem_filter]
  simp [isKnown]
theorem mem_ins {l : List S24} {i : Nat} {x y : S24} : y ∈ l.take i ++ x :: l.drop i ↔ y = x ∨ y ∈ l := by
  constructor
  · intro h
    rcases List.mem_append.1 h with h | h
    · exact .inr (List.mem_of_mem_take h)
    · rcases List.mem_cons.1 h with h | h
      · exact .inl h
      · exact .inr (List.mem_of_mem_drop h)
  · rintro (rfl | h)
    · simp
    · rw [← List.take_append_drop i l] at h
      rcases List.mem_append.1 h with h | h
      · exact List.mem_append_left _ h
      · exact List.mem_append_right _ (List.mem_cons_of_mem _ h)
/-- Two with one number are one. -/
theorem no_inj {l : List S24} (hp : l.Pairwise (fun a b => a.f0 < b.f0)) {x y : S24} (hx : x ∈ l) (hy : y ∈ l) (h : x.f0 = y.f0) : x = y := by
  obtain ⟨i, hi, rfl⟩ := List.mem_iff_getElem.1 hx
  obtain ⟨j, hj, rfl⟩ := List.mem_iff_getElem.1 hy
  rcases Nat.lt_trichotomy i j with hij | hij | hij
  · have := List.pairwise_iff_getElem.1 hp i j hi hj hij; omega
  · subst hij; rfl
  · have := List.pairwise_iff_getElem.1 hp j i hj hi hij; omega
theorem atLt_tot {l : List S24} (hp : l.Pairwise (fun a b => a.f0 < b.f0)) {x y : S24} (hx : x ∈ l) (hy : y ∈ l) (h : atLt x y = false) : y = x ∨ atLt y x = true := by
  by_cases e : y.f0 = x.f0
  · exact .inl (no_inj hp hy hx e)
  · refine .inr ((atLt_iff y x).2 ?_)
    have := atLt_false h
    omega
/-- What decides that an added one does not count. -/
def later (x : S24) (key at_ known : Int) (y : S24) : Bool := decide (y.f3 = key ∧ y.f2 ≤ known ∧ y.f1 ≤ at_ ∧ (y.f1 > x.f1 ∨ (y.f1 = x.f1 ∧ y.f0 > x.f0)))
end Go.Proofs.Ytnahfhbnfidanaa.Q
