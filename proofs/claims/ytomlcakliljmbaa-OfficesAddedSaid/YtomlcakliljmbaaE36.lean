import Derived.Test.YtomlcakliljmbaaE33
namespace Go.Proofs.Ytomlcakliljmbaa.Q
open Go.RowKit Go.Proofs.YtomlcakliljmbaaW.PrintWords
set_option linter.unusedVariables false
set_option linter.unusedSimpArgs false
section
theorem few_cases (l : List S24) : (signatoryref15_Few.f l = some true ∧ (l.length ≤ 40 ∨ 4096 < l.length ∧ l.length ≤ 4200)) ∨ signatoryref15_Few.f l = some false := by
  unfold signatoryref15_Few.f
  by_cases h1 : (l.length : Int) ≤ 40
  · rw [if_pos h1]; exact .inl ⟨rfl, .inl (by omega)⟩
  · rw [if_neg h1]
    by_cases h2 : (l.length : Int) > 4096
    · rw [if_pos h2]
      by_cases h3 : (l.length : Int) ≤ 4200
      · rw [decide_eq_true h3]; exact .inl ⟨rfl, .inr ⟨by omega, by omega⟩⟩
      · rw [decide_eq_false h3]; exact .inr rfl
    · rw [if_neg h2]; exact .inr rfl
theorem holdersA_len (l : List S24) (o at_ known : Int) : (holdersA l o at_ known).1.length ≤ 64 := by
  unfold holdersA
  split
  · split
    · rw [List.length_map]; exact holdersTo_len _ _ 64
    · simp
  · simp
theorem holdsA_p (l : List S24) (o p at_ known : Int) (hc : chk l = 0) (hr : (0 ≤ o ∧ o ≤ 31) ∧ (0 ≤ at_ ∧ at_ ≤ 1099511627775) ∧ (0 ≤ known ∧ known ≤ 1099511627775)) (hp : 0 ≤ p ∧ p ≤ 63) : holdsA l o p at_ known = holdsP (standP at_ known l) o p := by
  unfold holdsA
  rw [if_pos hc, if_pos ⟨hr.1, hp, hr.2.1, hr.2.2⟩]
theorem holdsP_of (M : Int → Int → Option S24) (o p : Int) : (holdsP M o p).2.2.2 = 0 ∧ ((holdOf M o p = none ∧ (holdsP M o p).2.2.1 = false) ∨ (holdOf M o p = some (p, (holdsP M o p).2.1) ∧ (holdsP M o p).2.2.1 = true)) := by
  unfold holdsP holdOf
  cases M o p with
  | none => simp
  | some x =>
    by_cases hg : x.f6 = true <;> simp [hg]
/-- Does an appointment of an office count. -/
def ofOffice (o at_ known : Int) (x : S24) : Bool := x.f3 == o && cnt at_ known x
theorem filter_chk {l : List S24} (f : S24 → Bool) (h : chk l = 0) : chk (l.filter f) = 0 := by
  obtain ⟨h1, h2, h3⟩ := chk_ok h
  exact chk_of (Nat.le_trans (List.length_filter_le _ _) h1) (fun x hx => h2 x (List.mem_filter.1 hx).1) (h3.filter _)
theorem stand_filter (l : List S24) (o p at_ known : Int) : standP at_ known (l.filter (ofOffice o at_ known)) o p = standP at_ known l o p := by
  rw [stand_eq, stand_eq, List.filter_filter]
  congr 1
  apply List.filter_congr
  intro x _
  unfold mt ofOffice
  cases x.f3 == o <;> cases x.f4 == p <;> cases cnt at_ known x <;> rfl
theorem holdersP_congr {M M' : Int → Int → Option S24} {o : Int} (h : ∀ p, M o p = M' o p) : holdersP M o = holdersP M' o := by
  unfold holdersP holdOf
  simp only [h]
end
end Go.Proofs.Ytomlcakliljmbaa.Q
