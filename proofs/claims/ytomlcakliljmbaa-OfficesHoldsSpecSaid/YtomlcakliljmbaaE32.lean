import Derived.Test.YtomlcakliljmbaaQ
namespace Go.Proofs.Ytomlcakliljmbaa.Q
open Go.RowKit Go.Proofs.YtomlcakliljmbaaW.PrintWords
set_option linter.unusedVariables false
set_option linter.unusedSimpArgs false
section
theorem rTime_eq (a : Int) : signatoryref15_Time.f a = some (decide (0 ≤ a ∧ a ≤ 1099511627775)) := by
  unfold signatoryref15_Time.f
  by_cases h : a ≥ 0
  · rw [if_pos h]; simp [h]; omega
  · rw [if_neg h]; simp; omega
theorem rOffice_eq (a : Int) : signatoryref15_Office.f a = some (decide (0 ≤ a ∧ a ≤ 31)) := by
  unfold signatoryref15_Office.f
  by_cases h : a ≥ 0
  · rw [if_pos h]; simp [h]; omega
  · rw [if_neg h]; simp; omega
theorem rPerson_eq (a : Int) : signatoryref15_Person.f a = some (decide (0 ≤ a ∧ a ≤ 63)) := by
  unfold signatoryref15_Person.f
  by_cases h : a ≥ 0
  · rw [if_pos h]; simp [h]; omega
  · rw [if_neg h]; simp; omega
theorem rright_eq (k : Nat) (x : S24) : signatoryref15_Right.f (k + 1) x.f0 x.f1 x.f2 x.f3 x.f4 x.f5 x.f6 = some (vR x) := by
  have hj : ∀ b : Bool, signatoryref15_Right.j0 (k + 1) b x.f0 x.f1 x.f2 x.f3 x.f4 x.f5 x.f6 = some (!b && (if x.f6 = true then decide (x.f5 = 0) else decide (1 ≤ x.f5 ∧ x.f5 ≤ 64))) := by
    intro b
    simp only [signatoryref15_Right.j0]
    cases b with
    | true => rfl
    | false =>
      rw [if_neg (by decide)]
      by_cases hg : x.f6 = true
      · rw [if_pos hg, if_pos hg]
        by_cases h : x.f5 = 0 <;> simp [h]
      · rw [if_neg hg, if_neg hg]
        by_cases h : x.f5 ≥ 1
        · rw [if_pos h]; simp; omega
        · rw [if_neg h]; simp; omega
  unfold signatoryref15_Right.f vR
  simp only [hj, rTime_eq, rOffice_eq, rPerson_eq, Option.bind_some, decide_eq_true_eq]
  by_cases h0 : x.f0 < 0
  · rw [if_pos h0, decide_eq_false (by omega : ¬ (0 ≤ x.f0 ∧ x.f0 ≤ 1048576 ∧ 0 ≤ x.f1 ∧ x.f1 ≤ 1099511627775 ∧ 0 ≤ x.f2 ∧ x.f2 ≤ 1099511627775 ∧ 0 ≤ x.f3 ∧ x.f3 ≤ 31 ∧ 0 ≤ x.f4 ∧ x.f4 ≤ 63))]; rfl
  · rw [if_neg h0]
    by_cases h1 : x.f0 > 1048576
    · rw [if_pos h1, decide_eq_false (by omega : ¬ (0 ≤ x.f0 ∧ x.f0 ≤ 1048576 ∧ 0 ≤ x.f1 ∧ x.f1 ≤ 1099511627775 ∧ 0 ≤ x.f2 ∧ x.f2 ≤ 1099511627775 ∧ 0 ≤ x.f3 ∧ x.f3 ≤ 31 ∧ 0 ≤ x.f4 ∧ x.f4 ≤ 63))]; rfl
    · rw [if_neg h1]
      by_cases h2 : 0 ≤ x.f1 ∧ x.f1 ≤ 1099511627775
      · rw [if_pos h2]
        by_cases h3 : 0 ≤ x.f2 ∧ x.f2 ≤ 1099511627775
        · rw [if_pos h3]
          by_cases h4 : 0 ≤ x.f3 ∧ x.f3 ≤ 31
          · rw [if_pos h4]
            by_cases h5 : 0 ≤ x.f4 ∧ x.f4 ≤ 63
            · rw [decide_eq_true h5, decide_eq_true (by omega : 0 ≤ x.f0 ∧ x.f0 ≤ 1048576 ∧ 0 ≤ x.f1 ∧ x.f1 ≤ 1099511627775 ∧ 0 ≤ x.f2 ∧ x.f2 ≤ 1099511627775 ∧ 0 ≤ x.f3 ∧ x.f3 ≤ 31 ∧ 0 ≤ x.f4 ∧ x.f4 ≤ 63)]; rfl
            · rw [decide_eq_false h5, decide_eq_false (by omega : ¬ (0 ≤ x.f0 ∧ x.f0 ≤ 1048576 ∧ 0 ≤ x.f1 ∧ x.f1 ≤ 1099511627775 ∧ 0 ≤ x.f2 ∧ x.f2 ≤ 1099511627775 ∧ 0 ≤ x.f3 ∧ x.f3 ≤ 31 ∧ 0 ≤ x.f4 ∧ x.f4 ≤ 63))]; rfl
          · rw [if_neg h4, decide_eq_false (by omega : ¬ (0 ≤ x.f0 ∧ x.f0 ≤ 1048576 ∧ 0 ≤ x.f1 ∧ x.f1 ≤ 1099511627775 ∧ 0 ≤ x.f2 ∧ x.f2 ≤ 1099511627775 ∧ 0 ≤ x.f3 ∧ x.f3 ≤ 31 ∧ 0 ≤ x.f4 ∧ x.f4 ≤ 63))]; rfl
        · rw [if_neg h3, decide_eq_false (by omega : ¬ (0 ≤ x.f0 ∧ x.f0 ≤ 1048576 ∧ 0 ≤ x.f1 ∧ x.f1 ≤ 1099511627775 ∧ 0 ≤ x.f2 ∧ x.f2 ≤ 1099511627775 ∧ 0 ≤ x.f3 ∧ x.f3 ≤ 31 ∧ 0 ≤ x.f4 ∧ x.f4 ≤ 63))]; rfl
      · rw [if_neg h2, decide_eq_false (by omega : ¬ (0 ≤ x.f0 ∧ x.f0 ≤ 1048576 ∧ 0 ≤ x.f1 ∧ x.f1 ≤ 1099511627775 ∧ 0 ≤ x.f2 ∧ x.f2 ≤ 1099511627775 ∧ 0 ≤ x.f3 ∧ x.f3 ≤ 31 ∧ 0 ≤ x.f4 ∧ x.f4 ≤ 63))]; rfl
theorem vR_no {x : S24} (h : vR x = true) : 0 ≤ x.f0 := (vR_of h).1
/-- The number ahead of a place. -/
def lastAt (l : List S24) : Nat → Int
  | 0 => -1
  | i + 1 => (l.getD i z24).f0
theorem rcheck_l0 (l : List S24) (hl : l.length ≤ 4096) : ∀ (d k i : Nat), d + i = l.length → d + 1 < k → signatoryref15_Check.l0 k l (i : Int) = some (chkL (lastAt l i) (l.drop i)) := by
  intro d
  induction d with
  | zero =>
    intro k i h hk
    obtain ⟨k, rfl⟩ : ∃ m, k = m + 1 := ⟨k - 1, by omega⟩
    simp only [signatoryref15_Check.l0]
    rw [if_neg (by omega), List.drop_eq_nil_of_le (by omega)]
    rfl
  | succ d ih =>
    intro k i h hk
    obtain ⟨k, rfl⟩ : ∃ m, k = m + 2 := ⟨k - 2, by omega⟩
    have hi : i < l.length := by omega
    have hnext : lastAt l (i + 1) = l[i].f0 := by simp [lastAt, List.getD_eq_getElem?_getD, hi]
    have ih' := ih (k + 1) (i + 1) (by omega) (by omega)
    rw [hnext] at ih'
    show signatoryref15_Check.l0 (k + 1 + 1) l (i : Int) = _
    unfold signatoryref15_Check.l0
    rw [if_pos (by omega), if_pos (by omega), rright_eq, rdAt l i hi, List.drop_eq_getElem_cons hi]
    simp only [Option.bind_some, chkL]
    by_cases h1 : vR l[i] = true
    · rw [if_pos h1, w64 i (by omega)]
      cases i with
      | zero =>
        rw [if_neg (by omega), if_pos ⟨h1, by have := vR_no h1; simp [lastAt]; omega⟩]
        exact ih'
      | succ i =>
        have hw : wrap64 (((i + 1 : Nat) : Int) - 1) = ((i : Nat) : Int) := by unfold wrap64; omega
        have hla : lastAt l (i + 1) = l[i].f0 := by simp [lastAt, List.getD_eq_getElem?_getD, (by omega : i < l.length)]
        rw [if_pos (by omega), hw, if_pos (by omega), if_pos (by omega), rdAt l i (by omega), hla]
        by_cases h2 : l[i].f0 < l[i + 1].f0
        · rw [if_neg (by omega), if_pos ⟨h1, h2⟩]
          exact ih'
        · rw [if_pos (by omega), if_neg (fun h => h2 h.2)]
    · rw [if_neg h1, if_neg (fun h => h1 h.1)]
theorem rcheck_eq (l : List S24) (k : Nat) (hk : 4098 < k) : signatoryref15_Check.f k l = some (chk l) := by
  unfold signatoryref15_Check.f chk
  by_cases h : l.length > 4096
  · rw [if_pos (by omega), if_pos h]
  · rw [if_neg (by omega), if_neg h]
    exact rcheck_l0 l (by omega) l.length k 0 (by omega) (by omega)
theorem addP_len (l : List S24) (x : S24) : (addP l x).1.length ≤ l.length + 1 := by
  unfold addP
  have := pos_le l x.f0
  split
  · split
    · split
      · simp
      · split
        · simp
        · simp; omega
    · simp
  · simp
end
end Go.Proofs.Ytomlcakliljmbaa.Q
