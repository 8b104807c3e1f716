import Derived.Test.YtnahfhbnfidanaaQ
namespace Go.Proofs.Ytnahfhbnfidanaa.Q
open Go.RowKit Go.Proofs.YtnahfhbnfidanaaW.PrintWords
set_option linter.unusedVariables false
set_option linter.unusedSimpArgs false
theorem rwithin_eq (a b : Int) : signatoryref14_within.f a b = some (decide (0 ≤ a ∧ a < b)) := by
  unfold signatoryref14_within.f
  by_cases h : a ≥ 0
  · rw [if_pos h]; simp [h]
  · rw [if_neg h]; simp; omega
theorem rright_eq (a b c d e : Int) (g : Bool) : signatoryref14_Right.f a b c d e g = some (vR ⟨a, b, c, d, e, g⟩) := by
  unfold signatoryref14_Right.f vR
  simp only [rwithin_eq, Option.bind_some, decide_eq_true_eq]
  by_cases h1 : 0 ≤ a ∧ a < 1048577
  · rw [if_pos h1]
    by_cases h2 : 0 ≤ d ∧ d < 1048577
    · rw [if_pos h2]
      by_cases h3 : 0 ≤ b ∧ b < 1099511627776
      · rw [if_pos h3]
        by_cases h4 : 0 ≤ c ∧ c < 1099511627776
        · rw [if_pos h4]
          by_cases h5 : 0 ≤ e ∧ e < 1099511627777
          · rw [if_pos h5, decide_eq_true (by omega)]
            cases g <;> simp
          · rw [if_neg h5, decide_eq_false (by omega)]; simp
        · rw [if_neg h4, decide_eq_false (by omega)]; simp
      · rw [if_neg h3, decide_eq_false (by omega)]; simp
    · rw [if_neg h2, decide_eq_false (by omega)]; simp
  · rw [if_neg h1, decide_eq_false (by omega)]; simp
/-- The number ahead of a place. -/
def lastAt (l : List S24) : Nat → Int
  | 0 => -1
  | i + 1 => (l.getD i z24).f0
theorem rcheck_l0 (l : List S24) (hl : l.length ≤ 4096) : ∀ (d k i : Nat), d + i = l.length → d < k → signatoryref14_Check.l0 k l (i : Int) = some (chkL (lastAt l i) (l.drop i)) := by
  intro d
  induction d with
  | zero =>
    intro k i h hk
    obtain ⟨k, rfl⟩ : ∃ m, k = m + 1 := ⟨k - 1, by omega⟩
    simp only [signatoryref14_Check.l0]
    rw [if_neg (by omega), List.drop_eq_nil_of_le (by omega)]
    rfl
  | succ d ih =>
    intro k i h hk
    obtain ⟨k, rfl⟩ : ∃ m, k = m + 1 := ⟨k - 1, by omega⟩
    have hi : i < l.length := by omega
    have hnext : lastAt l (i + 1) = l[i].f0 := by simp [lastAt, List.getD_eq_getElem?_getD, hi]
    have ih' := ih k (i + 1) (by omega) (by omega)
    rw [hnext] at ih'
    simp only [signatoryref14_Check.l0]
    rw [if_pos (by omega), if_pos (by omega), rright_eq, rdAt l i hi, List.drop_eq_getElem_cons hi]
    simp only [Option.bind_some, chkL]
    by_cases h1 : vR l[i] = true
    · rw [if_pos h1, w64 i (by omega)]
      cases i with
      | zero =>
        rw [if_neg (by omega), if_pos ⟨h1, by have := vR_no h1; simp [lastAt]; omega⟩]
        exact ih'
      | succ i =>
        have hw : wrap64 (((i + 1 : Nat) : Int) - 1) = ((i : Nat) : Int) := by unfold wrap64; omega
        have hla : lastAt l (i + 1) = l[i].f0 := by simp [lastAt, List.getD_eq_getElem?_getD, (by omega : i < l.length)]
        rw [if_pos (by omega), hw, if_pos (by omega), if_pos (by omega), rdAt l i (by omega), hla]
        by_cases h2 : l[i].f0 < l[i + 1].f0
        · rw [if_neg (by omega), if_pos ⟨h1, h2⟩]
          exact ih'
        · rw [if_pos (by omega), if_neg (fun h => h2 h.2)]
    · rw [if_neg h1, if_neg (fun h => h1 h.1)]
theorem rcheck_eq (l : List S24) (k : Nat) (hk : 4096 < k) : signatoryref14_Check.f k l = some (chk l) := by
  unfold signatoryref14_Check.f chk
  by_cases h : l.length > 4096
  · rw [if_pos (by omega), if_pos h]
  · rw [if_neg (by omega), if_neg h]
    exact rcheck_l0 l (by omega) l.length k 0 (by omega) (by omega)
theorem addP_len (l : List S24) (x : S24) : (addP l x).1.length ≤ l.length + 1 := by
  unfold addP
  have := pos_le l x.f0
  split
  · split
    · split
      · simp
      · split
        · simp
        · simp; omega
    · simp
  · simp
/-- What Add leaves is right. -/
theorem add_ok {l m : List S24} {x : S24} (h : addP l x = (m, 0)) : chk l = 0 ∧ vR x = true ∧ chk m = 0 ∧ m = l.take (pos l x.f0) ++ x :: l.drop (pos l x.f0) := by
  unfold addP at h
  by_cases h0 : chk l = 0
  · rw [if_pos h0] at h
    by_cases h1 : vR x = true
    · rw [if_pos h1] at h
      by_cases h2 : has0 l x.f0 = true
      · rw [if_pos h2] at h
        simp at h
      · rw [if_neg h2] at h
        by_cases h3 : l.length = 4096
        · rw [if_pos h3] at h
          simp at h
        · rw [if_neg h3] at h
          simp only [Prod.mk.injEq, and_true] at h
          subst h
          obtain ⟨k1, k2, k3⟩ := chk_ok h0
          refine ⟨h0, h1, chk_of ?_ ?_ ?_, rfl⟩
          · have := pos_le l x.f0
            simp
            omega
          · intro y hy
            rcases List.mem_append.1 hy with hy | hy
            · exact k2 y (List.mem_of_mem_take hy)
            · rcases List.mem_cons.1 hy with rfl | hy
              · exact h1
              · exact k2 y (List.mem_of_mem_drop hy)
          · have hlt : ∀ a ∈ l.take (pos l x.f0), a.f0 < x.f0 := by
              intro a ha
              obtain ⟨j, hj, rfl⟩ := List.mem_take_iff_getElem.1 ha
              exact pos_lt l x.f0 j (by omega) (by omega)
            have hgt : ∀ b ∈ l.drop (pos l x.f0), x.f0 < b.f0 := by
              intro b hb
              obtain ⟨j, hj, rfl⟩ := List.mem_drop_iff_getElem.1 hb
              have hpl : pos l x.f0 < l.length := by omega
              have e1 := pos_ge l x.f0 k3 (pos l x.f0) hpl (Nat.le_refl _)
              have e2 : ¬ l[pos l x.f0].f0 = x.f0 := fun e => h2 (by unfold has0; rw [List.getElem?_eq_getElem hpl]; simp [e])
              cases j with
              | zero => simp only [Nat.add_zero]; omega
              | succ j =>
                have := List.pairwise_iff_getElem.1 k3 (pos l x.f0) (pos l x.f0 + (j + 1)) hpl (by omega) (by omega)
                omega
            rw [List.pairwise_append]
            refine ⟨k3.sublist (List.take_sublist _ _), List.Pairwise.cons hgt (k3.sublist (List.drop_sublist _ _)), fun a ha b hb => ?_⟩
            rcases List.mem_cons.1 hb with rfl | hb
            · exact hlt a ha
            · have := hlt a ha; have := hgt b hb; omega
    · rw [if_neg h1] at h
      simp at h
  · rw [if_neg h0] at h
    simp only [Prod.mk.injEq] at h
    exact absurd h.2 h0
theorem add_bad {l m : List S24} {x : S24} {e : Int} (h : addP l x = (m, e)) (he : e ≠ 0) : m = [] := by
  unfold addP at h
  split at h
  · split at h
    · split at h
      · simp at h; exact h.1
      · split at h
        · simp at h; exact h.1
        · simp at h; omega
    · simp at h; exact h.1
  · simp at h; exact h.1
theorem rt_eq (l : List S24) (k : Nat) (hk : 4096 < k) : signatorylaw14_right.f k l = some (decide (l.length ≤ 30) && chk l == 0) := by
  unfold signatorylaw14_right.f
  by_cases h : (l.length : Int) ≤ 30
  · rw [if_pos h, rcheck_eq l k hk, decide_eq_true (by omega)]
    simp
  · rw [if_neg h, decide_eq_false (by omega)]
    simp
theorem pick_ins (l : List S24) (x : S24) (i : Nat) (key time : Int) (h : isKnown key time x = false) : pick key time (l.take i ++ x :: l.drop i) = pick key time l := by
  unfold pick
  rw [List.filter_append, List.filter_cons_of_neg (by simp [h]), ← List.filter_append, List.take_append_drop]
theorem historyP_len (l : List S24) (key time : Int) : (historyP l key time).1.length ≤ l.length := by
  unfold historyP
  by_cases h : chk l = 0
  · rw [if_pos h]
    by_cases h1 : (0 ≤ key ∧ key ≤ 1048576) ∧ (0 ≤ time ∧ time ≤ 1099511627775)
    · rw [if_pos h1]; exact histP_len l key time
    · rw [if_neg h1]; exact Nat.zero_le _
  · rw [if_neg h]; exact Nat.zero_le _
end Go.Proofs.Ytnahfhbnfidanaa.Q
