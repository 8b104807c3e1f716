import Derived.Test.YthlehlbokaeigaaE43
namespace Go.Proofs.Ythlehlbokaeigaa.Q
open Go.RowKit Go.Proofs.YthlehlbokaeigaaW.PrintWords
set_option linter.unusedVariables false
set_option linter.unusedSimpArgs false
attribute [local simp] okc_t okc_f
theorem isCut_l0 (q : List S28) (ap : List S55) (hl : ap.length ≤ 1000000) (a b : Int) : ∀ (d k i : Nat), d + i = ap.length → d < k → signatoryref06_IsCut.l0 k a b (i : Int) q ap = some (has55 (ap.drop i) (mn a b) (mx a b)) := by
  intro d
  induction d with
  | zero =>
    intro k i h hk
    obtain ⟨k, rfl⟩ : ∃ m, k = m + 1 := ⟨k - 1, by omega⟩
    unfold signatoryref06_IsCut.l0
    rw [if_neg (by omega), List.drop_eq_nil_of_le (by omega)]
    rfl
  | succ d ih =>
    intro k i h hk
    obtain ⟨k, rfl⟩ : ∃ m, k = m + 1 := ⟨k - 1, by omega⟩
    have hi : i < ap.length := by omega
    have ih' := ih k (i + 1) (by omega) (by omega)
    unfold signatoryref06_IsCut.l0
    rw [if_pos (by omega), if_pos (by omega), rd55_at ap i hi, w_succ i (by omega), ih', List.drop_eq_getElem_cons hi]
    unfold has55
    rw [List.any_cons]
    by_cases h1 : ap[i].f0 = mn a b
    · rw [if_pos h1]
      by_cases h2 : ap[i].f1 = mx a b
      · rw [if_pos h2, h1, h2]; simp
      · rw [if_neg h2]
        have : (mx a b == ap[i].f1) = false := by simpa using Ne.symm h2
        rw [this, Bool.and_false, Bool.false_or]
    · rw [if_neg h1]
      have : (mn a b == ap[i].f0) = false := by simpa using Ne.symm h1
      rw [this, Bool.false_and, Bool.false_or]
theorem isCut_eq (q : List S28) (ap : List S55) (hl : ap.length ≤ 1000000) (a b : Int) (k : Nat) (hk : ap.length < k) : signatoryref06_IsCut.f k q ap a b = some (has55 ap (mn a b) (mx a b)) := by
  unfold signatoryref06_IsCut.f
  exact isCut_l0 q ap hl a b ap.length k 0 (by omega) hk
theorem asked_eq (q : List S28) (ap : List S55) (hl : ap.length ≤ 1000000) (k : Nat) (hk : q.length + 2 * ap.length + 5 ≤ k) (i : Int) : signatoryref06_asked.f k q ap i = some (atP q ap i) := by
  unfold signatoryref06_asked.f atP
  rw [refCheck_eq q ap (by omega) k hk, Option.bind_some]
  cases netOk q ap with
  | false => simp
  | true =>
    simp only [okc_t, if_true]
    by_cases h1 : i < 0
    · rw [if_pos h1, if_neg (by omega)]
    · rw [if_neg h1]
      by_cases h2 : i ≥ (q.length : Int)
      · rw [if_pos h2, if_neg (by omega)]
      · rw [if_neg h2, if_pos ⟨by omega, by omega⟩]
theorem refWithout_eq (q : List S28) (ap : List S55) (i : Nat) (hq : q.length ≤ 4097) (h : i < q.length) : signatoryref06_without.f q ap (i : Int) = some (woP q i, ap) := by
  have e1 : ([] : List S28).length + (List.take (i : Int).toNat q).length < 3518437208883 := by rw [List.length_nil, List.length_take]; omega
  have e2 : (([] : List S28) ++ List.take (i : Int).toNat q).length + (List.drop ((i + 1 : Nat) : Int).toNat q).length < 3518437208883 := by rw [List.nil_append, List.length_take, List.length_drop]; omega
  have e : (([] : List S28) ++ List.take (i : Int).toNat q) ++ List.drop ((i + 1 : Nat) : Int).toNat q = woP q i := by
    unfold woP
    rw [List.nil_append, Int.toNat_natCast, Int.toNat_natCast]
  have c1 : (0 : Int) ≤ (i : Int) := by omega
  have c3 : (i : Int) ≤ (q.length : Int) := by omega
  have c4 : (0 : Int) ≤ ((i + 1 : Nat) : Int) := by omega
  have c5 : ((i + 1 : Nat) : Int) ≤ (q.length : Int) := by omega
  unfold signatoryref06_without.f
  rw [Option.bind_some, if_pos c1, if_pos c3, Option.bind_some, if_pos e1, Option.bind_some, w_succ i (by omega), if_pos c4, if_pos c5, Option.bind_some, if_pos e2, e]
theorem refLose_eq (q : List S28) (ap : List S55) (hl : ap.length ≤ 1000000) (k : Nat) (hk : q.length + 2 * ap.length + 5 ≤ k) (i : Int) : signatoryref06_Lose.f k q ap i = some (loseP q ap i) := by
  unfold signatoryref06_Lose.f loseP
  rw [asked_eq q ap hl k hk i, Option.bind_some]
  by_cases h : atP q ap i = 0
  · obtain ⟨h1, h2, h3⟩ := atP_ok h
    have hq := netOk_len h1
    rw [if_pos h, if_pos h]
    have := refWithout_eq q ap i.toNat (by omega) (by omega)
    rw [show ((i.toNat : Nat) : Int) = i from by omega] at this
    rw [this]
    rfl
  · rw [if_neg h, if_neg h]
theorem refDeliver_eq (q : List S28) (ap : List S55) (hl : ap.length ≤ 1000000) (k : Nat) (hk : q.length + 2 * ap.length + 5 ≤ k) (i : Int) : signatoryref06_Deliver.f k q ap i = some (deliverP q ap i) := by
  unfold signatoryref06_Deliver.f deliverP
  rw [asked_eq q ap hl k hk i, Option.bind_some]
  by_cases h : atP q ap i = 0
  · obtain ⟨h1, h2, h3⟩ := atP_ok h
    have hq := netOk_len h1
    rw [if_pos h, if_pos h, if_pos (by omega), if_pos (by omega)]
    have hw := refWithout_eq q ap i.toNat (by omega) (by omega)
    rw [show ((i.toNat : Nat) : Int) = i from by omega] at hw
    simp only [isCut_eq q ap hl _ _ k (by omega), hw, Option.bind_some]
    cases has55 ap (mn (rd_T28 q i).f0 (rd_T28 q i).f1) (mx (rd_T28 q i).f0 (rd_T28 q i).f1) <;> rfl
  · rw [if_neg h, if_neg h]
theorem refRepeat_eq (q : List S28) (ap : List S55) (hl : ap.length ≤ 1000000) (k : Nat) (hk : q.length + 2 * ap.length + 5 ≤ k) (i : Int) : signatoryref06_Repeat.f k q ap i = some (repeatP q ap i) := by
  unfold signatoryref06_Repeat.f repeatP
  rw [asked_eq q ap hl k hk i, Option.bind_some]
  by_cases h : atP q ap i = 0
  · obtain ⟨h1, h2, h3⟩ := atP_ok h
    rw [if_pos h, if_pos h, if_pos (by omega), if_pos (by omega), refSend_eq q ap (rd_T28 q i) (by omega) k hk]
    rfl
  · rw [if_neg h, if_neg h]
theorem site_eq (a : Int) : signatoryref06_Site.f a = some (decide (0 ≤ a ∧ a < 24)) := by
  unfold signatoryref06_Site.f
  by_cases h : a ≥ 0
  · rw [if_pos h]; simp [h]
  · rw [if_neg h]; simp; omega
/-- The links so far, in the reference's order. -/
theorem refCut_l1 (q : List S28) (ap : List S55) (hl : ap.length ≤ 1000000) (a b : Int) (on : Bool) (i : Nat) (hi : i < 24) (pre : List S55) (hp : pre.length ≤ 1000000) (K : Nat) (hK : ap.length < K) : ∀ (d j : Nat), d + j = 24 → i < j → (cutRow (keepB ap (mn a b) (mx a b) on) i j).length ≤ j →
    signatoryref06_Cut.l1 (K + 2 * d + 1) a b on (pre ++ cutRow (keepB ap (mn a b) (mx a b) on) i j) (i : Int) (j : Int) q ap = signatoryref06_Cut.l0 K a b on (pre ++ cutRow (keepB ap (mn a b) (mx a b) on) i 24) ((i + 1 : Nat) : Int) q ap := by
  intro d
  induction d with
  | zero =>
    intro j h hij hlen
    obtain rfl : j = 24 := by omega
    show signatoryref06_Cut.l1 (K + 1) a b on _ _ _ q ap = _
    rw [signatoryref06_Cut.l1]
    rw [if_neg (by omega), w_succ i (by omega)]
  | succ d ih =>
    intro j h hij hlen
    have hrow : cutRow (keepB ap (mn a b) (mx a b) on) i (j + 1) = cutRow (keepB ap (mn a b) (mx a b) on) i j ++ (if i < j ∧ keepB ap (mn a b) (mx a b) on i j = true then [⟨i, j⟩] else []) := rfl
    have ih' := ih (j + 1) (by omega) (by omega) (by rw [hrow, List.length_append]; split <;> simp <;> omega)
    rw [hrow] at ih'
    have hj3 : ∀ (c m : Bool), m = ((i : Int) == mn a b && (j : Int) == mx a b) → c = has55 ap i j → signatoryref06_Cut.j3 (K + 2 * d + 2) a b on (pre ++ cutRow (keepB ap (mn a b) (mx a b) on) i j) (i : Int) (j : Int) c m q ap = signatoryref06_Cut.l0 K a b on (pre ++ cutRow (keepB ap (mn a b) (mx a b) on) i 24) ((i + 1 : Nat) : Int) q ap := by
      intro c m hm hc
      have hlen2 : (pre ++ cutRow (keepB ap (mn a b) (mx a b) on) i j).length < 8796093022208 := by rw [List.length_append]; omega
      have hkp : keepB ap (mn a b) (mx a b) on i j = if m = true then on else c := by unfold keepB; rw [hm, hc]
      rw [hkp] at ih'
      show signatoryref06_Cut.j3 (K + 2 * d + 1 + 1) a b on _ _ _ c m q ap = _
      rw [signatoryref06_Cut.j3, w_succ j (by omega)]
      cases m with
      | true =>
        rw [if_pos rfl]
        simp only [if_true] at ih'
        cases on with
        | true =>
          rw [if_pos rfl, if_pos hlen2]
          rw [if_pos ⟨hij, rfl⟩, ← List.append_assoc] at ih'
          exact ih'
        | false =>
          rw [if_neg (by decide)]
          rw [if_neg (by simp), List.append_nil] at ih'
          exact ih'
      | false =>
        rw [if_neg (by decide)]
        simp only [Bool.false_eq_true, if_false] at ih'
        cases c with
        | true =>
          rw [if_pos rfl, if_pos hlen2]
          rw [if_pos ⟨hij, rfl⟩, ← List.append_assoc] at ih'
          exact ih'
        | false =>
          rw [if_neg (by decide)]
          rw [if_neg (by simp), List.append_nil] at ih'
          exact ih'
    have hmn : mn (i : Int) (j : Int) = i := by unfold mn; split <;> omega
    have hmx : mx (i : Int) (j : Int) = j := by unfold mx; split <;> omega
    rw [show K + 2 * (d + 1) + 1 = (K + 2 * d + 2) + 1 by omega, signatoryref06_Cut.l1]
    rw [if_pos (by omega), isCut_eq q ap hl _ _ _ (by omega), hmn, hmx]
    simp only [Option.bind_some]
    by_cases h1 : (i : Int) = mn a b
    · rw [if_pos h1]
      exact hj3 _ _ (by rw [← h1]; simp) rfl
    · rw [if_neg h1]
      exact hj3 _ _ (by simp [h1]) rfl
theorem refCut_l0 (q : List S28) (ap : List S55) (hl : ap.length ≤ 1000000) (a b : Int) (on : Bool) : ∀ (d k i : Nat), d + i = 24 → d * 60 + ap.length + 1 < k →
    signatoryref06_Cut.l0 k a b on (cutUp (keepB ap (mn a b) (mx a b) on) i) (i : Int) q ap = some (q, cutUp (keepB ap (mn a b) (mx a b) on) 24, 0) := by
  intro d
  induction d with
  | zero =>
    intro k i h hk
    obtain ⟨k, rfl⟩ : ∃ m, k = m + 1 := ⟨k - 1, by omega⟩
    obtain rfl : i = 24 := by omega
    rw [signatoryref06_Cut.l0]
    rw [if_neg (by omega)]
  | succ d ih =>
    intro k i h hk
    have hi : i < 24 := by omega
    obtain ⟨k, rfl⟩ : ∃ m, k = m + 2 * (24 - (i + 1)) + 1 + 1 := ⟨k - 2 - 2 * (24 - (i + 1)), by omega⟩
    have hu := cutUp_len (keepB ap (mn a b) (mx a b) on) i
    have hlow := cutRow_low (keepB ap (mn a b) (mx a b) on) i (i + 1) (by omega)
    have := refCut_l1 q ap hl a b on i hi (cutUp (keepB ap (mn a b) (mx a b) on) i) (by omega) k (by omega) (24 - (i + 1)) (i + 1) (by omega) (by omega) (cutRow_len _ _ _)
    rw [hlow, List.append_nil] at this
    rw [signatoryref06_Cut.l0]
    rw [if_pos (by omega), w_succ i (by omega), this]
    exact ih k (i + 1) (by omega) (by omega)
theorem lk_sites (a b : Int) : lkOk ⟨mn a b, mx a b⟩ = (decide (0 ≤ a ∧ a < 24) && (decide (0 ≤ b ∧ b < 24) && !(a == b))) := by
  unfold lkOk mn mx
  by_cases h : a = b
  · subst h
    simp
  · have : (a == b) = false := by simpa using h
    rw [this]
    by_cases h1 : 0 ≤ a <;> by_cases h2 : a < 24 <;> by_cases h3 : 0 ≤ b <;> by_cases h4 : b < 24 <;> by_cases h5 : a ≤ b <;> by_cases h6 : a < b <;> simp [h1, h2, h3, h4, h5, h6] <;> omega
theorem refCut_eq (q : List S28) (ap : List S55) (hl : ap.length ≤ 1000000) (a b : Int) (on : Bool) (k : Nat) (hk : q.length + 2 * ap.length + 2000 ≤ k) : signatoryref06_Cut.f k q ap a b on = some (cutP q ap a b on) := by
  unfold signatoryref06_Cut.f cutP
  rw [refCheck_eq q ap (by omega) k (by omega), Option.bind_some]
  obtain ⟨k, rfl⟩ : ∃ m, k = m + 1 := ⟨k - 1, by omega⟩
  have hj : ∀ c : Bool, signatoryref06_Cut.j0 (k + 1) a b on c q ap = some (if c = true then ([], [], 1) else (q, cutUp (keepB ap (mn a b) (mx a b) on) 24, 0)) := by
    intro c
    rw [signatoryref06_Cut.j0]
    cases c with
    | true => rfl
    | false =>
      rw [if_neg (by decide), if_neg (by decide)]
      exact refCut_l0 q ap hl a b on 24 k 0 (by omega) (by omega)
  cases netOk q ap with
  | false => simp
  | true =>
    simp only [okc_t, if_true, site_eq, Option.bind_some, hj, lk_sites, decide_eq_true_eq]
    by_cases h1 : 0 ≤ a ∧ a < 24
    · rw [if_pos h1, decide_eq_true h1]
      by_cases h2 : 0 ≤ b ∧ b < 24
      · rw [if_pos h2, decide_eq_true h2]
        cases a == b <;> rfl
      · rw [if_neg h2, decide_eq_false h2]; rfl
    · rw [if_neg h1, decide_eq_false h1]; rfl
end Go.Proofs.Ythlehlbokaeigaa.Q
