import Derived.Test.YtnahfhbnfidanaaE25
namespace Go.Proofs.Ytnahfhbnfidanaa.Q
open Go.RowKit Go.Proofs.YtnahfhbnfidanaaW.PrintWords
set_option linter.unusedVariables false
set_option linter.unusedSimpArgs false
theorem rhist_l0 {l : List S24} (hc : chk l = 0) (key time : Int) : ∀ (lo : Int) (k n : Nat) (s0 : List S42) (la : Int), (hgo (behind l key time lo) (valP l key lo time)).length ≤ n → s0.length + n ≤ 5000 → 5000 + (l.filter (fun y => decide (y.f1 > lo))).length < k →
    signatoryref14_History.l0 k l key time s0 (nextP l lo) la (valP l key lo time).1 (valP l key lo time).2 = some (s0 ++ hgo (behind l key time lo) (valP l key lo time), 0) := by
  obtain ⟨k1, k2, k3⟩ := chk_ok hc
  have h0 : ∀ y ∈ l, 0 ≤ y.f1 := fun y hy => by have := k2 y hy; unfold vR at this; simp at this; omega
  have hlt : ∀ lo, nextP l lo > lo → 0 ≤ nextP l lo → (l.filter (fun y => decide (y.f1 > nextP l lo))).length < (l.filter (fun y => decide (y.f1 > lo))).length := by
    intro lo n1 n2
    rcases next_is l h0 lo with ⟨h, _⟩ | ⟨_, _, ⟨y, hyl, e⟩, _⟩
    · omega
    · have h3 : l.filter (fun y => decide (y.f1 > nextP l lo)) = (l.filter (fun y => decide (y.f1 > lo))).filter (fun y => decide (y.f1 > nextP l lo)) := by
        rw [List.filter_filter]
        refine List.filter_congr (fun z _ => ?_)
        by_cases c : z.f1 > nextP l lo
        · have : z.f1 > lo := by omega
          simp [c, this]
        · simp [c]
      rw [h3]
      exact List.length_filter_lt_length_iff_exists.2 ⟨y, List.mem_filter.2 ⟨hyl, by simp; omega⟩, by simp; omega⟩
  intro lo
  refine hist_ind hc key time (fun lo s => ∀ (k n : Nat) (s0 : List S42) (la : Int), s.length ≤ n → s0.length + n ≤ 5000 → 5000 + (l.filter (fun y => decide (y.f1 > lo))).length < k →
    signatoryref14_History.l0 k l key time s0 (nextP l lo) la (valP l key lo time).1 (valP l key lo time).2 = some (s0 ++ s, 0)) ?_ ?_ ?_ lo
  · intro lo hn k n s0 la _ _ hk
    obtain ⟨k, rfl⟩ : ∃ m, k = m + 1 := ⟨k - 1, by omega⟩
    simp only [signatoryref14_History.l0]
    rw [hn, if_neg (by decide), List.append_nil]
  · intro lo s n1 n2 he ih k n s0 la hs hsn hk
    obtain ⟨k, rfl⟩ : ∃ m, k = m + 1 := ⟨k - 1, by omega⟩
    have hfl := hlt lo n1 n2
    have hfl2 := List.length_filter_le (fun y => decide (y.f1 > lo)) l
    simp only [signatoryref14_History.l0]
    rw [if_pos (by omega), rvalue_eq l hc key _ time k (by omega)]
    simp only [Option.bind_some]
    rw [he, if_pos rfl, if_neg (by simp), next_eq l k1 _ k (by omega)]
    simp only [Option.bind_some]
    have := ih k n s0 la hs hsn (by omega)
    rw [he] at this
    exact this
  · intro lo s n1 n2 he _ ih k n s0 la hs hsn hk
    obtain ⟨k, rfl⟩ : ∃ m, k = m + 1 := ⟨k - 1, by omega⟩
    have hfl := hlt lo n1 n2
    have hfl2 := List.length_filter_le (fun y => decide (y.f1 > lo)) l
    have hsl : s.length + 1 ≤ n := by simpa using hs
    have hgo' := ih k (n - 1) (s0 ++ [⟨nextP l lo, (valP l key (nextP l lo) time).1, (valP l key (nextP l lo) time).2⟩]) (nextP l lo) (by omega) (by simp; omega) (by omega)
    rw [List.append_assoc, List.singleton_append] at hgo'
    simp only [signatoryref14_History.l0]
    rw [if_pos (by omega), rvalue_eq l hc key _ time k (by omega)]
    simp only [Option.bind_some]
    by_cases c1 : (valP l key (nextP l lo) time).1 = (valP l key lo time).1
    · have c2 : ¬ (valP l key (nextP l lo) time).2 = (valP l key lo time).2 := fun h => he (Prod.ext c1 h)
      rw [if_pos c1, if_pos (by simpa using c2), if_pos (by omega), next_eq l k1 _ k (by omega)]
      exact hgo'
    · rw [if_neg c1, if_pos (by omega), next_eq l k1 _ k (by omega)]
      exact hgo'
theorem rhist_eq (l : List S24) (key time : Int) (k : Nat) (hk : 9999 ≤ k) : signatoryref14_History.f k l key time = some (historyP l key time) := by
  unfold signatoryref14_History.f historyP
  rw [rcheck_eq l k (by omega)]
  simp only [Option.bind_some, rwithin_eq, decide_eq_true_eq]
  obtain ⟨k, rfl⟩ : ∃ m, k = m + 1 := ⟨k - 1, by omega⟩
  by_cases h : chk l = 0
  · rw [if_pos h, if_pos h]
    obtain ⟨k1, k2, k3⟩ := chk_ok h
    by_cases h1 : 0 ≤ key ∧ key < 1048577
    · rw [if_pos h1]
      by_cases h3 : 0 ≤ time ∧ time < 1099511627776
      · rw [decide_eq_true h3, if_pos (by omega)]
        simp only [signatoryref14_History.j0, Bool.not_true]
        rw [if_neg Bool.false_ne_true, next_eq l k1 _ k (by omega)]
        simp only [Option.bind_some]
        obtain ⟨e1, e2⟩ := start_eq h key time
        have hfl := List.length_filter_le (fun y => decide (y.f1 > (-1 : Int))) l
        have hlen := histP_len l key time
        have := rhist_l0 h key time (-1) k l.length [] 0 (by rw [← e1]; exact hlen) (by simp; omega) (by omega)
        rw [← e1, e2] at this
        exact this
      · rw [decide_eq_false h3, if_neg (by omega)]
        simp only [signatoryref14_History.j0, Bool.not_false]
        rfl
    · rw [if_neg h1, if_neg (by omega)]
      simp only [signatoryref14_History.j0]
      rfl
  · rw [if_neg h, if_neg h]
/-- VersionsValueSpec, in plain. -/
theorem vspec_plain (l : List S24) (key at_ known : Int) : signatorylaw14_VersionsValueSpec.f 10000 l key at_ known = some true := by
  unfold signatorylaw14_VersionsValueSpec.f
  rw [sane_eq 10000 (by omega)]
  simp only [Option.bind_some, if_true]
  have htrue : signatorylaw14_VersionsValueSpec.j0 10000 l key at_ known true = some true := by simp only [signatorylaw14_VersionsValueSpec.j0]; simp
  have hmain : l.length ≤ 4100 → signatorylaw14_VersionsValueSpec.j0 10000 l key at_ known false = some true := by
    intro hl
    simp only [signatorylaw14_VersionsValueSpec.j0]
    rw [if_neg Bool.false_ne_true, value_eq l key at_ known 9999 (by omega), rValue_eq l key at_ known 9999 (by omega), history_eq l key known 9999 (by omega), rhist_eq l key known 9999 (by omega)]
    simp only [Option.bind_some, if_true, beq_self_eq_true]
    rw [steps_eq _ (Nat.le_trans (historyP_len l key known) (by omega)) 9999 (by omega)]
    simp
  unfold signatoryref14_Few.f
  by_cases h1 : (l.length : Int) ≤ 30
  · rw [if_pos h1]
    simp only [Option.bind_some, if_true]
    rw [if_neg (by omega)]
    exact hmain (by omega)
  · rw [if_neg h1]
    by_cases h2 : (l.length : Int) ≥ 4090
    · rw [if_pos h2]
      by_cases h3 : (l.length : Int) ≤ 4100
      · rw [decide_eq_true h3]
        simp only [Option.bind_some, if_true]
        rw [if_pos (by omega)]
        by_cases h4 : (l.length : Int) ≤ 4096
        · rw [decide_eq_true h4]; exact htrue
        · rw [decide_eq_false h4]; exact hmain (by omega)
      · rw [decide_eq_false h3]
        simp only [Option.bind_some]
        rw [if_neg Bool.false_ne_true]
        exact htrue
    · rw [if_neg h2]
      simp only [Option.bind_some]
      rw [if_neg Bool.false_ne_true]
      exact htrue
end Go.Proofs.Ytnahfhbnfidanaa.Q
