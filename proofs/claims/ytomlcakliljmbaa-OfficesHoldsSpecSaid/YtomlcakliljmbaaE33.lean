import Derived.Test.YtomlcakliljmbaaE32
namespace Go.Proofs.Ytomlcakliljmbaa.Q
open Go.RowKit Go.Proofs.YtomlcakliljmbaaW.PrintWords
set_option linter.unusedVariables false
set_option linter.unusedSimpArgs false
section
/-- Is an appointment one of this seat that counts. -/
def mt (o p at_ known : Int) (x : S24) : Bool := (x.f3 == o && x.f4 == p) && cnt at_ known x
/-- The later one. -/
def up (acc : Option S24) (x : S24) : Option S24 := some (match acc with
  | none => x
  | some y => if y.f1 > x.f1 then y else x)
def latest (ms : List S24) : Option S24 := ms.foldl up none
theorem stepM_at (at_ known : Int) (M : Int → Int → Option S24) (x : S24) (o p : Int) : stepM at_ known M x o p = if mt o p at_ known x = true then up (M o p) x else M o p := by
  unfold stepM mt
  by_cases hc : cnt at_ known x = true
  · rw [if_pos hc, hc, Bool.and_true]
    by_cases hk : x.f3 = o ∧ x.f4 = p
    · obtain ⟨rfl, rfl⟩ := hk
      rw [if_pos (by simp)]
      unfold up putM
      cases hM : M x.f3 x.f4 with
      | none => simp
      | some y =>
        dsimp only
        by_cases hy : y.f1 > x.f1
        · rw [if_pos hy, if_pos hy, hM]
        · rw [if_neg hy, if_neg hy]; simp
    · rw [if_neg (by simpa using hk)]
      have hk' : ¬ (o = x.f3 ∧ p = x.f4) := fun h => hk ⟨h.1.symm, h.2.symm⟩
      cases hM : M x.f3 x.f4 with
      | none => dsimp only; unfold putM; rw [if_neg hk']
      | some y =>
        dsimp only
        by_cases hy : y.f1 > x.f1
        · rw [if_pos hy]
        · rw [if_neg hy]; unfold putM; rw [if_neg hk']
  · rw [if_neg hc, if_neg (by simp [hc])]
theorem stand_fold (at_ known o p : Int) : ∀ (l : List S24) (M : Int → Int → Option S24), l.foldl (stepM at_ known) M o p = (l.filter (mt o p at_ known)).foldl up (M o p)
  | [], M => rfl
  | x :: t, M => by
    rw [List.foldl_cons, stand_fold at_ known o p t, stepM_at, List.filter_cons]
    by_cases h : mt o p at_ known x = true
    · rw [if_pos h, if_pos h, List.foldl_cons]
    · rw [if_neg h, if_neg h]
/-- What stands is the latest of those that match. -/
theorem stand_eq (at_ known o p : Int) (l : List S24) : standP at_ known l o p = latest (l.filter (mt o p at_ known)) := stand_fold at_ known o p l _
theorem latest_snoc (ms : List S24) (x : S24) : latest (ms ++ [x]) = up (latest ms) x := by unfold latest; rw [List.foldl_append]; rfl
theorem stand_take (at_ known o p : Int) (l : List S24) (i : Nat) (hi : i < l.length) : standP at_ known (l.take (i + 1)) o p = if mt o p at_ known l[i] = true then up (standP at_ known (l.take i) o p) l[i] else standP at_ known (l.take i) o p := by
  rw [List.take_succ_eq_append_getElem hi, standP_snoc, stepM_at]
/-- Of those that match, none is later than the latest. -/
theorem latest_spec : ∀ (n : Nat) (ms : List S24), ms.length = n → ms.Pairwise (fun a b => a.f0 < b.f0) → (latest ms = none ∧ ms = []) ∨ ∃ y, latest ms = some y ∧ y ∈ ms ∧ ∀ x ∈ ms, x = y ∨ x.f1 < y.f1 ∨ (x.f1 = y.f1 ∧ x.f0 < y.f0)
  | 0, ms, h, _ => by
    obtain rfl := List.length_eq_zero_iff.1 h
    exact .inl ⟨rfl, rfl⟩
  | n + 1, ms, h, hp => by
    right
    obtain ⟨t, x, rfl⟩ : ∃ t x, ms = t ++ [x] := ⟨ms.dropLast, ms.getLast (by intro e; simp [e] at h), (List.dropLast_concat_getLast _).symm⟩
    rw [List.pairwise_append] at hp
    rw [latest_snoc]
    rcases latest_spec n t (by simpa using h) hp.1 with ⟨h1, rfl⟩ | ⟨y, h1, h2, h3⟩
    · exact ⟨x, by rw [h1]; rfl, by simp, fun z hz => .inl (by simpa using hz)⟩
    · rw [h1]
      have hyx := hp.2.2 y h2 x (by simp)
      unfold up
      dsimp only
      by_cases hc : y.f1 > x.f1
      · rw [if_pos hc]
        refine ⟨y, rfl, by simp [h2], fun z hz => ?_⟩
        rcases List.mem_append.1 hz with hz | hz
        · exact h3 z hz
        · simp at hz; subst hz; exact .inr (.inl hc)
      · rw [if_neg hc]
        refine ⟨x, rfl, by simp, fun z hz => ?_⟩
        rcases List.mem_append.1 hz with hz | hz
        · have hzx := hp.2.2 z hz x (by simp)
          rcases h3 z hz with rfl | h | ⟨h, _⟩
          · by_cases he : z.f1 = x.f1
            · exact .inr (.inr ⟨he, hzx⟩)
            · exact .inr (.inl (by omega))
          · by_cases he : z.f1 = x.f1
            · omega
            · exact .inr (.inl (by omega))
          · by_cases he : z.f1 = x.f1
            · exact .inr (.inr ⟨he, hzx⟩)
            · exact .inr (.inl (by omega))
        · simp at hz; exact .inl hz
/-- The reference's index of the last one. -/
def IdxIs (l : List S24) (idx : Int) (m : Option S24) : Prop := (idx = -1 ∧ m = none) ∨ ∃ (j : Nat) (h : j < l.length), idx = (j : Int) ∧ m = some l[j]
theorem rlast_l0 (l : List S24) (hl : l.length ≤ 5000) (o p at_ known : Int) : ∀ (d k i : Nat) (idx : Int), d + i = l.length → d < k → IdxIs l idx (standP at_ known (l.take i) o p) →
    ∃ r, signatoryref15_last.l0 k l o p at_ known idx (i : Int) = some r ∧ IdxIs l r (standP at_ known l o p) := by
  intro d
  induction d with
  | zero =>
    intro k i idx h hk hI
    obtain ⟨k, rfl⟩ : ∃ m, k = m + 1 := ⟨k - 1, by omega⟩
    rw [List.take_of_length_le (by omega)] at hI
    refine ⟨idx, ?_, hI⟩
    unfold signatoryref15_last.l0
    rw [if_neg (by omega)]
  | succ d ih =>
    intro k i idx h hk hI
    obtain ⟨k, rfl⟩ : ∃ m, k = m + 1 := ⟨k - 1, by omega⟩
    have hi : i < l.length := by omega
    have hst := stand_take at_ known o p l i hi
    have hsame : ¬ mt o p at_ known l[i] = true → IdxIs l idx (standP at_ known (l.take (i + 1)) o p) := fun hm => by rw [hst, if_neg hm]; exact hI
    have hnew : mt o p at_ known l[i] = true → up (standP at_ known (l.take i) o p) l[i] = some l[i] → IdxIs l (i : Int) (standP at_ known (l.take (i + 1)) o p) := fun hm hu => by rw [hst, if_pos hm, hu]; exact .inr ⟨i, hi, rfl, rfl⟩
    unfold signatoryref15_last.l0
    rw [if_pos (by omega), if_pos (by omega), rdAt l i hi, w64 i (by omega)]
    by_cases h1 : l[i].f3 = o
    · rw [if_pos h1]
      by_cases h2 : l[i].f4 = p
      · rw [if_pos h2]
        have hc : ∀ a b c d e f g, signatoryref15_Counts.f a b c d e f g at_ known = some (decide (b ≤ at_) && decide (c ≤ known)) := fun a b c d e f g => by
          unfold signatoryref15_Counts.f
          by_cases hb : b ≤ at_ <;> simp [hb]
        rw [hc]
        simp only [Option.bind_some]
        have hmt : mt o p at_ known l[i] = (decide (l[i].f1 ≤ at_) && decide (l[i].f2 ≤ known)) := by unfold mt cnt; simp [h1, h2]
        rw [← hmt]
        by_cases hm : mt o p at_ known l[i] = true
        · rw [if_pos hm]
          rcases hI with ⟨rfl, hn⟩ | ⟨j, hj, rfl, hn⟩
          · rw [if_pos (by omega)]
            exact ih k (i + 1) _ (by omega) (by omega) (hnew hm (by rw [hn]; rfl))
          · rw [if_neg (by omega), if_pos (by omega), if_pos (by omega), rdAt l j hj]
            by_cases hge : l[i].f1 ≥ l[j].f1
            · rw [if_pos hge]
              exact ih k (i + 1) _ (by omega) (by omega) (hnew hm (by rw [hn]; unfold up; dsimp only; rw [if_neg (by omega)]))
            · rw [if_neg hge]
              refine ih k (i + 1) _ (by omega) (by omega) ?_
              rw [hst, if_pos hm, hn]
              unfold up
              dsimp only
              rw [if_pos (by omega)]
              exact .inr ⟨j, hj, rfl, rfl⟩
        · rw [if_neg hm]
          exact ih k (i + 1) _ (by omega) (by omega) (hsame hm)
      · rw [if_neg h2]
        exact ih k (i + 1) _ (by omega) (by omega) (hsame (by unfold mt; simp [h2]))
    · rw [if_neg h1]
      exact ih k (i + 1) _ (by omega) (by omega) (hsame (by unfold mt; simp [h1]))
theorem rlast_eq (l : List S24) (hl : l.length ≤ 5000) (o p at_ known : Int) (k : Nat) (hk : 5000 < k) : ∃ r, signatoryref15_last.f k l o p at_ known = some r ∧ IdxIs l r (standP at_ known l o p) := by
  unfold signatoryref15_last.f
  exact rlast_l0 l hl o p at_ known l.length k 0 (-1) (by omega) (by omega) (.inl ⟨rfl, rfl⟩)
theorem rholds_eq (l : List S24) (hl : l.length ≤ 5000) (o p at_ known : Int) (k : Nat) (hk : 5001 < k) : signatoryref15_Holds.f k l o p at_ known = some (holdsA l o p at_ known) := by
  obtain ⟨k, rfl⟩ : ∃ m, k = m + 1 := ⟨k - 1, by omega⟩
  have hj : ∀ b : Bool, signatoryref15_Holds.j0 (k + 1) l o p at_ known b = some (if b = true then (0, 0, false, 1) else holdsP (standP at_ known l) o p) := by
    intro b
    simp only [signatoryref15_Holds.j0]
    cases b with
    | true => rfl
    | false =>
      rw [if_neg (by decide), if_neg (by decide)]
      obtain ⟨r, h1, h2⟩ := rlast_eq l hl o p at_ known k (by omega)
      rw [h1]
      simp only [Option.bind_some]
      unfold holdsP
      rcases h2 with ⟨rfl, hn⟩ | ⟨j, hj, rfl, hn⟩
      · rw [if_pos (by omega), hn]
      · rw [if_neg (by omega), if_pos (by omega), if_pos (by omega), hn, rdAt l j hj]
        dsimp only
        by_cases hg : l[j].f6 = true
        · rw [if_pos hg, if_pos hg]
        · rw [if_neg hg, if_neg hg]
  unfold signatoryref15_Holds.f holdsA
  rw [rcheck_eq l _ (by omega)]
  simp only [Option.bind_some, hj, rOffice_eq, rPerson_eq, rTime_eq, decide_eq_true_eq]
  by_cases h : chk l = 0
  · rw [if_pos h, if_pos h]
    by_cases h1 : 0 ≤ o ∧ o ≤ 31
    · rw [if_pos h1]
      by_cases h4 : 0 ≤ p ∧ p ≤ 63
      · rw [if_pos h4]
        by_cases h2 : 0 ≤ at_ ∧ at_ ≤ 1099511627775
        · rw [if_pos h2]
          by_cases h3 : 0 ≤ known ∧ known ≤ 1099511627775
          · rw [decide_eq_true h3]; exact congrArg some (if_pos ⟨h1, h4, h2, h3⟩).symm
          · rw [decide_eq_false h3]; exact congrArg some (if_neg (fun h => h3 h.2.2.2)).symm
        · rw [if_neg h2]; exact congrArg some (if_neg (fun h => h2 h.2.2.1)).symm
      · rw [if_neg h4]; exact congrArg some (if_neg (fun h => h4 h.2.1)).symm
    · rw [if_neg h1]; exact congrArg some (if_neg (fun h => h1 h.1)).symm
  · rw [if_neg h, if_neg h]
/-- The holders among the first people. -/
def holdersTo (M : Int → Int → Option S24) (office : Int) (n : Nat) : List (Int × Int) := (List.range n).filterMap (fun p : Nat => holdOf M office (p : Int))
theorem holdersTo_succ (M : Int → Int → Option S24) (office : Int) (n : Nat) : holdersTo M office (n + 1) = holdersTo M office n ++ (match holdOf M office (n : Int) with | some h => [h] | none => []) := by
  unfold holdersTo
  rw [List.range_succ, List.filterMap_append]
  congr 1
  cases h : holdOf M office (n : Int) <;> simp [h]
theorem holdersTo_len (M : Int → Int → Option S24) (office : Int) (n : Nat) : (holdersTo M office n).length ≤ n := by
  unfold holdersTo
  have := List.length_filterMap_le (fun p : Nat => holdOf M office (p : Int)) (List.range n)
  simpa using this
theorem rholders_l0 (l : List S24) (hl : l.length ≤ 5000) (o at_ known : Int) : ∀ (d k i : Nat), d + i = 64 → d + 5000 < k →
    signatoryref15_Holders.l0 (k + 1) l o at_ known ((holdersTo (standP at_ known l) o i).map h34) (i : Int) = some ((holdersP (standP at_ known l) o).map h34, 0) := by
  intro d
  induction d with
  | zero =>
    intro k i h hk
    obtain rfl : i = 64 := by omega
    unfold signatoryref15_Holders.l0
    rw [if_neg (by omega)]
    rfl
  | succ d ih =>
    intro k i h hk
    obtain ⟨k, rfl⟩ : ∃ m, k = m + 1 := ⟨k - 1, by omega⟩
    have ih' := ih k (i + 1) (by omega) (by omega)
    rw [holdersTo_succ] at ih'
    unfold holdOf at ih'
    unfold signatoryref15_Holders.l0
    obtain ⟨r, h1, h2⟩ := rlast_eq l hl o i at_ known (k + 1) (by omega)
    have hlen := holdersTo_len (standP at_ known l) o i
    rw [if_pos (by omega), h1, w64 i (by omega)]
    simp only [Option.bind_some]
    rcases h2 with ⟨rfl, hn⟩ | ⟨j, hj, rfl, hn⟩
    · rw [if_neg (by omega)]
      rw [hn] at ih'
      simpa using ih'
    · rw [if_pos (by omega), if_pos (by omega), if_pos (by omega), rdAt l j hj]
      rw [hn] at ih'
      by_cases hg : l[j].f6 = true
      · rw [if_pos hg]
        simp only [Option.bind_some, hg, if_true] at ih'
        simpa using ih'
      · rw [if_neg hg, if_pos (by rw [List.length_map]; omega)]
        simp only [Option.bind_some, hg] at ih'
        simpa [h34] using ih'
theorem rholders_eq (l : List S24) (hl : l.length ≤ 5000) (o at_ known : Int) (k : Nat) (hk : 5100 < k) : signatoryref15_Holders.f k l o at_ known = some (holdersA l o at_ known) := by
  obtain ⟨k, rfl⟩ : ∃ m, k = m + 2 := ⟨k - 2, by omega⟩
  have hj : ∀ b : Bool, signatoryref15_Holders.j0 (k + 2) l o at_ known b = some (if b = true then ([], 1) else ((holdersP (standP at_ known l) o).map h34, 0)) := by
    intro b
    show (if b = true then some (([] : List S34), (1 : Int)) else signatoryref15_Holders.l0 (k + 1) l o at_ known [] 0) = _
    cases b with
    | true => rfl
    | false =>
      rw [if_neg (by decide), if_neg (by decide)]
      exact rholders_l0 l hl o at_ known 64 k 0 (by omega) (by omega)
  unfold signatoryref15_Holders.f holdersA
  rw [rcheck_eq l _ (by omega)]
  simp only [Option.bind_some, hj, rOffice_eq, rTime_eq, decide_eq_true_eq]
  by_cases h : chk l = 0
  · rw [if_pos h, if_pos h]
    by_cases h1 : 0 ≤ o ∧ o ≤ 31
    · rw [if_pos h1]
      by_cases h2 : 0 ≤ at_ ∧ at_ ≤ 1099511627775
      · rw [if_pos h2]
        by_cases h3 : 0 ≤ known ∧ known ≤ 1099511627775
        · rw [decide_eq_true h3]; exact congrArg some (if_pos ⟨h1, h2, h3⟩).symm
        · rw [decide_eq_false h3]; exact congrArg some (if_neg (fun h => h3 h.2.2)).symm
      · rw [if_neg h2]; exact congrArg some (if_neg (fun h => h2 h.2.1)).symm
    · rw [if_neg h1]; exact congrArg some (if_neg (fun h => h1 h.1)).symm
  · rw [if_neg h, if_neg h]
end
end Go.Proofs.Ytomlcakliljmbaa.Q
