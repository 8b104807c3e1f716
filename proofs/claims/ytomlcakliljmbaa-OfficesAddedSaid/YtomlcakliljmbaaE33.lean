import Derived.Test.YtomlcakliljmbaaE32
namespace Go.Proofs.Ytomlcakliljmbaa.Q
open Go.RowKit Go.Proofs.YtomlcakliljmbaaW.PrintWords
set_option linter.unusedVariables false
set_option linter.unusedSimpArgs false
section
/-- Is an appointment one of this seat that counts. -/
def mt (o p at_ known : Int) (x : S24) : Bool := (x.f3 == o && x.f4 == p) && cnt at_ known x
/-- The later one. -/
def up (acc : Option S24) (x : S24) : Option S24 := some (match acc with
  | none => x
  | some y => if y.f1 > x.f1 then y else x)
def latest (ms : List S24) : Option S24 := ms.foldl up none
theorem stepM_at (at_ known : Int) (M : Int → Int → Option S24) (x : S24) (o p : Int) : stepM at_ known M x o p = if mt o p at_ known x = true then up (M o p) x else M o p := by
  unfold stepM mt
  by_cases hc : cnt at_ known x = true
  · rw [if_pos hc, hc, Bool.and_true]
    by_cases hk : x.f3 = o ∧ x.f4 = p
    · obtain ⟨rfl, rfl⟩ := hk
      rw [if_pos (by simp)]
      unfold up putM
      cases hM : M x.f3 x.f4 with
      | none => simp
      | some y =>
        dsimp only
        by_cases hy : y.f1 > x.f1
        · rw [if_pos hy, if_pos hy, hM]
        · rw [if_neg hy, if_neg hy]; simp
    · rw [if_neg (by simpa using hk)]
      have hk' : ¬ (o = x.f3 ∧ p = x.f4) := fun h => hk ⟨h.1.symm, h.2.symm⟩
      cases hM : M x.f3 x.f4 with
      | none => dsimp only; unfold putM; rw [if_neg hk']
      | some y =>
        dsimp only
        by_cases hy : y.f1 > x.f1
        · rw [if_pos hy]
        · rw [if_neg hy]; unfold putM; rw [if_neg hk']
  · rw [if_neg hc, if_neg (by simp [hc])]
theorem stand_fold (at_ known o p : Int) : ∀ (l : List S24) (M : Int → Int → Option S24), l.foldl (stepM at_ known) M o p = (l.filter (mt o p at_ known)).foldl up (M o p)
  | [], M => rfl
  | x :: t, M => by
    rw [List.foldl_cons, stand_fold at_ known o p t, stepM_at, List.filter_cons]
    by_cases h : mt o p at_ known x = true
    · rw [if_pos h, if_pos h, List.foldl_cons]
    · rw [if_neg h, if_neg h]
/-- What stands is the latest of those that match. -/
theorem stand_eq (at_ known o p : Int) (l : List S24) : standP at_ known l o p = latest (l.filter (mt o p at_ known)) := stand_fold at_ known o p l _
theorem latest_snoc (ms : List S24) (x : S24) : latest (ms ++ [x]) = up (latest ms) x := by unfold latest; rw [List.foldl_append]; rfl
theorem stand_take (at_ known o p : Int) (l : List S24) (i : Nat) (hi : i < l.length) : standP at_ known (l.take (i + 1)) o p = if mt o p at_ known l[i] = true then up (standP at_ known (l.take i) o p) l[i] else standP at_ known (l.take i) o p := by
  rw [List.take_succ_eq_append_getElem hi, standP_snoc, stepM_at]
/-- Of those that match, none is later than the latest. -/
theorem latest_spec : ∀ (n : Nat) (ms : List S24), ms.length = n → ms.Pairwise (fun a b => a.f0 < b.f0) → (latest ms = none ∧ ms = []) ∨ ∃ y, latest ms = some y ∧ y ∈ ms ∧ ∀ x ∈ ms, x = y ∨ x.f1 < y.f1 ∨ (x.f1 = y.f1 ∧ x.f0 < y.f0)
  | 0, ms, h, _ => by
    obtain rfl := List.length_eq_zero_iff.1 h
    exact .inl ⟨rfl, rfl⟩
  | n + 1, ms, h, hp => by
    right
    obtain ⟨t, x, rfl⟩ : ∃ t x, ms = t ++ [x] := ⟨ms.dropLast, ms.getLast (by intro e; simp [e] at h), (List.dropLast_concat_getLast _).symm⟩
    rw [List.pairwise_append] at hp
    rw [latest_snoc]
    rcases latest_spec n t (by simpa using h) hp.1 with ⟨h1, rfl⟩ | ⟨y, h1, h2, h3⟩
    · exact ⟨x, by rw [h1]; rfl, by simp, fun z hz => .inl (by simpa using hz)⟩
    · rw [h1]
      have hyx := hp.2.2 y h2 x (by simp)
      unfold up
      dsimp only
      by_cases hc : y.f1 > x.f1
      · rw [if_pos hc]
        refine ⟨y, rfl, by simp [h2], fun z hz => ?_⟩
        rcases List.mem_append.1 hz with hz | hz
        · exact h3 z hz
        · simp at hz; subst hz; exact .inr (.inl hc)
      · rw [if_neg hc]
        refine ⟨x, rfl, by simp, fun z hz => ?_⟩
        rcases List.mem_append.1 hz with hz | hz
        · have hzx := hp.2.2 z hz x (by simp)
          rcases h3 z hz with rfl | h | ⟨h, _⟩
          · by_cases he : z.f1 = x.f1
            · exact .inr (.inr ⟨he, hzx⟩)
            · exact .inr (.inl (by omega))
          · by_cases he : z.f1 = x.f1
            · omega
            · exact .inr (.inl (by omega))
          · by_cases he : z.f1 = x.f1
            · exact .inr (.inr ⟨he, hzx⟩)
            · exact .inr (.inl (by omega))
        · simp at hz; exact .inl hz
/-- The reference's index of the last one. -/
def IdxIs (l : List S24) (idx : Int) (m : Option S24) : Prop := (idx = -1 ∧ m = none) ∨ ∃ (j : Nat) (h : j < l.length), idx = (j : Int) ∧ m = some l[j]
/-- The holders among the first people. -/
def holdersTo (M : Int → Int → Option S24) (office : Int) (n : Nat) : List (Int × Int) := (List.range n).filterMap (fun p : Nat => holdOf M office (p : Int))
theorem holdersTo_succ (M : Int → Int → Option S24) (office : Int) (n : Nat) : holdersTo M office (n + 1) = holdersTo M office n ++ (match holdOf M office (n : Int) with | some h => [h] | none => []) := by
  unfold holdersTo
  rw [List.range_succ, List.filterMap_append]
  congr 1
  cases h : holdOf M office (n : Int) <;> simp [h]
theorem holdersTo_len (M : Int → Int → Option S24) (office : Int) (n : Nat) : (holdersTo M office n).length ≤ n := by
  unfold holdersTo
  have := List.length_filterMap_le (fun p : Nat => holdOf M office (p : Int)) (List.range n)
  simpa using this
end
end Go.Proofs.Ytomlcakliljmbaa.Q
