import Derived.Test.YthlehlbokaeigaaE44
namespace Go.Proofs.Ythlehlbokaeigaa.Q
open Go.RowKit Go.Proofs.YthlehlbokaeigaaW.PrintWords
set_option linter.unusedVariables false
set_option linter.unusedSimpArgs false
theorem woP_le (q : List S28) (i : Nat) : (woP q i).length ≤ q.length := by
  unfold woP
  rw [List.length_append, List.length_take, List.length_drop]
  omega
theorem move_len (q : List S28) (ap : List S55) (h : q.length ≤ 40) (h2 : ap.length ≤ 40) (x : Int) :
    ((deliverP q ap x).2.2.2.1.length ≤ 41 ∧ (deliverP q ap x).2.2.2.2.1.length ≤ 40) ∧ ((loseP q ap x).1.length ≤ 41 ∧ (loseP q ap x).2.1.length ≤ 40) ∧ ((repeatP q ap x).1.length ≤ 41 ∧ (repeatP q ap x).2.1.length ≤ 40) := by
  have hw := woP_le q x.toNat
  refine ⟨?_, ?_, ?_⟩
  · unfold deliverP
    split
    · dsimp only
      split <;> exact ⟨by dsimp only; omega, by dsimp only; omega⟩
    · exact ⟨by simp, by simp⟩
  · unfold loseP
    split
    · exact ⟨by dsimp only; omega, by dsimp only; omega⟩
    · exact ⟨by simp, by simp⟩
  · unfold repeatP sendP
    split
    · split
      · split
        · exact ⟨by simp, by simp⟩
        · exact ⟨by simp; omega, by dsimp only; omega⟩
      · exact ⟨by simp, by simp⟩
    · exact ⟨by simp, by simp⟩
/-- A round of NetworkMoveSpec, in plain words. -/
theorem move_plain (q : List S28) (ap : List S55) (h : q.length ≤ 40) (h2 : ap.length ≤ 40) (k : Nat) (hk : 3000 ≤ k) (x : Int) :
    ∃ (d0 d1 : Int) (d2 : List Int) (dq : List S28) (da : List S55) (de : Int) (lq : List S28) (la : List S55) (le : Int) (rq : List S28) (ra : List S55) (re : Int),
      network_Deliver.f k q ap x = some (d0, d1, d2, dq, da, de) ∧ signatoryref06_Deliver.f k q ap x = some (d0, d1, d2, dq, da, de) ∧
      network_Lose.f k q ap x = some (lq, la, le) ∧ signatoryref06_Lose.f k q ap x = some (lq, la, le) ∧
      network_Repeat.f k q ap x = some (rq, ra, re) ∧ signatoryref06_Repeat.f k q ap x = some (rq, ra, re) ∧
      signatoryref06_SamePacket.f d0 d1 d2 d0 d1 d2 = some true ∧ signatoryref06_Same.f k dq da dq da = some true ∧
      signatoryref06_Same.f k lq la lq la = some true ∧ signatoryref06_Same.f k rq ra rq ra = some true := by
  obtain ⟨⟨l1, l2⟩, ⟨l3, l4⟩, l5, l6⟩ := move_len q ap h h2 x
  obtain ⟨⟨d0, d1, d2, dq, da, de⟩, hd⟩ : ∃ d, deliverP q ap x = d := ⟨_, rfl⟩
  obtain ⟨⟨lq, la, le⟩, hl⟩ : ∃ d, loseP q ap x = d := ⟨_, rfl⟩
  obtain ⟨⟨rq, ra, re⟩, hr⟩ : ∃ d, repeatP q ap x = d := ⟨_, rfl⟩
  rw [hd] at l1 l2
  rw [hl] at l3 l4
  rw [hr] at l5 l6
  refine ⟨d0, d1, d2, dq, da, de, lq, la, le, rq, ra, re, (netDeliver_eq q ap (by omega) k (by omega) x).trans (congrArg some hd), (refDeliver_eq q ap (by omega) k (by omega) x).trans (congrArg some hd), (netLose_eq q ap (by omega) k (by omega) x).trans (congrArg some hl), (refLose_eq q ap (by omega) k (by omega) x).trans (congrArg some hl), (netRepeat_eq q ap (by omega) k (by omega) x).trans (congrArg some hr), (refRepeat_eq q ap (by omega) k (by omega) x).trans (congrArg some hr), samePacket_refl ⟨d0, d1, d2⟩, ?_, ?_, ?_⟩
  · exact same_refl dq da (by dsimp only at l1; omega) (by dsimp only at l2; omega) k (by dsimp only at l1 l2; omega)
  · exact same_refl lq la (by dsimp only at l3; omega) (by dsimp only at l4; omega) k (by dsimp only at l3 l4; omega)
  · exact same_refl rq ra (by dsimp only at l5; omega) (by dsimp only at l6; omega) k (by dsimp only at l5 l6; omega)
theorem cutM_plain (q : List S28) (ap : List S55) (h : q.length ≤ 40) (h2 : ap.length ≤ 40) (k : Nat) (hk : 3000 ≤ k) (a b : Int) (on : Bool) :
    ∃ (xq : List S28) (xa : List S55) (xe : Int), network_Cut.f k q ap a b on = some (xq, xa, xe) ∧ signatoryref06_Cut.f k q ap a b on = some (xq, xa, xe) ∧ signatoryref06_Same.f k xq xa xq xa = some true := by
  obtain ⟨⟨xq, xa, xe⟩, hx⟩ : ∃ d, cutP q ap a b on = d := ⟨_, rfl⟩
  have hl : (cutP q ap a b on).1.length ≤ 40 ∧ (cutP q ap a b on).2.1.length ≤ 576 := by
    unfold cutP
    split
    · split
      · exact ⟨by dsimp only; omega, cutUp_len _ 24⟩
      · exact ⟨by simp, by simp⟩
    · exact ⟨by simp, by simp⟩
  rw [hx] at hl
  obtain ⟨l1, l2⟩ := hl
  exact ⟨xq, xa, xe, (netCut_eq q ap (by omega) k (by omega) a b on).trans (congrArg some hx), (refCut_eq q ap (by omega) a b on k (by omega)).trans (congrArg some hx), same_refl xq xa (by dsimp only at l1; omega) (by dsimp only at l2; omega) k (by dsimp only at l1 l2; omega)⟩
end Go.Proofs.Ythlehlbokaeigaa.Q
