import Derived.Test.YtomlcakliljmbaaE33
namespace Go.Proofs.Ytomlcakliljmbaa.Q
open Go.RowKit Go.Proofs.YtomlcakliljmbaaW.PrintWords
set_option linter.unusedVariables false
set_option linter.unusedSimpArgs false
section
theorem few_cases (l : List S24) : (signatoryref15_Few.f l = some true ∧ (l.length ≤ 40 ∨ 4096 < l.length ∧ l.length ≤ 4200)) ∨ signatoryref15_Few.f l = some false := by
  unfold signatoryref15_Few.f
  by_cases h1 : (l.length : Int) ≤ 40
  · rw [if_pos h1]; exact .inl ⟨rfl, .inl (by omega)⟩
  · rw [if_neg h1]
    by_cases h2 : (l.length : Int) > 4096
    · rw [if_pos h2]
      by_cases h3 : (l.length : Int) ≤ 4200
      · rw [decide_eq_true h3]; exact .inl ⟨rfl, .inr ⟨by omega, by omega⟩⟩
      · rw [decide_eq_false h3]; exact .inr rfl
    · rw [if_neg h2]; exact .inr rfl
theorem holdersA_len (l : List S24) (o at_ known : Int) : (holdersA l o at_ known).1.length ≤ 64 := by
  unfold holdersA
  split
  · split
    · rw [List.length_map]; exact holdersTo_len _ _ 64
    · simp
  · simp
theorem holdsA_p (l : List S24) (o p at_ known : Int) (hc : chk l = 0) (hr : (0 ≤ o ∧ o ≤ 31) ∧ (0 ≤ at_ ∧ at_ ≤ 1099511627775) ∧ (0 ≤ known ∧ known ≤ 1099511627775)) (hp : 0 ≤ p ∧ p ≤ 63) : holdsA l o p at_ known = holdsP (standP at_ known l) o p := by
  unfold holdsA
  rw [if_pos hc, if_pos ⟨hr.1, hp, hr.2.1, hr.2.2⟩]
theorem holdsP_of (M : Int → Int → Option S24) (o p : Int) : (holdsP M o p).2.2.2 = 0 ∧ ((holdOf M o p = none ∧ (holdsP M o p).2.2.1 = false) ∨ (holdOf M o p = some (p, (holdsP M o p).2.1) ∧ (holdsP M o p).2.2.1 = true)) := by
  unfold holdsP holdOf
  cases M o p with
  | none => simp
  | some x =>
    by_cases hg : x.f6 = true <;> simp [hg]
/-- Does an appointment of an office count. -/
def ofOffice (o at_ known : Int) (x : S24) : Bool := x.f3 == o && cnt at_ known x
theorem later_l0 (l : List S24) (hl : l.length ≤ 5000) (o at_ known : Int) (h : List S34) (k : Nat) : ∀ (d m i : Nat), d + i = l.length → m = k + d + 1 →
    signatorylaw15_OfficesLater.l0 m l o at_ known h ((l.take i).filter (ofOffice o at_ known)) (i : Int) = ((offices_Holders.f k (l.filter (ofOffice o at_ known)) o at_ known).bind fun bt383 => (if bt383.2 = 0 then ((signatoryref15_SameHolders.f k h bt383.1).bind fun t387 => (some t387)) else (some false))) := by
  intro d
  induction d with
  | zero =>
    intro m i hd hm
    subst hm
    rw [List.take_of_length_le (by omega)]
    show signatorylaw15_OfficesLater.l0 (k + 0 + 1) l o at_ known h _ _ = _
    unfold signatorylaw15_OfficesLater.l0
    rw [if_neg (by omega)]
  | succ d ih =>
    intro m i hd hm
    subst hm
    have hi : i < l.length := by omega
    have ih' := ih (k + (d + 1)) (i + 1) (by omega) (by omega)
    rw [List.take_succ_eq_append_getElem hi, List.filter_append] at ih'
    have hlen : ((l.take i).filter (ofOffice o at_ known)).length ≤ 5000 := by
      have := List.length_filter_le (ofOffice o at_ known) (l.take i)
      rw [List.length_take] at this
      omega
    unfold signatorylaw15_OfficesLater.l0
    rw [if_pos (by omega), if_pos (by omega), rdAt l i hi, w64 i (by omega)]
    have hno : ofOffice o at_ known l[i] = false → signatorylaw15_OfficesLater.l0 (k + (d + 1)) l o at_ known h ((l.take i).filter (ofOffice o at_ known)) ((i + 1 : Nat) : Int) = ((offices_Holders.f k (l.filter (ofOffice o at_ known)) o at_ known).bind fun bt383 => (if bt383.2 = 0 then ((signatoryref15_SameHolders.f k h bt383.1).bind fun t387 => (some t387)) else (some false))) := fun hf => by
      rw [List.filter_cons, hf] at ih'
      simpa using ih'
    by_cases h1 : l[i].f3 = o
    · rw [if_pos h1]
      by_cases h2 : l[i].f1 ≤ at_
      · rw [if_pos h2]
        by_cases h3 : l[i].f2 ≤ known
        · rw [if_pos h3, if_pos (by omega)]
          have hf : ofOffice o at_ known l[i] = true := by unfold ofOffice cnt; simp [h1, h2, h3]
          rw [List.filter_cons, hf] at ih'
          simpa using ih'
        · rw [if_neg h3]
          exact hno (by unfold ofOffice cnt; simp [h3])
      · rw [if_neg h2]
        exact hno (by unfold ofOffice cnt; simp [h2])
    · rw [if_neg h1]
      exact hno (by unfold ofOffice; simp [h1])
theorem filter_chk {l : List S24} (f : S24 → Bool) (h : chk l = 0) : chk (l.filter f) = 0 := by
  obtain ⟨h1, h2, h3⟩ := chk_ok h
  exact chk_of (Nat.le_trans (List.length_filter_le _ _) h1) (fun x hx => h2 x (List.mem_filter.1 hx).1) (h3.filter _)
theorem stand_filter (l : List S24) (o p at_ known : Int) : standP at_ known (l.filter (ofOffice o at_ known)) o p = standP at_ known l o p := by
  rw [stand_eq, stand_eq, List.filter_filter]
  congr 1
  apply List.filter_congr
  intro x _
  unfold mt ofOffice
  cases x.f3 == o <;> cases x.f4 == p <;> cases cnt at_ known x <;> rfl
theorem holdersP_congr {M M' : Int → Int → Option S24} {o : Int} (h : ∀ p, M o p = M' o p) : holdersP M o = holdersP M' o := by
  unfold holdersP holdOf
  simp only [h]
/-- OfficesLater, in plain. -/
theorem later_plain (l : List S24) (o at_ known : Int) : signatorylaw15_OfficesLater.f 10000 l o at_ known = some true := by
  unfold signatorylaw15_OfficesLater.f
  rw [sane_eq 10000 (by omega)]
  simp only [Option.bind_some, if_true]
  rcases few_cases l with ⟨hf, hl⟩ | hf
  · rw [hf, holders_eq l o at_ known 10000 (by omega)]
    simp only [Option.bind_some, if_true]
    have hlen := holdersA_len l o at_ known
    by_cases hz : (holdersA l o at_ known).2 = 0
    · rw [if_pos hz]
      have := later_l0 l (by omega) o at_ known (holdersA l o at_ known).1 (10000 - l.length - 1) l.length 10000 0 (by omega) (by omega)
      simp only [List.take_zero, List.filter_nil] at this
      rw [show ((0 : Nat) : Int) = 0 from rfl] at this
      rw [this, holders_eq _ o at_ known _ (by omega)]
      have he : holdersA (l.filter (ofOffice o at_ known)) o at_ known = holdersA l o at_ known := by
        unfold holdersA at hz ⊢
        by_cases hc : chk l = 0
        · rw [if_pos hc, if_pos (filter_chk _ hc), holdersP_congr (fun p => stand_filter l o p at_ known)]
        · rw [if_neg hc] at hz; exact absurd hz hc
      rw [he]
      simp only [Option.bind_some]
      rw [if_pos hz, hs_eq _ (by omega) _ (by omega)]
      rfl
    · rw [if_neg hz]
      unfold holdersA at hz ⊢
      by_cases hc : chk l = 0
      · rw [if_pos hc] at hz ⊢
        by_cases hr : (0 ≤ o ∧ o ≤ 31) ∧ (0 ≤ at_ ∧ at_ ≤ 1099511627775) ∧ (0 ≤ known ∧ known ≤ 1099511627775)
        · rw [if_pos hr] at hz; exact absurd rfl hz
        · rw [if_neg hr]; rfl
      · rw [if_neg hc]; rfl
  · rw [hf]; rfl
end
end Go.Proofs.Ytomlcakliljmbaa.Q
