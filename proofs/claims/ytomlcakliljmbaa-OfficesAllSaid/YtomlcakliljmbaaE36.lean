import Derived.Test.YtomlcakliljmbaaE33
namespace Go.Proofs.Ytomlcakliljmbaa.Q
open Go.RowKit Go.Proofs.YtomlcakliljmbaaW.PrintWords
set_option linter.unusedVariables false
set_option linter.unusedSimpArgs false
section
theorem few_cases (l : List S24) : (signatoryref15_Few.f l = some true ∧ (l.length ≤ 40 ∨ 4096 < l.length ∧ l.length ≤ 4200)) ∨ signatoryref15_Few.f l = some false := by
  unfold signatoryref15_Few.f
  by_cases h1 : (l.length : Int) ≤ 40
  · rw [if_pos h1]; exact .inl ⟨rfl, .inl (by omega)⟩
  · rw [if_neg h1]
    by_cases h2 : (l.length : Int) > 4096
    · rw [if_pos h2]
      by_cases h3 : (l.length : Int) ≤ 4200
      · rw [decide_eq_true h3]; exact .inl ⟨rfl, .inr ⟨by omega, by omega⟩⟩
      · rw [decide_eq_false h3]; exact .inr rfl
    · rw [if_neg h2]; exact .inr rfl
theorem holdersA_len (l : List S24) (o at_ known : Int) : (holdersA l o at_ known).1.length ≤ 64 := by
  unfold holdersA
  split
  · split
    · rw [List.length_map]; exact holdersTo_len _ _ 64
    · simp
  · simp
theorem holdsA_p (l : List S24) (o p at_ known : Int) (hc : chk l = 0) (hr : (0 ≤ o ∧ o ≤ 31) ∧ (0 ≤ at_ ∧ at_ ≤ 1099511627775) ∧ (0 ≤ known ∧ known ≤ 1099511627775)) (hp : 0 ≤ p ∧ p ≤ 63) : holdsA l o p at_ known = holdsP (standP at_ known l) o p := by
  unfold holdsA
  rw [if_pos hc, if_pos ⟨hr.1, hp, hr.2.1, hr.2.2⟩]
theorem holdsP_of (M : Int → Int → Option S24) (o p : Int) : (holdsP M o p).2.2.2 = 0 ∧ ((holdOf M o p = none ∧ (holdsP M o p).2.2.1 = false) ∨ (holdOf M o p = some (p, (holdsP M o p).2.1) ∧ (holdsP M o p).2.2.1 = true)) := by
  unfold holdsP holdOf
  cases M o p with
  | none => simp
  | some x =>
    by_cases hg : x.f6 = true <;> simp [hg]
theorem all_l0 (l : List S24) (o at_ known : Int) (hc : chk l = 0) (hr : (0 ≤ o ∧ o ≤ 31) ∧ (0 ≤ at_ ∧ at_ ≤ 1099511627775) ∧ (0 ≤ known ∧ known ≤ 1099511627775)) : ∀ (d k i : Nat), d + i = 64 → d + 5000 < k →
    signatorylaw15_OfficesAll.l0 k l o at_ known ((holdersP (standP at_ known l) o).map h34) ((holdersTo (standP at_ known l) o i).length : Int) (i : Int) = some true := by
  intro d
  induction d with
  | zero =>
    intro k i h hk
    obtain ⟨k, rfl⟩ : ∃ m, k = m + 1 := ⟨k - 1, by omega⟩
    obtain rfl : i = 64 := by omega
    unfold signatorylaw15_OfficesAll.l0
    rw [if_neg (by omega), List.length_map]
    simp [holdersP, holdersTo]
  | succ d ih =>
    intro k i h hk
    obtain ⟨k, rfl⟩ : ∃ m, k = m + 1 := ⟨k - 1, by omega⟩
    have ih' := ih k (i + 1) (by omega) (by omega)
    unfold signatorylaw15_OfficesAll.l0
    rw [if_pos (by omega), holds_eq l o i at_ known k (by omega), holdsA_p l o i at_ known hc hr ⟨by omega, by omega⟩, w64 i (by omega)]
    simp only [Option.bind_some]
    obtain ⟨h1, h2⟩ := holdsP_of (standP at_ known l) o (i : Int)
    rw [if_pos h1]
    rw [holdersTo_succ] at ih'
    rcases h2 with ⟨h2, h3⟩ | ⟨h2, h3⟩
    · rw [h3, if_neg (by decide)]
      rw [h2] at ih'
      simpa using ih'
    · rw [h3, if_pos rfl]
      rw [h2] at ih'
      have hpre : ∃ s, holdersP (standP at_ known l) o = holdersTo (standP at_ known l) o i ++ (((i : Int), (holdsP (standP at_ known l) o (i : Int)).2.1) :: s) := by
        have e : ∀ n, i + 1 ≤ n → ∃ s, holdersTo (standP at_ known l) o n = holdersTo (standP at_ known l) o (i + 1) ++ s := by
          intro n hn
          induction n with
          | zero => omega
          | succ n ihn =>
            by_cases he : n + 1 = i + 1
            · rw [he]; exact ⟨[], by simp⟩
            · obtain ⟨s, hs⟩ := ihn (by omega)
              rw [holdersTo_succ, hs]
              exact ⟨_, List.append_assoc _ _ _⟩
        obtain ⟨s, hs⟩ := e 64 (by omega)
        rw [holdersTo_succ (standP at_ known l) o i, h2] at hs
        exact ⟨s, by show holdersTo (standP at_ known l) o 64 = _; rw [hs]; simp⟩
      obtain ⟨s, hs⟩ := hpre
      have hlen := holdersTo_len (standP at_ known l) o i
      have hget : ((holdersP (standP at_ known l) o).map h34)[(holdersTo (standP at_ known l) o i).length]? = some ⟨(i : Int), (holdsP (standP at_ known l) o (i : Int)).2.1⟩ := by
        rw [hs, List.map_append, List.getElem?_append_right (by simp)]
        simp [h34]
      obtain ⟨hlt, hge⟩ := List.getElem?_eq_some_iff.1 hget
      have hrd : rd_T34 ((holdersP (standP at_ known l) o).map h34) ((holdersTo (standP at_ known l) o i).length : Int) = ⟨(i : Int), (holdsP (standP at_ known l) o (i : Int)).2.1⟩ := by
        unfold rd_T34
        rw [Int.toNat_natCast, List.getD_eq_getElem?_getD, hget]
        rfl
      rw [if_neg (by omega), if_pos (by omega), if_pos (by omega), hrd]
      dsimp only
      rw [if_pos rfl, if_pos rfl, w64 _ (by omega)]
      rw [List.length_append] at ih'
      exact ih'
/-- OfficesAll, in plain. -/
theorem all_plain (l : List S24) (o at_ known : Int) : signatorylaw15_OfficesAll.f 10000 l o at_ known = some true := by
  unfold signatorylaw15_OfficesAll.f
  rw [sane_eq 10000 (by omega)]
  simp only [Option.bind_some, if_true]
  rcases few_cases l with ⟨hf, hl⟩ | hf
  · rw [hf, holders_eq l o at_ known 10000 (by omega)]
    simp only [Option.bind_some, if_true]
    unfold holdersA
    by_cases hc : chk l = 0
    · rw [if_pos hc]
      by_cases hr : (0 ≤ o ∧ o ≤ 31) ∧ (0 ≤ at_ ∧ at_ ≤ 1099511627775) ∧ (0 ≤ known ∧ known ≤ 1099511627775)
      · rw [if_pos hr]
        dsimp only
        rw [if_pos rfl]
        have := all_l0 l o at_ known hc hr 64 10000 0 (by omega) (by omega)
        simpa [holdersTo] using this
      · rw [if_neg hr]
        dsimp only
        rw [if_neg (by decide), holds_eq l o 0 at_ known 10000 (by omega)]
        unfold holdsA
        rw [if_pos hc, if_neg (fun h => hr ⟨h.1, h.2.2.1, h.2.2.2⟩)]
        rfl
    · rw [if_neg hc]
      dsimp only
      rw [if_neg hc, holds_eq l o 0 at_ known 10000 (by omega)]
      unfold holdsA
      rw [if_neg hc]
      simp
  · rw [hf]; rfl
/-- Does an appointment of an office count. -/
def ofOffice (o at_ known : Int) (x : S24) : Bool := x.f3 == o && cnt at_ known x
theorem filter_chk {l : List S24} (f : S24 → Bool) (h : chk l = 0) : chk (l.filter f) = 0 := by
  obtain ⟨h1, h2, h3⟩ := chk_ok h
  exact chk_of (Nat.le_trans (List.length_filter_le _ _) h1) (fun x hx => h2 x (List.mem_filter.1 hx).1) (h3.filter _)
theorem stand_filter (l : List S24) (o p at_ known : Int) : standP at_ known (l.filter (ofOffice o at_ known)) o p = standP at_ known l o p := by
  rw [stand_eq, stand_eq, List.filter_filter]
  congr 1
  apply List.filter_congr
  intro x _
  unfold mt ofOffice
  cases x.f3 == o <;> cases x.f4 == p <;> cases cnt at_ known x <;> rfl
theorem holdersP_congr {M M' : Int → Int → Option S24} {o : Int} (h : ∀ p, M o p = M' o p) : holdersP M o = holdersP M' o := by
  unfold holdersP holdOf
  simp only [h]
end
end Go.Proofs.Ytomlcakliljmbaa.Q
