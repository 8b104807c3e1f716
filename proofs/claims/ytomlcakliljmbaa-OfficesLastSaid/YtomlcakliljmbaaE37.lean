import Derived.Test.YtomlcakliljmbaaE36
namespace Go.Proofs.Ytomlcakliljmbaa.Q
open Go.RowKit Go.Proofs.YtomlcakliljmbaaW.PrintWords
set_option linter.unusedVariables false
set_option linter.unusedSimpArgs false
section
set_option maxRecDepth 100000
/-- Is one later than another. -/
def latr (x y : S24) : Bool := decide (y.f1 > x.f1) || (decide (y.f1 = x.f1) && decide (y.f0 > x.f0))
/-- None of these that match is later. -/
def noLater (o p at_ known : Int) (x : S24) (l : List S24) : Bool := l.all (fun y => !(mt o p at_ known y && latr x y))
theorem last_l1 (l : List S24) (hl : l.length ≤ 5000) (o p at_ known no wt : Int) (ok : Bool) (many : Int) (i : Nat) (x : S24) (k : Nat) : ∀ (d m j : Nat) (b : Bool), d + j = l.length → m = k + d + 1 → b = noLater o p at_ known x (l.take j) →
    signatorylaw15_OfficesLast.l1 m l o p at_ known no wt ok many (i : Int) b (j : Int) x.f0 x.f1 x.f2 x.f3 x.f4 x.f5 x.f6 = (if noLater o p at_ known x l = true then (if ok = true then (if no = x.f0 then (if wt = x.f5 then (signatorylaw15_OfficesLast.l0 k l o p at_ known no wt ok (wrap64 (many + 1)) (wrap64 ((i : Int) + 1))) else (some false)) else (some false)) else (some false)) else (signatorylaw15_OfficesLast.l0 k l o p at_ known no wt ok many (wrap64 ((i : Int) + 1)))) := by
  intro d
  induction d with
  | zero =>
    intro m j b hd hm hb
    subst hm
    rw [List.take_of_length_le (by omega)] at hb
    subst hb
    show signatorylaw15_OfficesLast.l1 (k + 1) l o p at_ known no wt ok many (i : Int) _ (j : Int) x.f0 x.f1 x.f2 x.f3 x.f4 x.f5 x.f6 = _
    rw [signatorylaw15_OfficesLast.l1]
    rw [if_neg (by omega)]
  | succ d ih =>
    intro m j b hd hm hb
    subst hm
    have hj : j < l.length := by omega
    have hstep : noLater o p at_ known x (l.take (j + 1)) = (b && !(mt o p at_ known l[j] && latr x l[j])) := by
      rw [List.take_succ_eq_append_getElem hj, hb]
      unfold noLater
      rw [List.all_append, List.all_cons, List.all_nil, Bool.and_true]
    have hgo : ∀ c : Bool, c = (b && !(mt o p at_ known l[j] && latr x l[j])) → signatorylaw15_OfficesLast.l1 (k + (d + 1)) l o p at_ known no wt ok many (i : Int) c ((j + 1 : Nat) : Int) x.f0 x.f1 x.f2 x.f3 x.f4 x.f5 x.f6 = _ := fun c hc => ih (k + (d + 1)) (j + 1) c (by omega) (by omega) (hc.trans hstep.symm)
    show signatorylaw15_OfficesLast.l1 (k + (d + 1) + 1) l o p at_ known no wt ok many (i : Int) _ (j : Int) x.f0 x.f1 x.f2 x.f3 x.f4 x.f5 x.f6 = _
    rw [signatorylaw15_OfficesLast.l1]
    rw [if_pos (by omega), if_pos (by omega), rdAt l j hj, w64 j (by omega)]
    by_cases h1 : l[j].f3 = o
    · rw [if_pos h1]
      by_cases h2 : l[j].f4 = p
      · rw [if_pos h2]
        by_cases h3 : l[j].f1 ≤ at_
        · rw [if_pos h3]
          by_cases h4 : l[j].f2 ≤ known
          · rw [if_pos h4]
            have hm : mt o p at_ known l[j] = true := by unfold mt cnt; simp [h1, h2, h3, h4]
            by_cases h5 : l[j].f1 > x.f1
            · rw [if_pos h5]
              exact hgo false (by rw [hm]; unfold latr; simp [h5])
            · rw [if_neg h5]
              by_cases h6 : l[j].f1 = x.f1
              · rw [if_pos h6]
                by_cases h7 : l[j].f0 > x.f0
                · rw [if_pos h7]
                  exact hgo false (by rw [hm]; unfold latr; simp [h6, h7])
                · rw [if_neg h7]
                  exact hgo b (by rw [hm]; unfold latr; simp [h6, h7])
              · rw [if_neg h6]
                exact hgo b (by rw [hm]; unfold latr; simp [h5, h6])
          · rw [if_neg h4]
            exact hgo b (by unfold mt cnt; simp [h4])
        · rw [if_neg h3]
          exact hgo b (by unfold mt cnt; simp [h3])
      · rw [if_neg h2]
        exact hgo b (by unfold mt; simp [h2])
    · rw [if_neg h1]
      exact hgo b (by unfold mt; simp [h1])
/-- How much the outer loop takes. -/
def need : Nat → Nat
  | 0 => 5010
  | d + 1 => need d + 5010
theorem need_s (d : Nat) : need (d + 1) = need d + 5010 := rfl
theorem need_le : ∀ d, need d ≤ d * 5010 + 5010
  | 0 => Nat.le_refl _
  | d + 1 => by have := need_le d; rw [need_s, Nat.succ_mul]; exact Nat.add_le_add_right this _
attribute [irreducible] need
/-- The last one, and not gone. -/
def isLast (o p at_ known : Int) (l : List S24) (x : S24) : Bool := mt o p at_ known x && !x.f6 && noLater o p at_ known x l
theorem last_l0 (l : List S24) (hl : l.length ≤ 5000) (o p at_ known no wt : Int) (ok : Bool) (hall : ∀ x ∈ l, isLast o p at_ known l x = true → ok = true ∧ no = x.f0 ∧ wt = x.f5) : ∀ (d k i : Nat), d + i = l.length → need d < k →
    signatorylaw15_OfficesLast.l0 k l o p at_ known no wt ok (((l.take i).filter (isLast o p at_ known l)).length : Int) (i : Int) = some (ok == (((l.filter (isLast o p at_ known l)).length : Int) == 1)) := by
  intro d
  induction d with
  | zero =>
    intro k i hd hk
    obtain ⟨k, rfl⟩ : ∃ m, k = m + 1 := ⟨k - 1, by omega⟩
    rw [List.take_of_length_le (by omega), signatorylaw15_OfficesLast.l0]
    rw [if_neg (by omega)]
  | succ d ih =>
    intro k i hd hk
    rw [need_s] at hk
    obtain ⟨k, rfl⟩ : ∃ m, k = m + 2 + l.length + 1 := ⟨k - 3 - l.length, by omega⟩
    have hi : i < l.length := by omega
    have hlen : ((l.take i).filter (isLast o p at_ known l)).length ≤ 5000 := by
      have := List.length_filter_le (isLast o p at_ known l) (l.take i)
      rw [List.length_take] at this
      omega
    have ih' : ∀ q, need d < q → ∀ b, isLast o p at_ known l l[i] = b → signatorylaw15_OfficesLast.l0 q l o p at_ known no wt ok ((((l.take i).filter (isLast o p at_ known l)).length + (if b = true then 1 else 0) : Nat) : Int) ((i + 1 : Nat) : Int) = some (ok == (((l.filter (isLast o p at_ known l)).length : Int) == 1)) := by
      intro q hq b hb
      have := ih q (i + 1) (by omega) hq
      rw [List.take_succ_eq_append_getElem hi, List.filter_append, List.length_append, List.filter_cons, hb] at this
      cases b <;> simpa using this
    have hskip : isLast o p at_ known l l[i] = false → signatorylaw15_OfficesLast.j1 (k + 2 + l.length) l o p at_ known no wt ok (((l.take i).filter (isLast o p at_ known l)).length : Int) (i : Int) true l[i].f0 l[i].f1 l[i].f2 l[i].f3 l[i].f4 l[i].f5 l[i].f6 = some (ok == (((l.filter (isLast o p at_ known l)).length : Int) == 1)) := fun hb => by
      rw [show k + 2 + l.length = (k + 1 + l.length) + 1 by omega, signatorylaw15_OfficesLast.j1, if_pos rfl, w64 i (by omega)]
      have := ih' (k + 1 + l.length) (by omega) false hb
      simpa using this
    rw [signatorylaw15_OfficesLast.l0]
    rw [if_pos (by omega), if_pos (by omega), rdAt l i hi]
    by_cases h1 : l[i].f3 = o
    · rw [if_pos h1]
      by_cases h2 : l[i].f4 = p
      · rw [if_pos h2]
        by_cases h3 : l[i].f1 > at_
        · rw [if_pos h3]
          exact hskip (by unfold isLast mt cnt; simp; omega)
        · rw [if_neg h3]
          by_cases h4 : l[i].f2 > known
          · rw [if_pos h4]
            exact hskip (by unfold isLast mt cnt; simp; omega)
          · rw [if_neg h4]
            have hm : mt o p at_ known l[i] = true := by unfold mt cnt; simp [h1, h2]; omega
            cases hg : l[i].f6 with
            | true =>
              rw [hg] at hskip
              exact hskip (by unfold isLast; simp [hg])
            | false =>
              rw [show k + 2 + l.length = (k + 1 + l.length) + 1 by omega, signatorylaw15_OfficesLast.j1, if_neg (by decide)]
              have := last_l1 l hl o p at_ known no wt ok (((l.take i).filter (isLast o p at_ known l)).length : Int) i l[i] k l.length (k + 1 + l.length) 0 true (by omega) (by omega) (by simp [noLater])
              rw [hg] at this
              rw [show ((0 : Nat) : Int) = 0 from rfl] at this
              rw [this, w64 i (by omega), w64 _ (by omega)]
              by_cases hn : noLater o p at_ known l[i] l = true
              · rw [if_pos hn]
                have hil : isLast o p at_ known l l[i] = true := by unfold isLast; simp [hm, hg, hn]
                obtain ⟨g1, g2, g3⟩ := hall l[i] (List.getElem_mem hi) hil
                rw [if_pos g1, if_pos g2, if_pos g3]
                have := ih' k (by omega) true hil
                simpa using this
              · rw [if_neg hn]
                have hil : isLast o p at_ known l l[i] = false := by unfold isLast; simp [hm, hg]; simpa using hn
                have := ih' k (by omega) false hil
                simpa using this
      · rw [if_neg h2]
        exact hskip (by unfold isLast mt; simp [h2])
    · rw [if_neg h1]
      exact hskip (by unfold isLast mt; simp [h1])
theorem filter_one : ∀ (l : List S24) (f : S24 → Bool) (y : S24), l.Pairwise (fun a b => a.f0 < b.f0) → y ∈ l → (∀ x ∈ l, f x = true ↔ x = y) → (l.filter f).length = 1
  | [], _, _, _, h, _ => by simp at h
  | x :: t, f, y, hp, hy, hf => by
    obtain ⟨h1, h2⟩ := List.pairwise_cons.1 hp
    by_cases hx : x = y
    · subst hx
      have h0 : t.filter f = [] := List.filter_eq_nil_iff.2 (fun z hz hfz => by
        have := (hf z (by simp [hz])).1 hfz
        have := h1 z hz
        subst z
        omega)
      rw [List.filter_cons, if_pos ((hf x (by simp)).2 rfl), h0]
      rfl
    · rw [List.filter_cons, if_neg (fun h => hx ((hf x (by simp)).1 h))]
      exact filter_one t f y h2 (by simpa [Ne.symm hx] using hy) (fun z hz => hf z (by simp [hz]))
/-- OfficesLast, in plain. -/
theorem last_plain (l : List S24) (o p at_ known : Int) : signatorylaw15_OfficesLast.f 30000000 l o p at_ known = some true := by
  unfold signatorylaw15_OfficesLast.f
  rw [sane_eq 30000000 (by omega)]
  simp only [Option.bind_some, if_true]
  rcases few_cases l with ⟨hf, hl⟩ | hf
  · rw [hf, holds_eq l o p at_ known 30000000 (by omega)]
    simp only [Option.bind_some, if_true]
    have hbad : ∀ c : Int, c ≠ 0 → holdsA l o p at_ known = (0, 0, false, c) → (if (holdsA l o p at_ known).2.2.2 = 0 then (offices_Check.f 30000000 l).bind fun t365 => (if t365 = 0 then (signatorylaw15_OfficesLast.l0 30000000 l o p at_ known (holdsA l o p at_ known).1 (holdsA l o p at_ known).2.1 (holdsA l o p at_ known).2.2.1 0 0) else (some false)) else (if (holdsA l o p at_ known).1 = 0 then (if (holdsA l o p at_ known).2.1 = 0 then (some (!(holdsA l o p at_ known).2.2.1)) else (some false)) else (some false))) = some true := fun c hc h => by
      rw [h]
      dsimp only
      rw [if_neg hc]
      rfl
    by_cases hc : chk l = 0
    · by_cases hr : (0 ≤ o ∧ o ≤ 31) ∧ (0 ≤ p ∧ p ≤ 63) ∧ (0 ≤ at_ ∧ at_ ≤ 1099511627775) ∧ (0 ≤ known ∧ known ≤ 1099511627775)
      · have hA : holdsA l o p at_ known = holdsP (standP at_ known l) o p := by unfold holdsA; rw [if_pos hc, if_pos hr]
        rw [hA, check_eq l 30000000 (by omega), hc]
        obtain ⟨k1, k2, k3⟩ := chk_ok hc
        simp only [Option.bind_some, if_true]
        rw [if_pos (holdsP_of _ _ _).1]
        -- the latest of those that match
        have hms := latest_spec _ (l.filter (mt o p at_ known)) rfl (k3.filter _)
        rw [← stand_eq] at hms
        have key : (∀ x ∈ l, isLast o p at_ known l x = true → (holdsP (standP at_ known l) o p).2.2.1 = true ∧ (holdsP (standP at_ known l) o p).1 = x.f0 ∧ (holdsP (standP at_ known l) o p).2.1 = x.f5) ∧ ((holdsP (standP at_ known l) o p).2.2.1 == (((l.filter (isLast o p at_ known l)).length : Int) == 1)) = true := by
          rcases hms with ⟨h1, h2⟩ | ⟨y, h1, h2, h3⟩
          · have hnone : ∀ x ∈ l, isLast o p at_ known l x = false := fun x hx => by
              have : mt o p at_ known x = false := by
                cases hm : mt o p at_ known x with
                | false => rfl
                | true =>
                  have := List.mem_filter.2 ⟨hx, hm⟩
                  rw [h2] at this
                  simp at this
              unfold isLast
              rw [this]
              rfl
            refine ⟨fun x hx h => (by rw [hnone x hx] at h; cases h), ?_⟩
            have h0 : l.filter (isLast o p at_ known l) = [] := List.filter_eq_nil_iff.2 (fun x hx h => by rw [hnone x hx] at h; cases h)
            rw [h0]
            unfold holdsP
            rw [h1]
            rfl
          · obtain ⟨hyl, hym⟩ := List.mem_filter.1 h2
            have hlt : ∀ x ∈ l, mt o p at_ known x = true → x ≠ y → latr x y = true := fun x hx hm hne => by
              rcases h3 x (List.mem_filter.2 ⟨hx, hm⟩) with h | h | h
              · exact absurd h hne
              · unfold latr; simp [h]
              · unfold latr; simp [h.1, h.2]
            have hyn : noLater o p at_ known y l = true := by
              unfold noLater
              rw [List.all_eq_true]
              intro x hx
              cases hm : mt o p at_ known x with
              | false => rfl
              | true =>
                rcases h3 x (List.mem_filter.2 ⟨hx, hm⟩) with h | h | h
                · subst h; unfold latr; simp
                · unfold latr; simp; omega
                · unfold latr; simp; omega
            have hiff : ∀ x ∈ l, isLast o p at_ known l x = true → x = y := fun x hx h => by
              unfold isLast at h
              simp only [Bool.and_eq_true] at h
              by_cases he : x = y
              · exact he
              · have := hlt x hx h.1.1 he
                have hn := h.2
                unfold noLater at hn
                have := (List.all_eq_true.1 hn) y hyl
                rw [hym, hlt x hx h.1.1 he] at this
                cases this
            cases hg : y.f6 with
            | true =>
              have hnone : ∀ x ∈ l, isLast o p at_ known l x = false := fun x hx => by
                cases hb : isLast o p at_ known l x with
                | false => rfl
                | true =>
                  have := hiff x hx hb
                  subst this
                  unfold isLast at hb
                  rw [hg] at hb
                  simp at hb
              refine ⟨fun x hx h => (by rw [hnone x hx] at h; cases h), ?_⟩
              have h0 : l.filter (isLast o p at_ known l) = [] := List.filter_eq_nil_iff.2 (fun x hx h => by rw [hnone x hx] at h; cases h)
              rw [h0]
              unfold holdsP
              rw [h1]
              dsimp only
              rw [if_pos hg]
              rfl
            | false =>
              have hP : holdsP (standP at_ known l) o p = (y.f0, y.f5, true, 0) := by
                unfold holdsP
                rw [h1]
                dsimp only
                rw [if_neg (by rw [hg]; decide)]
              rw [hP]
              refine ⟨fun x hx h => by rw [hiff x hx h]; exact ⟨rfl, rfl, rfl⟩, ?_⟩
              rw [filter_one l _ y k3 hyl (fun x hx => ⟨hiff x hx, fun e => by subst e; unfold isLast; rw [hym, hg, hyn]; rfl⟩)]
              rfl
        have := last_l0 l (by omega) o p at_ known _ _ _ key.1 l.length 30000000 0 (by omega) (by have := need_le l.length; have : l.length * 5010 ≤ 4200 * 5010 := Nat.mul_le_mul_right _ (by omega); omega)
        simp only [List.take_zero, List.filter_nil, List.length_nil] at this
        rw [show ((0 : Nat) : Int) = 0 from rfl] at this
        rw [this, key.2]
      · refine hbad 1 (by decide) ?_
        unfold holdsA
        rw [if_pos hc, if_neg hr]
    · refine hbad (chk l) hc ?_
      unfold holdsA
      rw [if_neg hc]
  · rw [hf]; rfl
end
end Go.Proofs.Ytomlcakliljmbaa.Q
