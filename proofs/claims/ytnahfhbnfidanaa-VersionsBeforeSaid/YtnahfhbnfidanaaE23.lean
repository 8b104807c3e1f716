import Derived.Test.YtnahfhbnfidanaaE22
namespace Go.Proofs.Ytnahfhbnfidanaa.Q
open Go.RowKit Go.Proofs.YtnahfhbnfidanaaW.PrintWords
set_option linter.unusedVariables false
set_option linter.unusedSimpArgs false
theorem atLt_false {a b : S24} (h : atLt a b = false) : ¬ (a.f1 < b.f1 ∨ (a.f1 = b.f1 ∧ a.f0 < b.f0)) := fun h2 => by rw [(atLt_iff a b).2 h2] at h; cases h
theorem atLt_false_of {a b : S24} (h : ¬ (a.f1 < b.f1 ∨ (a.f1 = b.f1 ∧ a.f0 < b.f0))) : atLt a b = false := by
  cases hb : atLt a b with
  | false => rfl
  | true => exact absurd ((atLt_iff a b).1 hb) h
theorem great_cases (at_ : Int) : ∀ (l : List S24) (acc : Option S24), (∀ m, acc = some m → m.f1 ≤ at_) →
    (l.foldl (gre at_) acc = none ∧ acc = none ∧ ∀ y ∈ l, ¬ y.f1 ≤ at_) ∨
    (∃ m, l.foldl (gre at_) acc = some m ∧ m.f1 ≤ at_ ∧ (m ∈ l ∨ acc = some m) ∧ (∀ y ∈ l, y.f1 ≤ at_ → atLt m y = false) ∧ (∀ y, acc = some y → atLt m y = false)) := by
  intro l
  induction l with
  | nil =>
    intro acc hacc
    cases acc with
    | none => exact .inl ⟨rfl, rfl, by simp⟩
    | some m => exact .inr ⟨m, rfl, hacc m rfl, .inr rfl, by simp, fun y hy => by obtain rfl := Option.some.inj hy; exact atLt_false_of (by omega)⟩
  | cons x t ih =>
    intro acc hacc
    rw [List.foldl_cons]
    by_cases hx : x.f1 ≤ at_
    · -- the next state is some
      have hg : ∃ z, gre at_ acc x = some z ∧ z.f1 ≤ at_ ∧ (z = x ∨ acc = some z) ∧ atLt z x = false ∧ (∀ y, acc = some y → atLt z y = false) := by
        unfold gre
        rw [if_pos (by simpa using hx)]
        cases acc with
        | none => exact ⟨x, rfl, hx, .inl rfl, atLt_false_of (by omega), fun y hy => by cases hy⟩
        | some z =>
          cases hz : atLt z x with
          | true =>
            have := (atLt_iff z x).1 hz
            exact ⟨x, if_pos hz, hx, .inl rfl, atLt_false_of (by omega), fun y hy => by obtain rfl := Option.some.inj hy; exact atLt_false_of (by omega)⟩
          | false => exact ⟨z, if_neg (by rw [hz]; decide), hacc z rfl, .inr rfl, hz, fun y hy => by obtain rfl := Option.some.inj hy; exact atLt_false_of (by omega)⟩
      obtain ⟨z, hz, hz1, hz2, hz3, hz4⟩ := hg
      rw [hz]
      rcases ih (some z) (fun m hm => by obtain rfl := Option.some.inj hm; exact hz1) with ⟨_, h, _⟩ | ⟨m, h1, h2, h3, h4, h5⟩
      · cases h
      · have hmz := atLt_false (h5 z rfl)
        refine .inr ⟨m, h1, h2, ?_, ?_, ?_⟩
        · rcases h3 with h3 | h3
          · exact .inl (List.mem_cons_of_mem _ h3)
          · obtain rfl := Option.some.inj h3
            rcases hz2 with rfl | hz2
            · exact .inl (by simp)
            · exact .inr hz2
        · intro y hy hy1
          rcases List.mem_cons.1 hy with rfl | hy
          · have := atLt_false hz3; exact atLt_false_of (by omega)
          · exact h4 y hy hy1
        · intro y hy
          have := atLt_false (hz4 y hy)
          exact atLt_false_of (by omega)
    · have hg : gre at_ acc x = acc := by unfold gre; rw [if_neg (by simpa using hx)]
      rw [hg]
      rcases ih acc hacc with ⟨h1, h2, h3⟩ | ⟨m, h1, h2, h3, h4, h5⟩
      · refine .inl ⟨h1, h2, fun y hy => ?_⟩
        rcases List.mem_cons.1 hy with rfl | hy
        · exact hx
        · exact h3 y hy
      · refine .inr ⟨m, h1, h2, h3.imp (List.mem_cons_of_mem _) id, fun y hy hy1 => ?_, h5⟩
        rcases List.mem_cons.1 hy with rfl | hy
        · exact absurd hy1 hx
        · exact h4 y hy hy1
theorem great_is (at_ : Int) (l : List S24) : (great at_ l = none ∧ ∀ y ∈ l, ¬ y.f1 ≤ at_) ∨ (∃ m, great at_ l = some m ∧ m.f1 ≤ at_ ∧ m ∈ l ∧ ∀ y ∈ l, y.f1 ≤ at_ → atLt m y = false) := by
  rcases great_cases at_ l none (fun m h => by cases h) with ⟨h1, _, h3⟩ | ⟨m, h1, h2, h3, h4, _⟩
  · exact .inl ⟨h1, h3⟩
  · exact .inr ⟨m, h1, h2, h3.resolve_right (fun h => by cases h), h4⟩
/-- The greatest is the one that is not below another. -/
theorem great_uniq {at_ : Int} {l : List S24} {m : S24} (hm : m ∈ l) (h1 : m.f1 ≤ at_) (h2 : ∀ y ∈ l, y.f1 ≤ at_ → y = m ∨ atLt y m = true) : great at_ l = some m := by
  rcases great_is at_ l with ⟨_, h⟩ | ⟨z, hz, hz1, hz2, hz3⟩
  · exact absurd h1 (h m hm)
  · rcases h2 z hz2 hz1 with rfl | h
    · exact hz
    · rw [hz3 m hm h1] at h; cases h
theorem great_none {at_ : Int} {l : List S24} (h : ∀ y ∈ l, ¬ y.f1 ≤ at_) : great at_ l = none := by
  rcases great_is at_ l with ⟨h1, _⟩ | ⟨z, _, hz1, hz2, _⟩
  · exact h1
  · exact absurd hz1 (h z hz2)
theorem mem_pick {key time : Int} {l : List S24} {y : S24} : y ∈ pick key time l ↔ y ∈ l ∧ y.f3 = key ∧ y.f2 ≤ time := by
  unfold pick
  rw [List.mem_filter]
  simp [isKnown]
theorem mem_ins {l : List S24} {i : Nat} {x y : S24} : y ∈ l.take i ++ x :: l.drop i ↔ y = x ∨ y ∈ l := by
  constructor
  · intro h
    rcases List.mem_append.1 h with h | h
    · exact .inr (List.mem_of_mem_take h)
    · rcases List.mem_cons.1 h with h | h
      · exact .inl h
      · exact .inr (List.mem_of_mem_drop h)
  · rintro (rfl | h)
    · simp
    · rw [← List.take_append_drop i l] at h
      rcases List.mem_append.1 h with h | h
      · exact List.mem_append_left _ h
      · exact List.mem_append_right _ (List.mem_cons_of_mem _ h)
/-- Two with one number are one. -/
theorem no_inj {l : List S24} (hp : l.Pairwise (fun a b => a.f0 < b.f0)) {x y : S24} (hx : x ∈ l) (hy : y ∈ l) (h : x.f0 = y.f0) : x = y := by
  obtain ⟨i, hi, rfl⟩ := List.mem_iff_getElem.1 hx
  obtain ⟨j, hj, rfl⟩ := List.mem_iff_getElem.1 hy
  rcases Nat.lt_trichotomy i j with hij | hij | hij
  · have := List.pairwise_iff_getElem.1 hp i j hi hj hij; omega
  · subst hij; rfl
  · have := List.pairwise_iff_getElem.1 hp j i hj hi hij; omega
theorem atLt_tot {l : List S24} (hp : l.Pairwise (fun a b => a.f0 < b.f0)) {x y : S24} (hx : x ∈ l) (hy : y ∈ l) (h : atLt x y = false) : y = x ∨ atLt y x = true := by
  by_cases e : y.f0 = x.f0
  · exact .inl (no_inj hp hy hx e)
  · refine .inr ((atLt_iff y x).2 ?_)
    have := atLt_false h
    omega
/-- What decides that an added one does not count. -/
def later (x : S24) (key at_ known : Int) (y : S24) : Bool := decide (y.f3 = key ∧ y.f2 ≤ known ∧ y.f1 ≤ at_ ∧ (y.f1 > x.f1 ∨ (y.f1 = x.f1 ∧ y.f0 > x.f0)))
theorem before_l0 (l : List S24) (hl : l.length ≤ 30) (x : S24) (key at_ known : Int) (a b : Int) (ok is : Bool) (H1 : (∃ y ∈ l, later x key at_ known y = true) → a = b ∧ ok = is) (H2 : (∀ y ∈ l, later x key at_ known y = false) → b = x.f4 ∧ is = !x.f5) :
    ∀ (d k i : Nat), d + i = l.length → d < k → (∀ (j : Nat) (hj : j < l.length), j < i → later x key at_ known l[j] = false) →
    signatorylaw14_VersionsBefore.l0 k key at_ known a ok b is l (l.length : Int) (i : Int) x.f0 x.f1 x.f2 x.f3 x.f4 x.f5 = some true := by
  intro d
  induction d with
  | zero =>
    intro k i h hk hi
    obtain ⟨k, rfl⟩ : ∃ m, k = m + 1 := ⟨k - 1, by omega⟩
    obtain ⟨h1, h2⟩ := H2 (fun y hy => by obtain ⟨j, hj, rfl⟩ := List.mem_iff_getElem.1 hy; exact hi j hj (by omega))
    simp only [signatorylaw14_VersionsBefore.l0]
    rw [if_neg (by omega), if_pos h1, h2]
    simp
  | succ d ih =>
    intro k i h hk hi
    obtain ⟨k, rfl⟩ : ∃ m, k = m + 1 := ⟨k - 1, by omega⟩
    have hil : i < l.length := by omega
    have hgo : later x key at_ known l[i] = false → signatorylaw14_VersionsBefore.l0 k key at_ known a ok b is l (l.length : Int) (wrap64 ((i : Int) + 1)) x.f0 x.f1 x.f2 x.f3 x.f4 x.f5 = some true := by
      intro hf
      rw [w64 i (by omega)]
      refine ih k (i + 1) (by omega) (by omega) (fun j hj hji => ?_)
      by_cases hj2 : j = i
      · subst hj2; exact hf
      · exact hi j hj (by omega)
    have hstop : later x key at_ known l[i] = true → (if a = b then some (ok == is) else some false) = some true := by
      intro ht
      obtain ⟨h1, h2⟩ := H1 ⟨l[i], List.getElem_mem _, ht⟩
      rw [if_pos h1, h2]
      simp
    simp only [signatorylaw14_VersionsBefore.l0]
    rw [if_pos (by omega), if_pos (by omega), if_pos (by omega), rdAt l i hil]
    by_cases c1 : l[i].f3 = key
    · rw [if_pos c1]
      by_cases c2 : l[i].f2 ≤ known
      · rw [if_pos c2]
        by_cases c3 : l[i].f1 ≤ at_
        · rw [if_pos c3]
          by_cases c4 : l[i].f1 > x.f1
          · rw [if_pos c4]
            exact hstop (by unfold later; exact decide_eq_true ⟨c1, c2, c3, .inl c4⟩)
          · rw [if_neg c4]
            by_cases c5 : l[i].f1 = x.f1
            · rw [if_pos c5]
              by_cases c6 : l[i].f0 > x.f0
              · rw [if_pos c6]
                exact hstop (by unfold later; exact decide_eq_true ⟨c1, c2, c3, .inr ⟨c5, c6⟩⟩)
              · rw [if_neg c6]
                exact hgo (by unfold later; exact decide_eq_false (by omega))
            · rw [if_neg c5]
              exact hgo (by unfold later; exact decide_eq_false (by omega))
        · rw [if_neg c3]
          exact hgo (by unfold later; exact decide_eq_false (by omega))
      · rw [if_neg c2]
        exact hgo (by unfold later; exact decide_eq_false (by omega))
    · rw [if_neg c1]
      exact hgo (by unfold later; exact decide_eq_false (by omega))
/-- VersionsBefore, in plain. -/
theorem before_plain (l : List S24) (x : S24) (key at_ known : Int) : signatorylaw14_VersionsBefore.f 10000 l x.f0 x.f1 x.f2 x.f3 x.f4 x.f5 key at_ known = some true := by
  unfold signatorylaw14_VersionsBefore.f
  rw [sane_eq 10000 (by omega)]
  simp only [Option.bind_some, if_true]
  rw [rt_eq l 10000 (by omega)]
  simp only [Option.bind_some]
  by_cases hr : (decide (l.length ≤ 30) && chk l == 0) = true
  · rw [if_pos hr, add_eq l x 10000 (by omega)]
    simp at hr
    obtain ⟨m, e, hme⟩ : ∃ m e, addP l x = (m, e) := ⟨_, _, rfl⟩
    rw [hme]
    simp only [Option.bind_some]
    by_cases he : e = 0
    · subst he
      obtain ⟨h1, h2, h3, h4⟩ := add_ok hme
      rw [if_pos rfl, value_eq l key at_ known 10000 (by omega), value_eq m key at_ known 10000 (by omega)]
      simp only [Option.bind_some]
      by_cases hq : (0 ≤ key ∧ key ≤ 1048576) ∧ (0 ≤ at_ ∧ at_ ≤ 1099511627775) ∧ (0 ≤ known ∧ known ≤ 1099511627775)
      · have e1 : valueP l key at_ known = ((valP l key at_ known).1, (valP l key at_ known).2, 0) := by unfold valueP; rw [if_pos h1, if_pos hq]
        have e2 : valueP m key at_ known = ((valP m key at_ known).1, (valP m key at_ known).2, 0) := by unfold valueP; rw [if_pos h3, if_pos hq]
        rw [e1, e2]
        simp only [if_true]
        have hsame : great at_ (pick key known m) = great at_ (pick key known l) → signatorylaw14_VersionsBefore.j0 10000 l key at_ known (valP l key at_ known).1 (valP l key at_ known).2 (valP m key at_ known).1 (valP m key at_ known).2 true x.f0 x.f1 x.f2 x.f3 x.f4 x.f5 = some true := by
          intro hg
          have hv : valP m key at_ known = valP l key at_ known := by unfold valP; rw [hg]
          simp only [signatorylaw14_VersionsBefore.j0]
          rw [hv]
          simp
        by_cases c1 : at_ < x.f1
        · rw [if_pos c1]
          refine hsame ?_
          have hsk : ∀ acc, gre at_ acc x = acc := fun acc => by unfold gre; rw [if_neg (by simp; omega)]
          unfold great pick
          rw [h4, List.filter_append, List.foldl_append, ← List.take_append_drop (pos l x.f0) l, List.filter_append, List.foldl_append, List.take_append_drop]
          rw [List.filter_cons]
          split
          · rw [List.foldl_cons, hsk]
          · rfl
        · rw [if_neg c1]
          by_cases c2 : key = x.f3
          · rw [if_pos c2]
            by_cases c3 : x.f2 > known
            · rw [decide_eq_true c3]
              refine hsame ?_
              rw [h4, pick_ins l x _ key known (by simp [isKnown]; omega)]
            · rw [decide_eq_false c3]
              simp only [signatorylaw14_VersionsBefore.j0]
              rw [if_neg Bool.false_ne_true]
              obtain ⟨k1, k2, k3⟩ := chk_ok h3
              have hxm : x ∈ pick key known m := mem_pick.2 ⟨by rw [h4]; exact mem_ins.2 (.inl rfl), c2.symm, by omega⟩
              have hpm : ∀ y, y ∈ pick key known m ↔ y = x ∨ y ∈ pick key known l := fun y => by
                constructor
                · intro hy
                  obtain ⟨q1, q2⟩ := mem_pick.1 hy
                  rw [h4] at q1
                  exact (mem_ins.1 q1).imp id (fun q => mem_pick.2 ⟨q, q2⟩)
                · rintro (rfl | hy)
                  · exact hxm
                  · obtain ⟨q1, q2⟩ := mem_pick.1 hy
                    exact mem_pick.2 ⟨by rw [h4]; exact mem_ins.2 (.inr q1), q2⟩
              have hmem : ∀ y, y ∈ pick key known m → y ∈ m := fun y hy => (mem_pick.1 hy).1
              refine before_l0 l hr.1 x key at_ known _ _ _ _ ?_ ?_ l.length 9999 0 (by omega) (by omega) (fun j _ hj => by omega)
              · rintro ⟨y, hy, hyl⟩
                unfold later at hyl
                have hyl := of_decide_eq_true hyl
                have hyp : y ∈ pick key known l := mem_pick.2 ⟨hy, hyl.1, hyl.2.1⟩
                have hg : great at_ (pick key known m) = great at_ (pick key known l) := by
                  rcases great_is at_ (pick key known l) with ⟨_, h⟩ | ⟨z, hz, hz1, hz2, hz3⟩
                  · exact absurd hyl.2.2.1 (h y hyp)
                  · rw [hz]
                    refine great_uniq ((hpm z).2 (.inr hz2)) hz1 (fun u hu hu1 => ?_)
                    refine atLt_tot k3 (hmem z ((hpm z).2 (.inr hz2))) (hmem u hu) ?_
                    rcases (hpm u).1 hu with rfl | hu
                    · have := atLt_false (hz3 y hyp hyl.2.2.1)
                      exact atLt_false_of (by omega)
                    · exact hz3 u hu hu1
                have hv : valP m key at_ known = valP l key at_ known := by unfold valP; rw [hg]
                rw [hv]
                exact ⟨rfl, rfl⟩
              · intro hno
                have hg : great at_ (pick key known m) = some x := by
                  refine great_uniq hxm (by omega) (fun u hu hu1 => ?_)
                  refine atLt_tot k3 (hmem x hxm) (hmem u hu) ?_
                  rcases (hpm u).1 hu with rfl | hu
                  · exact atLt_false_of (by omega)
                  · obtain ⟨q1, q2, q3⟩ := mem_pick.1 hu
                    have hl := hno u q1
                    unfold later at hl
                    have hl := of_decide_eq_false hl
                    exact atLt_false_of (by omega)
                unfold valP
                rw [hg]
                exact ⟨rfl, by simp⟩
          · rw [if_neg c2]
            refine hsame ?_
            rw [h4, pick_ins l x _ key known (by simp [isKnown]; omega)]
      · have e1 : valueP l key at_ known = (0, false, 1) := by unfold valueP; rw [if_pos h1, if_neg hq]
        have e2 : valueP m key at_ known = (0, false, 1) := by unfold valueP; rw [if_pos h3, if_neg hq]
        rw [e1, e2]
        simp
    · rw [if_neg he, add_bad hme he]
      rfl
  · rw [if_neg hr]
end Go.Proofs.Ytnahfhbnfidanaa.Q
