import Derived.Test.YtomlcakliljmbaaE37
namespace Go.Proofs.Ytomlcakliljmbaa.Q
open Go.RowKit Go.Proofs.YtomlcakliljmbaaW.PrintWords
set_option linter.unusedVariables false
set_option linter.unusedSimpArgs false
section
/-- What Add leaves is right. -/
theorem add_ok {l m : List S24} {x : S24} (h : addP l x = (m, 0)) : chk l = 0 ∧ vR x = true ∧ chk m = 0 ∧ m = l.take (pos l x.f0) ++ x :: l.drop (pos l x.f0) := by
  unfold addP at h
  by_cases h0 : chk l = 0
  · rw [if_pos h0] at h
    by_cases h1 : vR x = true
    · rw [if_pos h1] at h
      by_cases h2 : has0 l x.f0 = true
      · rw [if_pos h2] at h
        simp at h
      · rw [if_neg h2] at h
        by_cases h3 : l.length = 4096
        · rw [if_pos h3] at h
          simp at h
        · rw [if_neg h3] at h
          simp only [Prod.mk.injEq, and_true] at h
          subst h
          obtain ⟨k1, k2, k3⟩ := chk_ok h0
          refine ⟨h0, h1, chk_of ?_ ?_ ?_, rfl⟩
          · have := pos_le l x.f0
            simp
            omega
          · intro y hy
            rcases List.mem_append.1 hy with hy | hy
            · exact k2 y (List.mem_of_mem_take hy)
            · rcases List.mem_cons.1 hy with rfl | hy
              · exact h1
              · exact k2 y (List.mem_of_mem_drop hy)
          · have hlt : ∀ a ∈ l.take (pos l x.f0), a.f0 < x.f0 := by
              intro a ha
              obtain ⟨j, hj, rfl⟩ := List.mem_take_iff_getElem.1 ha
              exact pos_lt l x.f0 j (by omega) (by omega)
            have hgt : ∀ b ∈ l.drop (pos l x.f0), x.f0 < b.f0 := by
              intro b hb
              obtain ⟨j, hj, rfl⟩ := List.mem_drop_iff_getElem.1 hb
              have hpl : pos l x.f0 < l.length := by omega
              have e1 := pos_ge l x.f0 k3 (pos l x.f0) hpl (Nat.le_refl _)
              have e2 : ¬ l[pos l x.f0].f0 = x.f0 := fun e => h2 (by unfold has0; rw [List.getElem?_eq_getElem hpl]; simp [e])
              cases j with
              | zero => simp only [Nat.add_zero]; omega
              | succ j =>
                have := List.pairwise_iff_getElem.1 k3 (pos l x.f0) (pos l x.f0 + (j + 1)) hpl (by omega) (by omega)
                omega
            rw [List.pairwise_append]
            refine ⟨k3.sublist (List.take_sublist _ _), List.Pairwise.cons hgt (k3.sublist (List.drop_sublist _ _)), fun a ha b hb => ?_⟩
            rcases List.mem_cons.1 hb with rfl | hb
            · exact hlt a ha
            · have := hlt a ha; have := hgt b hb; omega
    · rw [if_neg h1] at h
      simp at h
  · rw [if_neg h0] at h
    simp only [Prod.mk.injEq] at h
    exact absurd h.2 h0
theorem add_bad {l m : List S24} {x : S24} {e : Int} (h : addP l x = (m, e)) (he : e ≠ 0) : m = [] := by
  unfold addP at h
  split at h
  · split at h
    · split at h
      · simp at h; exact h.1
      · split at h
        · simp at h; exact h.1
        · simp at h; omega
    · simp at h; exact h.1
  · simp at h; exact h.1
/-- Is a holder another person, or of another office. -/
def keepH (o : Int) (a : S24) (h : S34) : Bool := !(o == a.f3 && h.f0 == a.f4)
theorem added_l1 (l m : List S24) (a b : S24) (o : Int) (x15 x17 x19 : List S34) (k : Nat) (hl : x15.length ≤ 1000) (hl2 : x17.length ≤ 1000) : ∀ (d n i : Nat), d + i = x17.length → n = k + d + 1 →
    signatorylaw15_OfficesAdded.l1 n l o m x17 x19 ((x17.take i).filter (keepH o a)) (i : Int) a.f0 a.f1 a.f2 a.f3 a.f4 a.f5 a.f6 b.f0 b.f1 b.f2 b.f3 b.f4 b.f5 b.f6 = ((signatoryref15_SameHolders.f k x19 (x17.filter (keepH o a))).bind fun t233 => (if t233 = true then ((offices_Add.f k m b.f0 b.f1 b.f2 b.f3 b.f4 b.f5 b.f6).bind fun bt234 => ((offices_Add.f k l b.f0 b.f1 b.f2 b.f3 b.f4 b.f5 b.f6).bind fun bt238 => (if bt234.2 = 0 then ((offices_Add.f k bt238.1 a.f0 a.f1 a.f2 a.f3 a.f4 a.f5 a.f6).bind fun bt242 => (if bt238.2 = 0 then (if bt242.2 = 0 then ((signatoryref15_Same.f k bt234.1 bt242.1).bind fun t246 => (some t246)) else (some false)) else (some false))) else (if bt238.2 = 0 then (some (a.f0 == b.f0)) else (some true))))) else (some false))) := by
  intro d
  induction d with
  | zero =>
    intro n i hd hm
    subst hm
    rw [List.take_of_length_le (by omega)]
    rw [show k + 0 + 1 = k + 1 from rfl, signatorylaw15_OfficesAdded.l1]
    rw [if_neg (by omega)]
  | succ d ih =>
    intro n i hd hm
    subst hm
    have hi : i < x17.length := by omega
    have ih' := ih (k + (d + 1)) (i + 1) (by omega) (by omega)
    rw [List.take_succ_eq_append_getElem hi, List.filter_append] at ih'
    have hlen : ((x17.take i).filter (keepH o a)).length ≤ 5000 := by
      have := List.length_filter_le (keepH o a) (x17.take i)
      rw [List.length_take] at this
      omega
    have hrd : rd_T34 x17 (i : Int) = x17[i] := by unfold rd_T34; simp [List.getD_eq_getElem?_getD, hi]
    rw [show k + (d + 1) + 1 = (k + (d + 1)) + 1 from rfl, signatorylaw15_OfficesAdded.l1]
    rw [if_pos (by omega), w64 i (by omega), hrd]
    by_cases h1 : o = a.f3
    · rw [if_pos h1, if_pos (by omega)]
      by_cases h2 : x17[i].f0 = a.f4
      · rw [if_pos h2]
        have hf : keepH o a x17[i] = false := by unfold keepH; simp [h1, h2]
        rw [List.filter_cons, hf] at ih'
        simpa using ih'
      · rw [if_neg h2, if_pos (by omega)]
        have hf : keepH o a x17[i] = true := by unfold keepH; simp [h1, h2]
        rw [List.filter_cons, hf] at ih'
        simpa using ih'
    · rw [if_neg h1, if_pos (by omega), if_pos (by omega)]
      have hf : keepH o a x17[i] = true := by unfold keepH; simp [h1]
      rw [List.filter_cons, hf] at ih'
      simpa using ih'
theorem added_l0 (l m : List S24) (a b : S24) (o : Int) (x15 x17 x19 : List S34) (k : Nat) (hl : x15.length ≤ 1000) (hl2 : x17.length ≤ 1000) : ∀ (d n i : Nat), d + i = x15.length → n = k + d + 1 →
    signatorylaw15_OfficesAdded.l0 n l o m x15 x17 ((x15.take i).filter (keepH o a)) (i : Int) a.f0 a.f1 a.f2 a.f3 a.f4 a.f5 a.f6 b.f0 b.f1 b.f2 b.f3 b.f4 b.f5 b.f6 = signatorylaw15_OfficesAdded.l1 k l o m x17 (x15.filter (keepH o a)) ([] : List S34) 0 a.f0 a.f1 a.f2 a.f3 a.f4 a.f5 a.f6 b.f0 b.f1 b.f2 b.f3 b.f4 b.f5 b.f6 := by
  intro d
  induction d with
  | zero =>
    intro n i hd hm
    subst hm
    rw [List.take_of_length_le (by omega)]
    rw [show k + 0 + 1 = k + 1 from rfl, signatorylaw15_OfficesAdded.l0]
    rw [if_neg (by omega)]
  | succ d ih =>
    intro n i hd hm
    subst hm
    have hi : i < x15.length := by omega
    have ih' := ih (k + (d + 1)) (i + 1) (by omega) (by omega)
    rw [List.take_succ_eq_append_getElem hi, List.filter_append] at ih'
    have hlen : ((x15.take i).filter (keepH o a)).length ≤ 5000 := by
      have := List.length_filter_le (keepH o a) (x15.take i)
      rw [List.length_take] at this
      omega
    have hrd : rd_T34 x15 (i : Int) = x15[i] := by unfold rd_T34; simp [List.getD_eq_getElem?_getD, hi]
    rw [show k + (d + 1) + 1 = (k + (d + 1)) + 1 from rfl, signatorylaw15_OfficesAdded.l0]
    rw [if_pos (by omega), w64 i (by omega), hrd]
    by_cases h1 : o = a.f3
    · rw [if_pos h1, if_pos (by omega)]
      by_cases h2 : x15[i].f0 = a.f4
      · rw [if_pos h2]
        have hf : keepH o a x15[i] = false := by unfold keepH; simp [h1, h2]
        rw [List.filter_cons, hf] at ih'
        simpa using ih'
      · rw [if_neg h2, if_pos (by omega)]
        have hf : keepH o a x15[i] = true := by unfold keepH; simp [h1, h2]
        rw [List.filter_cons, hf] at ih'
        simpa using ih'
    · rw [if_neg h1, if_pos (by omega), if_pos (by omega)]
      have hf : keepH o a x15[i] = true := by unfold keepH; simp [h1]
      rw [List.filter_cons, hf] at ih'
      simpa using ih'
theorem has0_iff {l : List S24} (hp : l.Pairwise (fun a b => a.f0 < b.f0)) (v : Int) : has0 l v = true ↔ ∃ y ∈ l, y.f0 = v := by
  constructor
  · intro h
    unfold has0 at h
    cases hg : l[pos l v]? with
    | none => rw [hg] at h; cases h
    | some y =>
      rw [hg] at h
      obtain ⟨hlt, rfl⟩ := List.getElem?_eq_some_iff.1 hg
      exact ⟨_, List.getElem_mem hlt, by simpa using h⟩
  · rintro ⟨y, hy, e⟩
    obtain ⟨j, hj, rfl⟩ := List.mem_iff_getElem.1 hy
    have h1 : pos l v ≤ j := by
      by_cases hq : j < pos l v
      · have := pos_lt l v j hj hq; omega
      · omega
    have h2 := pos_ge l v hp (pos l v) (by omega) (Nat.le_refl _)
    have h3 : pos l v = j := by
      by_cases hq : pos l v < j
      · have := List.pairwise_iff_getElem.1 hp (pos l v) j (by omega) hj hq
        omega
      · omega
    unfold has0
    rw [h3, List.getElem?_eq_getElem hj]
    simp [e]
theorem ins_mem (l : List S24) (v : Int) (x y : S24) : y ∈ l.take (pos l v) ++ x :: l.drop (pos l v) ↔ y = x ∨ y ∈ l := by
  rw [List.mem_append, List.mem_cons]
  constructor
  · rintro (h | h | h)
    · exact .inr (List.mem_of_mem_take h)
    · exact .inl h
    · exact .inr (List.mem_of_mem_drop h)
  · rintro (h | h)
    · exact .inr (.inl h)
    · rw [← List.take_append_drop (pos l v) l] at h
      rcases List.mem_append.1 h with h | h
      · exact .inl h
      · exact .inr (.inr h)
/-- Two rising rows with the same members are one. -/
theorem rows_eq : ∀ (l1 l2 : List S24), l1.Pairwise (fun a b => a.f0 < b.f0) → l2.Pairwise (fun a b => a.f0 < b.f0) → (∀ x, x ∈ l1 ↔ x ∈ l2) → l1 = l2
  | [], [], _, _, _ => rfl
  | [], y :: t, _, _, h => by have := (h y).2 (by simp); simp at this
  | x :: t, [], _, _, h => by have := (h x).1 (by simp); simp at this
  | x :: t1, y :: t2, h1, h2, h => by
    obtain ⟨a1, a2⟩ := List.pairwise_cons.1 h1
    obtain ⟨b1, b2⟩ := List.pairwise_cons.1 h2
    have hxy : x = y := by
      rcases List.mem_cons.1 ((h x).1 (by simp)) with e | e
      · exact e
      · rcases List.mem_cons.1 ((h y).2 (by simp)) with e' | e'
        · exact e'.symm
        · have := b1 x e; have := a1 y e'; omega
    subst hxy
    congr 1
    refine rows_eq t1 t2 a2 b2 (fun z => ⟨fun hz => ?_, fun hz => ?_⟩)
    · rcases List.mem_cons.1 ((h z).1 (by simp [hz])) with e | e
      · have := a1 z hz; rw [e] at this; omega
      · exact e
    · rcases List.mem_cons.1 ((h z).2 (by simp [hz])) with e | e
      · have := b1 z hz; rw [e] at this; omega
      · exact e
theorem addP_of {l : List S24} {x : S24} (hc : chk l = 0) (hv : vR x = true) (hl : l.length < 4096) (hn : ∀ y ∈ l, y.f0 ≠ x.f0) : addP l x = (l.take (pos l x.f0) ++ x :: l.drop (pos l x.f0), 0) := by
  unfold addP
  rw [if_pos hc, if_pos hv, if_neg (fun h => by obtain ⟨y, hy, e⟩ := (has0_iff (chk_ok hc).2.2 x.f0).1 h; exact hn y hy e), if_neg (by omega)]
theorem addP_new {l : List S24} {x : S24} {m : List S24} (h : addP l x = (m, 0)) : ∀ y ∈ l, y.f0 ≠ x.f0 := by
  intro y hy e
  obtain ⟨h0, h1, _, _⟩ := add_ok h
  unfold addP at h
  rw [if_pos h0, if_pos h1, if_pos ((has0_iff (chk_ok h0).2.2 x.f0).2 ⟨y, hy, e⟩)] at h
  simp at h
theorem stand_ins (l : List S24) (v : Int) (a : S24) (at_ known o p : Int) (h : ¬ (o = a.f3 ∧ p = a.f4)) : standP at_ known (l.take (pos l v) ++ a :: l.drop (pos l v)) o p = standP at_ known l o p := by
  have hm : mt o p at_ known a = false := by
    unfold mt
    by_cases h1 : a.f3 = o
    · by_cases h2 : a.f4 = p
      · exact absurd ⟨h1.symm, h2.symm⟩ h
      · simp [h2]
    · simp [h1]
  rw [stand_eq, stand_eq, List.filter_append, List.filter_cons, hm, if_neg (by decide), ← List.filter_append, List.take_append_drop]
theorem keep_same (l m : List S24) (a : S24) (at_ known o : Int) (h : ∀ p, ¬ (o = a.f3 ∧ p = a.f4) → standP at_ known m o p = standP at_ known l o p) :
    ((holdersP (standP at_ known m) o).map h34).filter (keepH o a) = ((holdersP (standP at_ known l) o).map h34).filter (keepH o a) := by
  unfold holdersP
  rw [List.map_filterMap, List.map_filterMap, List.filter_filterMap, List.filter_filterMap]
  congr 1
  funext p
  unfold holdOf
  by_cases hc : o = a.f3 ∧ (p : Int) = a.f4
  · have e : ∀ M : Int → Int → Option S24, Option.filter (keepH o a) (Option.map h34 ((M o (p : Int)).bind fun x => if x.f6 = true then none else some ((p : Int), x.f5))) = none := by
      intro M
      cases M o (p : Int) with
      | none => rfl
      | some x =>
        by_cases hg : x.f6 = true
        · simp [hg]
        · simp [hg, Option.filter, keepH, h34, hc.1, hc.2]
    rw [e, e]
  · rw [h p hc]
/-- OfficesAdded, in plain. -/
theorem added_plain (l : List S24) (a b : S24) (o at_ known : Int) : signatorylaw15_OfficesAdded.f 10000 l a.f0 a.f1 a.f2 a.f3 a.f4 a.f5 a.f6 b.f0 b.f1 b.f2 b.f3 b.f4 b.f5 b.f6 o at_ known = some true := by
  unfold signatorylaw15_OfficesAdded.f
  rw [sane_eq 10000 (by omega)]
  simp only [Option.bind_some, if_true]
  rcases few_cases l with ⟨hf, hl⟩ | hf
  · rw [hf, add_eq l a 10000 (by omega)]
    simp only [Option.bind_some, if_true]
    by_cases hz : (addP l a).2 = 0
    · rw [if_pos hz]
      obtain ⟨m, hm⟩ : ∃ m, addP l a = (m, 0) := ⟨(addP l a).1, Prod.ext rfl hz⟩
      rw [hm]
      obtain ⟨h0, hva, hm0, hme⟩ := add_ok hm
      obtain ⟨k1, k2, k3⟩ := chk_ok h0
      obtain ⟨j1, j2, j3⟩ := chk_ok hm0
      have hl40 : l.length ≤ 40 := by omega
      have hml : m.length = l.length + 1 := by rw [hme]; have := pos_le l a.f0; simp; omega
      dsimp only
      rw [holders_eq l o at_ known 10000 (by omega), holders_eq m o at_ known 10000 (by omega)]
      simp only [Option.bind_some]
      have hlen1 := holdersA_len l o at_ known
      have hlen2 := holdersA_len m o at_ known
      have he : (holdersA l o at_ known).2 = (holdersA m o at_ known).2 := by
        unfold holdersA
        rw [if_pos h0, if_pos hm0]
        split <;> rfl
      rw [if_pos he]
      have hkeep : (holdersA m o at_ known).1.filter (keepH o a) = (holdersA l o at_ known).1.filter (keepH o a) := by
        unfold holdersA
        rw [if_pos h0, if_pos hm0]
        split
        · exact keep_same l m a at_ known o (fun p hp => by rw [hme]; exact stand_ins l a.f0 a at_ known o p hp)
        · rfl
      have s0 := added_l0 l m a b o (holdersA l o at_ known).1 (holdersA m o at_ known).1 [] (10000 - (holdersA l o at_ known).1.length - 1) (by omega) (by omega) (holdersA l o at_ known).1.length 10000 0 (by omega) (by omega)
      simp only [List.take_zero, List.filter_nil] at s0
      rw [show ((0 : Nat) : Int) = 0 from rfl] at s0
      rw [s0]
      have s1 := added_l1 l m a b o (holdersA l o at_ known).1 (holdersA m o at_ known).1 ((holdersA l o at_ known).1.filter (keepH o a)) (10000 - (holdersA l o at_ known).1.length - 1 - (holdersA m o at_ known).1.length - 1) (by omega) (by omega) (holdersA m o at_ known).1.length (10000 - (holdersA l o at_ known).1.length - 1) 0 (by omega) (by omega)
      simp only [List.take_zero, List.filter_nil] at s1
      rw [show ((0 : Nat) : Int) = 0 from rfl] at s1
      rw [s1, hkeep]
      obtain ⟨k, hk⟩ : ∃ k, 10000 - (holdersA l o at_ known).1.length - 1 - (holdersA m o at_ known).1.length - 1 = k := ⟨_, rfl⟩
      have hk' : 9000 < k := by omega
      rw [hk]
      clear hk s0 s1
      have hkl := List.length_filter_le (keepH o a) (holdersA l o at_ known).1
      rw [hs_eq _ (by omega) k (by omega)]
      simp only [Option.bind_some, if_true]
      rw [add_eq m b k (by omega), add_eq l b k (by omega)]
      simp only [Option.bind_some]
      by_cases hb : (addP m b).2 = 0
      · rw [if_pos hb]
        obtain ⟨n, hn⟩ : ∃ n, addP m b = (n, 0) := ⟨(addP m b).1, Prod.ext rfl hb⟩
        obtain ⟨_, hvb, hn0, hne⟩ := add_ok hn
        have hnew := addP_new hn
        have hmem := ins_mem l a.f0 a
        rw [← hme] at hmem
        have hlb : ∀ y ∈ l, y.f0 ≠ b.f0 := fun y hy => hnew y ((hmem y).2 (.inr hy))
        have hab : a.f0 ≠ b.f0 := hnew a ((hmem a).2 (.inl rfl))
        have hB := addP_of (x := b) h0 hvb (by omega) hlb
        obtain ⟨z, hze⟩ : ∃ z, z = l.take (pos l b.f0) ++ b :: l.drop (pos l b.f0) := ⟨_, rfl⟩
        rw [← hze] at hB
        obtain ⟨_, _, hz0, _⟩ := add_ok hB
        have hzl : z.length = l.length + 1 := by rw [hze]; have := pos_le l b.f0; simp; omega
        have hzm := ins_mem l b.f0 b
        rw [← hze] at hzm
        have hza : ∀ y ∈ z, y.f0 ≠ a.f0 := fun y hy => by
          rcases (hzm y).1 hy with rfl | hy
          · exact fun e => hab e.symm
          · exact addP_new hm y hy
        have hA := addP_of (x := a) hz0 hva (by omega) hza
        rw [hn, hB]
        dsimp only
        rw [add_eq z a k (by omega), hA]
        simp only [Option.bind_some, if_true]
        have hwm := ins_mem z a.f0 a
        obtain ⟨_, _, hw0, _⟩ := add_ok hA
        have hnm := ins_mem m b.f0 b
        rw [← hne] at hnm
        have heq : z.take (pos z a.f0) ++ a :: z.drop (pos z a.f0) = n := rows_eq _ _ (chk_ok hw0).2.2 (chk_ok hn0).2.2 (fun x => by
          rw [hwm x, hzm x, hnm x, hmem x]
          constructor
          · rintro (h | h | h)
            · exact .inr (.inl h)
            · exact .inl h
            · exact .inr (.inr h)
          · rintro (h | h | h)
            · exact .inr (.inl h)
            · exact .inl h
            · exact .inr (.inr h))
        have hnl : n.length = m.length + 1 := by rw [hne]; have := pos_le m b.f0; simp; omega
        rw [heq, same_eq n (by omega) k (by omega)]
        rfl
      · rw [if_neg hb]
        by_cases hb2 : (addP l b).2 = 0
        · rw [if_pos hb2]
          obtain ⟨z, hB⟩ : ∃ z, addP l b = (z, 0) := ⟨(addP l b).1, Prod.ext rfl hb2⟩
          obtain ⟨_, hvb, _, _⟩ := add_ok hB
          have hlb := addP_new hB
          by_cases hab : a.f0 = b.f0
          · simp [hab]
          · exfalso
            apply hb
            have hmem := ins_mem l a.f0 a
            rw [← hme] at hmem
            rw [addP_of (x := b) hm0 hvb (by omega) (fun y hy => by
              rcases (hmem y).1 hy with rfl | hy
              · exact hab
              · exact hlb y hy)]
        · rw [if_neg hb2]
    · rw [if_neg hz]
      have := add_bad (m := (addP l a).1) (e := (addP l a).2) (x := a) (l := l) rfl hz
      rw [this]
      rfl
  · rw [hf]; rfl
end
end Go.Proofs.Ytomlcakliljmbaa.Q
