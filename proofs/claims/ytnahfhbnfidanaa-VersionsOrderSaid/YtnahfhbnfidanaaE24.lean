import Derived.Test.YtnahfhbnfidanaaE23
namespace Go.Proofs.Ytnahfhbnfidanaa.Q
open Go.RowKit Go.Proofs.YtnahfhbnfidanaaW.PrintWords
set_option linter.unusedVariables false
set_option linter.unusedSimpArgs false
theorem has0_mem {l : List S24} {v : Int} (h : has0 l v = true) : ∃ y ∈ l, y.f0 = v := by
  unfold has0 at h
  split at h
  · rename_i y hy
    exact ⟨y, List.mem_of_getElem? hy, by simpa using h⟩
  · cases h
theorem addP_of {l : List S24} {x : S24} (h0 : chk l = 0) (h1 : vR x = true) (h2 : ∀ z ∈ l, z.f0 ≠ x.f0) (h3 : l.length < 4096) : addP l x = (l.take (pos l x.f0) ++ x :: l.drop (pos l x.f0), 0) := by
  unfold addP
  rw [if_pos h0, if_pos h1, if_neg (fun h => by obtain ⟨y, hy, e⟩ := has0_mem h; exact h2 y hy e), if_neg (by omega)]
theorem own_l2 (l : List S24) (hl : l.length ≤ 30) (hc : chk l = 0) (key at_ known : Int) : ∀ (d k i : Nat), d + i = l.length → d + 9000 < k →
    signatorylaw14_VersionsOrder.l2 k l key at_ known l ((l.take i).filter (fun y => decide (y.f3 = key))) l (l.length : Int) (i : Int) = some true := by
  intro d
  induction d with
  | zero =>
    intro k i h hk
    obtain ⟨k, rfl⟩ : ∃ m, k = m + 1 := ⟨k - 1, by omega⟩
    obtain ⟨own, hown⟩ : ∃ o, l.filter (fun y => decide (y.f3 = key)) = o := ⟨_, rfl⟩
    have hi : l.take i = l := List.take_of_length_le (by omega)
    rw [hi, hown]
    have hv : valueP own key at_ known = valueP l key at_ known := by
      obtain ⟨k1, k2, k3⟩ := chk_ok hc
      have h1 : chk own = 0 := by
        rw [← hown]
        exact chk_of (Nat.le_trans (List.length_filter_le _ _) (by omega)) (fun y hy => k2 y (List.mem_filter.1 hy).1) (k3.sublist List.filter_sublist)
      have h2 : pick key known own = pick key known l := by
        rw [← hown]
        unfold pick
        rw [List.filter_filter]
        refine List.filter_congr (fun y _ => ?_)
        unfold isKnown
        by_cases hk : y.f3 = key <;> simp [hk]
      unfold valueP valP
      rw [h1, hc, h2]
    simp only [signatorylaw14_VersionsOrder.l2]
    rw [if_neg (by omega), value_eq l key at_ known k (by omega), value_eq own key at_ known k (by omega), hv]
    simp only [Option.bind_some]
    rw [same_eq l (by omega) k (by omega)]
    simp
  | succ d ih =>
    intro k i h hk
    obtain ⟨k, rfl⟩ : ∃ m, k = m + 1 := ⟨k - 1, by omega⟩
    have hil : i < l.length := by omega
    have ih' := ih k (i + 1) (by omega) (by omega)
    have ht : l.take (i + 1) = l.take i ++ [l[i]] := by rw [List.take_succ_eq_append_getElem hil]
    rw [ht, List.filter_append] at ih'
    have hfl : ((l.take i).filter (fun y => decide (y.f3 = key))).length ≤ 30 := Nat.le_trans (List.length_filter_le _ _) (by simp; omega)
    simp only [signatorylaw14_VersionsOrder.l2]
    rw [if_pos (by omega), if_pos (by omega), if_pos (by omega), rdAt l i hil, w64 i (by omega)]
    by_cases hk : l[i].f3 = key
    · rw [if_pos hk, if_pos (by omega)]
      rw [List.filter_cons_of_pos (by simp [hk]), List.filter_nil] at ih'
      exact ih'
    · rw [if_neg hk]
      rw [List.filter_cons_of_neg (by simp [hk]), List.filter_nil, List.append_nil] at ih'
      exact ih'
theorem adds_l1 (l turned : List S24) (hl : l.length ≤ 30) (hc : chk l = 0) (hp : turned.Perm l) (key at_ known : Int) : ∀ (d k i : Nat) (xs : List S24), d + i = turned.length → d + 9100 < k → xs.Perm (turned.take i) → xs.Pairwise (fun a b => a.f0 < b.f0) →
    signatorylaw14_VersionsOrder.l1 k l key at_ known xs turned (turned.length : Int) (i : Int) = some true := by
  obtain ⟨k1, k2, k3⟩ := chk_ok hc
  have htl := hp.length_eq
  have hnd : turned.Pairwise (fun a b => a.f0 ≠ b.f0) := by
    have h1 : l.Pairwise (fun a b => a.f0 ≠ b.f0) := k3.imp (fun h => by omega)
    exact hp.symm.pairwise h1 (fun {a b} h => fun e => h e.symm)
  intro d
  induction d with
  | zero =>
    intro k i xs h hk hx hs
    obtain ⟨k, rfl⟩ : ∃ m, k = m + 1 := ⟨k - 1, by omega⟩
    have hi : turned.take i = turned := List.take_of_length_le (by omega)
    rw [hi] at hx
    have hxl : xs = l := List.Perm.eq_of_pairwise (le := fun a b => a.f0 < b.f0) (fun a b _ _ h1 h2 => by omega) hs k3 (hx.trans hp)
    subst hxl
    simp only [signatorylaw14_VersionsOrder.l1]
    rw [if_neg (by omega)]
    exact own_l2 xs hl hc key at_ known xs.length k 0 (by omega) (by omega)
  | succ d ih =>
    intro k i xs h hk hx hs
    obtain ⟨k, rfl⟩ : ∃ m, k = m + 1 := ⟨k - 1, by omega⟩
    have hil : i < turned.length := by omega
    have hxlen : xs.length ≤ 30 := by rw [hx.length_eq]; simp; omega
    have hmem : ∀ z ∈ xs, z ∈ turned.take i := fun z hz => hx.mem_iff.1 hz
    have hchk : chk xs = 0 := chk_of (by omega) (fun z hz => k2 z (hp.mem_iff.1 (List.mem_of_mem_take (hmem z hz)))) hs
    have hne : ∀ z ∈ xs, z.f0 ≠ turned[i].f0 := by
      intro z hz
      obtain ⟨j, hj, rfl⟩ := List.mem_take_iff_getElem.1 (hmem z hz)
      exact List.pairwise_iff_getElem.1 hnd j i (by omega) hil (by omega)
    have ha := addP_of hchk (k2 turned[i] (hp.mem_iff.1 (List.getElem_mem _))) hne (by omega)
    have hok := add_ok ha
    have hperm : (xs.take (pos xs turned[i].f0) ++ turned[i] :: xs.drop (pos xs turned[i].f0)).Perm (turned.take (i + 1)) := by
      rw [List.take_succ_eq_append_getElem hil]
      refine List.perm_middle.trans ?_
      rw [List.take_append_drop]
      exact (List.Perm.cons _ hx).trans (List.perm_append_singleton _ _).symm
    simp only [signatorylaw14_VersionsOrder.l1]
    rw [if_pos (by omega), if_pos (by omega), if_pos (by omega), rdAt turned i hil, add_eq xs turned[i] k (by omega), ha]
    simp only [Option.bind_some, if_true]
    rw [w64 i (by omega)]
    exact ih k (i + 1) _ (by omega) (by omega) hperm (chk_ok hok.2.2.1).2.2
theorem swap_perm (l : List S24) (i j : Nat) (hi : i < l.length) (hj : j < l.length) : ((l.set i l[j]).set j l[i]).Perm l := List.set_set_perm hi hj
theorem turn_l0 (l : List S24) (hl : l.length ≤ 30) (hc : chk l = 0) (order : List Int) (ho : ∀ n ∈ order, 0 ≤ n ∧ n < 256) (hol : (order.length : Int) ≤ 9223372036854775807) (key at_ known : Int) : ∀ (d k i : Nat) (turned : List S24), d + i = order.length → d + 9200 < k → turned.Perm l →
    signatorylaw14_VersionsOrder.l0 k l key at_ known turned order (order.length : Int) (i : Int) = some true := by
  intro d
  induction d with
  | zero =>
    intro k i turned h hk hp
    obtain ⟨k, rfl⟩ : ∃ m, k = m + 1 := ⟨k - 1, by omega⟩
    simp only [signatorylaw14_VersionsOrder.l0]
    rw [if_neg (by omega)]
    have := hp.length_eq
    exact adds_l1 l turned hl hc hp key at_ known turned.length k 0 [] (by omega) (by omega) (by simp) List.Pairwise.nil
  | succ d ih =>
    intro k i turned h hk hp
    obtain ⟨k, rfl⟩ : ∃ m, k = m + 1 := ⟨k - 1, by omega⟩
    have hil : i < order.length := by omega
    have hw : wrap64 ((i : Int) + 1) = ((i + 1 : Nat) : Int) := by unfold wrap64; omega
    have htl := hp.length_eq
    simp only [signatorylaw14_VersionsOrder.l0]
    rw [if_pos (by omega), if_pos (by omega), if_pos (by omega), hw]
    by_cases hit : i < turned.length
    · rw [if_pos (by omega)]
      have hr : rd order (i : Int) = order[i] := by unfold rd; simp [List.getD_eq_getElem?_getD, hil]
      obtain ⟨n0, n1⟩ := ho order[i] (List.getElem_mem _)
      have hd : wrap64 ((turned.length : Int) - (i : Int)) = ((turned.length - i : Nat) : Int) := by unfold wrap64; omega
      have hn : wrap64 (rd order (i : Int)) = order[i] := by rw [hr]; unfold wrap64; omega
      obtain ⟨j, hj, hjl⟩ : ∃ j : Nat, wrap64 ((i : Int) + Int.tmod (wrap64 (rd order (i : Int))) (wrap64 ((turned.length : Int) - (i : Int)))) = (j : Int) ∧ j < turned.length := by
        rw [hn, hd]
        have t1 := Int.tmod_nonneg ((turned.length - i : Nat) : Int) n0
        have t2 := Int.tmod_lt_of_pos order[i] (show (0 : Int) < ((turned.length - i : Nat) : Int) by omega)
        exact ⟨((i : Int) + order[i].tmod ((turned.length - i : Nat) : Int)).toNat, by unfold wrap64; omega, by omega⟩
      rw [if_neg (by rw [hd]; omega), hj, if_pos (by omega), if_pos (by omega), rdAt turned i hit, rdAt turned j hjl]
      simp only [Int.toNat_natCast]
      exact ih k (i + 1) _ (by omega) (by omega) ((swap_perm turned i j hit hjl).trans hp)
    · rw [if_neg (by omega)]
      exact ih k (i + 1) turned (by omega) (by omega) hp
/-- VersionsOrder, in plain. -/
theorem order_plain (l : List S24) (order : List Int) (ho : ∀ n ∈ order, 0 ≤ n ∧ n < 256) (hol : (order.length : Int) ≤ 9223372036854775807) (key at_ known : Int) : signatorylaw14_VersionsOrder.f (order.length + 10000) l order key at_ known = some true := by
  unfold signatorylaw14_VersionsOrder.f
  rw [sane_eq _ (by omega)]
  simp only [Option.bind_some, if_true]
  rw [rt_eq l _ (by omega)]
  simp only [Option.bind_some]
  by_cases hr : (decide (l.length ≤ 30) && chk l == 0) = true
  · rw [if_pos hr]
    simp at hr
    rw [if_pos (by simp; omega)]
    exact turn_l0 l hr.1 hr.2 order ho hol key at_ known order.length _ 0 _ (by omega) (by omega) (by simp)
  · rw [if_neg hr]
end Go.Proofs.Ytnahfhbnfidanaa.Q
