import Derived.Test.YthlehlbokaeigaaE41
namespace Go.Proofs.Ythlehlbokaeigaa.Q
open Go.RowKit Go.Proofs.YthlehlbokaeigaaW.PrintWords
set_option linter.unusedVariables false
set_option linter.unusedSimpArgs false
attribute [local simp] okc_t okc_f
/-- What cutting comes to. -/
def cutP (q : List S28) (ap : List S55) (a b : Int) (on : Bool) : List S28 × List S55 × Int :=
  if netOk q ap then (if lkOk ⟨mn a b, mx a b⟩ then (q, cutUp (keepB ap (mn a b) (mx a b) on) 24, 0) else ([], [], 1)) else ([], [], 60)
theorem netCut_eq (q : List S28) (ap : List S55) (hl : ap.length ≤ 4611686018427387904) (k : Nat) (hk : q.length + ap.length + 5 ≤ k) (a b : Int) (on : Bool) : network_Cut.f k q ap a b on = some (cutP q ap a b on) := by
  unfold network_Cut.f cutP
  rw [netCheck_eq q ap hl k hk, Option.bind_some]
  cases netOk q ap with
  | false => simp
  | true =>
    unfold network_between.f
    simp only [Option.bind_some, valid_eq, okc_t, if_true]
    cases lkOk ⟨mn a b, mx a b⟩ with
    | false => simp
    | true => simp [cutRows.f]
theorem mem_cutRow (kp : Int → Int → Bool) (i : Nat) (x : S55) : ∀ j, x ∈ cutRow kp i j ↔ ∃ m : Nat, m < j ∧ i < m ∧ kp i m = true ∧ x = ⟨i, m⟩
  | 0 => by simp [cutRow]
  | j + 1 => by
    rw [cutRow, List.mem_append, mem_cutRow kp i x j]
    constructor
    · rintro (⟨m, h1, h2⟩ | h)
      · exact ⟨m, by omega, h2⟩
      · split at h
        · rename_i hc
          rw [List.mem_singleton] at h
          exact ⟨j, by omega, hc.1, hc.2, h⟩
        · cases h
    · rintro ⟨m, h1, h2, h3, h4⟩
      rcases Nat.lt_or_ge m j with h | h
      · exact .inl ⟨m, h, h2, h3, h4⟩
      · obtain rfl : m = j := by omega
        exact .inr (by rw [if_pos ⟨h2, h3⟩, h4]; exact List.mem_singleton.2 rfl)
theorem mem_cutUp (kp : Int → Int → Bool) (x : S55) : ∀ n, x ∈ cutUp kp n ↔ ∃ i m : Nat, i < n ∧ i < m ∧ m < 24 ∧ kp i m = true ∧ x = ⟨i, m⟩
  | 0 => by simp [cutUp]
  | n + 1 => by
    rw [cutUp, List.mem_append, mem_cutUp kp x n, mem_cutRow]
    constructor
    · rintro (⟨i, m, h1, h2⟩ | ⟨m, h1, h2, h3, h4⟩)
      · exact ⟨i, m, by omega, h2⟩
      · exact ⟨n, m, by omega, h2, h1, h3, h4⟩
    · rintro ⟨i, m, h1, h2, h3, h4, h5⟩
      rcases Nat.lt_or_ge i n with h | h
      · exact .inl ⟨i, m, h, h2, h3, h4, h5⟩
      · obtain rfl : i = n := by omega
        exact .inr ⟨m, h3, h2, h4, h5⟩
theorem has55_iff (l : List S55) (a b : Int) : has55 l a b = true ↔ (⟨a, b⟩ : S55) ∈ l := by
  unfold has55
  rw [List.any_eq_true]
  constructor
  · rintro ⟨⟨x, y⟩, h1, h2⟩
    simp only [Bool.and_eq_true, beq_iff_eq] at h2
    rw [h2.1, h2.2]; exact h1
  · intro h
    exact ⟨_, h, by simp⟩
theorem has_cutUp (kp : Int → Int → Bool) (i m : Nat) (h1 : i < m) (h2 : m < 24) : has55 (cutUp kp 24) i m = kp i m := by
  rw [Bool.eq_iff_iff, has55_iff, mem_cutUp]
  constructor
  · rintro ⟨i', m', h3, h4, h5, h6, h7⟩
    have e1 : (i : Int) = i' := congrArg S55.f0 h7
    have e2 : (m : Int) = m' := congrArg S55.f1 h7
    rw [e1, e2]; exact h6
  · intro h
    exact ⟨i, m, by omega, h1, h2, h, rfl⟩
theorem cutRow_congr (kp kp' : Int → Int → Bool) (i : Nat) : ∀ j, (∀ m : Nat, m < j → i < m → kp i m = kp' i m) → cutRow kp i j = cutRow kp' i j
  | 0, _ => rfl
  | j + 1, h => by
    rw [cutRow, cutRow, cutRow_congr kp kp' i j (fun m h1 h2 => h m (by omega) h2)]
    congr 1
    by_cases hj : i < j
    · rw [h j (by omega) hj]
    · rw [if_neg (fun hc => hj hc.1), if_neg (fun hc => hj hc.1)]
theorem cutUp_congr (kp kp' : Int → Int → Bool) : ∀ n, (∀ i m : Nat, i < n → i < m → m < 24 → kp i m = kp' i m) → cutUp kp n = cutUp kp' n
  | 0, _ => rfl
  | n + 1, h => by
    rw [cutUp, cutUp, cutUp_congr kp kp' n (fun i m h1 h2 h3 => h i m (by omega) h2 h3), cutRow_congr kp kp' n 24 (fun m h1 h2 => h n m (by omega) h2 h1)]
theorem cutRow_pw (kp : Int → Int → Bool) (i : Nat) : ∀ j, (cutRow kp i j).Pairwise (fun a b => lkLt a b = true)
  | 0 => List.Pairwise.nil
  | j + 1 => by
    rw [cutRow, List.pairwise_append]
    refine ⟨cutRow_pw kp i j, by split <;> simp, fun x hx y hy => ?_⟩
    obtain ⟨m, h1, h2, h3, rfl⟩ := (mem_cutRow kp i x j).1 hx
    split at hy
    · rw [List.mem_singleton] at hy
      subst hy
      simp [lkLt]
      omega
    · cases hy
theorem cutUp_pw (kp : Int → Int → Bool) : ∀ n, (cutUp kp n).Pairwise (fun a b => lkLt a b = true)
  | 0 => List.Pairwise.nil
  | n + 1 => by
    rw [cutUp, List.pairwise_append]
    refine ⟨cutUp_pw kp n, cutRow_pw kp n 24, fun x hx y hy => ?_⟩
    obtain ⟨i, m, h1, h2, h3, h4, rfl⟩ := (mem_cutUp kp x n).1 hx
    obtain ⟨m', h5, h6, h7, rfl⟩ := (mem_cutRow kp n y 24).1 hy
    simp [lkLt]
    omega
theorem apAll_of (ap : List S55) : ∀ d i, (∀ j, i ≤ j → j < i + d → apAt ap j = true) → apAll ap d i = true
  | 0, _, _ => rfl
  | d + 1, i, h => by
    rw [apAll, h i (by omega) (by omega), apAll_of ap d (i + 1) (fun j h1 h2 => h j (by omega) (by omega))]
    rfl
theorem rd55_at (q : List S55) (i : Nat) (h : i < q.length) : rd_T55 q (i : Int) = q[i] := by unfold rd_T55; simp [List.getD_eq_getElem?_getD, h]
theorem cutUp_ok (kp : Int → Int → Bool) : apAll (cutUp kp 24) (cutUp kp 24).length 0 = true := by
  refine apAll_of _ _ _ (fun j _ hj => ?_)
  have hj' : j < (cutUp kp 24).length := by omega
  unfold apAt
  rw [rd55_at _ j hj']
  have h1 : lkOk (cutUp kp 24)[j] = true := by
    obtain ⟨i, m, h1, h2, h3, h4, h5⟩ := (mem_cutUp kp _ 24).1 (List.getElem_mem hj')
    rw [h5]
    simp [lkOk]
    omega
  rw [h1]
  cases j with
  | zero => rfl
  | succ j =>
    have hlt := List.pairwise_iff_getElem.1 (cutUp_pw kp 24) j (j + 1) (by omega) hj' (by omega)
    rw [Nat.add_sub_cancel, rd55_at _ j (by omega), hlt]
    simp
theorem keepB_same (ap : List S55) (c0 c1 : Int) (on on' : Bool) (i m : Nat) (h1 : i < m) (h2 : m < 24) : keepB (cutUp (keepB ap c0 c1 on') 24) c0 c1 on i m = keepB ap c0 c1 on i m := by
  unfold keepB
  split
  · rfl
  · rename_i hc
    rw [has_cutUp _ i m h1 h2, if_neg hc]
theorem cut_again (ap : List S55) (c0 c1 : Int) (on on' : Bool) : cutUp (keepB (cutUp (keepB ap c0 c1 on') 24) c0 c1 on) 24 = cutUp (keepB ap c0 c1 on) 24 :=
  cutUp_congr _ _ 24 (fun i m _ h2 h3 => keepB_same ap c0 c1 on on' i m h2 h3)
theorem cutRow_more (ap : List S55) (i c : Nat) (hic : i < c) : ∀ j, (cutRow (keepB ap i c true) i j).length = (cutRow (keepB ap i c false) i j).length + (if c < j then 1 else 0)
  | 0 => by simp [cutRow]
  | j + 1 => by
    rw [cutRow, cutRow, List.length_append, List.length_append, cutRow_more ap i c hic j]
    by_cases hj : j = c
    · subst hj
      have h1 : keepB ap i j true i j = true := by simp [keepB]
      have h2 : keepB ap i j false i j = false := by simp [keepB]
      simp [h1, h2, hic]
    · have h1 : keepB ap i c true i j = keepB ap i c false i j := by
        have : ¬ ((j : Int) = c) := by omega
        simp [keepB, this]
      have e : (if c < j + 1 then (1 : Nat) else 0) = if c < j then 1 else 0 := by split <;> split <;> omega
      rw [h1, e]; omega
theorem cutRow_other (ap : List S55) (i' i c : Nat) (h : i ≠ i') (on on' : Bool) (j : Nat) : cutRow (keepB ap i' c on) i j = cutRow (keepB ap i' c on') i j :=
  cutRow_congr _ _ i j (fun m _ _ => by
    have : ¬ ((i : Int) = i') := by omega
    simp [keepB, this])
theorem cutUp_more (ap : List S55) (i c : Nat) (hic : i < c) (hc : c < 24) : ∀ n, (cutUp (keepB ap i c true) n).length = (cutUp (keepB ap i c false) n).length + (if i < n then 1 else 0)
  | 0 => by simp [cutUp]
  | n + 1 => by
    rw [cutUp, cutUp, List.length_append, List.length_append, cutUp_more ap i c hic hc n]
    by_cases hn : n = i
    · subst hn
      have e : (if n < n then (1 : Nat) else 0) = 0 := if_neg (Nat.lt_irrefl _)
      have e2 : (if n < n + 1 then (1 : Nat) else 0) = 1 := if_pos (Nat.lt_succ_self _)
      rw [cutRow_more ap n c hic 24, if_pos hc, e, e2]; omega
    · rw [cutRow_other ap i n c hn true false 24]
      have e : (if i < n + 1 then (1 : Nat) else 0) = if i < n then 1 else 0 := by split <;> split <;> omega
      rw [e]; omega
theorem lk_nat {a b : Int} (h : lkOk ⟨mn a b, mx a b⟩ = true) : ∃ i c : Nat, mn a b = i ∧ mx a b = c ∧ i < c ∧ c < 24 := by
  simp only [lkOk, Bool.and_eq_true, decide_eq_true_eq] at h
  exact ⟨(mn a b).toNat, (mx a b).toNat, by omega, by omega, by omega, by omega⟩
theorem mn_comm (a b : Int) : mn a b = mn b a := by unfold mn; split <;> split <;> omega
theorem mx_comm (a b : Int) : mx a b = mx b a := by unfold mx; split <;> split <;> omega
/-- Is the packet's link one between these two. -/
def btw (p : S28) (a b : Int) : Bool := (p.f0 == a && p.f1 == b) || (p.f0 == b && p.f1 == a)
/-- NetworkCuts, in plain words: the cut. -/
theorem cuts_plain (q : List S28) (ap : List S55) (hok : netOk q ap = true) (a b : Int) :
    (cutP q ap a b true = ([], [], 1)) ∨ ∃ x y, cutP q ap a b true = (q, x, 0) ∧ cutP q ap b a true = (q, x, 0) ∧ cutP q x a b true = (q, x, 0) ∧ cutP q x b a false = (q, y, 0) ∧ cutP q ap a b false = (q, y, 0) ∧ x.length = y.length + 1 ∧ x.length ≤ 576 ∧
      netOk q x = true ∧ netOk q y = true ∧ a ≠ b ∧
      (∀ p : S28, pkOk p = true → btw p a b = true → has55 x (mn p.f0 p.f1) (mx p.f0 p.f1) = true ∧ has55 y (mn p.f0 p.f1) (mx p.f0 p.f1) = false) ∧
      (∀ p : S28, pkOk p = true → btw p a b = false → has55 x (mn p.f0 p.f1) (mx p.f0 p.f1) = has55 y (mn p.f0 p.f1) (mx p.f0 p.f1)) := by
  obtain ⟨h1, h2, h3⟩ := netOk_parts.1 hok
  cases hv : lkOk ⟨mn a b, mx a b⟩ with
  | false => exact .inl (by unfold cutP; rw [hok, hv]; simp)
  | true =>
    right
    have hv2 : lkOk ⟨mn b a, mx b a⟩ = true := by rw [mn_comm b a, mx_comm b a]; exact hv
    obtain ⟨i, c, e1, e2, hic, hc⟩ := lk_nat hv
    have hnx : ∀ on, netOk q (cutUp (keepB ap (mn a b) (mx a b) on) 24) = true := fun on => netOk_parts.2 ⟨h1, h2, cutUp_ok _⟩
    have hmm : ∀ p : S28, pkOk p = true → ∃ i' c' : Nat, mn p.f0 p.f1 = i' ∧ mx p.f0 p.f1 = c' ∧ i' < c' ∧ c' < 24 := fun p hp => by
      unfold pkOk at hp
      rw [Bool.and_eq_true] at hp
      exact lk_nat hp.1
    have hb : ∀ p : S28, btw p a b = true ↔ (mn p.f0 p.f1 = mn a b ∧ mx p.f0 p.f1 = mx a b) := fun p => by
      have f1 : ∀ u v : Int, mn u v = if v < u then v else u := fun u v => rfl
      have f2 : ∀ u v : Int, mx u v = if v < u then u else v := fun u v => by unfold mx; split <;> split <;> omega
      rw [f1, f1, f2, f2]
      unfold btw
      simp only [Bool.or_eq_true, Bool.and_eq_true, beq_iff_eq]
      split <;> split <;> omega
    refine ⟨cutUp (keepB ap (mn a b) (mx a b) true) 24, cutUp (keepB ap (mn a b) (mx a b) false) 24, ?_, ?_, ?_, ?_, ?_, ?_, cutUp_len _ 24, hnx _, hnx _, ?_, ?_, ?_⟩
    · unfold cutP; rw [hok, hv]; simp
    · unfold cutP; rw [hok, hv2, mn_comm b a, mx_comm b a]; simp
    · unfold cutP; rw [hnx, hv]; simp [cut_again]
    · unfold cutP; rw [hnx, hv2, mn_comm b a, mx_comm b a]; simp [cut_again]
    · unfold cutP; rw [hok, hv]; simp
    · rw [e1, e2, cutUp_more ap i c hic hc 24, if_pos (by omega)]
    · rintro rfl
      have : mn a a = mx a a := by unfold mn mx; split <;> rfl
      omega
    · intro p hp hbt
      obtain ⟨g1, g2⟩ := (hb p).1 hbt
      rw [g1, g2, e1, e2, has_cutUp _ i c hic hc, has_cutUp _ i c hic hc]
      simp [keepB]
    · intro p hp hbt
      obtain ⟨i', c', g1, g2, g3, g4⟩ := hmm p hp
      rw [g1, g2, has_cutUp _ i' c' g3 g4, has_cutUp _ i' c' g3 g4]
      have hne : ¬ ((i' : Int) = mn a b ∧ (c' : Int) = mx a b) := fun h => by
        have := (hb p).2 ⟨by rw [g1]; exact h.1, by rw [g2]; exact h.2⟩
        rw [hbt] at this; cases this
      unfold keepB
      rw [if_neg (by simpa using hne), if_neg (by simpa using hne)]
/-- NetworkCuts, in plain words: what is delivered. -/
theorem cuts_deliver (q : List S28) (x y : List S55) (hf : q.length ≤ 40) (okx : netOk q x = true) (oky : netOk q y = true) (a b : Int) (hab : a ≠ b)
    (hbt : ∀ p : S28, pkOk p = true → btw p a b = true → has55 x (mn p.f0 p.f1) (mx p.f0 p.f1) = true ∧ has55 y (mn p.f0 p.f1) (mx p.f0 p.f1) = false)
    (hnb : ∀ p : S28, pkOk p = true → btw p a b = false → has55 x (mn p.f0 p.f1) (mx p.f0 p.f1) = has55 y (mn p.f0 p.f1) (mx p.f0 p.f1)) (i : Nat) (hi : i < q.length) :
    ∃ p0 p1 p2 q0 q1 q2, deliverP q x i = (p0, p1, p2, woP q i, x, 0) ∧ deliverP q y i = (q0, q1, q2, woP q i, y, 0) ∧
      ((signatoryref06_SamePacket.f p0 p1 p2 0 0 [] = some true ∧ (q0 == a) = true ∧ (q1 == b) = true) ∨
       (signatoryref06_SamePacket.f p0 p1 p2 0 0 [] = some true ∧ (q0 == a) = false ∧ (q0 == b) = true ∧ (q1 == a) = true) ∨
       (∃ s, signatoryref06_SamePacket.f p0 p1 p2 0 0 [] = some s ∧ signatoryref06_SamePacket.f q0 q1 q2 0 0 [] = some s ∧ signatoryref06_SamePacket.f p0 p1 p2 q0 q1 q2 = some true ∧ (q0 == a) = true ∧ (q1 == b) = false ∧ (q0 == b) = false) ∨
       (∃ s, signatoryref06_SamePacket.f p0 p1 p2 0 0 [] = some s ∧ signatoryref06_SamePacket.f q0 q1 q2 0 0 [] = some s ∧ signatoryref06_SamePacket.f p0 p1 p2 q0 q1 q2 = some true ∧ (q0 == a) = false ∧ (q0 == b) = true ∧ (q1 == a) = false) ∨
       (∃ s, signatoryref06_SamePacket.f p0 p1 p2 0 0 [] = some s ∧ signatoryref06_SamePacket.f q0 q1 q2 0 0 [] = some s ∧ signatoryref06_SamePacket.f p0 p1 p2 q0 q1 q2 = some true ∧ (q0 == a) = false ∧ (q0 == b) = false)) := by
  obtain ⟨h1, h2, h3⟩ := netOk_parts.1 okx
  have hA : ∀ z, netOk q z = true → atP q z i = 0 := fun z hz => by unfold atP; rw [hz, if_pos rfl, if_pos ⟨by omega, by omega⟩]
  have hn : (i : Int).toNat = i := by omega
  obtain ⟨p, hp⟩ : ∃ p, p = rd_T28 q i := ⟨_, rfl⟩
  have hpk : pkOk p = true := by rw [hp, getD_at q i hi]; exact List.all_eq_true.1 h2 _ (List.getElem_mem hi)
  have hz0 : signatoryref06_SamePacket.f 0 0 [] 0 0 [] = some true := samePacket_refl ⟨0, 0, []⟩
  have hS : ∀ u v l, ∃ s, signatoryref06_SamePacket.f u v l 0 0 [] = some s := fun u v l => by
    unfold signatoryref06_SamePacket.f
    split
    · split <;> exact ⟨_, rfl⟩
    · exact ⟨_, rfl⟩
  have key : ∀ u v l, (u == a && v == b) = false → (u == b && v == a) = false →
      ((∃ s, signatoryref06_SamePacket.f u v l 0 0 [] = some s ∧ signatoryref06_SamePacket.f u v l 0 0 [] = some s ∧ signatoryref06_SamePacket.f u v l u v l = some true ∧ (u == a) = true ∧ (v == b) = false ∧ (u == b) = false) ∨
       (∃ s, signatoryref06_SamePacket.f u v l 0 0 [] = some s ∧ signatoryref06_SamePacket.f u v l 0 0 [] = some s ∧ signatoryref06_SamePacket.f u v l u v l = some true ∧ (u == a) = false ∧ (u == b) = true ∧ (v == a) = false) ∨
       (∃ s, signatoryref06_SamePacket.f u v l 0 0 [] = some s ∧ signatoryref06_SamePacket.f u v l 0 0 [] = some s ∧ signatoryref06_SamePacket.f u v l u v l = some true ∧ (u == a) = false ∧ (u == b) = false)) := by
    intro u v l k1 k2
    obtain ⟨s, hs⟩ := hS u v l
    have hr : signatoryref06_SamePacket.f u v l u v l = some true := samePacket_refl ⟨u, v, l⟩
    cases e1 : (u == a) with
    | true =>
      rw [e1, Bool.true_and] at k1
      refine .inl ⟨s, hs, hs, hr, rfl, k1, ?_⟩
      rw [beq_eq_false_iff_ne]
      rw [beq_iff_eq] at e1
      omega
    | false =>
      cases e2 : (u == b) with
      | true =>
        rw [e2, Bool.true_and] at k2
        exact .inr (.inl ⟨s, hs, hs, hr, rfl, rfl, k2⟩)
      | false => exact .inr (.inr ⟨s, hs, hs, hr, rfl, rfl⟩)
  cases hb : btw p a b with
  | true =>
    obtain ⟨g1, g2⟩ := hbt p hpk hb
    refine ⟨0, 0, [], p.f0, p.f1, p.f2, by unfold deliverP; rw [if_pos (hA x okx), hn, ← hp]; simp only [g1, if_true], by unfold deliverP; rw [if_pos (hA y oky), hn, ← hp]; simp [g2], ?_⟩
    cases e1 : (p.f0 == a && p.f1 == b) with
    | true => rw [Bool.and_eq_true] at e1; exact .inl ⟨hz0, e1.1, e1.2⟩
    | false =>
      unfold btw at hb
      rw [e1, Bool.false_or, Bool.and_eq_true] at hb
      refine .inr (.inl ⟨hz0, ?_, hb.1, hb.2⟩)
      have := hb.1
      rw [beq_eq_false_iff_ne]
      rw [beq_iff_eq] at this
      omega
  | false =>
    have g := hnb p hpk hb
    cases hh : has55 y (mn p.f0 p.f1) (mx p.f0 p.f1) with
    | true =>
      rw [hh] at g
      refine ⟨0, 0, [], 0, 0, [], by unfold deliverP; rw [if_pos (hA x okx), hn, ← hp]; simp only [g, if_true], by unfold deliverP; rw [if_pos (hA y oky), hn, ← hp]; simp only [hh, if_true], ?_⟩
      have k1 : ((0 : Int) == a && (0 : Int) == b) = false := by simp; omega
      have k2 : ((0 : Int) == b && (0 : Int) == a) = false := by simp; omega
      exact .inr (.inr (key 0 0 [] k1 k2))
    | false =>
      rw [hh] at g
      refine ⟨p.f0, p.f1, p.f2, p.f0, p.f1, p.f2, by unfold deliverP; rw [if_pos (hA x okx), hn, ← hp]; simp [g], by unfold deliverP; rw [if_pos (hA y oky), hn, ← hp]; simp [hh], ?_⟩
      unfold btw at hb
      rw [Bool.or_eq_false_iff] at hb
      exact .inr (.inr (key p.f0 p.f1 p.f2 hb.1 hb.2))
end Go.Proofs.Ythlehlbokaeigaa.Q
