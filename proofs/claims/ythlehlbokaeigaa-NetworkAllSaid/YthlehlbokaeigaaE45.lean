import Derived.Test.YthlehlbokaeigaaE41
namespace Go.Proofs.Ythlehlbokaeigaa.Q
open Go.RowKit Go.Proofs.YthlehlbokaeigaaW.PrintWords
set_option linter.unusedVariables false
set_option linter.unusedSimpArgs false
attribute [local simp] okc_t okc_f
theorem netOk_nil {q : List S28} (hq : q.length ≤ 12) (h : q.all pkOk = true) : netOk q [] = true := netOk_parts.2 ⟨by omega, h, rfl⟩
theorem all_del (q : List S28) (a : Nat) (ha : a < q.length) (h12 : q.length ≤ 12) (hok : q.all pkOk = true) (k : Nat) (hk : 20 < k) :
    network_Deliver.f k q [] (a : Int) = some ((rd_T28 q (a : Int)).f0, (rd_T28 q (a : Int)).f1, (rd_T28 q (a : Int)).f2, woP q a, [], 0) := by
  have hn := netOk_nil h12 hok
  have hat : atP q [] (a : Int) = 0 := by unfold atP; rw [hn, if_pos rfl, if_pos ⟨by omega, by omega⟩]
  rw [netDeliver_eq q [] (Nat.zero_le _) k (by rw [List.length_nil]; omega) (a : Int)]
  unfold deliverP
  rw [if_pos hat, Int.toNat_natCast]
  dsimp only
  rw [show has55 [] (mn (rd_T28 q (a : Int)).f0 (rd_T28 q (a : Int)).f1) (mx (rd_T28 q (a : Int)).f0 (rd_T28 q (a : Int)).f1) = false from rfl, if_neg (by decide)]
theorem all_j2 (l1 : List Int) (q : List S28) (k i a : Nat) (ha : a < q.length) (h12 : q.length ≤ 12) (hi : i ≤ 12) (hok : q.all pkOk = true) (hk : 20 < k)
    (H : signatorylaw06_NetworkAll.l1 k l1 (woP q a) ((i + 1 : Nat) : Int) (woP q a) [] = some true) : signatorylaw06_NetworkAll.j2 (k + 1) l1 q (i : Int) (a : Int) q [] = some true := by
  have e1 : ([] : List S28).length + (List.take (a : Int).toNat q).length < 3518437208883 := by rw [List.length_nil, List.length_take]; omega
  have e2 : (([] : List S28) ++ List.take (a : Int).toNat q).length + (List.drop ((a + 1 : Nat) : Int).toNat q).length < 3518437208883 := by rw [List.nil_append, List.length_take, List.length_drop]; omega
  have e : (([] : List S28) ++ List.take (a : Int).toNat q) ++ List.drop ((a + 1 : Nat) : Int).toNat q = woP q a := by
    unfold woP
    rw [List.nil_append, Int.toNat_natCast, Int.toNat_natCast]
  have c1 : (0 : Int) ≤ (a : Int) := by omega
  have c2 : (a : Int) < (q.length : Int) := by omega
  have c3 : (a : Int) ≤ (q.length : Int) := by omega
  have c4 : (0 : Int) ≤ ((a + 1 : Nat) : Int) := by omega
  have c5 : ((a + 1 : Nat) : Int) ≤ (q.length : Int) := by omega
  rw [signatorylaw06_NetworkAll.j2, all_del q a ha h12 hok k hk, Option.bind_some]
  rw [if_pos rfl, if_pos c1, if_pos c2, samePacket_refl, Option.bind_some, if_pos rfl, Option.bind_some, if_pos c3, Option.bind_some, if_pos e1, Option.bind_some, w_succ a (by omega), if_pos c4, if_pos c5, Option.bind_some, if_pos e2, w_succ i (by omega), e]
  exact H
theorem all_l1 (l1 : List Int) (hb : ∀ x ∈ l1, 0 ≤ x ∧ x < 256) : ∀ (d : Nat) (q : List S28) (k i : Nat), q.length = d → d ≤ 12 → i + d ≤ 12 → q.all pkOk = true → 2 * d + 30 < k → signatorylaw06_NetworkAll.l1 k l1 q (i : Int) q [] = some true := by
  intro d
  induction d with
  | zero =>
    intro q k i hd _ _ _ hk
    obtain ⟨k, rfl⟩ : ∃ m, k = m + 1 := ⟨k - 1, by omega⟩
    have : q = [] := List.eq_nil_of_length_eq_zero hd
    subst this
    rw [signatorylaw06_NetworkAll.l1, if_neg (by rw [List.length_nil]; omega)]
    rfl
  | succ d ih =>
    intro q k i hd h12 hid hok hk
    obtain ⟨k, rfl⟩ : ∃ m, k = m + 2 := ⟨k - 2, by omega⟩
    have hj : ∀ a : Nat, a < q.length → signatorylaw06_NetworkAll.j2 (k + 1) l1 q (i : Int) (a : Int) q [] = some true := fun a ha =>
      all_j2 l1 q k i a ha (by omega) (by omega) hok (by omega) (ih (woP q a) k (i + 1) (by rw [woP_len q a ha]; omega) (by omega) (by omega) (all_wo hok) (by omega))
    have g0 : (q.length : Int) > 0 := by omega
    rw [signatorylaw06_NetworkAll.l1, if_pos g0]
    by_cases c : (i : Int) < (l1.length : Int)
    · have g1 : (0 : Int) ≤ (i : Int) := by omega
      have g2 : ¬ (q.length : Int) = 0 := by omega
      have hil : i < l1.length := by omega
      have hr : rd l1 (i : Int) = l1[i] := by unfold rd; simp [List.getD_eq_getElem?_getD, hil]
      obtain ⟨h0, h1⟩ := hb _ (List.getElem_mem hil)
      obtain ⟨v, hv⟩ : ∃ v, l1[i] = v := ⟨_, rfl⟩
      rw [hv] at hr h0 h1
      have hw : wrap64 v = v := by unfold wrap64; omega
      obtain ⟨n, hn⟩ : ∃ n : Nat, v = (n : Int) := ⟨v.toNat, by omega⟩
      have ht : Int.tmod v (q.length : Int) = ((n % q.length : Nat) : Int) := by rw [hn]; exact (Int.ofNat_tmod n q.length).symm
      rw [if_pos c, if_pos g1, if_neg g2, hr, hw, ht]
      exact hj _ (Nat.mod_lt _ (by omega))
    · rw [if_neg c]
      exact hj 0 (by omega)
theorem all_l0 (l0 : List S28) (h0 : l0.length ≤ 12) (l1 : List Int) (hb : ∀ x ∈ l1, 0 ≤ x ∧ x < 256) : ∀ (d : Nat) (q : List S28) (k i : Nat), i + d = l0.length → q.length ≤ i → q.all pkOk = true → d + 80 < k → signatorylaw06_NetworkAll.l0 k l0 l1 q (i : Int) q [] = some true := by
  intro d
  induction d with
  | zero =>
    intro q k i hd hq hok hk
    obtain ⟨k, rfl⟩ : ∃ m, k = m + 1 := ⟨k - 1, by omega⟩
    simp only [signatorylaw06_NetworkAll.l0]
    rw [if_neg (by omega)]
    exact all_l1 l1 hb q.length q k 0 rfl (by omega) (by omega) hok (by omega)
  | succ d ih =>
    intro q k i hd hq hok hk
    obtain ⟨k, rfl⟩ : ∃ m, k = m + 1 := ⟨k - 1, by omega⟩
    simp only [signatorylaw06_NetworkAll.l0]
    rw [if_pos (by omega), if_pos (by omega), netSend_eq q [] (rd_T28 l0 (i : Int)) (Nat.zero_le _) k (by rw [List.length_nil]; omega), Option.bind_some]
    have hn := netOk_nil (q := q) (by omega) hok
    have hi : i < l0.length := by omega
    obtain ⟨x, hx⟩ : ∃ x, rd_T28 l0 (i : Int) = x := ⟨_, rfl⟩
    rw [hx]
    cases hp : pkOk x with
    | false =>
      have hs : sendP q [] x = ([], [], 60) := by unfold sendP; rw [hn, hp]; rfl
      rw [hs]
      dsimp only
      rw [if_neg (by decide), w_succ i (by omega)]
      exact ih q k (i + 1) (by omega) (by omega) hok (by omega)
    | true =>
      have hs : sendP q [] x = (q ++ [x], [], 0) := by unfold sendP; rw [hn, hp, Bool.and_self, if_pos rfl, if_neg (by omega)]
      rw [hs]
      dsimp only
      rw [if_pos rfl, if_pos (by omega), w_succ i (by omega)]
      exact ih (q ++ [x]) k (i + 1) (by omega) (by simp; omega) (by rw [List.all_append, hok]; simp [hp]) (by omega)
theorem all_plain (k : Nat) (hk : 3000 < k) (l0 : List S28) (l1 : List Int) (hb : ∀ x ∈ l1, 0 ≤ x ∧ x < 256) : signatorylaw06_NetworkAll.f k l0 l1 = some true := by
  unfold signatorylaw06_NetworkAll.f
  rw [sane_eq k hk, Option.bind_some, if_pos rfl]
  by_cases c : (l0.length : Int) > 12
  · rw [if_pos c]
  · rw [if_neg c]
    unfold network_New.f
    simp only [Option.bind_some]
    exact all_l0 l0 (by omega) l1 hb l0.length [] k 0 (by omega) (by simp) rfl (by omega)
end Go.Proofs.Ythlehlbokaeigaa.Q
