import Derived.Test.YthlehlbokaeigaaE40
namespace Go.Proofs.Ythlehlbokaeigaa.Q
open Go.RowKit Go.Proofs.YthlehlbokaeigaaW.PrintWords
set_option linter.unusedVariables false
set_option linter.unusedSimpArgs false
attribute [local simp] okc_t okc_f
theorem lift_ {α : Type} {F : Nat → Option α} (hm : ∀ k, LeO (F k) (F (k + 1))) {m k : Nat} {r : α} (h : F m = some r) (hk : m ≤ k) : F k = some r := by
  obtain ⟨d, rfl⟩ : ∃ d, k = m + d := ⟨k - m, by omega⟩
  clear hk
  induction d with
  | zero => exact h
  | succ d ih => exact hm (m + d) r ih
theorem containsK (ap : List S55) (hl : ap.length ≤ 4611686018427387904) (a b : Int) (k : Nat) (hk : ap.length + 1 ≤ k) : slices_Contains_2_int_2_int.f k ap a b = some (has55 ap a b) :=
  lift_ (F := fun k => slices_Contains_2_int_2_int.f k ap a b) (fun k => slices_Contains_2_int_2_int.mono ap a b k) (contains2 ap (by omega) a b) hk
/-- The queue without a packet. -/
def woP (q : List S28) (i : Nat) : List S28 := q.take i ++ q.drop (i + 1)
theorem woP_len (q : List S28) (i : Nat) (h : i < q.length) : (woP q i).length = q.length - 1 := by
  unfold woP
  rw [List.length_append, List.length_take, List.length_drop]
  omega
theorem netWithout_eq (q : List S28) (ap : List S55) (i : Nat) (hq : q.length ≤ 4097) (h : i < q.length) : network_without.f q ap (i : Int) = some (woP q i, ap) := by
  unfold network_without.f
  rw [w_succ i (by omega), if_pos (by omega), if_pos (by omega)]
  unfold capRows.f
  rw [if_pos ⟨by omega, by omega, by rw [List.length_drop]; omega⟩]
  rfl
theorem getD_at (q : List S28) (i : Nat) (h : i < q.length) : rd_T28 q (i : Int) = q[i] := by unfold rd_T28; simp [List.getD_eq_getElem?_getD, h]
/-- Where it is asked for a packet: what comes of it. -/
def atP (q : List S28) (ap : List S55) (i : Int) : Int := if netOk q ap then (if 0 ≤ i ∧ i < q.length then 0 else 1) else 60
theorem netAt_eq (q : List S28) (ap : List S55) (hl : ap.length ≤ 4611686018427387904) (k : Nat) (hk : q.length + ap.length + 5 ≤ k) (i : Int) :
    network_at.f k q ap i = some (if atP q ap i = 0 then ((rd_T28 q i).f0, (rd_T28 q i).f1, (rd_T28 q i).f2, 0) else (0, 0, [], atP q ap i)) := by
  unfold network_at.f atP
  rw [netCheck_eq q ap hl k hk, Option.bind_some]
  cases netOk q ap with
  | false => simp
  | true =>
    by_cases h1 : i < 0
    · have h2 : ¬ 0 ≤ i := by omega
      simp [h1, h2]
    · by_cases h3 : i ≥ (q.length : Int)
      · have h4 : ¬ i < (q.length : Int) := by omega
        simp [h1, h3, h4]
      · have h2 : 0 ≤ i := by omega
        have h4 : i < (q.length : Int) := by omega
        simp [h1, h3, h2, h4]
theorem atP_ok {q : List S28} {ap : List S55} {i : Int} (h : atP q ap i = 0) : netOk q ap = true ∧ 0 ≤ i ∧ i < q.length := by
  unfold atP at h
  split at h
  · split at h
    · rename_i h1 h2; exact ⟨h1, h2⟩
    · cases h
  · cases h
def loseP (q : List S28) (ap : List S55) (i : Int) : List S28 × List S55 × Int := if atP q ap i = 0 then (woP q i.toNat, ap, 0) else ([], [], atP q ap i)
theorem netLose_eq (q : List S28) (ap : List S55) (hl : ap.length ≤ 4611686018427387904) (k : Nat) (hk : q.length + ap.length + 5 ≤ k) (i : Int) : network_Lose.f k q ap i = some (loseP q ap i) := by
  unfold network_Lose.f loseP
  rw [netAt_eq q ap hl k hk i, Option.bind_some]
  by_cases h : atP q ap i = 0
  · obtain ⟨h1, h2, h3⟩ := atP_ok h
    have hq := netOk_len h1
    rw [if_pos h, if_pos h, if_pos rfl]
    have := netWithout_eq q ap i.toNat (by omega) (by omega)
    rw [show ((i.toNat : Nat) : Int) = i from by omega] at this
    rw [this]
    rfl
  · rw [if_neg h, if_neg h, if_neg h]
def deliverP (q : List S28) (ap : List S55) (i : Int) : Int × Int × List Int × List S28 × List S55 × Int :=
  if atP q ap i = 0 then (let p := rd_T28 q i; if has55 ap (mn p.f0 p.f1) (mx p.f0 p.f1) then (0, 0, [], woP q i.toNat, ap, 0) else (p.f0, p.f1, p.f2, woP q i.toNat, ap, 0)) else (0, 0, [], [], [], atP q ap i)
theorem netDeliver_eq (q : List S28) (ap : List S55) (hl : ap.length ≤ 4611686018427387904) (k : Nat) (hk : q.length + ap.length + 5 ≤ k) (i : Int) : network_Deliver.f k q ap i = some (deliverP q ap i) := by
  unfold network_Deliver.f deliverP
  rw [netAt_eq q ap hl k hk i, Option.bind_some]
  by_cases h : atP q ap i = 0
  · obtain ⟨h1, h2, h3⟩ := atP_ok h
    have hq := netOk_len h1
    rw [if_pos h, if_pos h, if_pos rfl]
    have hw := netWithout_eq q ap i.toNat (by omega) (by omega)
    rw [show ((i.toNat : Nat) : Int) = i from by omega] at hw
    unfold network_between.f
    simp only [Option.bind_some, containsK ap hl _ _ k (by omega), hw]
    split <;> rfl
  · simp only [if_neg h]
def repeatP (q : List S28) (ap : List S55) (i : Int) : List S28 × List S55 × Int := if atP q ap i = 0 then sendP q ap (rd_T28 q i) else ([], [], atP q ap i)
theorem netRepeat_eq (q : List S28) (ap : List S55) (hl : ap.length ≤ 4611686018427387904) (k : Nat) (hk : q.length + ap.length + 5 ≤ k) (i : Int) : network_Repeat.f k q ap i = some (repeatP q ap i) := by
  unfold network_Repeat.f repeatP
  rw [netAt_eq q ap hl k hk i, Option.bind_some]
  by_cases h : atP q ap i = 0
  · rw [if_pos h, if_pos h, if_pos rfl, netSend_eq q ap (rd_T28 q i) hl k hk]
    rfl
  · simp only [if_neg h]
theorem all_wo {q : List S28} {i : Nat} (h : q.all pkOk = true) : (woP q i).all pkOk = true := by
  rw [List.all_eq_true] at h ⊢
  intro x hx
  unfold woP at hx
  rcases List.mem_append.1 hx with h1 | h1
  · exact h x (List.mem_of_mem_take h1)
  · exact h x (List.mem_of_mem_drop h1)
theorem netOk_parts {q : List S28} {ap : List S55} : netOk q ap = true ↔ (q.length ≤ 4096 ∧ q.all pkOk = true ∧ apAll ap ap.length 0 = true) := by
  unfold netOk
  simp only [Bool.and_eq_true, decide_eq_true_eq]
  constructor
  · rintro ⟨a, b, c⟩; exact ⟨by omega, b, c⟩
  · rintro ⟨a, b, c⟩; exact ⟨by omega, b, c⟩
/-- NetworkLost, in plain words. -/
theorem lost_plain (q : List S28) (ap : List S55) (hf : q.length ≤ 40) (hok : netOk q ap = true) (i : Nat) (hi : i < q.length) :
    ∃ x y z, deliverP q ap i = (x, y, z, woP q i, ap, 0) ∧ loseP q ap i = (woP q i, ap, 0) ∧ repeatP q ap i = (q ++ [rd_T28 q i], ap, 0) ∧ loseP (q ++ [rd_T28 q i]) ap i = (woP q i ++ [rd_T28 q i], ap, 0) ∧ sendP (woP q i) ap (rd_T28 q i) = (woP q i ++ [rd_T28 q i], ap, 0) := by
  obtain ⟨h1, h2, h3⟩ := netOk_parts.1 hok
  have ha : atP q ap i = 0 := by unfold atP; rw [hok, if_pos rfl, if_pos ⟨by omega, by omega⟩]
  have hp : pkOk (rd_T28 q i) = true := by rw [getD_at q i hi]; exact List.all_eq_true.1 h2 _ (List.getElem_mem hi)
  have hok2 : netOk (q ++ [rd_T28 q i]) ap = true := netOk_parts.2 ⟨by simp; omega, by rw [List.all_append, h2]; simp [hp], h3⟩
  have ha2 : atP (q ++ [rd_T28 q i]) ap i = 0 := by unfold atP; rw [hok2, if_pos rfl, if_pos ⟨by omega, by simp; omega⟩]
  have hwl := woP_len q i hi
  have hok3 : netOk (woP q i) ap = true := netOk_parts.2 ⟨by omega, all_wo h2, h3⟩
  have hwo : woP (q ++ [rd_T28 q i]) i = woP q i ++ [rd_T28 q i] := by
    unfold woP
    rw [List.take_append_of_le_length (by omega), List.drop_append_of_le_length (by omega), List.append_assoc]
  have hn : (i : Int).toNat = i := by omega
  have e1 : loseP q ap i = (woP q i, ap, 0) := by unfold loseP; rw [if_pos ha, hn]
  have e2 : repeatP q ap i = (q ++ [rd_T28 q i], ap, 0) := by
    unfold repeatP sendP
    rw [if_pos ha, hok, hp, Bool.and_self, if_pos rfl, if_neg (by omega)]
  have e3 : loseP (q ++ [rd_T28 q i]) ap i = (woP q i ++ [rd_T28 q i], ap, 0) := by unfold loseP; rw [if_pos ha2, hn, hwo]
  have e4 : sendP (woP q i) ap (rd_T28 q i) = (woP q i ++ [rd_T28 q i], ap, 0) := by
    unfold sendP
    rw [hok3, hp, Bool.and_self, if_pos rfl, if_neg (by omega)]
  cases hh : has55 ap (mn (rd_T28 q i).f0 (rd_T28 q i).f1) (mx (rd_T28 q i).f0 (rd_T28 q i).f1) with
  | true => exact ⟨0, 0, [], by unfold deliverP; rw [if_pos ha, hn]; simp only [hh, if_true], e1, e2, e3, e4⟩
  | false => exact ⟨(rd_T28 q i).f0, (rd_T28 q i).f1, (rd_T28 q i).f2, by unfold deliverP; rw [if_pos ha, hn]; simp [hh], e1, e2, e3, e4⟩
end Go.Proofs.Ythlehlbokaeigaa.Q
