import Derived.Test.YthlehlbokaeigaaQ
namespace Go.Proofs.Ythlehlbokaeigaa.Q
open Go.RowKit Go.Proofs.YthlehlbokaeigaaW.PrintWords
set_option linter.unusedVariables false
set_option linter.unusedSimpArgs false
def lkOk (l : S55) : Bool := decide (0 ≤ l.f0) && (decide (l.f0 < l.f1) && decide (l.f1 < 24))
def lkLt (a b : S55) : Bool := decide (a.f0 < b.f0) || (decide (a.f0 = b.f0) && decide (a.f1 < b.f1))
def pkOk (p : S28) : Bool := lkOk ⟨mn p.f0 p.f1, mx p.f0 p.f1⟩ && decide ((p.f2.length : Int) ≤ 1048576)
theorem valid_eq (a b : Int) : network_link_valid.f a b = some (lkOk ⟨a, b⟩) := by
  unfold network_link_valid.f lkOk
  by_cases h1 : a ≥ 0
  · rw [if_pos h1]
    by_cases h2 : a < b
    · rw [if_pos h2]; simp [h1, h2]
    · rw [if_neg h2]; simp [h2]
  · rw [if_neg h1]
    have : ¬ (0 ≤ a) := by omega
    simp [this]
theorem packet_eq (a b : Int) (d : List Int) : network_packet.f a b d = some (pkOk ⟨a, b, d⟩) := by
  unfold network_packet.f network_between.f pkOk
  simp only [Option.bind_some, valid_eq]
  cases lkOk ⟨mn a b, mx a b⟩ <;> simp
theorem check1_eq (a b : Int) (d : List Int) : network_Check_1.f a b d = some (!pkOk ⟨a, b, d⟩) := by
  unfold network_Check_1.f
  rw [packet_eq]
  rfl
theorem index_eq (q : List S28) (hq : q.length ≤ 4096) : ∀ (d k : Nat) (i : Nat), d + i = q.length → d < k → ∃ r : Int, api_Packet_43.l0 k q (q.length : Int) (i : Int) = some r ∧ (r ≥ 0 ↔ (q.drop i).any (fun p => !pkOk p) = true) := by
  intro d
  induction d with
  | zero =>
    intro k i h hk
    obtain ⟨k, rfl⟩ : ∃ m, k = m + 1 := ⟨k - 1, by omega⟩
    refine ⟨-1, ?_, ?_⟩
    · simp only [api_Packet_43.l0]
      rw [if_neg (by omega)]
    · rw [List.drop_eq_nil_of_le (by omega)]
      simp
  | succ d ih =>
    intro k i h hk
    obtain ⟨k, rfl⟩ : ∃ m, k = m + 1 := ⟨k - 1, by omega⟩
    have hi : i < q.length := by omega
    have hr : rd_T28 q (i : Int) = q[i] := by unfold rd_T28; simp [List.getD_eq_getElem?_getD, hi]
    rw [List.drop_eq_getElem_cons hi]
    obtain ⟨r, h1, h2⟩ := ih k (i + 1) (by omega) (by omega)
    simp only [api_Packet_43.l0]
    rw [if_pos (by omega), if_pos (by omega), if_pos (by omega), check1_eq, hr]
    simp only [Option.bind_some, List.any_cons]
    cases hp : pkOk q[i] with
    | false => exact ⟨(i : Int), by simp [hp], by simp [hp]⟩
    | true =>
      refine ⟨r, ?_, by simpa [hp] using h2⟩
      rw [if_neg (by simp [hp]), show wrap64 ((i : Int) + 1) = ((i + 1 : Nat) : Int) from by unfold wrap64; omega]
      exact h1
theorem contains_eq (q : List S28) (hq : q.length ≤ 4096) : api_Packet_30.f (q.length + 1) q () = some (q.any (fun p => !pkOk p)) := by
  obtain ⟨r, h1, h2⟩ := index_eq q hq q.length (q.length + 1) 0 (by omega) (by omega)
  unfold api_Packet_30.f api_Packet_43.f
  rw [show ((0 : Nat) : Int) = 0 from rfl] at h1
  rw [h1]
  simp only [Option.bind_some, List.drop_zero] at h2 ⊢
  by_cases hr : r ≥ 0
  · rw [h2.1 hr]; simp [hr]
  · have : q.any (fun p => !pkOk p) = false := by
      cases hb : q.any (fun p => !pkOk p) with
      | false => rfl
      | true => exact absurd (h2.2 hb) hr
    rw [this]; simp [hr]
theorem compare_eq (a0 a1 b0 b1 : Int) : ∃ c : Int, slices_Compare_int_int.f 4 [a0, a1] [b0, b1] = some c ∧ (decide (c ≥ 0) = !lkLt ⟨a0, a1⟩ ⟨b0, b1⟩) := by
  have hc : ∀ x y : Int, cmp_Compare_int.f x y = some (if x < y then -1 else if x > y then 1 else 0) := by
    intro x y
    unfold cmp_Compare_int.f cmp_isNaN_int.f
    simp
    split <;> (try rfl)
    split <;> rfl
  unfold slices_Compare_int_int.f lkLt
  simp only [slices_Compare_int_int.l0, hc]
  have w1 : wrap64 (0 + 1) = 1 := by unfold wrap64; omega
  have w2 : wrap64 (1 + 1) = 2 := by unfold wrap64; omega
  simp only [List.length_cons, List.length_nil, rd, w1, w2]
  by_cases h0 : a0 < b0
  · simp [h0]
  · by_cases h1 : a0 > b0
    · simp [h0, h1]
      try omega
    · have : a0 = b0 := by omega
      subst this
      by_cases h2 : a1 < b1
      · simp [h2]
      · by_cases h3 : a1 > b1
        · simp [h2, h3]
        · have : a1 = b1 := by omega
          subst this
          simp

theorem w_succ (i : Nat) (h : i ≤ 4611686018427387904) : wrap64 ((i : Int) + 1) = ((i + 1 : Nat) : Int) := by unfold wrap64; omega
theorem w_pred (i : Nat) (h : i ≤ 4611686018427387904) : wrap64 (((i + 1 : Nat) : Int) - 1) = (i : Int) := by unfold wrap64; omega
/-- Is the link at place i in order. -/
def apAt (ap : List S55) (i : Nat) : Bool := lkOk (rd_T55 ap i) && (decide (i = 0) || lkLt (rd_T55 ap ((i - 1 : Nat) : Int)) (rd_T55 ap i))
def apAll (ap : List S55) : Nat → Nat → Bool
  | 0, _ => true
  | d + 1, i => apAt ap i && apAll ap d (i + 1)
def netOk (q : List S28) (ap : List S55) : Bool := decide ((q.length : Int) ≤ 4096) && (q.all pkOk && apAll ap ap.length 0)
theorem cmp2_eq (a b : S55) : ∃ c : Int, cmp2.f a.f0 a.f1 b.f0 b.f1 = some c ∧ (decide (c ≥ 0) = !lkLt a b) := compare_eq a.f0 a.f1 b.f0 b.f1
def okc : Bool → Int
  | true => 0
  | false => 60
@[local simp] theorem okc_t : okc true = 0 := rfl
@[local simp] theorem okc_f : okc false = 60 := rfl
theorem netCheck_l0 (q : List S28) (ap : List S55) (hl : ap.length ≤ 4611686018427387904) : ∀ (d k i : Nat), i + d = ap.length → d < k → network_Check.l0 k ap (ap.length : Int) (i : Int) q ap = some (okc (apAll ap d i)) := by
  intro d
  induction d with
  | zero =>
    intro k i h hk
    obtain ⟨k, rfl⟩ : ∃ m, k = m + 1 := ⟨k - 1, by omega⟩
    simp only [network_Check.l0, apAll]
    rw [if_neg (by omega)]
    rfl
  | succ d ih =>
    intro k i h hk
    obtain ⟨k, rfl⟩ : ∃ m, k = m + 1 := ⟨k - 1, by omega⟩
    simp only [network_Check.l0, apAll]
    rw [if_pos (by omega), if_pos (by omega), if_pos (by omega), valid_eq, Option.bind_some]
    unfold apAt
    have hv' : lkOk ⟨(rd_T55 ap i).f0, (rd_T55 ap i).f1⟩ = lkOk (rd_T55 ap i) := rfl
    rw [hv']
    cases hv : lkOk (rd_T55 ap i) with
    | false => simp
    | true =>
      rw [if_pos rfl, w_succ i (by omega), ih k (i + 1) (by omega) (by omega)]
      cases i with
      | zero => rw [if_neg (by omega)]; simp
      | succ i =>
        rw [if_pos (by omega), w_pred i (by omega), if_pos (by omega), if_pos (by omega)]
        obtain ⟨c, h1, h2⟩ := cmp2_eq (rd_T55 ap (i : Int)) (rd_T55 ap ((i + 1 : Nat) : Int))
        rw [h1, Option.bind_some]
        simp only [Nat.add_sub_cancel, Bool.true_and]
        cases hlt : lkLt (rd_T55 ap (i : Int)) (rd_T55 ap ((i + 1 : Nat) : Int)) with
        | true => rw [hlt] at h2; rw [if_neg (by simpa using h2)]; simp
        | false => rw [hlt] at h2; rw [if_pos (by simpa using h2)]; simp
theorem any_not : ∀ q : List S28, q.any (fun p => !pkOk p) = !q.all pkOk
  | [] => rfl
  | x :: t => by rw [List.any_cons, List.all_cons, any_not t]; cases pkOk x <;> simp
theorem netCheck_eq (q : List S28) (ap : List S55) (hl : ap.length ≤ 4611686018427387904) (k : Nat) (hk : q.length + ap.length + 5 ≤ k) : network_Check.f k q ap = some (okc (netOk q ap)) := by
  obtain ⟨k, rfl⟩ : ∃ m, k = m + 1 := ⟨k - 1, by omega⟩
  unfold network_Check.f netOk
  by_cases h : (q.length : Int) > 4096
  · rw [if_pos h]
    have h' : ¬ ((q.length : Int) ≤ 4096) := by omega
    simp [network_Check.j0, h']
  · rw [if_neg h]
    have h' : (q.length : Int) ≤ 4096 := by omega
    have hc : api_Packet_30.f (k + 1) q () = some (q.any (fun p => !pkOk p)) := by
      have h1 := contains_eq q (by omega)
      obtain ⟨m, hm⟩ : ∃ m, k + 1 = q.length + 1 + m := ⟨k - q.length, by omega⟩
      rw [hm]
      clear hm
      induction m with
      | zero => exact h1
      | succ m ih => exact api_Packet_30.mono _ _ _ _ ih
    rw [hc, Option.bind_some]
    have hany := any_not q
    rw [hany]
    cases hq : q.all pkOk with
    | false => simp [network_Check.j0]
    | true =>
      simp only [network_Check.j0]
      rw [if_neg (by simp), show ((0 : Int)) = ((0 : Nat) : Int) from rfl, netCheck_l0 q ap hl ap.length k 0 (by omega) (by omega)]
      simp [h']
theorem pkOk_iff (a b : Int) (d : List Int) : pkOk ⟨a, b, d⟩ = true ↔ (0 ≤ a ∧ a < 24 ∧ 0 ≤ b ∧ b < 24 ∧ a ≠ b ∧ (d.length : Int) ≤ 1048576) := by
  unfold pkOk lkOk mn mx
  simp only [Bool.and_eq_true, decide_eq_true_eq]
  by_cases h1 : b < a <;> by_cases h2 : a < b <;> simp only [h1, h2, if_true, if_false, true_and] <;> omega
theorem refPacket_eq (a b : Int) (d : List Int) : signatoryref06_Packet.f a b d = some (pkOk ⟨a, b, d⟩) := by
  unfold signatoryref06_Packet.f signatoryref06_Site.f
  have hf : ¬ (0 ≤ a ∧ a < 24 ∧ 0 ≤ b ∧ b < 24 ∧ a ≠ b ∧ (d.length : Int) ≤ 1048576) → pkOk ⟨a, b, d⟩ = false := fun h => by
    cases hp : pkOk ⟨a, b, d⟩ with
    | false => rfl
    | true => exact absurd ((pkOk_iff a b d).1 hp) h
  by_cases h1 : a ≥ 0
  · by_cases h2 : a < 24
    · by_cases h3 : b ≥ 0
      · by_cases h4 : b < 24
        · by_cases h5 : a = b
          · rw [hf (fun h => h.2.2.2.2.1 h5)]
            simp [h1, h2, h3, h4, h5]
          · by_cases h6 : (d.length : Int) ≤ 1048576
            · rw [(pkOk_iff a b d).2 ⟨h1, h2, h3, h4, h5, h6⟩]; simp [h1, h2, h3, h4, h5, h6]
            · rw [hf (fun h => h6 h.2.2.2.2.2)]; simp [h1, h2, h3, h4, h5, h6]
        · rw [hf (fun h => h4 h.2.2.2.1)]; simp [h1, h2, h3, h4]
      · rw [hf (fun h => h3 h.2.2.1)]; simp [h1, h2, h3]
    · rw [hf (fun h => h2 h.2.1)]; simp [h1, h2]
  · rw [hf (fun h => h1 h.1)]; simp [h1]
theorem refCheck_l1 (q : List S28) (ap : List S55) (hl : ap.length ≤ 4611686018427387904) : ∀ (d k i : Nat), i + d = ap.length → 2 * d < k → signatoryref06_Check.l1 k (i : Int) q ap = some (okc (apAll ap d i)) := by
  intro d
  induction d with
  | zero =>
    intro k i h hk
    obtain ⟨k, rfl⟩ : ∃ m, k = m + 1 := ⟨k - 1, by omega⟩
    simp only [signatoryref06_Check.l1, apAll]
    rw [if_neg (by omega)]
    rfl
  | succ d ih =>
    intro k i h hk
    obtain ⟨k, rfl⟩ : ∃ m, k = m + 2 := ⟨k - 2, by omega⟩
    simp only [signatoryref06_Check.l1, apAll]
    rw [if_pos (by omega), if_pos (by omega)]
    obtain ⟨x, hx⟩ : ∃ x, rd_T55 ap (i : Int) = x := ⟨_, rfl⟩
    have hj : ∀ b, lkOk x = !b → signatoryref06_Check.j2 (k + 1) (i : Int) b q ap x.f0 x.f1 = some (okc (apAt ap i && apAll ap d (i + 1))) := by
      intro b hb
      simp only [signatoryref06_Check.j2]
      unfold apAt
      rw [hx, hb]
      cases b with
      | true => simp
      | false =>
        rw [if_neg (by simp), w_succ i (by omega), ih k (i + 1) (by omega) (by omega)]
        cases i with
        | zero => rw [if_neg (by omega)]; simp
        | succ i =>
          rw [if_pos (by omega), w_pred i (by omega), if_pos (by omega), if_pos (by omega)]
          simp only [Nat.add_sub_cancel]
          unfold lkLt
          by_cases c1 : x.f0 < (rd_T55 ap (i : Int)).f0
          · have c2 : ¬ ((rd_T55 ap (i : Int)).f0 < x.f0) := by omega
            have c3 : ¬ ((rd_T55 ap (i : Int)).f0 = x.f0) := by omega
            simp [c1, c2, c3]
          · by_cases c4 : x.f0 = (rd_T55 ap (i : Int)).f0
            · by_cases c5 : x.f1 ≤ (rd_T55 ap (i : Int)).f1
              · have c6 : ¬ ((rd_T55 ap (i : Int)).f1 < x.f1) := by omega
                simp [c1, c4, c5, c6]
              · have c6 : ((rd_T55 ap (i : Int)).f1 < x.f1) := by omega
                simp [c1, c4, c5, c6]
            · have c2 : ((rd_T55 ap (i : Int)).f0 < x.f0) := by omega
              simp [c1, c4, c2]
    have hlk : lkOk x = (decide (0 ≤ x.f0) && (decide (x.f0 < x.f1) && decide (x.f1 < 24))) := rfl
    rw [hx]
    unfold signatoryref06_Site.f
    by_cases h1 : x.f0 ≥ 0
    · by_cases h2 : x.f0 < 24
      · by_cases h3 : x.f1 ≥ 0
        · by_cases h4 : x.f1 < 24
          · have := hj (decide (x.f0 ≥ x.f1)) (by rw [hlk]; by_cases h5 : x.f0 < x.f1 <;> simp [h1, h4, h5] <;> omega)
            simp [h1, h2, h3, h4]
            simpa using this
          · have := hj true (by rw [hlk]; simp [h4])
            simp [h1, h2, h3, h4]
            simpa using this
        · have := hj true (by rw [hlk]; by_cases h5 : x.f0 < x.f1 <;> simp [h5] <;> omega)
          simp [h1, h2, h3]
          simpa using this
      · have := hj true (by rw [hlk]; by_cases h5 : x.f0 < x.f1 <;> simp [h5] <;> omega)
        simp [h1, h2]
        simpa using this
    · have := hj true (by rw [hlk]; have : ¬ 0 ≤ x.f0 := by omega
                          simp [this])
      simp [h1]
      simpa using this
theorem refCheck_l0 (q : List S28) (ap : List S55) (hq : q.length ≤ 4096) (hl : ap.length ≤ 4611686018427387904) : ∀ (d k i : Nat), i + d = q.length → d + 2 * ap.length + 1 < k → signatoryref06_Check.l0 k (i : Int) q ap = some (okc ((q.drop i).all pkOk && apAll ap ap.length 0)) := by
  intro d
  induction d with
  | zero =>
    intro k i h hk
    obtain ⟨k, rfl⟩ : ∃ m, k = m + 1 := ⟨k - 1, by omega⟩
    simp only [signatoryref06_Check.l0]
    rw [if_neg (by omega), List.drop_eq_nil_of_le (by omega), show ((0 : Int)) = ((0 : Nat) : Int) from rfl, refCheck_l1 q ap hl ap.length k 0 (by omega) (by omega)]
    simp
  | succ d ih =>
    intro k i h hk
    obtain ⟨k, rfl⟩ : ∃ m, k = m + 1 := ⟨k - 1, by omega⟩
    have hi : i < q.length := by omega
    have hr : rd_T28 q (i : Int) = q[i] := by unfold rd_T28; simp [List.getD_eq_getElem?_getD, hi]
    simp only [signatoryref06_Check.l0]
    rw [if_pos (by omega), if_pos (by omega), refPacket_eq, Option.bind_some, List.drop_eq_getElem_cons hi, List.all_cons, hr]
    have hp : pkOk ⟨q[i].f0, q[i].f1, q[i].f2⟩ = pkOk q[i] := rfl
    rw [hp]
    cases hv : pkOk q[i] with
    | false => simp
    | true =>
      rw [if_pos rfl, w_succ i (by omega), ih k (i + 1) (by omega) (by omega)]
      simp
theorem refCheck_eq (q : List S28) (ap : List S55) (hl : ap.length ≤ 4611686018427387904) (k : Nat) (hk : q.length + 2 * ap.length + 5 ≤ k) : signatoryref06_Check.f k q ap = some (okc (netOk q ap)) := by
  unfold signatoryref06_Check.f netOk
  by_cases h : (q.length : Int) > 4096
  · rw [if_pos h]
    have h' : ¬ ((q.length : Int) ≤ 4096) := by omega
    simp [h']
  · rw [if_neg h]
    have h' : (q.length : Int) ≤ 4096 := by omega
    rw [show ((0 : Int)) = ((0 : Nat) : Int) from rfl, refCheck_l0 q ap (by omega) hl q.length k 0 (by omega) (by omega)]
    simp [h']
/-- What sending comes to. -/
def sendP (q : List S28) (ap : List S55) (p : S28) : List S28 × List S55 × Int := if netOk q ap && pkOk p then (if (q.length : Int) = 4096 then ([], [], 2) else (q ++ [p], ap, 0)) else ([], [], 60)
theorem netOk_len {q : List S28} {ap : List S55} (h : netOk q ap = true) : q.length ≤ 4096 := by
  unfold netOk at h
  simp only [Bool.and_eq_true, decide_eq_true_eq] at h
  omega
theorem netSend_eq (q : List S28) (ap : List S55) (p : S28) (hl : ap.length ≤ 4611686018427387904) (k : Nat) (hk : q.length + ap.length + 5 ≤ k) : network_Send.f k q ap p.f0 p.f1 p.f2 = some (sendP q ap p) := by
  obtain ⟨m, rfl⟩ : ∃ m, k = m + 1 := ⟨k - 1, by omega⟩
  unfold network_Send.f sendP
  rw [netCheck_eq q ap hl (m + 1) hk, Option.bind_some]
  cases hn : netOk q ap with
  | false => simp [network_Send.j0]
  | true =>
    rw [okc_t, if_pos rfl, packet_eq, Option.bind_some]
    have hp : pkOk ⟨p.f0, p.f1, p.f2⟩ = pkOk p := rfl
    rw [hp]
    cases pkOk p with
    | false => simp [network_Send.j0]
    | true =>
      have hq := netOk_len hn
      simp only [network_Send.j0, Bool.not_true, Bool.and_self, if_true, Bool.false_eq_true, if_false]
      by_cases h : (q.length : Int) = 4096
      · rw [if_pos h, if_pos h]
      · rw [if_neg h, if_neg h]
        unfold capOne.f
        rw [if_pos (by simp; omega)]
        rfl
theorem refSend_eq (q : List S28) (ap : List S55) (p : S28) (hl : ap.length ≤ 4611686018427387904) (k : Nat) (hk : q.length + 2 * ap.length + 5 ≤ k) : signatoryref06_Send.f k q ap p.f0 p.f1 p.f2 = some (sendP q ap p) := by
  obtain ⟨m, rfl⟩ : ∃ m, k = m + 1 := ⟨k - 1, by omega⟩
  unfold signatoryref06_Send.f sendP
  rw [refCheck_eq q ap hl (m + 1) hk, Option.bind_some]
  cases hn : netOk q ap with
  | false => simp [signatoryref06_Send.j0]
  | true =>
    rw [okc_t, if_pos rfl, refPacket_eq, Option.bind_some]
    have hp : pkOk ⟨p.f0, p.f1, p.f2⟩ = pkOk p := rfl
    rw [hp]
    cases pkOk p with
    | false => simp [signatoryref06_Send.j0]
    | true =>
      have hq := netOk_len hn
      simp only [signatoryref06_Send.j0, Bool.not_true, Bool.and_self, if_true, Bool.false_eq_true, if_false]
      by_cases h : (q.length : Int) = 4096
      · rw [if_pos h, if_pos h]
      · rw [if_neg h, if_neg h]
        simp only [Option.bind_some, List.nil_append, List.length_nil, List.length_cons]
        rw [if_pos (by omega), if_pos (by omega)]
theorem samePacket_refl (p : S28) : signatoryref06_SamePacket.f p.f0 p.f1 p.f2 p.f0 p.f1 p.f2 = some true := by
  unfold signatoryref06_SamePacket.f
  simp
theorem same_l1 (q : List S28) (ap : List S55) (hl : ap.length ≤ 4611686018427387904) : ∀ (d k i : Nat), i + d = ap.length → d < k → signatoryref06_Same.l1 k (i : Int) q ap q ap = some true := by
  intro d
  induction d with
  | zero =>
    intro k i h hk
    obtain ⟨k, rfl⟩ : ∃ m, k = m + 1 := ⟨k - 1, by omega⟩
    simp only [signatoryref06_Same.l1]
    rw [if_neg (by omega)]
  | succ d ih =>
    intro k i h hk
    obtain ⟨k, rfl⟩ : ∃ m, k = m + 1 := ⟨k - 1, by omega⟩
    simp only [signatoryref06_Same.l1]
    rw [if_pos (by omega), if_pos (by omega), if_pos (by omega), if_neg (by simp), w_succ i (by omega)]
    exact ih k (i + 1) (by omega) (by omega)
theorem same_l0 (q : List S28) (ap : List S55) (hq : q.length ≤ 4611686018427387904) (hl : ap.length ≤ 4611686018427387904) : ∀ (d k i : Nat), i + d = q.length → d + ap.length + 1 < k → signatoryref06_Same.l0 k (i : Int) q ap q ap = some true := by
  intro d
  induction d with
  | zero =>
    intro k i h hk
    obtain ⟨k, rfl⟩ : ∃ m, k = m + 1 := ⟨k - 1, by omega⟩
    simp only [signatoryref06_Same.l0]
    rw [if_neg (by omega), show ((0 : Int)) = ((0 : Nat) : Int) from rfl]
    exact same_l1 q ap hl ap.length k 0 (by omega) (by omega)
  | succ d ih =>
    intro k i h hk
    obtain ⟨k, rfl⟩ : ∃ m, k = m + 1 := ⟨k - 1, by omega⟩
    simp only [signatoryref06_Same.l0]
    rw [if_pos (by omega), if_pos (by omega), if_pos (by omega), samePacket_refl, Option.bind_some, if_pos rfl, w_succ i (by omega)]
    exact ih k (i + 1) (by omega) (by omega)
theorem same_refl (q : List S28) (ap : List S55) (hq : q.length ≤ 4611686018427387904) (hl : ap.length ≤ 4611686018427387904) (k : Nat) (hk : q.length + ap.length + 5 ≤ k) : signatoryref06_Same.f k q ap q ap = some true := by
  obtain ⟨m, rfl⟩ : ∃ m, k = m + 1 := ⟨k - 1, by omega⟩
  unfold signatoryref06_Same.f
  simp only [if_true, bne_self_eq_false, signatoryref06_Same.j0, Bool.false_eq_true, if_false]
  rw [show ((0 : Int)) = ((0 : Nat) : Int) from rfl]
  exact same_l0 q ap hq hl q.length m 0 (by omega) (by omega)
end Go.Proofs.Ythlehlbokaeigaa.Q
