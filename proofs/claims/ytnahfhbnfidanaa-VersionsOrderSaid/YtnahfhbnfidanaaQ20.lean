-- Written by wip/tools/extprint.py of this repo (a program of this claim's own, over the kit's printer) out of the translation; Lean checks it.
import Derived.Test.YtnahfhbnfidanaaQ0
import Derived.Test.YtnahfhbnfidanaaQ3
import Derived.Test.YtnahfhbnfidanaaQ4
import Derived.Test.YtnahfhbnfidanaaQ10
import Derived.Test.YtnahfhbnfidanaaQ11
import Derived.Test.YtnahfhbnfidanaaQ12
import Derived.Test.YtnahfhbnfidanaaQ16
import Derived.Test.YtnahfhbnfidanaaQ18
import Derived.Test.YtnahfhbnfidanaaQ19
namespace Go.Proofs.Ytnahfhbnfidanaa.Q
open Go.RowKit Go.Proofs.YtnahfhbnfidanaaW.PrintWords Go.Proofs.YtnahfhbnfidanaaW.PrintLast Go.Proofs.YtnahfhbnfidanaaW.PrintMore
attribute [local go_sem] max2_int min2_int max_two min_two max_three min_three max_four min_four   -- for this text's walks alone
set_option linter.unusedVariables false
set_option linter.unusedSimpArgs false

section
theorem w64 (n : Nat) (h : n ≤ 1000000) : wrap64 ((n : Int) + 1) = ((n + 1 : Nat) : Int) := by unfold wrap64; omega
theorem rdAt (l : List S24) (i : Nat) (h : i < l.length) : rd_T24 l (i : Int) = l[i] := by unfold rd_T24; simp [List.getD_eq_getElem?_getD, h]
/-- Is an amendment right. -/
def vR (x : S24) : Bool := decide (0 ≤ x.f0 ∧ x.f0 ≤ 1048576 ∧ 0 ≤ x.f3 ∧ x.f3 ≤ 1048576 ∧ 0 ≤ x.f1 ∧ x.f1 ≤ 1099511627775 ∧ 0 ≤ x.f2 ∧ x.f2 ≤ 1099511627775 ∧ 0 ≤ x.f4 ∧ x.f4 ≤ 1099511627776) && (!x.f5 || x.f4 == 0)
theorem within_eq (a b : Int) : versions_within.f a b = some (decide (0 ≤ a ∧ a ≤ b)) := by
  unfold versions_within.f
  by_cases h : a ≥ 0
  · rw [if_pos h]; simp [h]
  · rw [if_neg h]; simp; omega
theorem right_eq (a b c d e : Int) (g : Bool) : versions_right.f a b c d e g = some (vR ⟨a, b, c, d, e, g⟩) := by
  unfold versions_right.f vR
  simp only [within_eq, Option.bind_some, decide_eq_true_eq]
  by_cases h1 : 0 ≤ a ∧ a ≤ 1048576
  · rw [if_pos h1]
    by_cases h2 : 0 ≤ d ∧ d ≤ 1048576
    · rw [if_pos h2]
      by_cases h3 : 0 ≤ b ∧ b ≤ 1099511627775
      · rw [if_pos h3]
        by_cases h4 : 0 ≤ c ∧ c ≤ 1099511627775
        · rw [if_pos h4]
          by_cases h5 : 0 ≤ e ∧ e ≤ 1099511627776
          · rw [if_pos h5, decide_eq_true (by omega)]
            cases g <;> simp
          · rw [if_neg h5, decide_eq_false (by omega)]; simp
        · rw [if_neg h4, decide_eq_false (by omega)]; simp
      · rw [if_neg h3, decide_eq_false (by omega)]; simp
    · rw [if_neg h2, decide_eq_false (by omega)]; simp
  · rw [if_neg h1, decide_eq_false (by omega)]; simp
/-- Check, behind a last number. -/
def chkL : Int → List S24 → Int
  | _, [] => 0
  | last, x :: t => if vR x = true ∧ last < x.f0 then chkL x.f0 t else 140
def chk (l : List S24) : Int := if l.length > 4096 then 2 else chkL (-1) l
theorem check_l0 (l : List S24) (hl : l.length ≤ 4096) : ∀ (d k i : Nat) (last : Int), d + i = l.length → d < k → versions_Check.l0 k last l (l.length : Int) (i : Int) = some (chkL last (l.drop i)) := by
  intro d
  induction d with
  | zero =>
    intro k i last h hk
    obtain ⟨k, rfl⟩ : ∃ m, k = m + 1 := ⟨k - 1, by omega⟩
    simp only [versions_Check.l0]
    rw [if_neg (by omega), List.drop_eq_nil_of_le (by omega)]
    rfl
  | succ d ih =>
    intro k i last h hk
    obtain ⟨k, rfl⟩ : ∃ m, k = m + 1 := ⟨k - 1, by omega⟩
    have hi : i < l.length := by omega
    simp only [versions_Check.l0]
    rw [if_pos (by omega), if_pos (by omega), if_pos (by omega), right_eq, rdAt l i hi, List.drop_eq_getElem_cons hi]
    simp only [Option.bind_some, chkL]
    by_cases h1 : vR l[i] = true
    · rw [if_pos h1]
      by_cases h2 : last < l[i].f0
      · rw [if_neg (by omega), if_pos ⟨h1, h2⟩, w64 i (by omega)]
        exact ih k (i + 1) _ (by omega) (by omega)
      · rw [if_pos (by omega), if_neg (fun h => h2 h.2)]
    · rw [if_neg h1, if_neg (fun h => h1 h.1)]
theorem check_eq (l : List S24) (k : Nat) (hk : 4096 < k) : versions_Check.f k l = some (chk l) := by
  unfold versions_Check.f chk
  by_cases h : l.length > 4096
  · rw [if_pos (by omega), if_pos h]
  · rw [if_neg (by omega), if_neg h]
    exact check_l0 l (by omega) l.length k 0 (-1) (by omega) (by omega)
theorem chkL_ok : ∀ (l : List S24) (last : Int), chkL last l = 0 → (∀ x ∈ l, vR x = true ∧ last < x.f0) ∧ l.Pairwise (fun a b => a.f0 < b.f0)
  | [], _, _ => ⟨by simp, List.Pairwise.nil⟩
  | x :: t, last, h => by
    simp only [chkL] at h
    by_cases hc : vR x = true ∧ last < x.f0
    · rw [if_pos hc] at h
      obtain ⟨h1, h2⟩ := chkL_ok t x.f0 h
      refine ⟨?_, List.Pairwise.cons (fun y hy => (h1 y hy).2) h2⟩
      intro y hy
      rcases List.mem_cons.1 hy with rfl | hy
      · exact hc
      · exact ⟨(h1 y hy).1, by have := (h1 y hy).2; omega⟩
    · rw [if_neg hc] at h
      omega
theorem chkL_of : ∀ (l : List S24) (last : Int), (∀ x ∈ l, vR x = true ∧ last < x.f0) → l.Pairwise (fun a b => a.f0 < b.f0) → chkL last l = 0
  | [], _, _, _ => rfl
  | x :: t, last, h1, h2 => by
    simp only [chkL]
    rw [if_pos (h1 x (by simp))]
    obtain ⟨h3, h4⟩ := List.pairwise_cons.1 h2
    exact chkL_of t x.f0 (fun y hy => ⟨(h1 y (by simp [hy])).1, h3 y hy⟩) h4
theorem chk_ok {l : List S24} (h : chk l = 0) : l.length ≤ 4096 ∧ (∀ x ∈ l, vR x = true) ∧ l.Pairwise (fun a b => a.f0 < b.f0) := by
  unfold chk at h
  by_cases hl : l.length > 4096
  · rw [if_pos hl] at h; omega
  · rw [if_neg hl] at h
    obtain ⟨h1, h2⟩ := chkL_ok l (-1) h
    exact ⟨by omega, fun x hx => (h1 x hx).1, h2⟩
theorem vR_no {x : S24} (h : vR x = true) : 0 ≤ x.f0 := by
  unfold vR at h
  simp at h
  omega
theorem chk_of {l : List S24} (h1 : l.length ≤ 4096) (h2 : ∀ x ∈ l, vR x = true) (h3 : l.Pairwise (fun a b => a.f0 < b.f0)) : chk l = 0 := by
  unfold chk
  rw [if_neg (by omega)]
  exact chkL_of l (-1) (fun x hx => ⟨h2 x hx, by have := vR_no (h2 x hx); omega⟩) h3
theorem chk_vals (l : List S24) : chk l = 0 ∨ chk l = 2 ∨ chk l = 140 := by
  have h : ∀ (l : List S24) (last : Int), chkL last l = 0 ∨ chkL last l = 140 := by
    intro l
    induction l with
    | nil => intro last; exact .inl rfl
    | cons x t ih =>
      intro last
      simp only [chkL]
      split
      · exact ih _
      · exact .inr rfl
  unfold chk
  split
  · exact .inr (.inl rfl)
  · rcases h l (-1) with h | h
    · exact .inl h
    · exact .inr (.inr h)
/-- Where a number lies, or would. -/
def pos (l : List S24) (v : Int) : Nat := (l.takeWhile (fun y => decide (y.f0 < v))).length
theorem pos_le (l : List S24) (v : Int) : pos l v ≤ l.length := (List.takeWhile_prefix _).length_le
theorem pos_cons (x : S24) (t : List S24) (v : Int) : pos (x :: t) v = if x.f0 < v then pos t v + 1 else 0 := by
  unfold pos
  rw [List.takeWhile_cons]
  by_cases h : x.f0 < v <;> simp [h]
theorem pos_lt : ∀ (l : List S24) (v : Int) (j : Nat) (h : j < l.length), j < pos l v → l[j].f0 < v
  | [], v, j, h, _ => by simp at h
  | x :: t, v, j, h, hj => by
    rw [pos_cons] at hj
    by_cases hx : x.f0 < v
    · rw [if_pos hx] at hj
      cases j with
      | zero => exact hx
      | succ j => exact pos_lt t v j (by simpa using h) (by omega)
    · rw [if_neg hx] at hj; omega
theorem pos_ge : ∀ (l : List S24) (v : Int) (hp : l.Pairwise (fun a b => a.f0 < b.f0)) (j : Nat) (h : j < l.length), pos l v ≤ j → v ≤ l[j].f0
  | [], v, _, j, h, _ => by simp at h
  | x :: t, v, hp, j, h, hj => by
    rw [pos_cons] at hj
    obtain ⟨h3, h4⟩ := List.pairwise_cons.1 hp
    by_cases hx : x.f0 < v
    · rw [if_pos hx] at hj
      cases j with
      | zero => omega
      | succ j => exact pos_ge t v h4 j (by simpa using h) (by omega)
    · cases j with
      | zero => simpa using (by omega : v ≤ x.f0)
      | succ j =>
        have hjt : j < t.length := by simpa using h
        have := h3 t[j] (List.getElem_mem _)
        simp only [List.getElem_cons_succ]
        omega
/-- Is a number there. -/
def has0 (l : List S24) (v : Int) : Bool := match l[pos l v]? with
  | some y => y.f0 == v
  | none => false
theorem cmpi (a b : Int) : cmp_Compare_int.f a b = some (if a < b then -1 else if b < a then 1 else 0) := by
  unfold cmp_Compare_int.f cmp_isNaN_int.f
  simp only [bne_self_eq_false, Option.bind_some, Bool.false_eq_true, if_false]
  by_cases h : a < b
  · rw [if_pos h, if_pos h]
  · rw [if_neg h, if_neg h]
    by_cases h2 : b < a
    · rw [if_pos h2, if_pos h2]
    · rw [if_neg h2, if_neg h2]
theorem byNo_eq (a b c d e : Int) (g : Bool) (a1 b1 c1 d1 e1 : Int) (g1 : Bool) : versions_byNo.f a b c d e g a1 b1 c1 d1 e1 g1 = some (if a < a1 then -1 else if a1 < a then 1 else 0) := by
  unfold versions_byNo.f
  rw [cmpi]
  rfl
theorem bs_l0 (l : List S24) (hl : l.length ≤ 4096) (hp : l.Pairwise (fun a b => a.f0 < b.f0)) (x : S24) : ∀ (d k lo hi : Nat), hi - lo ≤ d → d < k → lo ≤ pos l x.f0 → pos l x.f0 ≤ hi → hi ≤ l.length →
    api_Amend_24.l0 k l (l.length : Int) (lo : Int) (hi : Int) x.f0 x.f1 x.f2 x.f3 x.f4 x.f5 = some ((pos l x.f0 : Int), has0 l x.f0) := by
  intro d
  have hend : ∀ (k lo hi : Nat), ¬ lo < hi → lo ≤ pos l x.f0 → pos l x.f0 ≤ hi → hi ≤ l.length → api_Amend_24.l0 (k + 1) l (l.length : Int) (lo : Int) (hi : Int) x.f0 x.f1 x.f2 x.f3 x.f4 x.f5 = some ((pos l x.f0 : Int), has0 l x.f0) := by
    intro k lo hi hlt h1 h2 h3
    obtain rfl : lo = pos l x.f0 := by omega
    simp only [api_Amend_24.l0]
    rw [if_neg (by omega)]
    by_cases he : pos l x.f0 < l.length
    · rw [if_pos (by omega), if_pos (by omega), if_pos (by omega), byNo_eq, rdAt l _ he]
      simp only [Option.bind_some]
      have hge := pos_ge l x.f0 hp _ he (Nat.le_refl _)
      have hhas : has0 l x.f0 = (l[pos l x.f0].f0 == x.f0) := by unfold has0; rw [List.getElem?_eq_getElem he]
      rw [hhas]
      by_cases heq : l[pos l x.f0].f0 = x.f0
      · simp [heq]
      · rw [if_neg (by omega), if_pos (by omega)]
        simp [heq]
    · rw [if_neg (by omega)]
      have hhas : has0 l x.f0 = false := by unfold has0; rw [List.getElem?_eq_none (by omega)]
      rw [hhas]
  induction d with
  | zero =>
    intro k lo hi hd hk h1 h2 h3
    obtain ⟨k, rfl⟩ : ∃ m, k = m + 1 := ⟨k - 1, by omega⟩
    exact hend k lo hi (by omega) h1 h2 h3
  | succ d ih =>
    intro k lo hi hd hk h1 h2 h3
    obtain ⟨k, rfl⟩ : ∃ m, k = m + 1 := ⟨k - 1, by omega⟩
    by_cases hlt : lo < hi
    · obtain ⟨m, hm⟩ : ∃ m : Nat, m = (lo + hi) / 2 := ⟨_, rfl⟩
      have hmid : wrap64 ((IntKind.u64.wrap (wrap64 ((lo : Int) + (hi : Int)))) / 2) = (m : Int) := by
        have e1 : wrap64 ((lo : Int) + (hi : Int)) = ((lo + hi : Nat) : Int) := by unfold wrap64; omega
        have e2 : IntKind.u64.wrap (((lo + hi : Nat) : Int)) = ((lo + hi : Nat) : Int) := by simp [IntKind.wrap, IntKind.bits, IntKind.signed]; omega
        rw [e1, e2]
        unfold wrap64
        omega
      simp only [api_Amend_24.l0]
      rw [hmid, if_pos (by omega), if_pos (by omega), if_pos (by omega), byNo_eq, rdAt l m (by omega)]
      simp only [Option.bind_some]
      by_cases hc : l[m].f0 < x.f0
      · rw [if_pos (by rw [if_pos hc]; omega), w64 m (by omega)]
        refine ih k (m + 1) hi (by omega) (by omega) ?_ h2 h3
        by_cases hq : m < pos l x.f0
        · omega
        · have := pos_ge l x.f0 hp m (by omega) (by omega); omega
      · rw [if_neg (by rw [if_neg hc]; split <;> omega)]
        refine ih k lo m (by omega) (by omega) h1 ?_ (by omega)
        by_cases hq : m < pos l x.f0
        · have := pos_lt l x.f0 m (by omega) hq; omega
        · omega
    · exact hend k lo hi hlt h1 h2 h3
theorem bs_eq (l : List S24) (hl : l.length ≤ 4096) (hp : l.Pairwise (fun a b => a.f0 < b.f0)) (x : S24) (k : Nat) (hk : 4096 < k) :
    api_Amend_24.f k l x.f0 x.f1 x.f2 x.f3 x.f4 x.f5 () = some ((pos l x.f0 : Int), has0 l x.f0) := by
  unfold api_Amend_24.f
  exact bs_l0 l hl hp x l.length k 0 l.length (by omega) (by omega) (by omega) (pos_le _ _) (Nat.le_refl _)
/-- What Add answers. -/
def addP (l : List S24) (x : S24) : List S24 × Int := if chk l = 0 then (if vR x = true then (if has0 l x.f0 = true then ([], 151) else (if l.length = 4096 then ([], 2) else (l.take (pos l x.f0) ++ x :: l.drop (pos l x.f0), 0))) else ([], 140)) else ([], chk l)
theorem add_eq (l : List S24) (x : S24) (k : Nat) (hk : 4096 < k) : versions_Add.f k l x.f0 x.f1 x.f2 x.f3 x.f4 x.f5 = some (addP l x) := by
  unfold versions_Add.f addP
  rw [check_eq l k hk]
  simp only [Option.bind_some]
  by_cases h : chk l = 0
  · obtain ⟨h1, h2, h3⟩ := chk_ok h
    rw [if_pos h, if_pos h, bs_eq l h1 h3 x k hk, right_eq]
    simp only [Option.bind_some]
    have hq := pos_le l x.f0
    have hv : vR (⟨x.f0, x.f1, x.f2, x.f3, x.f4, x.f5⟩ : S24) = vR x := rfl
    rw [hv]
    by_cases g1 : vR x = true
    · rw [if_pos g1, if_pos g1]
      by_cases g2 : has0 l x.f0 = true
      · rw [if_pos g2, if_pos g2]
      · rw [if_neg g2, if_neg g2]
        by_cases g3 : l.length = 4096
        · rw [if_pos (by omega), if_pos g3]
        · rw [if_neg (by omega), if_neg g3, if_pos ⟨by omega, by omega⟩]
          unfold insAt
          rw [Int.toNat_natCast]
    · rw [if_neg g1, if_neg g1]
  · rw [if_neg h, if_neg h]
end
section
/-- What Value answers. -/
def valueP (l : List S24) (key at_ time : Int) : Int × Bool × Int :=
  if chk l = 0 then (if (0 ≤ key ∧ key ≤ 1048576) ∧ (0 ≤ at_ ∧ at_ ≤ 1099511627775) ∧ (0 ≤ time ∧ time ≤ 1099511627775) then ((valP l key at_ time).1, (valP l key at_ time).2, 0) else (0, false, 1)) else (0, false, chk l)
theorem value_eq (l : List S24) (key at_ time : Int) (k : Nat) (hk : 4096 < k) : versions_Value.f k l key at_ time = some (valueP l key at_ time) := by
  unfold versions_Value.f valueP
  rw [check_eq l k hk]
  simp only [Option.bind_some, within_eq, decide_eq_true_eq]
  by_cases h : chk l = 0
  · rw [if_pos h, if_pos h]
    by_cases h1 : 0 ≤ key ∧ key ≤ 1048576
    · rw [if_pos h1]
      by_cases h2 : 0 ≤ at_ ∧ at_ ≤ 1099511627775
      · rw [if_pos h2]
        by_cases h3 : 0 ≤ time ∧ time ≤ 1099511627775
        · rw [if_pos h3, if_pos ⟨h1, h2, h3⟩]
        · rw [if_neg h3, if_neg (fun h => h3 h.2.2)]
      · rw [if_neg h2, if_neg (fun h => h2 h.2.1)]
    · rw [if_neg h1, if_neg (fun h => h1 h.1)]
  · rw [if_neg h, if_neg h]
/-- Does the next one stand at the same time. -/
def sameAt (x : S24) : List S24 → Bool
  | [] => false
  | y :: _ => y.f1 == x.f1
/-- The steps of a sorted row, behind a last value. -/
def hgo : List S24 → Int × Bool → List S42
  | [], _ => []
  | x :: t, last => if sameAt x t = true then hgo t last else if ¬ (x.f4, !x.f5) = last then ⟨x.f1, x.f4, !x.f5⟩ :: hgo t (x.f4, !x.f5) else hgo t last
theorem hist_l0 (l : List S24) (hl : l.length ≤ 4096) : ∀ (d k i : Nat) (s : List S42) (la lv : Int) (lo : Bool), d + i = l.length → 2 * d < k → s.length ≤ i →
    versions_History.l0 k s l l (l.length : Int) (i : Int) la lv lo = some (s ++ hgo (l.drop i) (lv, lo), 0) := by
  intro d
  induction d with
  | zero =>
    intro k i s la lv lo h hk hs
    obtain ⟨k, rfl⟩ : ∃ m, k = m + 1 := ⟨k - 1, by omega⟩
    simp only [versions_History.l0]
    rw [if_neg (by omega), List.drop_eq_nil_of_le (by omega)]
    simp [hgo]
  | succ d ih =>
    intro k i s la lv lo h hk hs
    obtain ⟨k, rfl⟩ : ∃ m, k = m + 2 := ⟨k - 2, by omega⟩
    have hi : i < l.length := by omega
    have hj : ∀ b : Bool, b = sameAt l[i] (l.drop (i + 1)) → versions_History.j2 (k + 1) s l l (l.length : Int) (i : Int) b la lv lo l[i].f0 l[i].f1 l[i].f2 l[i].f3 l[i].f4 l[i].f5 = some (s ++ hgo (l.drop i) (lv, lo), 0) := by
      intro b hb
      rw [List.drop_eq_getElem_cons hi]
      simp only [versions_History.j2, hgo]
      rw [← hb, w64 i (by omega)]
      cases b with
      | true =>
        rw [if_pos rfl, if_pos rfl]
        exact ih k (i + 1) s la lv lo (by omega) (by omega) (by omega)
      | false =>
        rw [if_neg Bool.false_ne_true, if_neg Bool.false_ne_true]
        by_cases hc : (l[i].f4, !l[i].f5) = (lv, lo)
        · rw [if_neg (show ¬ ¬ ((l[i].f4, !l[i].f5) = (lv, lo)) from fun h => h hc)]
          simp only [Prod.mk.injEq] at hc
          rw [if_neg (by simp [hc.1, hc.2])]
          exact ih k (i + 1) s la lv lo (by omega) (by omega) (by omega)
        · rw [if_pos hc, if_pos (by
            simp only [Prod.mk.injEq] at hc
            by_cases h1 : l[i].f4 = lv
            · have h2 : ¬ ((!l[i].f5) = lo) := fun h => hc ⟨h1, h⟩
              simp [h1]
              simpa using h2
            · simp [h1]), if_pos (by omega)]
          rw [ih k (i + 1) _ _ _ _ (by omega) (by omega) (by simp; omega)]
          simp
    simp only [versions_History.l0]
    rw [if_pos (by omega), if_pos (by omega), if_pos (by omega), w64 i (by omega), rdAt l i hi]
    by_cases hn : i + 1 < l.length
    · rw [if_pos (by omega), if_pos (by omega), rdAt l (i + 1) hn]
      exact hj _ (by rw [List.drop_eq_getElem_cons hn]; rfl)
    · rw [if_neg (by omega)]
      exact hj _ (by rw [List.drop_eq_nil_of_le (by omega)]; rfl)
/-- The steps of a register. -/
def histP (l : List S24) (key time : Int) : List S42 := hgo (sortP (pick key time l)) (0, false)
/-- What History answers. -/
def historyP (l : List S24) (key time : Int) : List S42 × Int :=
  if chk l = 0 then (if (0 ≤ key ∧ key ≤ 1048576) ∧ (0 ≤ time ∧ time ≤ 1099511627775) then (histP l key time, 0) else ([], 1)) else ([], chk l)
theorem history_eq (l : List S24) (key time : Int) (k : Nat) (hk : 9000 < k) : versions_History.f k l key time = some (historyP l key time) := by
  unfold versions_History.f historyP
  rw [check_eq l k (by omega)]
  simp only [Option.bind_some, within_eq, decide_eq_true_eq]
  obtain ⟨k, rfl⟩ : ∃ m, k = m + 1 := ⟨k - 1, by omega⟩
  by_cases h : chk l = 0
  · rw [if_pos h, if_pos h]
    by_cases h1 : 0 ≤ key ∧ key ≤ 1048576
    · rw [if_pos h1]
      by_cases h3 : 0 ≤ time ∧ time ≤ 1099511627775
      · rw [decide_eq_true h3, if_pos ⟨h1, h3⟩]
        simp only [versions_History.j0, sorted37.f, Bool.not_true, Option.bind_some]
        rw [if_neg (by decide)]
        have hlen : (sortP (pick key time l)).length ≤ 4096 := by
          rw [sortP_len]
          exact Nat.le_trans (pick_le key time l) (chk_ok h).1
        exact hist_l0 _ hlen (sortP (pick key time l)).length k 0 [] 0 0 false (by omega) (by omega) (by simp)
      · rw [decide_eq_false h3, if_neg (fun h => h3 h.2)]
        simp only [versions_History.j0, Bool.not_false]
        rfl
    · rw [if_neg h1, if_neg (fun h => h1 h.1)]
      simp only [versions_History.j0]
      rfl
  · rw [if_neg h, if_neg h]
/-- A sorted row of the same ones is the sorted row. -/
theorem sortP_eq {l l' : List S24} (hp : l'.Perm l) (hs : l'.Pairwise (fun a b => atLt a b = true)) : sortP l = l' := by
  have hasym : ∀ a b, atLt a b = true → atLt b a = false := fun a b h => by
    have h1 := (atLt_iff a b).1 h
    cases hb : atLt b a with
    | false => rfl
    | true => have h2 := (atLt_iff b a).1 hb; omega
  have hne : ∀ a, atLt a a = false := fun a => by
    cases hb : atLt a a with
    | false => rfl
    | true => have h2 := (atLt_iff a a).1 hb; omega
  have hnd : l'.Nodup := hs.imp (fun {a b} h e => by subst e; rw [hne] at h; cases h)
  have hnd' : (sortP l).Nodup := ((sortP_perm l).trans hp.symm).nodup_iff.2 hnd
  have htot : ∀ a ∈ l', ∀ b ∈ l', a ≠ b → atLt a b = true ∨ atLt b a = true := by
    intro a ha b hb hab
    obtain ⟨i, hi, rfl⟩ := List.mem_iff_getElem.1 ha
    obtain ⟨j, hj, rfl⟩ := List.mem_iff_getElem.1 hb
    rcases Nat.lt_trichotomy i j with h | h | h
    · exact .inl (List.pairwise_iff_getElem.1 hs i j hi hj h)
    · subst h; exact absurd rfl hab
    · exact .inr (List.pairwise_iff_getElem.1 hs j i hj hi h)
  have hsl : (sortP l).Pairwise (fun a b => atLt a b = true) := by
    rw [List.pairwise_iff_getElem]
    intro i j hi hj hij
    have h1 := sortP_le l i j _ _ hij (List.getElem?_eq_getElem hi) (List.getElem?_eq_getElem hj)
    have hm : ∀ x, x ∈ sortP l → x ∈ l' := fun x hx => hp.mem_iff.2 ((sortP_perm l).mem_iff.1 hx)
    have hxy : (sortP l)[i] ≠ (sortP l)[j] := fun e => by
      have := (List.getElem_inj hnd').1 e
      omega
    rcases htot _ (hm _ (List.getElem_mem hi)) _ (hm _ (List.getElem_mem hj)) hxy with h | h
    · exact h
    · rw [h] at h1; cases h1
  exact List.Perm.eq_of_pairwise (le := fun a b => atLt a b = true) (fun a b _ _ h1 h2 => by rw [hasym a b h1] at h2; cases h2) hsl hs ((sortP_perm l).trans hp.symm)
theorem sortP_nil : sortP [] = [] := sortP_eq (List.Perm.refl _) List.Pairwise.nil
/-- Same ones are the same. -/
theorem same_refl (l : List S24) (hl : l.length ≤ 5000) : ∀ (d k i : Nat), d + i = l.length → d < k → signatoryref14_Same.l0 k l l (i : Int) = some true := by
  intro d
  induction d with
  | zero =>
    intro k i h hk
    obtain ⟨k, rfl⟩ : ∃ m, k = m + 1 := ⟨k - 1, by omega⟩
    simp only [signatoryref14_Same.l0]
    rw [if_neg (by omega)]
  | succ d ih =>
    intro k i h hk
    obtain ⟨k, rfl⟩ : ∃ m, k = m + 1 := ⟨k - 1, by omega⟩
    simp only [signatoryref14_Same.l0]
    rw [if_pos (by omega), if_pos (by omega), if_pos (by omega), if_neg (by simp), w64 i (by omega)]
    exact ih k (i + 1) (by omega) (by omega)
theorem same_eq (l : List S24) (hl : l.length ≤ 5000) (k : Nat) (hk : 5000 < k) : signatoryref14_Same.f k l l = some true := by
  unfold signatoryref14_Same.f
  rw [if_pos rfl]
  exact same_refl l hl l.length k 0 (by omega) (by omega)
theorem steps_refl (l : List S42) (hl : l.length ≤ 5000) : ∀ (d k i : Nat), d + i = l.length → d < k → signatoryref14_SameSteps.l0 k l l (i : Int) = some true := by
  intro d
  induction d with
  | zero =>
    intro k i h hk
    obtain ⟨k, rfl⟩ : ∃ m, k = m + 1 := ⟨k - 1, by omega⟩
    simp only [signatoryref14_SameSteps.l0]
    rw [if_neg (by omega)]
  | succ d ih =>
    intro k i h hk
    obtain ⟨k, rfl⟩ : ∃ m, k = m + 1 := ⟨k - 1, by omega⟩
    simp only [signatoryref14_SameSteps.l0]
    rw [if_pos (by omega), if_pos (by omega), if_pos (by omega), if_neg (by simp), w64 i (by omega)]
    exact ih k (i + 1) (by omega) (by omega)
theorem steps_eq (l : List S42) (hl : l.length ≤ 5000) (k : Nat) (hk : 5000 < k) : signatoryref14_SameSteps.f k l l = some true := by
  unfold signatoryref14_SameSteps.f
  rw [if_pos rfl]
  exact steps_refl l hl l.length k 0 (by omega) (by omega)
theorem hgo_len : ∀ (l : List S24) (last : Int × Bool), (hgo l last).length ≤ l.length
  | [], _ => by simp [hgo]
  | x :: t, last => by
    simp only [hgo]
    split
    · have := hgo_len t last; simp; omega
    · split
      · have := hgo_len t (x.f4, !x.f5); simp; omega
      · have := hgo_len t last; simp; omega
theorem histP_len (l : List S24) (key time : Int) : (histP l key time).length ≤ l.length := by
  unfold histP
  refine Nat.le_trans (hgo_len _ _) ?_
  rw [sortP_len]
  exact pick_le key time l
theorem is_eq (l : List S24) (at_ v : Int) (ok : Bool) (k : Nat) (hk : 4096 < k) (h : valueP l 0 at_ 0 = (v, ok, 0)) : signatorylaw14_is.f k l at_ v ok = some true := by
  unfold signatorylaw14_is.f
  rw [value_eq l 0 at_ 0 k hk, h]
  simp
theorem has_eq (l : List S24) (want : List S42) (k : Nat) (hk : 9000 < k) (h : historyP l 0 0 = (want, 0)) (hw : want.length ≤ 5000) : signatorylaw14_has.f k l want = some true := by
  unfold signatorylaw14_has.f
  rw [history_eq l 0 0 k hk, h]
  simp only [Option.bind_some, if_true]
  rw [steps_eq want hw k (by omega)]
  rfl
theorem hist_of {l p p' : List S24} {want : List S42} (hc : chk l = 0) (hp : pick 0 0 l = p) (hs : p'.Perm p) (hw : p'.Pairwise (fun a b => atLt a b = true)) (hg : hgo p' (0, false) = want) : historyP l 0 0 = (want, 0) := by
  unfold historyP histP
  rw [if_pos hc, if_pos (by decide), hp, sortP_eq hs hw, hg]
end
section
open Go.Shelf
section
/-- A row that lies in a block of its own. -/
theorem flat_at {α : Type} {enc : α → List Value} {k : Nat} (hk : ∀ x, (enc x).length = k) : ∀ (xs : List α) (i j : Nat) (x : α), xs[i]? = some x → j < k → (xs.flatMap enc)[i * k + j]? = (enc x)[j]?
  | [], i, j, x, h, _ => by simp at h
  | y :: t, i, j, x, h, hj => by
    rw [List.flatMap_cons]
    cases i with
    | zero =>
      simp at h
      subst h
      rw [List.getElem?_append_left (by rw [hk]; omega)]
      simp
    | succ i =>
      rw [List.getElem?_append_right (by rw [hk, Nat.succ_mul]; omega), hk, show (i + 1) * k + j - k = i * k + j by rw [Nat.succ_mul]; omega]
      exact flat_at hk t i j x (by simpa using h) hj
theorem lit_C {α : Type} {d : Kd α} {enc : α → List Value} {w : World} {g t : Nat} {cur : Array Value} {xs : List α} (hk : ∀ x, (enc x).length = d.sz) (hK : ∀ x, d.K w x (enc x)) (h : w.heap[g]? = some (.cells cur t (0, 0))) (hc : cur.toList = xs.flatMap enc) (hl : xs.length ≤ 4096) : Kd.C d w (some ⟨g, 0, none⟩) xs.length xs := by
  refine ⟨rfl, by omega, fun _ => ⟨⟨g, 0, none⟩, rfl, fun j x hj => ⟨enc x, hk x, hK x, fun i u hu => ?_⟩⟩⟩
  have hi : i < d.sz := by rw [← hk x]; exact (List.getElem?_eq_some_iff.1 hu).1
  have h1 := flat_at hk xs j i x hj hi
  have e : (⟨g, 0, none⟩ : Addr).add (j * d.sz + i) = ⟨g, j * d.sz + i, none⟩ := by simp [Addr.add]; try (intros; omega)
  rw [e, blk_cell h, ← Array.getElem?_toList, hc, h1, hu]
theorem lit24 {w : World} {g : Nat} {cur : Array Value} {xs : List S24} (h : w.heap[g]? = some (.cells cur 24 (0, 0))) (hc : cur.toList = xs.flatMap cell6) (hl : xs.length ≤ 4096) : Kd.C k24 w (some ⟨g, 0, none⟩) xs.length xs :=
  lit_C (d := k24) (enc := cell6) (fun _ => rfl) (fun x => ⟨[.int .i64 x.f0], [.int .i64 x.f1, .int .i64 x.f2, .int .i64 x.f3, .int .i64 x.f4, .bool x.f5], rfl, rfl, ⟨[.int .i64 x.f1], [.int .i64 x.f2, .int .i64 x.f3, .int .i64 x.f4, .bool x.f5], rfl, rfl, ⟨[.int .i64 x.f2], [.int .i64 x.f3, .int .i64 x.f4, .bool x.f5], rfl, rfl, ⟨[.int .i64 x.f3], [.int .i64 x.f4, .bool x.f5], rfl, rfl, ⟨[.int .i64 x.f4], [.bool x.f5], rfl, rfl, rfl⟩⟩⟩⟩⟩) h hc hl
def cell3 (x : S42) : List Value := [.int .i64 x.f0, .int .i64 x.f1, .bool x.f2]
theorem lit42 {w : World} {g : Nat} {cur : Array Value} {xs : List S42} (h : w.heap[g]? = some (.cells cur 42 (0, 0))) (hc : cur.toList = xs.flatMap cell3) (hl : xs.length ≤ 4096) : Kd.C k42 w (some ⟨g, 0, none⟩) xs.length xs :=
  lit_C (d := k42) (enc := cell3) (fun _ => rfl) (fun x => ⟨[.int .i64 x.f0], [.int .i64 x.f1, .bool x.f2], rfl, rfl, ⟨[.int .i64 x.f1], [.bool x.f2], rfl, rfl, rfl⟩⟩) h hc hl
def signatorylaw14_sane.f (k : Nat) : Option Bool := if 9010 < k then some true else none
theorem signatorylaw14_sane.mono : ∀ k, LeO (signatorylaw14_sane.f k) (signatorylaw14_sane.f (k + 1)) := by
  intro k r h
  unfold signatorylaw14_sane.f at h ⊢
  by_cases c : 9010 < k
  · rw [if_pos c] at h; rw [if_pos (by omega)]; exact h
  · rw [if_neg c] at h; cases h
set_option maxHeartbeats 20000000 in
set_option maxRecDepth 100000 in
theorem sane_walk (w : World) : Calls Try.prog 9 #[] w fun e w' => e = .returned (.bool true) ∧ Below w.heap.size w w' := by
  have HB := Below.refl w.heap.size w
  go_enter Try.func9, Try.ntmps9
  have hba := (Below.refl _ w).alloc (Nat.le_refl _) (.cells #[.int .i64 4, .int .i64 10, .int .i64 0, .int .i64 0, .int .i64 5, .bool false] 24)
  replace HB := below_step HB hba
  have B1 := World.alloc_heap_new w (.cells #[.int .i64 4, .int .i64 10, .int .i64 0, .int .i64 0, .int .i64 5, .bool false] 24)
  clear hba
  go_wp2_with fail
  generalize w.alloc (.cells #[.int .i64 4, .int .i64 10, .int .i64 0, .int .i64 0, .int .i64 5, .bool false] 24) = w1 at *
  refine (versions_Add.calls 10000 (some ⟨w.heap.size, 0, none⟩) 1 [⟨4, 10, 0, 0, 5, false⟩] 2 20 0 0 0 true [⟨2, 20, 0, 0, 0, true⟩, ⟨4, 10, 0, 0, 5, false⟩] 0 w1 (lit24 B1 rfl (by decide)) (by decide) (add_eq [⟨4, 10, 0, 0, 5, false⟩] ⟨2, 20, 0, 0, 0, true⟩ 10000 (by decide))).mono ?_
  rintro e w2 ⟨v0, rfl, Vg, hb⟩
  replace HB := below_step HB hb
  replace B1 := blk_below B1 hb
  clear hb
  replace Vg := Kd.R_V (base' := 0) Vg
  obtain ⟨Ag, cg, rfl⟩ := Kd.V_slice Vg
  dsimp only
  go_wp2_with fail
  refine (versions_Add.calls 10000 (some ⟨w.heap.size, 0, none⟩) 1 [⟨4, 10, 0, 0, 5, false⟩] 4 0 0 0 0 false [] 151 w2 (lit24 B1 rfl (by decide)) (by decide) (add_eq [⟨4, 10, 0, 0, 5, false⟩] ⟨4, 0, 0, 0, 0, false⟩ 10000 (by decide))).mono ?_
  rintro e w3 ⟨v1, rfl, _, hb⟩
  replace HB := below_step HB hb
  replace B1 := blk_below B1 hb
  replace Vg := Kd.V_below Vg hb
  clear hb
  dsimp only
  go_wp2_with fail
  refine (versions_Add.calls 10000 (some ⟨w.heap.size, 0, none⟩) 1 [⟨4, 10, 0, 0, 5, false⟩] (-1) 0 0 0 0 false [] 140 w3 (lit24 B1 rfl (by decide)) (by decide) (add_eq [⟨4, 10, 0, 0, 5, false⟩] ⟨-1, 0, 0, 0, 0, false⟩ 10000 (by decide))).mono ?_
  rintro e w4 ⟨v2, rfl, _, hb⟩
  replace HB := below_step HB hb
  replace B1 := blk_below B1 hb
  replace Vg := Kd.V_below Vg hb
  clear hb
  dsimp only
  have hba := (Below.refl _ w4).alloc (Nat.le_refl _) (.cells #[.int .i64 2, .int .i64 20, .int .i64 0, .int .i64 0, .int .i64 0, .bool true, .int .i64 4, .int .i64 10, .int .i64 0, .int .i64 0, .int .i64 5, .bool false] 24)
  replace HB := below_step HB hba
  replace B1 := blk_below B1 hba
  replace Vg := Kd.V_below Vg hba
  have B2 := World.alloc_heap_new w4 (.cells #[.int .i64 2, .int .i64 20, .int .i64 0, .int .i64 0, .int .i64 0, .bool true, .int .i64 4, .int .i64 10, .int .i64 0, .int .i64 0, .int .i64 5, .bool false] 24)
  clear hba
  go_wp2_with fail
  generalize w4.alloc (.cells #[.int .i64 2, .int .i64 20, .int .i64 0, .int .i64 0, .int .i64 0, .bool true, .int .i64 4, .int .i64 10, .int .i64 0, .int .i64 0, .int .i64 5, .bool false] 24) = w5 at *
  refine (signatoryref14_Same.calls 10000 Ag cg [⟨2, 20, 0, 0, 0, true⟩, ⟨4, 10, 0, 0, 5, false⟩] (some ⟨w4.heap.size, 0, none⟩) 2 [⟨2, 20, 0, 0, 0, true⟩, ⟨4, 10, 0, 0, 5, false⟩] true w5 (Kd.V_reads' Vg).2.2 (Kd.V_reads' Vg).2.1 (lit24 B2 rfl (by decide)) (by decide) (same_eq [⟨2, 20, 0, 0, 0, true⟩, ⟨4, 10, 0, 0, 5, false⟩] (by decide) 10000 (by decide))).mono ?_
  rintro e w6 ⟨rfl, hd⟩
  have hb := hd.below
  clear hd
  replace HB := below_step HB hb
  replace B1 := blk_below B1 hb
  replace Vg := Kd.V_below Vg hb
  replace B2 := blk_below B2 hb
  clear hb
  clear B2
  dsimp only
  have hba := (Below.refl _ w6).alloc (Nat.le_refl _) (.cells #[.int .i64 0, .int .i64 0, .int .i64 0, .int .i64 0, .int .i64 7, .bool false, .int .i64 1, .int .i64 0, .int .i64 0, .int .i64 0, .int .i64 8, .bool false] 24)
  replace HB := below_step HB hba
  replace B1 := blk_below B1 hba
  replace Vg := Kd.V_below Vg hba
  have B3 := World.alloc_heap_new w6 (.cells #[.int .i64 0, .int .i64 0, .int .i64 0, .int .i64 0, .int .i64 7, .bool false, .int .i64 1, .int .i64 0, .int .i64 0, .int .i64 0, .int .i64 8, .bool false] 24)
  clear hba
  have hba := (Below.refl _ (w6.alloc (.cells #[.int .i64 0, .int .i64 0, .int .i64 0, .int .i64 0, .int .i64 7, .bool false, .int .i64 1, .int .i64 0, .int .i64 0, .int .i64 0, .int .i64 8, .bool false] 24))).alloc (Nat.le_refl _) (.cells #[.int .i64 0, .int .i64 10, .int .i64 0, .int .i64 0, .int .i64 5, .bool false, .int .i64 1, .int .i64 20, .int .i64 0, .int .i64 0, .int .i64 5, .bool false] 24)
  replace HB := below_step HB hba
  replace B1 := blk_below B1 hba
  replace Vg := Kd.V_below Vg hba
  replace B3 := blk_below B3 hba
  have B4 := World.alloc_heap_new (w6.alloc (.cells #[.int .i64 0, .int .i64 0, .int .i64 0, .int .i64 0, .int .i64 7, .bool false, .int .i64 1, .int .i64 0, .int .i64 0, .int .i64 0, .int .i64 8, .bool false] 24)) (.cells #[.int .i64 0, .int .i64 10, .int .i64 0, .int .i64 0, .int .i64 5, .bool false, .int .i64 1, .int .i64 20, .int .i64 0, .int .i64 0, .int .i64 5, .bool false] 24)
  clear hba
  simp only [World.size_alloc] at B4
  go_wp2_with fail
  generalize (w6.alloc (.cells #[.int .i64 0, .int .i64 0, .int .i64 0, .int .i64 0, .int .i64 7, .bool false, .int .i64 1, .int .i64 0, .int .i64 0, .int .i64 0, .int .i64 8, .bool false] 24)).alloc (.cells #[.int .i64 0, .int .i64 10, .int .i64 0, .int .i64 0, .int .i64 5, .bool false, .int .i64 1, .int .i64 20, .int .i64 0, .int .i64 0, .int .i64 5, .bool false] 24) = w7 at *
  refine (versions_Value.calls 10000 none 0 [] 0 (-1) 0 0 false 1 w7 (Kd.C_nil _ _) (Nat.le_refl _) (value_eq [] 0 (-1) 0 10000 (by decide))).mono ?_
  rintro e w8 ⟨rfl, hb⟩
  replace HB := below_step HB hb
  replace B1 := blk_below B1 hb
  replace Vg := Kd.V_below Vg hb
  replace B3 := blk_below B3 hb
  replace B4 := blk_below B4 hb
  clear hb
  dsimp only
  have hba := (Below.refl _ w8).alloc (Nat.le_refl _) (.cells #[.int .i64 0, .int .i64 0, .int .i64 0, .int .i64 0, .int .i64 3, .bool true] 24)
  replace HB := below_step HB hba
  replace B1 := blk_below B1 hba
  replace Vg := Kd.V_below Vg hba
  replace B3 := blk_below B3 hba
  replace B4 := blk_below B4 hba
  have B5 := World.alloc_heap_new w8 (.cells #[.int .i64 0, .int .i64 0, .int .i64 0, .int .i64 0, .int .i64 3, .bool true] 24)
  clear hba
  go_wp2_with fail
  generalize w8.alloc (.cells #[.int .i64 0, .int .i64 0, .int .i64 0, .int .i64 0, .int .i64 3, .bool true] 24) = w9 at *
  refine (versions_Check.calls 10000 (some ⟨w8.heap.size, 0, none⟩) 1 [⟨0, 0, 0, 0, 3, true⟩] 140 w9 (lit24 B5 rfl (by decide)) (by decide) (check_eq [⟨0, 0, 0, 0, 3, true⟩] 10000 (by decide))).mono ?_
  rintro e w10 ⟨rfl, hb⟩
  replace HB := below_step HB hb
  replace B1 := blk_below B1 hb
  replace Vg := Kd.V_below Vg hb
  replace B3 := blk_below B3 hb
  replace B4 := blk_below B4 hb
  replace B5 := blk_below B5 hb
  clear hb
  clear B5
  dsimp only
  go_wp2_with fail
  refine (versions_Check.calls 10000 (some ⟨w6.heap.size, 0, none⟩) 2 [⟨0, 0, 0, 0, 7, false⟩, ⟨1, 0, 0, 0, 8, false⟩] 0 w10 (lit24 B3 rfl (by decide)) (by decide) (check_eq [⟨0, 0, 0, 0, 7, false⟩, ⟨1, 0, 0, 0, 8, false⟩] 10000 (by decide))).mono ?_
  rintro e w11 ⟨rfl, hb⟩
  replace HB := below_step HB hb
  replace B1 := blk_below B1 hb
  replace Vg := Kd.V_below Vg hb
  replace B3 := blk_below B3 hb
  replace B4 := blk_below B4 hb
  clear hb
  dsimp only
  go_wp2_with fail
  refine (signatorylaw14_is.calls 10000 none 0 [] 0 0 false true w11 (Kd.C_nil _ _) (Nat.le_refl _) (is_eq [] 0 0 false 10000 (by decide) (by rfl))).mono ?_
  rintro e w12 ⟨rfl, hb⟩
  replace HB := below_step HB hb
  replace B1 := blk_below B1 hb
  replace Vg := Kd.V_below Vg hb
  replace B3 := blk_below B3 hb
  replace B4 := blk_below B4 hb
  clear hb
  dsimp only
  go_wp2_with fail
  refine (signatorylaw14_has.calls 10000 none 0 [] none 0 [] true w12 (Kd.C_nil _ _) (Nat.le_refl _) (Kd.C_nil _ _) (Nat.le_refl _) (has_eq [] [] 10000 (by decide) (hist_of (p' := []) rfl rfl (List.Perm.refl _) (by simp [atLt]) rfl) (by decide))).mono ?_
  rintro e w13 ⟨rfl, hb⟩
  replace HB := below_step HB hb
  replace B1 := blk_below B1 hb
  replace Vg := Kd.V_below Vg hb
  replace B3 := blk_below B3 hb
  replace B4 := blk_below B4 hb
  clear hb
  dsimp only
  go_wp2_with fail
  refine (signatorylaw14_is.calls 10000 (some ⟨w.heap.size, 0, none⟩) 1 [⟨4, 10, 0, 0, 5, false⟩] 9 0 false true w13 (lit24 B1 rfl (by decide)) (by decide) (is_eq [⟨4, 10, 0, 0, 5, false⟩] 9 0 false 10000 (by decide) (by rfl))).mono ?_
  rintro e w14 ⟨rfl, hb⟩
  replace HB := below_step HB hb
  replace B1 := blk_below B1 hb
  replace Vg := Kd.V_below Vg hb
  replace B3 := blk_below B3 hb
  replace B4 := blk_below B4 hb
  clear hb
  dsimp only
  go_wp2_with fail
  refine (signatorylaw14_is.calls 10000 (some ⟨w.heap.size, 0, none⟩) 1 [⟨4, 10, 0, 0, 5, false⟩] 10 5 true true w14 (lit24 B1 rfl (by decide)) (by decide) (is_eq [⟨4, 10, 0, 0, 5, false⟩] 10 5 true 10000 (by decide) (by rfl))).mono ?_
  rintro e w15 ⟨rfl, hb⟩
  replace HB := below_step HB hb
  replace B1 := blk_below B1 hb
  replace Vg := Kd.V_below Vg hb
  replace B3 := blk_below B3 hb
  replace B4 := blk_below B4 hb
  clear hb
  dsimp only
  have hba := (Below.refl _ w15).alloc (Nat.le_refl _) (.cells #[.int .i64 10, .int .i64 5, .bool true, .int .i64 20, .int .i64 0, .bool false] 42)
  replace HB := below_step HB hba
  replace B1 := blk_below B1 hba
  replace Vg := Kd.V_below Vg hba
  replace B3 := blk_below B3 hba
  replace B4 := blk_below B4 hba
  have B6 := World.alloc_heap_new w15 (.cells #[.int .i64 10, .int .i64 5, .bool true, .int .i64 20, .int .i64 0, .bool false] 42)
  clear hba
  go_wp2_with fail
  generalize w15.alloc (.cells #[.int .i64 10, .int .i64 5, .bool true, .int .i64 20, .int .i64 0, .bool false] 42) = w16 at *
  refine (signatorylaw14_has.calls 10000 Ag cg [⟨2, 20, 0, 0, 0, true⟩, ⟨4, 10, 0, 0, 5, false⟩] (some ⟨w15.heap.size, 0, none⟩) 2 [⟨10, 5, true⟩, ⟨20, 0, false⟩] true w16 (Kd.V_reads' Vg).2.2 (Kd.V_reads' Vg).2.1 (lit42 B6 rfl (by decide)) (by decide) (has_eq [⟨2, 20, 0, 0, 0, true⟩, ⟨4, 10, 0, 0, 5, false⟩] [⟨10, 5, true⟩, ⟨20, 0, false⟩] 10000 (by decide) (hist_of (p' := [⟨4, 10, 0, 0, 5, false⟩, ⟨2, 20, 0, 0, 0, true⟩]) rfl rfl (List.Perm.swap _ _ _) (by simp [atLt]) rfl) (by decide))).mono ?_
  rintro e w17 ⟨rfl, hb⟩
  replace HB := below_step HB hb
  replace B1 := blk_below B1 hb
  replace Vg := Kd.V_below Vg hb
  replace B3 := blk_below B3 hb
  replace B4 := blk_below B4 hb
  replace B6 := blk_below B6 hb
  clear hb
  dsimp only
  clear B6 Vg B1
  have hba := (Below.refl _ w17).alloc (Nat.le_refl _) (.cells #[.int .i64 0, .int .i64 8, .bool true] 42)
  replace HB := below_step HB hba
  replace B3 := blk_below B3 hba
  replace B4 := blk_below B4 hba
  have B7 := World.alloc_heap_new w17 (.cells #[.int .i64 0, .int .i64 8, .bool true] 42)
  clear hba
  go_wp2_with fail
  generalize w17.alloc (.cells #[.int .i64 0, .int .i64 8, .bool true] 42) = w18 at *
  refine (signatorylaw14_has.calls 10000 (some ⟨w6.heap.size, 0, none⟩) 2 [⟨0, 0, 0, 0, 7, false⟩, ⟨1, 0, 0, 0, 8, false⟩] (some ⟨w17.heap.size, 0, none⟩) 1 [⟨0, 8, true⟩] true w18 (lit24 B3 rfl (by decide)) (by decide) (lit42 B7 rfl (by decide)) (by decide) (has_eq [⟨0, 0, 0, 0, 7, false⟩, ⟨1, 0, 0, 0, 8, false⟩] [⟨0, 8, true⟩] 10000 (by decide) (hist_of (p' := [⟨0, 0, 0, 0, 7, false⟩, ⟨1, 0, 0, 0, 8, false⟩]) rfl rfl (List.Perm.refl _) (by simp [atLt]) rfl) (by decide))).mono ?_
  rintro e w19 ⟨rfl, hb⟩
  replace HB := below_step HB hb
  replace B3 := blk_below B3 hb
  replace B4 := blk_below B4 hb
  replace B7 := blk_below B7 hb
  clear hb
  dsimp only
  clear B7 B3
  have hba := (Below.refl _ w19).alloc (Nat.le_refl _) (.cells #[.int .i64 10, .int .i64 5, .bool true] 42)
  replace HB := below_step HB hba
  replace B4 := blk_below B4 hba
  have B8 := World.alloc_heap_new w19 (.cells #[.int .i64 10, .int .i64 5, .bool true] 42)
  clear hba
  go_wp2_with fail
  generalize w19.alloc (.cells #[.int .i64 10, .int .i64 5, .bool true] 42) = w20 at *
  refine (signatorylaw14_has.calls 10000 (some ⟨w6.heap.size + 1, 0, none⟩) 2 [⟨0, 10, 0, 0, 5, false⟩, ⟨1, 20, 0, 0, 5, false⟩] (some ⟨w19.heap.size, 0, none⟩) 1 [⟨10, 5, true⟩] true w20 (lit24 B4 rfl (by decide)) (by decide) (lit42 B8 rfl (by decide)) (by decide) (has_eq [⟨0, 10, 0, 0, 5, false⟩, ⟨1, 20, 0, 0, 5, false⟩] [⟨10, 5, true⟩] 10000 (by decide) (hist_of (p' := [⟨0, 10, 0, 0, 5, false⟩, ⟨1, 20, 0, 0, 5, false⟩]) rfl rfl (List.Perm.refl _) (by simp [atLt]) rfl) (by decide))).mono ?_
  rintro e w21 ⟨rfl, hb⟩
  replace HB := below_step HB hb
  replace B4 := blk_below B4 hb
  replace B8 := blk_below B8 hb
  clear hb
  dsimp only
  clear B8 B4
  go_wp2_with fail
  go_ret
  exact ⟨rfl, HB⟩
theorem signatorylaw14_sane.calls (k : Nat) (r : Bool) (w : World) (h : signatorylaw14_sane.f k = some r) : Calls Try.prog 9 #[] w fun e w' => e = .returned (.bool r) ∧ Below w.heap.size w w' := by
  unfold signatorylaw14_sane.f at h
  by_cases c : 9010 < k
  · rw [if_pos c] at h
    obtain rfl := Option.some.inj h
    exact sane_walk w
  · rw [if_neg c] at h
    cases h
theorem sane_eq (k : Nat) (hk : 9010 < k) : signatorylaw14_sane.f k = some true := by
  unfold signatorylaw14_sane.f
  rw [if_pos hk]
end
end

end Go.Proofs.Ytnahfhbnfidanaa.Q
