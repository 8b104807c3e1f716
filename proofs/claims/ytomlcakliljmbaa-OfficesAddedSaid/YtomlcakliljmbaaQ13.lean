-- Written by wip/tools/extprint.py of this repo (a program of this claim's own, over the kit's printer) out of the translation; Lean checks it.
import Derived.Test.YtomlcakliljmbaaQ0
import Derived.Test.YtomlcakliljmbaaQ3
import Derived.Test.YtomlcakliljmbaaQ8
import Derived.Test.YtomlcakliljmbaaQ10
import Derived.Test.YtomlcakliljmbaaQ11
import Derived.Test.YtomlcakliljmbaaQ12
namespace Go.Proofs.Ytomlcakliljmbaa.Q
open Go.RowKit Go.Proofs.YtomlcakliljmbaaW.PrintWords Go.Proofs.YtomlcakliljmbaaW.PrintLast Go.Proofs.YtomlcakliljmbaaW.PrintMore
attribute [local go_sem] max2_int min2_int max_two min_two max_three min_three max_four min_four   -- for this text's walks alone
set_option linter.unusedVariables false
set_option linter.unusedSimpArgs false

section
section
/-- Where a number lies, or would. -/
def pos (l : List S24) (v : Int) : Nat := (l.takeWhile (fun y => decide (y.f0 < v))).length
theorem pos_le (l : List S24) (v : Int) : pos l v ≤ l.length := (List.takeWhile_prefix _).length_le
theorem pos_cons (x : S24) (t : List S24) (v : Int) : pos (x :: t) v = if x.f0 < v then pos t v + 1 else 0 := by
  unfold pos
  rw [List.takeWhile_cons]
  by_cases h : x.f0 < v <;> simp [h]
theorem pos_lt : ∀ (l : List S24) (v : Int) (j : Nat) (h : j < l.length), j < pos l v → l[j].f0 < v
  | [], v, j, h, _ => by simp at h
  | x :: t, v, j, h, hj => by
    rw [pos_cons] at hj
    by_cases hx : x.f0 < v
    · rw [if_pos hx] at hj
      cases j with
      | zero => exact hx
      | succ j => exact pos_lt t v j (by simpa using h) (by omega)
    · rw [if_neg hx] at hj; omega
theorem pos_ge : ∀ (l : List S24) (v : Int) (hp : l.Pairwise (fun a b => a.f0 < b.f0)) (j : Nat) (h : j < l.length), pos l v ≤ j → v ≤ l[j].f0
  | [], v, _, j, h, _ => by simp at h
  | x :: t, v, hp, j, h, hj => by
    rw [pos_cons] at hj
    obtain ⟨h3, h4⟩ := List.pairwise_cons.1 hp
    by_cases hx : x.f0 < v
    · rw [if_pos hx] at hj
      cases j with
      | zero => omega
      | succ j => exact pos_ge t v h4 j (by simpa using h) (by omega)
    · cases j with
      | zero => simpa using (by omega : v ≤ x.f0)
      | succ j =>
        have hjt : j < t.length := by simpa using h
        have := h3 t[j] (List.getElem_mem _)
        simp only [List.getElem_cons_succ]
        omega
/-- Is a number there. -/
def has0 (l : List S24) (v : Int) : Bool := match l[pos l v]? with
  | some y => y.f0 == v
  | none => false
theorem addc_eq (a b c d e f : Int) (g : Bool) (v : Int) : offices_Add_1.f a b c d e f g v = some (if a < v then -1 else if v < a then 1 else 0) := by
  unfold offices_Add_1.f
  rw [compare_eq]
  rfl
theorem bs_l0 (l : List S24) (hl : l.length ≤ 4096) (hp : l.Pairwise (fun a b => a.f0 < b.f0)) (v : Int) : ∀ (d k lo hi : Nat), hi - lo ≤ d → d < k → lo ≤ pos l v → pos l v ≤ hi → hi ≤ l.length →
    api_Appoint_int.l0 k l v (l.length : Int) (lo : Int) (hi : Int) = some ((pos l v : Int), has0 l v) := by
  intro d
  have hend : ∀ (k lo hi : Nat), ¬ lo < hi → lo ≤ pos l v → pos l v ≤ hi → hi ≤ l.length → api_Appoint_int.l0 (k + 1) l v (l.length : Int) (lo : Int) (hi : Int) = some ((pos l v : Int), has0 l v) := by
    intro k lo hi hlt h1 h2 h3
    obtain rfl : lo = pos l v := by omega
    simp only [api_Appoint_int.l0]
    rw [if_neg (by omega)]
    by_cases he : pos l v < l.length
    · rw [if_pos (by omega), if_pos (by omega), if_pos (by omega), addc_eq, rdAt l _ he]
      simp only [Option.bind_some]
      have hge := pos_ge l v hp _ he (Nat.le_refl _)
      have hhas : has0 l v = (l[pos l v].f0 == v) := by unfold has0; rw [List.getElem?_eq_getElem he]
      rw [hhas]
      by_cases heq : l[pos l v].f0 = v
      · simp [heq]
      · rw [if_neg (by omega), if_pos (by omega)]
        simp [heq]
    · rw [if_neg (by omega)]
      have hhas : has0 l v = false := by unfold has0; rw [List.getElem?_eq_none (by omega)]
      rw [hhas]
  induction d with
  | zero =>
    intro k lo hi hd hk h1 h2 h3
    obtain ⟨k, rfl⟩ : ∃ m, k = m + 1 := ⟨k - 1, by omega⟩
    exact hend k lo hi (by omega) h1 h2 h3
  | succ d ih =>
    intro k lo hi hd hk h1 h2 h3
    obtain ⟨k, rfl⟩ : ∃ m, k = m + 1 := ⟨k - 1, by omega⟩
    by_cases hlt : lo < hi
    · obtain ⟨m, hm⟩ : ∃ m : Nat, m = (lo + hi) / 2 := ⟨_, rfl⟩
      have hmid : wrap64 ((IntKind.u64.wrap (wrap64 ((lo : Int) + (hi : Int)))) / 2) = (m : Int) := by
        have e1 : wrap64 ((lo : Int) + (hi : Int)) = ((lo + hi : Nat) : Int) := by unfold wrap64; omega
        have e2 : IntKind.u64.wrap (((lo + hi : Nat) : Int)) = ((lo + hi : Nat) : Int) := by simp [IntKind.wrap, IntKind.bits, IntKind.signed]; omega
        rw [e1, e2]
        unfold wrap64
        omega
      simp only [api_Appoint_int.l0]
      rw [hmid, if_pos (by omega), if_pos (by omega), if_pos (by omega), addc_eq, rdAt l m (by omega)]
      simp only [Option.bind_some]
      by_cases hc : l[m].f0 < v
      · rw [if_pos (by rw [if_pos hc]; omega), w64 m (by omega)]
        refine ih k (m + 1) hi (by omega) (by omega) ?_ h2 h3
        by_cases hq : m < pos l v
        · omega
        · have := pos_ge l v hp m (by omega) (by omega); omega
      · rw [if_neg (by rw [if_neg hc]; split <;> omega)]
        refine ih k lo m (by omega) (by omega) h1 ?_ (by omega)
        by_cases hq : m < pos l v
        · have := pos_lt l v m (by omega) hq; omega
        · omega
    · exact hend k lo hi hlt h1 h2 h3
theorem bs_eq (l : List S24) (hl : l.length ≤ 4096) (hp : l.Pairwise (fun a b => a.f0 < b.f0)) (v : Int) (k : Nat) (hk : 4096 < k) :
    api_Appoint_int.f k l v () = some ((pos l v : Int), has0 l v) := by
  unfold api_Appoint_int.f
  exact bs_l0 l hl hp v l.length k 0 l.length (by omega) (by omega) (by omega) (pos_le _ _) (Nat.le_refl _)
/-- What Add answers. -/
def addP (l : List S24) (x : S24) : List S24 × Int := if chk l = 0 then (if vR x = true then (if has0 l x.f0 = true then ([], 151) else (if l.length = 4096 then ([], 2) else (l.take (pos l x.f0) ++ x :: l.drop (pos l x.f0), 0))) else ([], 150)) else ([], chk l)
theorem add_eq (l : List S24) (x : S24) (k : Nat) (hk : 4098 < k) : offices_Add.f k l x.f0 x.f1 x.f2 x.f3 x.f4 x.f5 x.f6 = some (addP l x) := by
  unfold offices_Add.f addP
  rw [check_eq l k hk]
  obtain ⟨k, rfl⟩ : ∃ m, k = m + 1 := ⟨k - 1, by omega⟩
  simp only [Option.bind_some]
  by_cases h : chk l = 0
  · obtain ⟨h1, h2, h3⟩ := chk_ok h
    rw [if_pos h, if_pos h, right_eq]
    simp only [Option.bind_some]
    have hq := pos_le l x.f0
    by_cases g1 : vR x = true
    · rw [if_pos g1, if_pos g1, bs_eq l h1 h3 x.f0 (k + 1) (by omega)]
      simp only [Option.bind_some]
      by_cases g2 : has0 l x.f0 = true
      · rw [if_pos g2, if_pos g2]
      · rw [if_neg g2, if_neg g2]
        by_cases g3 : l.length = 4096
        · rw [if_pos (by omega), if_pos g3]
        · rw [if_neg (by omega), if_neg g3, if_pos ⟨by omega, by omega⟩]
          unfold insAt
          rw [Int.toNat_natCast]
    · rw [if_neg g1, if_neg g1]
  · rw [if_neg h, if_neg h]
/-- What Holders answers. -/
def holdersA (l : List S24) (o at_ known : Int) : List S34 × Int :=
  if chk l = 0 then (if (0 ≤ o ∧ o ≤ 31) ∧ (0 ≤ at_ ∧ at_ ≤ 1099511627775) ∧ (0 ≤ known ∧ known ≤ 1099511627775) then ((holdersP (standP at_ known l) o).map h34, 0) else ([], 1)) else ([], chk l)
theorem holders_eq (l : List S24) (o at_ known : Int) (k : Nat) (hk : 4098 < k) : offices_Holders.f k l o at_ known = some (holdersA l o at_ known) := by
  unfold offices_Holders.f holdersA
  rw [check_eq l k hk]
  simp only [Option.bind_some, isOffice_eq, isTime_eq, decide_eq_true_eq]
  by_cases h : chk l = 0
  · rw [if_pos h, if_pos h]
    by_cases h1 : 0 ≤ o ∧ o ≤ 31
    · rw [if_pos h1]
      by_cases h2 : 0 ≤ at_ ∧ at_ ≤ 1099511627775
      · rw [if_pos h2]
        by_cases h3 : 0 ≤ known ∧ known ≤ 1099511627775
        · rw [if_pos h3, if_pos ⟨h1, h2, h3⟩]
        · rw [if_neg h3, if_neg (fun h => h3 h.2.2)]
      · rw [if_neg h2, if_neg (fun h => h2 h.2.1)]
    · rw [if_neg h1, if_neg (fun h => h1 h.1)]
  · rw [if_neg h, if_neg h]
/-- What Holds answers. -/
def holdsA (l : List S24) (o p at_ known : Int) : Int × Int × Bool × Int :=
  if chk l = 0 then (if (0 ≤ o ∧ o ≤ 31) ∧ (0 ≤ p ∧ p ≤ 63) ∧ (0 ≤ at_ ∧ at_ ≤ 1099511627775) ∧ (0 ≤ known ∧ known ≤ 1099511627775) then holdsP (standP at_ known l) o p else (0, 0, false, 1)) else (0, 0, false, chk l)
theorem holds_eq (l : List S24) (o p at_ known : Int) (k : Nat) (hk : 4098 < k) : offices_Holds.f k l o p at_ known = some (holdsA l o p at_ known) := by
  unfold offices_Holds.f holdsA
  rw [check_eq l k hk]
  simp only [Option.bind_some, isOffice_eq, isPerson_eq, isTime_eq, decide_eq_true_eq]
  by_cases h : chk l = 0
  · rw [if_pos h, if_pos h]
    by_cases h1 : 0 ≤ o ∧ o ≤ 31
    · rw [if_pos h1]
      by_cases h4 : 0 ≤ p ∧ p ≤ 63
      · rw [if_pos h4]
        by_cases h2 : 0 ≤ at_ ∧ at_ ≤ 1099511627775
        · rw [if_pos h2]
          by_cases h3 : 0 ≤ known ∧ known ≤ 1099511627775
          · rw [if_pos h3, if_pos ⟨h1, h4, h2, h3⟩]
          · rw [if_neg h3, if_neg (fun h => h3 h.2.2.2)]
        · rw [if_neg h2, if_neg (fun h => h2 h.2.2.1)]
      · rw [if_neg h4, if_neg (fun h => h4 h.2.1)]
    · rw [if_neg h1, if_neg (fun h => h1 h.1)]
  · rw [if_neg h, if_neg h]
/-- Same ones are the same. -/
theorem same_refl (l : List S24) (hl : l.length ≤ 5000) : ∀ (d k i : Nat), d + i = l.length → d < k → signatoryref15_Same.l0 k l l (i : Int) = some true := by
  intro d
  induction d with
  | zero =>
    intro k i h hk
    obtain ⟨k, rfl⟩ : ∃ m, k = m + 1 := ⟨k - 1, by omega⟩
    simp only [signatoryref15_Same.l0]
    rw [if_neg (by omega)]
  | succ d ih =>
    intro k i h hk
    obtain ⟨k, rfl⟩ : ∃ m, k = m + 1 := ⟨k - 1, by omega⟩
    simp only [signatoryref15_Same.l0]
    rw [if_pos (by omega), if_pos (by omega), if_pos (by omega), if_neg (by simp), w64 i (by omega)]
    exact ih k (i + 1) (by omega) (by omega)
theorem same_eq (l : List S24) (hl : l.length ≤ 5000) (k : Nat) (hk : 5000 < k) : signatoryref15_Same.f k l l = some true := by
  unfold signatoryref15_Same.f
  rw [if_pos rfl]
  exact same_refl l hl l.length k 0 (by omega) (by omega)
theorem hs_refl (l : List S34) (hl : l.length ≤ 5000) : ∀ (d k i : Nat), d + i = l.length → d < k → signatoryref15_SameHolders.l0 k l l (i : Int) = some true := by
  intro d
  induction d with
  | zero =>
    intro k i h hk
    obtain ⟨k, rfl⟩ : ∃ m, k = m + 1 := ⟨k - 1, by omega⟩
    simp only [signatoryref15_SameHolders.l0]
    rw [if_neg (by omega)]
  | succ d ih =>
    intro k i h hk
    obtain ⟨k, rfl⟩ : ∃ m, k = m + 1 := ⟨k - 1, by omega⟩
    simp only [signatoryref15_SameHolders.l0]
    rw [if_pos (by omega), if_pos (by omega), if_pos (by omega), if_neg (by simp), w64 i (by omega)]
    exact ih k (i + 1) (by omega) (by omega)
theorem hs_eq (l : List S34) (hl : l.length ≤ 5000) (k : Nat) (hk : 5000 < k) : signatoryref15_SameHolders.f k l l = some true := by
  unfold signatoryref15_SameHolders.f
  rw [if_pos rfl]
  exact hs_refl l hl l.length k 0 (by omega) (by omega)
end
end
section
open Go.Shelf
section
/-- A row that lies in a block of its own. -/
theorem flat_at {α : Type} {enc : α → List Value} {k : Nat} (hk : ∀ x, (enc x).length = k) : ∀ (xs : List α) (i j : Nat) (x : α), xs[i]? = some x → j < k → (xs.flatMap enc)[i * k + j]? = (enc x)[j]?
  | [], i, j, x, h, _ => by simp at h
  | y :: t, i, j, x, h, hj => by
    rw [List.flatMap_cons]
    cases i with
    | zero =>
      simp at h
      subst h
      rw [List.getElem?_append_left (by rw [hk]; omega)]
      simp
    | succ i =>
      rw [List.getElem?_append_right (by rw [hk, Nat.succ_mul]; omega), hk, show (i + 1) * k + j - k = i * k + j by rw [Nat.succ_mul]; omega]
      exact flat_at hk t i j x (by simpa using h) hj
theorem lit_C {α : Type} {d : Kd α} {enc : α → List Value} {w : World} {g t : Nat} {cur : Array Value} {xs : List α} (hk : ∀ x, (enc x).length = d.sz) (hK : ∀ x, d.K w x (enc x)) (h : w.heap[g]? = some (.cells cur t (0, 0))) (hc : cur.toList = xs.flatMap enc) (hl : xs.length ≤ 4096) : Kd.C d w (some ⟨g, 0, none⟩) xs.length xs := by
  refine ⟨rfl, by omega, fun _ => ⟨⟨g, 0, none⟩, rfl, fun j x hj => ⟨enc x, hk x, hK x, fun i u hu => ?_⟩⟩⟩
  have hi : i < d.sz := by rw [← hk x]; exact (List.getElem?_eq_some_iff.1 hu).1
  have h1 := flat_at hk xs j i x hj hi
  have e : (⟨g, 0, none⟩ : Addr).add (j * d.sz + i) = ⟨g, j * d.sz + i, none⟩ := by simp [Addr.add]; try (intros; omega)
  rw [e, blk_cell h, ← Array.getElem?_toList, hc, h1, hu]
theorem lit24 {w : World} {g : Nat} {cur : Array Value} {xs : List S24} (h : w.heap[g]? = some (.cells cur 24 (0, 0))) (hc : cur.toList = xs.flatMap cell6) (hl : xs.length ≤ 4096) : Kd.C k24 w (some ⟨g, 0, none⟩) xs.length xs :=
  lit_C (d := k24) (enc := cell6) (fun _ => rfl) (fun x => ⟨[.int .i64 x.f0], [.int .i64 x.f1, .int .i64 x.f2, .int .i64 x.f3, .int .i64 x.f4, .int .i64 x.f5, .bool x.f6], rfl, rfl, ⟨[.int .i64 x.f1], [.int .i64 x.f2, .int .i64 x.f3, .int .i64 x.f4, .int .i64 x.f5, .bool x.f6], rfl, rfl, ⟨[.int .i64 x.f2], [.int .i64 x.f3, .int .i64 x.f4, .int .i64 x.f5, .bool x.f6], rfl, rfl, ⟨[.int .i64 x.f3], [.int .i64 x.f4, .int .i64 x.f5, .bool x.f6], rfl, rfl, ⟨[.int .i64 x.f4], [.int .i64 x.f5, .bool x.f6], rfl, rfl, ⟨[.int .i64 x.f5], [.bool x.f6], rfl, rfl, rfl⟩⟩⟩⟩⟩⟩) h hc hl
def cellh (x : S34) : List Value := [.int .i64 x.f0, .int .i64 x.f1]
theorem lit34 {w : World} {g : Nat} {cur : Array Value} {xs : List S34} (h : w.heap[g]? = some (.cells cur 34 (0, 0))) (hc : cur.toList = xs.flatMap cellh) (hl : xs.length ≤ 4096) : Kd.C k34 w (some ⟨g, 0, none⟩) xs.length xs :=
  lit_C (d := k34) (enc := cellh) (fun _ => rfl) (fun x => ⟨[.int .i64 x.f0], [.int .i64 x.f1], rfl, rfl, rfl⟩) h hc hl
theorem sn_h1 : holdsA ([⟨1, 5, 5, 2, 7, 3, false⟩, ⟨4, 5, 6, 2, 3, 64, false⟩, ⟨6, 10, 20, 2, 7, 0, true⟩] : List S24) 2 7 15 19 = (1, 3, true, 0) := by kernel_rfl
theorem sn_h2 : holdsA ([⟨1, 5, 5, 2, 7, 3, false⟩, ⟨4, 5, 6, 2, 3, 64, false⟩, ⟨6, 10, 20, 2, 7, 0, true⟩] : List S24) 2 7 15 20 = (0, 0, false, 0) := by kernel_rfl
theorem sn_o1 : holdersA ([⟨1, 5, 5, 2, 7, 3, false⟩, ⟨4, 5, 6, 2, 3, 64, false⟩, ⟨6, 10, 20, 2, 7, 0, true⟩] : List S24) 2 15 19 = (([⟨3, 64⟩, ⟨7, 3⟩] : List S34), 0) := by kernel_rfl
theorem sn_o2 : holdersA ([⟨1, 5, 5, 2, 7, 3, false⟩, ⟨4, 5, 6, 2, 3, 64, false⟩, ⟨6, 10, 20, 2, 7, 0, true⟩] : List S24) 2 15 20 = (([⟨3, 64⟩] : List S34), 0) := by kernel_rfl
theorem sn_o3 : holdersA [] 0 0 0 = (([] : List S34), 0) := by kernel_rfl
theorem sn_h3 : holdsA [] 32 0 0 0 = (0, 0, false, 1) := by kernel_rfl
theorem sn_h4 : holdsA [] 0 63 0 0 = (0, 0, false, 0) := by kernel_rfl
theorem sn_a1 : addP ([⟨1, 5, 5, 2, 7, 3, false⟩, ⟨6, 10, 20, 2, 7, 0, true⟩] : List S24) ⟨4, 5, 6, 2, 3, 64, false⟩ = (([⟨1, 5, 5, 2, 7, 3, false⟩, ⟨4, 5, 6, 2, 3, 64, false⟩, ⟨6, 10, 20, 2, 7, 0, true⟩] : List S24), 0) := by kernel_rfl
theorem sn_a2 : addP ([⟨1, 5, 5, 2, 7, 3, false⟩, ⟨4, 5, 6, 2, 3, 64, false⟩, ⟨6, 10, 20, 2, 7, 0, true⟩] : List S24) ⟨1, 5, 5, 2, 7, 3, false⟩ = ([], 151) := by kernel_rfl
theorem sn_c1 : chk [] = 0 := by kernel_rfl
theorem sn_c2 : chk ([⟨1, 5, 5, 2, 7, 3, false⟩, ⟨4, 5, 6, 2, 3, 64, false⟩, ⟨6, 10, 20, 2, 7, 0, true⟩] : List S24) = 0 := by kernel_rfl
theorem sn_c3 : chk ([⟨1, 5, 5, 2, 7, 65, false⟩] : List S24) = 150 := by kernel_rfl
theorem sn_c4 : chk ([⟨6, 10, 20, 2, 7, 1, true⟩] : List S24) = 150 := by kernel_rfl
def signatorylaw15_sane.f (k : Nat) : Option Bool := if 9010 < k then some true else none
theorem signatorylaw15_sane.mono : ∀ k, LeO (signatorylaw15_sane.f k) (signatorylaw15_sane.f (k + 1)) := by
  intro k r h
  unfold signatorylaw15_sane.f at h ⊢
  by_cases c : 9010 < k
  · rw [if_pos c] at h; rw [if_pos (by omega)]; exact h
  · rw [if_neg c] at h; cases h
set_option maxHeartbeats 20000000 in
set_option maxRecDepth 100000 in
theorem sane_walk (w : World) : Calls Try.prog 9 #[] w fun e w' => e = .returned (.bool true) ∧ Below w.heap.size w w' := by
  have HB := Below.refl w.heap.size w
  go_enter Try.func9, Try.ntmps9
  have hba := (Below.refl _ w).alloc (Nat.le_refl _) (.cells #[.int .i64 1, .int .i64 5, .int .i64 5, .int .i64 2, .int .i64 7, .int .i64 3, .bool false] 24)
  replace HB := below_step HB hba
  have Ba := World.alloc_heap_new w (.cells #[.int .i64 1, .int .i64 5, .int .i64 5, .int .i64 2, .int .i64 7, .int .i64 3, .bool false] 24)
  clear hba
  have hba := (Below.refl _ (w.alloc (.cells #[.int .i64 1, .int .i64 5, .int .i64 5, .int .i64 2, .int .i64 7, .int .i64 3, .bool false] 24))).alloc (Nat.le_refl _) (.cells #[.int .i64 4, .int .i64 5, .int .i64 6, .int .i64 2, .int .i64 3, .int .i64 64, .bool false] 24)
  replace HB := below_step HB hba
  replace Ba := blk_below Ba hba
  have Bb := World.alloc_heap_new (w.alloc (.cells #[.int .i64 1, .int .i64 5, .int .i64 5, .int .i64 2, .int .i64 7, .int .i64 3, .bool false] 24)) (.cells #[.int .i64 4, .int .i64 5, .int .i64 6, .int .i64 2, .int .i64 3, .int .i64 64, .bool false] 24)
  clear hba
  simp only [World.size_alloc] at Bb
  have hba := (Below.refl _ ((w.alloc (.cells #[.int .i64 1, .int .i64 5, .int .i64 5, .int .i64 2, .int .i64 7, .int .i64 3, .bool false] 24)).alloc (.cells #[.int .i64 4, .int .i64 5, .int .i64 6, .int .i64 2, .int .i64 3, .int .i64 64, .bool false] 24))).alloc (Nat.le_refl _) (.cells #[.int .i64 6, .int .i64 10, .int .i64 20, .int .i64 2, .int .i64 7, .int .i64 0, .bool true] 24)
  replace HB := below_step HB hba
  replace Ba := blk_below Ba hba
  replace Bb := blk_below Bb hba
  have Bg := World.alloc_heap_new ((w.alloc (.cells #[.int .i64 1, .int .i64 5, .int .i64 5, .int .i64 2, .int .i64 7, .int .i64 3, .bool false] 24)).alloc (.cells #[.int .i64 4, .int .i64 5, .int .i64 6, .int .i64 2, .int .i64 3, .int .i64 64, .bool false] 24)) (.cells #[.int .i64 6, .int .i64 10, .int .i64 20, .int .i64 2, .int .i64 7, .int .i64 0, .bool true] 24)
  clear hba
  simp only [World.size_alloc] at Bg
  have xa_0 := (blk_cell Ba 0).trans rfl
  have xa_1 := (blk_cell Ba 1).trans rfl
  have xa_2 := (blk_cell Ba 2).trans rfl
  have xa_3 := (blk_cell Ba 3).trans rfl
  have xa_4 := (blk_cell Ba 4).trans rfl
  have xa_5 := (blk_cell Ba 5).trans rfl
  have xa_6 := (blk_cell Ba 6).trans rfl
  have xb_0 := (blk_cell Bb 0).trans rfl
  have xb_1 := (blk_cell Bb 1).trans rfl
  have xb_2 := (blk_cell Bb 2).trans rfl
  have xb_3 := (blk_cell Bb 3).trans rfl
  have xb_4 := (blk_cell Bb 4).trans rfl
  have xb_5 := (blk_cell Bb 5).trans rfl
  have xb_6 := (blk_cell Bb 6).trans rfl
  have xg_0 := (blk_cell Bg 0).trans rfl
  have xg_1 := (blk_cell Bg 1).trans rfl
  have xg_2 := (blk_cell Bg 2).trans rfl
  have xg_3 := (blk_cell Bg 3).trans rfl
  have xg_4 := (blk_cell Bg 4).trans rfl
  have xg_5 := (blk_cell Bg 5).trans rfl
  have xg_6 := (blk_cell Bg 6).trans rfl
  have hba := (Below.refl _ (((w.alloc (.cells #[.int .i64 1, .int .i64 5, .int .i64 5, .int .i64 2, .int .i64 7, .int .i64 3, .bool false] 24)).alloc (.cells #[.int .i64 4, .int .i64 5, .int .i64 6, .int .i64 2, .int .i64 3, .int .i64 64, .bool false] 24)).alloc (.cells #[.int .i64 6, .int .i64 10, .int .i64 20, .int .i64 2, .int .i64 7, .int .i64 0, .bool true] 24))).alloc (Nat.le_refl _) (.cells #[.int .i64 1, .int .i64 5, .int .i64 5, .int .i64 2, .int .i64 7, .int .i64 3, .bool false, .int .i64 4, .int .i64 5, .int .i64 6, .int .i64 2, .int .i64 3, .int .i64 64, .bool false, .int .i64 6, .int .i64 10, .int .i64 20, .int .i64 2, .int .i64 7, .int .i64 0, .bool true] 24)
  replace HB := below_step HB hba
  replace Ba := blk_below Ba hba
  replace Bb := blk_below Bb hba
  replace Bg := blk_below Bg hba
  have Bl := World.alloc_heap_new (((w.alloc (.cells #[.int .i64 1, .int .i64 5, .int .i64 5, .int .i64 2, .int .i64 7, .int .i64 3, .bool false] 24)).alloc (.cells #[.int .i64 4, .int .i64 5, .int .i64 6, .int .i64 2, .int .i64 3, .int .i64 64, .bool false] 24)).alloc (.cells #[.int .i64 6, .int .i64 10, .int .i64 20, .int .i64 2, .int .i64 7, .int .i64 0, .bool true] 24)) (.cells #[.int .i64 1, .int .i64 5, .int .i64 5, .int .i64 2, .int .i64 7, .int .i64 3, .bool false, .int .i64 4, .int .i64 5, .int .i64 6, .int .i64 2, .int .i64 3, .int .i64 64, .bool false, .int .i64 6, .int .i64 10, .int .i64 20, .int .i64 2, .int .i64 7, .int .i64 0, .bool true] 24)
  clear hba
  simp only [World.size_alloc] at Bl
  go_wp2_with fail
  clear xa_0 xa_1 xa_2 xa_3 xa_4 xa_5 xa_6
  clear xb_0 xb_1 xb_2 xb_3 xb_4 xb_5 xb_6
  clear xg_0 xg_1 xg_2 xg_3 xg_4 xg_5 xg_6
  generalize (((w.alloc (.cells #[.int .i64 1, .int .i64 5, .int .i64 5, .int .i64 2, .int .i64 7, .int .i64 3, .bool false] 24)).alloc (.cells #[.int .i64 4, .int .i64 5, .int .i64 6, .int .i64 2, .int .i64 3, .int .i64 64, .bool false] 24)).alloc (.cells #[.int .i64 6, .int .i64 10, .int .i64 20, .int .i64 2, .int .i64 7, .int .i64 0, .bool true] 24)).alloc (.cells #[.int .i64 1, .int .i64 5, .int .i64 5, .int .i64 2, .int .i64 7, .int .i64 3, .bool false, .int .i64 4, .int .i64 5, .int .i64 6, .int .i64 2, .int .i64 3, .int .i64 64, .bool false, .int .i64 6, .int .i64 10, .int .i64 20, .int .i64 2, .int .i64 7, .int .i64 0, .bool true] 24) = w1 at *
  refine (offices_Holds.calls 10000 (some ⟨w.heap.size + 1 + 1 + 1, 0, none⟩) 3 ([⟨1, 5, 5, 2, 7, 3, false⟩, ⟨4, 5, 6, 2, 3, 64, false⟩, ⟨6, 10, 20, 2, 7, 0, true⟩] : List S24) 2 7 15 19 1 3 true 0 w1 (lit24 Bl rfl (by decide)) (by decide) ((holds_eq ([⟨1, 5, 5, 2, 7, 3, false⟩, ⟨4, 5, 6, 2, 3, 64, false⟩, ⟨6, 10, 20, 2, 7, 0, true⟩] : List S24) 2 7 15 19 10000 (by decide)).trans (congrArg some sn_h1))).mono ?_
  rintro e w2 ⟨rfl, hb⟩
  replace HB := below_step HB hb
  replace Ba := blk_below Ba hb
  replace Bb := blk_below Bb hb
  replace Bg := blk_below Bg hb
  replace Bl := blk_below Bl hb
  clear hb
  dsimp only
  go_wp2_with fail
  refine (offices_Holds.calls 10000 (some ⟨w.heap.size + 1 + 1 + 1, 0, none⟩) 3 ([⟨1, 5, 5, 2, 7, 3, false⟩, ⟨4, 5, 6, 2, 3, 64, false⟩, ⟨6, 10, 20, 2, 7, 0, true⟩] : List S24) 2 7 15 20 0 0 false 0 w2 (lit24 Bl rfl (by decide)) (by decide) ((holds_eq ([⟨1, 5, 5, 2, 7, 3, false⟩, ⟨4, 5, 6, 2, 3, 64, false⟩, ⟨6, 10, 20, 2, 7, 0, true⟩] : List S24) 2 7 15 20 10000 (by decide)).trans (congrArg some sn_h2))).mono ?_
  rintro e w3 ⟨rfl, hb⟩
  replace HB := below_step HB hb
  replace Ba := blk_below Ba hb
  replace Bb := blk_below Bb hb
  replace Bg := blk_below Bg hb
  replace Bl := blk_below Bl hb
  clear hb
  dsimp only
  go_wp2_with fail
  refine (offices_Holders.calls 10000 (some ⟨w.heap.size + 1 + 1 + 1, 0, none⟩) 3 ([⟨1, 5, 5, 2, 7, 3, false⟩, ⟨4, 5, 6, 2, 3, 64, false⟩, ⟨6, 10, 20, 2, 7, 0, true⟩] : List S24) 2 15 19 ([⟨3, 64⟩, ⟨7, 3⟩] : List S34) 0 w3 (lit24 Bl rfl (by decide)) (by decide) ((holders_eq ([⟨1, 5, 5, 2, 7, 3, false⟩, ⟨4, 5, 6, 2, 3, 64, false⟩, ⟨6, 10, 20, 2, 7, 0, true⟩] : List S24) 2 15 19 10000 (by decide)).trans (congrArg some sn_o1))).mono ?_
  rintro e w4 ⟨v1, rfl, Vt, hb⟩
  replace HB := below_step HB hb
  replace Ba := blk_below Ba hb
  replace Bb := blk_below Bb hb
  replace Bg := blk_below Bg hb
  replace Bl := blk_below Bl hb
  clear hb
  replace Vt := Kd.R_V (base' := 0) Vt
  obtain ⟨At, ct, rfl⟩ := Kd.V_slice Vt
  dsimp only
  go_wp2_with fail
  refine (offices_Holders.calls 10000 (some ⟨w.heap.size + 1 + 1 + 1, 0, none⟩) 3 ([⟨1, 5, 5, 2, 7, 3, false⟩, ⟨4, 5, 6, 2, 3, 64, false⟩, ⟨6, 10, 20, 2, 7, 0, true⟩] : List S24) 2 15 20 ([⟨3, 64⟩] : List S34) 0 w4 (lit24 Bl rfl (by decide)) (by decide) ((holders_eq ([⟨1, 5, 5, 2, 7, 3, false⟩, ⟨4, 5, 6, 2, 3, 64, false⟩, ⟨6, 10, 20, 2, 7, 0, true⟩] : List S24) 2 15 20 10000 (by decide)).trans (congrArg some sn_o2))).mono ?_
  rintro e w5 ⟨v2, rfl, Vo, hb⟩
  replace HB := below_step HB hb
  replace Ba := blk_below Ba hb
  replace Bb := blk_below Bb hb
  replace Bg := blk_below Bg hb
  replace Bl := blk_below Bl hb
  replace Vt := Kd.V_below Vt hb
  clear hb
  replace Vo := Kd.R_V (base' := 0) Vo
  obtain ⟨Ao, co, rfl⟩ := Kd.V_slice Vo
  dsimp only
  go_wp2_with fail
  refine (offices_Holders.calls 10000 none 0 [] 0 0 0 ([] : List S34) 0 w5 (Kd.C_nil _ _) (Nat.le_refl _) ((holders_eq [] 0 0 0 10000 (by decide)).trans (congrArg some sn_o3))).mono ?_
  rintro e w6 ⟨v3, rfl, Vn, hb⟩
  replace HB := below_step HB hb
  replace Ba := blk_below Ba hb
  replace Bb := blk_below Bb hb
  replace Bg := blk_below Bg hb
  replace Bl := blk_below Bl hb
  replace Vt := Kd.V_below Vt hb
  replace Vo := Kd.V_below Vo hb
  clear hb
  replace Vn := Kd.R_V (base' := 0) Vn
  obtain ⟨An, cn, rfl⟩ := Kd.V_slice Vn
  dsimp only
  go_wp2_with fail
  refine (offices_Holds.calls 10000 none 0 [] 32 0 0 0 0 0 false 1 w6 (Kd.C_nil _ _) (Nat.le_refl _) ((holds_eq [] 32 0 0 0 10000 (by decide)).trans (congrArg some sn_h3))).mono ?_
  rintro e w7 ⟨rfl, hb⟩
  replace HB := below_step HB hb
  replace Ba := blk_below Ba hb
  replace Bb := blk_below Bb hb
  replace Bg := blk_below Bg hb
  replace Bl := blk_below Bl hb
  replace Vt := Kd.V_below Vt hb
  replace Vo := Kd.V_below Vo hb
  replace Vn := Kd.V_below Vn hb
  clear hb
  dsimp only
  go_wp2_with fail
  refine (offices_Holds.calls 10000 none 0 [] 0 63 0 0 0 0 false 0 w7 (Kd.C_nil _ _) (Nat.le_refl _) ((holds_eq [] 0 63 0 0 10000 (by decide)).trans (congrArg some sn_h4))).mono ?_
  rintro e w8 ⟨rfl, hb⟩
  replace HB := below_step HB hb
  replace Ba := blk_below Ba hb
  replace Bb := blk_below Bb hb
  replace Bg := blk_below Bg hb
  replace Bl := blk_below Bl hb
  replace Vt := Kd.V_below Vt hb
  replace Vo := Kd.V_below Vo hb
  replace Vn := Kd.V_below Vn hb
  clear hb
  dsimp only
  have xa_0 := (blk_cell Ba 0).trans rfl
  have xa_1 := (blk_cell Ba 1).trans rfl
  have xa_2 := (blk_cell Ba 2).trans rfl
  have xa_3 := (blk_cell Ba 3).trans rfl
  have xa_4 := (blk_cell Ba 4).trans rfl
  have xa_5 := (blk_cell Ba 5).trans rfl
  have xa_6 := (blk_cell Ba 6).trans rfl
  have xb_0 := (blk_cell Bb 0).trans rfl
  have xb_1 := (blk_cell Bb 1).trans rfl
  have xb_2 := (blk_cell Bb 2).trans rfl
  have xb_3 := (blk_cell Bb 3).trans rfl
  have xb_4 := (blk_cell Bb 4).trans rfl
  have xb_5 := (blk_cell Bb 5).trans rfl
  have xb_6 := (blk_cell Bb 6).trans rfl
  have xg_0 := (blk_cell Bg 0).trans rfl
  have xg_1 := (blk_cell Bg 1).trans rfl
  have xg_2 := (blk_cell Bg 2).trans rfl
  have xg_3 := (blk_cell Bg 3).trans rfl
  have xg_4 := (blk_cell Bg 4).trans rfl
  have xg_5 := (blk_cell Bg 5).trans rfl
  have xg_6 := (blk_cell Bg 6).trans rfl
  have hba := (Below.refl _ w8).alloc (Nat.le_refl _) (.cells #[.int .i64 1, .int .i64 5, .int .i64 5, .int .i64 2, .int .i64 7, .int .i64 3, .bool false, .int .i64 6, .int .i64 10, .int .i64 20, .int .i64 2, .int .i64 7, .int .i64 0, .bool true] 24)
  replace HB := below_step HB hba
  replace Ba := blk_below Ba hba
  replace Bb := blk_below Bb hba
  replace Bg := blk_below Bg hba
  replace Bl := blk_below Bl hba
  replace Vt := Kd.V_below Vt hba
  replace Vo := Kd.V_below Vo hba
  replace Vn := Kd.V_below Vn hba
  have B2 := World.alloc_heap_new w8 (.cells #[.int .i64 1, .int .i64 5, .int .i64 5, .int .i64 2, .int .i64 7, .int .i64 3, .bool false, .int .i64 6, .int .i64 10, .int .i64 20, .int .i64 2, .int .i64 7, .int .i64 0, .bool true] 24)
  clear hba
  have yb_0 := (blk_cell Bb 0).trans rfl
  have yb_1 := (blk_cell Bb 1).trans rfl
  have yb_2 := (blk_cell Bb 2).trans rfl
  have yb_3 := (blk_cell Bb 3).trans rfl
  have yb_4 := (blk_cell Bb 4).trans rfl
  have yb_5 := (blk_cell Bb 5).trans rfl
  have yb_6 := (blk_cell Bb 6).trans rfl
  go_wp2_with fail
  clear yb_0 yb_1 yb_2 yb_3 yb_4 yb_5 yb_6
  clear xa_0 xa_1 xa_2 xa_3 xa_4 xa_5 xa_6
  clear xb_0 xb_1 xb_2 xb_3 xb_4 xb_5 xb_6
  clear xg_0 xg_1 xg_2 xg_3 xg_4 xg_5 xg_6
  generalize w8.alloc (.cells #[.int .i64 1, .int .i64 5, .int .i64 5, .int .i64 2, .int .i64 7, .int .i64 3, .bool false, .int .i64 6, .int .i64 10, .int .i64 20, .int .i64 2, .int .i64 7, .int .i64 0, .bool true] 24) = w9 at *
  refine (offices_Add.calls 10000 (some ⟨w8.heap.size, 0, none⟩) 2 ([⟨1, 5, 5, 2, 7, 3, false⟩, ⟨6, 10, 20, 2, 7, 0, true⟩] : List S24) 4 5 6 2 3 64 false ([⟨1, 5, 5, 2, 7, 3, false⟩, ⟨4, 5, 6, 2, 3, 64, false⟩, ⟨6, 10, 20, 2, 7, 0, true⟩] : List S24) 0 w9 (lit24 B2 rfl (by decide)) (by decide) ((add_eq ([⟨1, 5, 5, 2, 7, 3, false⟩, ⟨6, 10, 20, 2, 7, 0, true⟩] : List S24) ⟨4, 5, 6, 2, 3, 64, false⟩ 10000 (by decide)).trans (congrArg some sn_a1))).mono ?_
  rintro e w10 ⟨v4, rfl, Vy, hb⟩
  replace HB := below_step HB hb
  replace Ba := blk_below Ba hb
  replace Bb := blk_below Bb hb
  replace Bg := blk_below Bg hb
  replace Bl := blk_below Bl hb
  replace Vt := Kd.V_below Vt hb
  replace Vo := Kd.V_below Vo hb
  replace Vn := Kd.V_below Vn hb
  replace B2 := blk_below B2 hb
  clear hb
  replace Vy := Kd.R_V (base' := 0) Vy
  obtain ⟨Ay, cy, rfl⟩ := Kd.V_slice Vy
  dsimp only
  clear B2
  have xa_0 := (blk_cell Ba 0).trans rfl
  have xa_1 := (blk_cell Ba 1).trans rfl
  have xa_2 := (blk_cell Ba 2).trans rfl
  have xa_3 := (blk_cell Ba 3).trans rfl
  have xa_4 := (blk_cell Ba 4).trans rfl
  have xa_5 := (blk_cell Ba 5).trans rfl
  have xa_6 := (blk_cell Ba 6).trans rfl
  go_wp2_with fail
  clear xa_0 xa_1 xa_2 xa_3 xa_4 xa_5 xa_6
  refine (offices_Add.calls 10000 (some ⟨w.heap.size + 1 + 1 + 1, 0, none⟩) 3 ([⟨1, 5, 5, 2, 7, 3, false⟩, ⟨4, 5, 6, 2, 3, 64, false⟩, ⟨6, 10, 20, 2, 7, 0, true⟩] : List S24) 1 5 5 2 7 3 false [] 151 w10 (lit24 Bl rfl (by decide)) (by decide) ((add_eq ([⟨1, 5, 5, 2, 7, 3, false⟩, ⟨4, 5, 6, 2, 3, 64, false⟩, ⟨6, 10, 20, 2, 7, 0, true⟩] : List S24) ⟨1, 5, 5, 2, 7, 3, false⟩ 10000 (by decide)).trans (congrArg some sn_a2))).mono ?_
  rintro e w11 ⟨v5, rfl, _, hb⟩
  replace HB := below_step HB hb
  replace Ba := blk_below Ba hb
  replace Bb := blk_below Bb hb
  replace Bg := blk_below Bg hb
  replace Bl := blk_below Bl hb
  replace Vt := Kd.V_below Vt hb
  replace Vo := Kd.V_below Vo hb
  replace Vn := Kd.V_below Vn hb
  replace Vy := Kd.V_below Vy hb
  clear hb
  dsimp only
  go_wp2_with fail
  refine (signatoryref15_Same.calls 10000 Ay cy ([⟨1, 5, 5, 2, 7, 3, false⟩, ⟨4, 5, 6, 2, 3, 64, false⟩, ⟨6, 10, 20, 2, 7, 0, true⟩] : List S24) (some ⟨w.heap.size + 1 + 1 + 1, 0, none⟩) 3 ([⟨1, 5, 5, 2, 7, 3, false⟩, ⟨4, 5, 6, 2, 3, 64, false⟩, ⟨6, 10, 20, 2, 7, 0, true⟩] : List S24) true w11 (Kd.V_reads' Vy).2.2 (Kd.V_reads' Vy).2.1 (lit24 Bl rfl (by decide)) (by decide) (same_eq ([⟨1, 5, 5, 2, 7, 3, false⟩, ⟨4, 5, 6, 2, 3, 64, false⟩, ⟨6, 10, 20, 2, 7, 0, true⟩] : List S24) (by decide) 10000 (by decide))).mono ?_
  rintro e w12 ⟨rfl, hd⟩
  have hb := hd.below
  clear hd
  replace HB := below_step HB hb
  replace Ba := blk_below Ba hb
  replace Bb := blk_below Bb hb
  replace Bg := blk_below Bg hb
  replace Bl := blk_below Bl hb
  replace Vt := Kd.V_below Vt hb
  replace Vo := Kd.V_below Vo hb
  replace Vn := Kd.V_below Vn hb
  replace Vy := Kd.V_below Vy hb
  clear hb
  clear Vy
  dsimp only
  have hba := (Below.refl _ w12).alloc (Nat.le_refl _) (.cells #[.int .i64 3, .int .i64 64, .int .i64 7, .int .i64 3] 34)
  replace HB := below_step HB hba
  replace Ba := blk_below Ba hba
  replace Bb := blk_below Bb hba
  replace Bg := blk_below Bg hba
  replace Bl := blk_below Bl hba
  replace Vt := Kd.V_below Vt hba
  replace Vo := Kd.V_below Vo hba
  replace Vn := Kd.V_below Vn hba
  have B3 := World.alloc_heap_new w12 (.cells #[.int .i64 3, .int .i64 64, .int .i64 7, .int .i64 3] 34)
  clear hba
  go_wp2_with fail
  generalize w12.alloc (.cells #[.int .i64 3, .int .i64 64, .int .i64 7, .int .i64 3] 34) = w13 at *
  refine (signatoryref15_SameHolders.calls 10000 At ct ([⟨3, 64⟩, ⟨7, 3⟩] : List S34) (some ⟨w12.heap.size, 0, none⟩) 2 ([⟨3, 64⟩, ⟨7, 3⟩] : List S34) true w13 (Kd.V_reads' Vt).2.2 (Kd.V_reads' Vt).2.1 (lit34 B3 rfl (by decide)) (by decide) (hs_eq ([⟨3, 64⟩, ⟨7, 3⟩] : List S34) (by decide) 10000 (by decide))).mono ?_
  rintro e w14 ⟨rfl, hd⟩
  have hb := hd.below
  clear hd
  replace HB := below_step HB hb
  replace Ba := blk_below Ba hb
  replace Bb := blk_below Bb hb
  replace Bg := blk_below Bg hb
  replace Bl := blk_below Bl hb
  replace Vt := Kd.V_below Vt hb
  replace Vo := Kd.V_below Vo hb
  replace Vn := Kd.V_below Vn hb
  replace B3 := blk_below B3 hb
  clear hb
  clear Vt B3
  dsimp only
  have hba := (Below.refl _ w14).alloc (Nat.le_refl _) (.cells #[.int .i64 3, .int .i64 64] 34)
  replace HB := below_step HB hba
  replace Ba := blk_below Ba hba
  replace Bb := blk_below Bb hba
  replace Bg := blk_below Bg hba
  replace Bl := blk_below Bl hba
  replace Vo := Kd.V_below Vo hba
  replace Vn := Kd.V_below Vn hba
  have B4 := World.alloc_heap_new w14 (.cells #[.int .i64 3, .int .i64 64] 34)
  clear hba
  go_wp2_with fail
  generalize w14.alloc (.cells #[.int .i64 3, .int .i64 64] 34) = w15 at *
  refine (signatoryref15_SameHolders.calls 10000 Ao co ([⟨3, 64⟩] : List S34) (some ⟨w14.heap.size, 0, none⟩) 1 ([⟨3, 64⟩] : List S34) true w15 (Kd.V_reads' Vo).2.2 (Kd.V_reads' Vo).2.1 (lit34 B4 rfl (by decide)) (by decide) (hs_eq ([⟨3, 64⟩] : List S34) (by decide) 10000 (by decide))).mono ?_
  rintro e w16 ⟨rfl, hd⟩
  have hb := hd.below
  clear hd
  replace HB := below_step HB hb
  replace Ba := blk_below Ba hb
  replace Bb := blk_below Bb hb
  replace Bg := blk_below Bg hb
  replace Bl := blk_below Bl hb
  replace Vo := Kd.V_below Vo hb
  replace Vn := Kd.V_below Vn hb
  replace B4 := blk_below B4 hb
  clear hb
  clear Vo B4 Vn
  dsimp only
  have hz1 := blk_frozen Ba 5
  have hy1 := (blk_cell Ba 5).trans rfl
  have hz2 := blk_frozen Bg 5
  have hy2 := (blk_cell Bg 5).trans rfl
  have HB2 := below_set (below_set HB (g := w.heap.size) (j := 5) (v := .int .i64 65) (Nat.le_refl _)) (g := w.heap.size + 1 + 1) (j := 5) (v := .int .i64 1) (by omega)
  have Ba2 := blk_far (blk_put Ba 5 (.int .i64 65) rfl) (p := ⟨w.heap.size + 1 + 1, 5, none⟩) (by show w.heap.size ≠ w.heap.size + 1 + 1; omega) (.int .i64 1)
  have Bg2 := blk_put (blk_far Bg (p := ⟨w.heap.size, 5, none⟩) (by show w.heap.size + 1 + 1 ≠ w.heap.size; omega) (.int .i64 65)) 5 (.int .i64 1) rfl
  have Bl2 := blk_far (blk_far Bl (p := ⟨w.heap.size, 5, none⟩) (by show w.heap.size + 1 + 1 + 1 ≠ w.heap.size; omega) (.int .i64 65)) (p := ⟨w.heap.size + 1 + 1, 5, none⟩) (by show w.heap.size + 1 + 1 + 1 ≠ w.heap.size + 1 + 1; omega) (.int .i64 1)
  clear Ba Bg Bl HB Bb
  go_wp2_with fail
  generalize ((w16.setCell ⟨w.heap.size, 5, none⟩ (.int .i64 65)).setCell ⟨w.heap.size + 1 + 1, 5, none⟩ (.int .i64 1)) = w17 at *
  clear hz1 hz2 hy1 hy2
  have Ba := Ba2
  have Bg := Bg2
  have Bl := Bl2
  have HB := HB2
  clear Ba2 Bg2 Bl2 HB2
  refine (offices_Check.calls 10000 none 0 [] 0 w17 (Kd.C_nil _ _) (Nat.le_refl _) ((check_eq [] 10000 (by decide)).trans (congrArg some sn_c1))).mono ?_
  rintro e w18 ⟨rfl, hb⟩
  replace HB := below_step HB hb
  replace Ba := blk_below Ba hb
  replace Bg := blk_below Bg hb
  replace Bl := blk_below Bl hb
  clear hb
  dsimp only
  go_wp2_with fail
  refine (offices_Check.calls 10000 (some ⟨w.heap.size + 1 + 1 + 1, 0, none⟩) 3 ([⟨1, 5, 5, 2, 7, 3, false⟩, ⟨4, 5, 6, 2, 3, 64, false⟩, ⟨6, 10, 20, 2, 7, 0, true⟩] : List S24) 0 w18 (lit24 Bl rfl (by decide)) (by decide) ((check_eq ([⟨1, 5, 5, 2, 7, 3, false⟩, ⟨4, 5, 6, 2, 3, 64, false⟩, ⟨6, 10, 20, 2, 7, 0, true⟩] : List S24) 10000 (by decide)).trans (congrArg some sn_c2))).mono ?_
  rintro e w19 ⟨rfl, hb⟩
  replace HB := below_step HB hb
  replace Ba := blk_below Ba hb
  replace Bg := blk_below Bg hb
  replace Bl := blk_below Bl hb
  clear hb
  dsimp only
  have xa_0 := (blk_cell Ba 0).trans rfl
  have xa_1 := (blk_cell Ba 1).trans rfl
  have xa_2 := (blk_cell Ba 2).trans rfl
  have xa_3 := (blk_cell Ba 3).trans rfl
  have xa_4 := (blk_cell Ba 4).trans rfl
  have xa_5 := (blk_cell Ba 5).trans rfl
  have xa_6 := (blk_cell Ba 6).trans rfl
  have hba := (Below.refl _ w19).alloc (Nat.le_refl _) (.cells #[.int .i64 1, .int .i64 5, .int .i64 5, .int .i64 2, .int .i64 7, .int .i64 65, .bool false] 24)
  replace HB := below_step HB hba
  replace Ba := blk_below Ba hba
  replace Bg := blk_below Bg hba
  replace Bl := blk_below Bl hba
  have B5 := World.alloc_heap_new w19 (.cells #[.int .i64 1, .int .i64 5, .int .i64 5, .int .i64 2, .int .i64 7, .int .i64 65, .bool false] 24)
  clear hba
  go_wp2_with fail
  clear xa_0 xa_1 xa_2 xa_3 xa_4 xa_5 xa_6
  generalize w19.alloc (.cells #[.int .i64 1, .int .i64 5, .int .i64 5, .int .i64 2, .int .i64 7, .int .i64 65, .bool false] 24) = w20 at *
  refine (offices_Check.calls 10000 (some ⟨w19.heap.size, 0, none⟩) 1 ([⟨1, 5, 5, 2, 7, 65, false⟩] : List S24) 150 w20 (lit24 B5 rfl (by decide)) (by decide) ((check_eq ([⟨1, 5, 5, 2, 7, 65, false⟩] : List S24) 10000 (by decide)).trans (congrArg some sn_c3))).mono ?_
  rintro e w21 ⟨rfl, hb⟩
  replace HB := below_step HB hb
  replace Ba := blk_below Ba hb
  replace Bg := blk_below Bg hb
  replace Bl := blk_below Bl hb
  replace B5 := blk_below B5 hb
  clear hb
  dsimp only
  clear B5 Bl
  have xg_0 := (blk_cell Bg 0).trans rfl
  have xg_1 := (blk_cell Bg 1).trans rfl
  have xg_2 := (blk_cell Bg 2).trans rfl
  have xg_3 := (blk_cell Bg 3).trans rfl
  have xg_4 := (blk_cell Bg 4).trans rfl
  have xg_5 := (blk_cell Bg 5).trans rfl
  have xg_6 := (blk_cell Bg 6).trans rfl
  have hba := (Below.refl _ w21).alloc (Nat.le_refl _) (.cells #[.int .i64 6, .int .i64 10, .int .i64 20, .int .i64 2, .int .i64 7, .int .i64 1, .bool true] 24)
  replace HB := below_step HB hba
  replace Ba := blk_below Ba hba
  replace Bg := blk_below Bg hba
  have B6 := World.alloc_heap_new w21 (.cells #[.int .i64 6, .int .i64 10, .int .i64 20, .int .i64 2, .int .i64 7, .int .i64 1, .bool true] 24)
  clear hba
  go_wp2_with fail
  clear xg_0 xg_1 xg_2 xg_3 xg_4 xg_5 xg_6
  generalize w21.alloc (.cells #[.int .i64 6, .int .i64 10, .int .i64 20, .int .i64 2, .int .i64 7, .int .i64 1, .bool true] 24) = w22 at *
  refine (offices_Check.calls 10000 (some ⟨w21.heap.size, 0, none⟩) 1 ([⟨6, 10, 20, 2, 7, 1, true⟩] : List S24) 150 w22 (lit24 B6 rfl (by decide)) (by decide) ((check_eq ([⟨6, 10, 20, 2, 7, 1, true⟩] : List S24) 10000 (by decide)).trans (congrArg some sn_c4))).mono ?_
  rintro e w23 ⟨rfl, hb⟩
  replace HB := below_step HB hb
  replace Ba := blk_below Ba hb
  replace Bg := blk_below Bg hb
  replace B6 := blk_below B6 hb
  clear hb
  dsimp only
  go_wp2_with fail
  go_ret
  exact ⟨rfl, HB⟩
theorem signatorylaw15_sane.calls (k : Nat) (r : Bool) (w : World) (h : signatorylaw15_sane.f k = some r) : Calls Try.prog 9 #[] w fun e w' => e = .returned (.bool r) ∧ Below w.heap.size w w' := by
  unfold signatorylaw15_sane.f at h
  by_cases c : 9010 < k
  · rw [if_pos c] at h
    obtain rfl := Option.some.inj h
    exact sane_walk w
  · rw [if_neg c] at h
    cases h
theorem sane_eq (k : Nat) (hk : 9010 < k) : signatorylaw15_sane.f k = some true := by
  unfold signatorylaw15_sane.f
  rw [if_pos hk]
end
end

end Go.Proofs.Ytomlcakliljmbaa.Q
