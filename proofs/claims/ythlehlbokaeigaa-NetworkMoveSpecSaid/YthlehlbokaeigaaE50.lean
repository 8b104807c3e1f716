import Derived.Test.YthlehlbokaeigaaQ
import Derived.WalkKit
import Derived.ProofKit
import Derived.OpenShut
import Derived.Lib.SmallJoins
import Derived.Deep.Slices
import Derived.Deep.Fields
import Derived.ChangeSame
import Derived.ChangeOld
namespace Go.Proofs.Ythlehlbokaeigaa.Q
open Go.RowKit Go.ChangeShapes Go.WideShapes Go.Deep Go.Joins Go.ChangeAt Go.Proofs.YthlehlbokaeigaaW.PrintWords
set_option linter.unusedVariables false
set_option linter.unusedSimpArgs false
/-- A row, told element by element. -/
theorem row_of {α : Type} {K : α → List Value → Prop} {sz : Nat} {w : World} {a : Addr} : ∀ (len : Nat), len ≤ 9223372036854775807 → (∀ i, i < len → ∃ x c, c.length = sz ∧ K x c ∧ ∀ j u, c[j]? = some u → w.cell? (a.add (i * sz + j)) = some u) → ∃ xs, ReadsRow K sz w (some a) len xs := by
  intro len hl h
  suffices h2 : ∀ m, m ≤ len → ∃ xs : List α, xs.length = m ∧ ∀ j p, xs[j]? = some p → ∃ c, c.length = sz ∧ K p c ∧ ∀ i u, c[i]? = some u → w.cell? (a.add (j * sz + i)) = some u by
    obtain ⟨xs, h3, h4⟩ := h2 len (Nat.le_refl _)
    exact ⟨xs, h3, hl, fun _ => ⟨a, rfl, h4⟩⟩
  intro m
  induction m with
  | zero => exact fun _ => ⟨[], rfl, fun j p hj => by simp at hj⟩
  | succ m ih =>
    intro hm
    obtain ⟨xs, h3, h4⟩ := ih (by omega)
    obtain ⟨x, c, h5, h6, h7⟩ := h m (by omega)
    refine ⟨xs ++ [x], by simp [h3], fun j p hj => ?_⟩
    rcases Nat.lt_or_ge j xs.length with hlt | hge
    · rw [List.getElem?_append_left hlt] at hj
      exact h4 j p hj
    · rw [List.getElem?_append_right hge] at hj
      have h0 : j - xs.length = 0 := by
        rcases Nat.eq_zero_or_pos (j - xs.length) with h0 | h0
        · exact h0
        · rw [List.getElem?_eq_none (by simp; omega)] at hj
          cases hj
      rw [h0] at hj
      obtain rfl := Option.some.inj hj
      obtain rfl : j = m := by omega
      exact ⟨c, h5, h6, h7⟩
section
variable {H : Type} {enc : TypeId × Value → H} {W : World} {fuel : Nat} {v : Value} {y : DataW H × List MemPlace}
/-- A row of bytes. -/
theorem bytes_of (h : DataW.trod enc Try.prog W 0 (fun _ => true) true fuel 26 [v] = some y) : ∃ A c, ∃ l : List Int, v = .slice A l.length c ∧ l.length ≤ c ∧ Kd.C (Kd.int .u8) W A l.length l := by
  rcases open_ints Try.underlying26 Try.underlying5 (by kernel_rfl) h with ⟨hc, _⟩ | ⟨a, len, cap, zs, hc, _, hl, hm, hz, _, hcell, _⟩
  · obtain rfl : v = .slice none 0 0 := by simpa using hc
    exact ⟨none, 0, [], rfl, Nat.le_refl _, Kd.C_nil _ _⟩
  · obtain rfl : v = .slice (some a) len cap := by simpa using hc
    have hz' : zs.length = cap := by simpa using hz
    have hlen : (zs.take len).length = len := by rw [List.length_take]; omega
    refine ⟨some a, cap, zs.take len, by rw [hlen], by rw [hlen]; exact hl, ?_⟩
    rw [hlen]
    refine ⟨hlen, by unfold maxLen at hm; omega, fun _ => ⟨a, rfl, fun j x hj => ⟨[.int .u8 x], rfl, rfl, fun i u hu => ?_⟩⟩⟩
    match i, hu with
    | 0, hu =>
      obtain rfl := Option.some.inj hu
      have hjl : j < (zs.take len).length := (List.getElem?_eq_some_iff.1 hj).1
      have hj2 : j < zs.length := by rw [List.length_take] at hjl; omega
      have hx : zs.getD j 0 = x := by
        rw [List.getElem?_take, if_pos (by omega)] at hj
        rw [List.getD_eq_getElem?_getD, hj]; rfl
      have h1 := hcell j hj2
      rw [hx] at h1
      show W.cell? (a.add (j * 1 + 0)) = _
      rw [Nat.mul_one, Nat.add_zero]
      exact h1
/-- A row of packets. -/
theorem packets_of (h : DataW.trod enc Try.prog W 0 (fun _ => true) true fuel 22 [v] = some y) : ∃ A c, ∃ l : List S28, v = .slice A l.length c ∧ l.length ≤ c ∧ Kd.C k28 W A l.length l := by
  rcases open_slice Try.underlying22 h with ⟨hc, _⟩ | ⟨a, len, cap, m, n, D, Pl, hc, _, hl, hm, hmm, _, hel⟩
  · obtain rfl : v = .slice none 0 0 := by simpa using hc
    exact ⟨none, 0, [], rfl, Nat.le_refl _, Kd.C_nil _ _⟩
  · obtain rfl : v = .slice (some a) len cap := by simpa using hc
    have hmm' : m = cap := by simpa using hmm
    obtain ⟨xs, hx⟩ := row_of (K := k28.K W) (sz := 3) (w := W) (a := a) len (by unfold maxLen at hm; omega) (fun i hi => by
      obtain ⟨cs, hcs, ht⟩ := hel i (by omega)
      rw [show Try.prog.cellsOf 28 = 3 from by kernel_rfl] at hcs
      obtain ⟨_, hcl, hat⟩ := World.cells?_some hcs
      match cs, hcl with
      | [v0, v1, v2], _ =>
        obtain ⟨y0, y1, y2, n', _, _, t0, t1, t2⟩ := trod_struct3 Try.underlying28 ht
        simp only [show Try.prog.cellsOf 3 = 1 from by kernel_rfl, show Try.prog.cellsOf 26 = 1 from by kernel_rfl, List.drop_zero, List.drop_succ_cons, List.take_succ_cons, List.take_zero] at t0 t1 t2
        obtain ⟨i0, e0, _, _⟩ := DataW.trod_int Try.underlying3 t0
        obtain ⟨i1, e1, _, _⟩ := DataW.trod_int Try.underlying3 t1
        obtain ⟨A2, c2, l2, rfl, hl2, hC2⟩ := bytes_of t2
        obtain rfl : v0 = .int .i64 i0 := by simpa using e0
        obtain rfl : v1 = .int .i64 i1 := by simpa using e1
        refine ⟨(⟨i0, i1, l2⟩ : S28), [.int .i64 i0, .int .i64 i1, .slice A2 l2.length c2], rfl, ⟨[.int .i64 i0], [.int .i64 i1, .slice A2 l2.length c2], rfl, rfl, ⟨[.int .i64 i1], [.slice A2 l2.length c2], rfl, rfl, ⟨A2, c2, rfl, hl2, hC2⟩⟩⟩, fun j u hu => ?_⟩
        have hj : j < 3 := by
          have := (List.getElem?_eq_some_iff.1 hu).1
          simpa using this
        rw [← hu, ← hat j hj, Go.Deep.add_add])
    have hlen : xs.length = len := hx.1
    subst hlen
    exact ⟨some a, cap, xs, rfl, hl, hx⟩
/-- A row of links. -/
theorem links_of (h : DataW.trod enc Try.prog W 0 (fun _ => true) true fuel 23 [v] = some y) : ∃ A c, ∃ l : List S55, v = .slice A l.length c ∧ l.length ≤ c ∧ Kd.C k55 W A l.length l := by
  rcases open_slice Try.underlying23 h with ⟨hc, _⟩ | ⟨a, len, cap, m, n, D, Pl, hc, _, hl, hm, hmm, _, hel⟩
  · obtain rfl : v = .slice none 0 0 := by simpa using hc
    exact ⟨none, 0, [], rfl, Nat.le_refl _, Kd.C_nil _ _⟩
  · obtain rfl : v = .slice (some a) len cap := by simpa using hc
    have hmm' : m = cap := by simpa using hmm
    obtain ⟨xs, hx⟩ := row_of (K := k55.K W) (sz := 2) (w := W) (a := a) len (by unfold maxLen at hm; omega) (fun i hi => by
      obtain ⟨cs, hcs, ht⟩ := hel i (by omega)
      rw [show Try.prog.cellsOf 55 = 2 from by kernel_rfl] at hcs
      obtain ⟨_, hcl, hat⟩ := World.cells?_some hcs
      match cs, hcl with
      | [v0, v1], _ =>
        obtain ⟨ys, n', _, _, _, hyl, hf⟩ := DataW.trod_array Try.underlying55 ht
        have t0 := hf 0 (by omega)
        have t1 := hf 1 (by omega)
        rw [List.getElem?_eq_getElem (by omega)] at t0 t1
        simp only [show Try.prog.cellsOf 3 = 1 from by kernel_rfl, List.drop_zero, List.drop_succ_cons, List.take_succ_cons, List.take_zero, Nat.zero_mul, Nat.one_mul] at t0 t1
        obtain ⟨i0, e0, _, _⟩ := DataW.trod_int Try.underlying3 t0
        obtain ⟨i1, e1, _, _⟩ := DataW.trod_int Try.underlying3 t1
        obtain rfl : v0 = .int .i64 i0 := by simpa using e0
        obtain rfl : v1 = .int .i64 i1 := by simpa using e1
        refine ⟨(⟨i0, i1⟩ : S55), [.int .i64 i0, .int .i64 i1], rfl, ⟨[.int .i64 i0], [.int .i64 i1], rfl, rfl, rfl⟩, fun j u hu => ?_⟩
        have hj : j < 2 := by
          have := (List.getElem?_eq_some_iff.1 hu).1
          simpa using this
        rw [← hu, ← hat j hj, Go.Deep.add_add])
    have hlen : xs.length = len := hx.1
    subst hlen
    exact ⟨some a, cap, xs, rfl, hl, hx⟩
theorem V_of {α : Type} {d : Kd α} (hd : Kd.Heap d) {A : Option Addr} {c : Nat} {xs : List α} (hl : xs.length ≤ c) (h : Kd.C d W A xs.length xs) (e : Nat) : Kd.V d e W 0 (fun _ => True) (.slice A xs.length c) xs :=
  ⟨A, c, rfl, hl, fun W' hW => hd.C (fun k hk => hW k trivial hk) h⟩
/-- A net by value. -/
theorem net_of {d : DataW H} {ps : List MemPlace} {r : Reach} {b0 : Nat} (hv : Value.okWide Try.prog W r b0 25 v) (h : DataW.Trod enc Try.prog W 0 (fun _ => true) true 25 v d ps) :
    ∃ A c A' c', ∃ (q : List S28) (ap : List S55), v = .agg #[.slice A q.length c, .slice A' ap.length c'] ∧ Kd.V k28 28 W 0 (fun _ => True) (.slice A q.length c) q ∧ Kd.V k55 55 W 0 (fun _ => True) (.slice A' ap.length c') ap := by
  obtain ⟨v0, v1, y0, y1, n, rfl, _, _, h0, h1⟩ := open_agg2 Try.underlying25 (by kernel_rfl) (by kernel_rfl) hv h
  obtain ⟨A, c, q, rfl, hl, hC⟩ := packets_of h0
  obtain ⟨A', c', ap, rfl, hl', hC'⟩ := links_of h1
  exact ⟨A, c, A', c', q, ap, rfl, V_of k28_heap hl hC 28, V_of k55_heap hl' hC' 55⟩
/-- A packet by value. -/
theorem packet_of {d : DataW H} {ps : List MemPlace} {r : Reach} {b0 : Nat} (hv : Value.okWide Try.prog W r b0 28 v) (h : DataW.Trod enc Try.prog W 0 (fun _ => true) true 28 v d ps) :
    ∃ a b A c, ∃ (l : List Int), v = .agg #[.int .i64 a, .int .i64 b, .slice A l.length c] ∧ Kd.V (Kd.int .u8) 5 W 0 (fun _ => True) (.slice A l.length c) l := by
  obtain ⟨v0, v1, v2, y0, y1, y2, n, rfl, _, _, h0, h1, h2⟩ := open_agg3 Try.underlying28 (by kernel_rfl) (by kernel_rfl) hv h
  obtain ⟨i0, e0, _, _⟩ := DataW.trod_int Try.underlying3 h0
  obtain ⟨i1, e1, _, _⟩ := DataW.trod_int Try.underlying3 h1
  obtain rfl : v0 = .int .i64 i0 := by simpa using e0
  obtain rfl : v1 = .int .i64 i1 := by simpa using e1
  obtain ⟨A2, c2, l2, rfl, hl2, hC2⟩ := bytes_of h2
  exact ⟨i0, i1, A2, c2, l2, rfl, V_of (Kd.heap_int .u8) hl2 hC2 5⟩
end
end Go.Proofs.Ythlehlbokaeigaa.Q
