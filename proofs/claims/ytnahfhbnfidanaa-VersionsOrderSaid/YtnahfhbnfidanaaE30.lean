import Derived.Test.YtnahfhbnfidanaaQ0
import Derived.WalkKit
import Derived.ProofKit
import Derived.OpenShut
import Derived.Lib.SmallJoins
import Derived.Deep.Slices
import Derived.Deep.Fields
import Derived.ChangeSame
import Derived.ChangeOld
namespace Go.Proofs.Ytnahfhbnfidanaa.Q
open Go.RowKit Go.ChangeShapes Go.WideShapes Go.Deep Go.Joins Go.ChangeAt Go.Proofs.YtnahfhbnfidanaaW.PrintWords
set_option linter.unusedVariables false
set_option linter.unusedSimpArgs false
/-- A row, told element by element. -/
theorem row_of {α : Type} {K : α → List Value → Prop} {sz : Nat} {w : World} {a : Addr} : ∀ (len : Nat), len ≤ 9223372036854775807 → (∀ i, i < len → ∃ x c, c.length = sz ∧ K x c ∧ ∀ j u, c[j]? = some u → w.cell? (a.add (i * sz + j)) = some u) → ∃ xs, ReadsRow K sz w (some a) len xs := by
  intro len hl h
  suffices h2 : ∀ m, m ≤ len → ∃ xs : List α, xs.length = m ∧ ∀ j p, xs[j]? = some p → ∃ c, c.length = sz ∧ K p c ∧ ∀ i u, c[i]? = some u → w.cell? (a.add (j * sz + i)) = some u by
    obtain ⟨xs, h3, h4⟩ := h2 len (Nat.le_refl _)
    exact ⟨xs, h3, hl, fun _ => ⟨a, rfl, h4⟩⟩
  intro m
  induction m with
  | zero => exact fun _ => ⟨[], rfl, fun j p hj => by simp at hj⟩
  | succ m ih =>
    intro hm
    obtain ⟨xs, h3, h4⟩ := ih (by omega)
    obtain ⟨x, c, h5, h6, h7⟩ := h m (by omega)
    refine ⟨xs ++ [x], by simp [h3], fun j p hj => ?_⟩
    rcases Nat.lt_or_ge j xs.length with hlt | hge
    · rw [List.getElem?_append_left hlt] at hj
      exact h4 j p hj
    · rw [List.getElem?_append_right hge] at hj
      have h0 : j - xs.length = 0 := by
        rcases Nat.eq_zero_or_pos (j - xs.length) with h0 | h0
        · exact h0
        · rw [List.getElem?_eq_none (by simp; omega)] at hj
          cases hj
      rw [h0] at hj
      obtain rfl := Option.some.inj hj
      obtain rfl : j = m := by omega
      exact ⟨c, h5, h6, h7⟩
section
variable {H : Type} {enc : TypeId × Value → H} {W : World} {fuel : Nat} {v : Value} {y : DataW H × List MemPlace}
theorem trod_struct6 {P : Program} {t : TypeId} {f0 f1 f2 f3 f4 f5 : Field} {cs : List Value} {x : DataW H × List MemPlace} (ht : P.underlying t = some (.struct #[f0, f1, f2, f3, f4, f5])) (h : DataW.trod enc P W 0 (fun _ => true) true fuel t cs = some x) :
    ∃ y0 y1 y2 y3 y4 y5 n, cs.length = P.cellsOf t ∧ DataW.trod enc P W 0 (fun _ => true) true n f0.type ((cs.drop f0.offset).take (P.cellsOf f0.type)) = some y0 ∧
      DataW.trod enc P W 0 (fun _ => true) true n f1.type ((cs.drop f1.offset).take (P.cellsOf f1.type)) = some y1 ∧ DataW.trod enc P W 0 (fun _ => true) true n f2.type ((cs.drop f2.offset).take (P.cellsOf f2.type)) = some y2 ∧
      DataW.trod enc P W 0 (fun _ => true) true n f3.type ((cs.drop f3.offset).take (P.cellsOf f3.type)) = some y3 ∧ DataW.trod enc P W 0 (fun _ => true) true n f4.type ((cs.drop f4.offset).take (P.cellsOf f4.type)) = some y4 ∧
      DataW.trod enc P W 0 (fun _ => true) true n f5.type ((cs.drop f5.offset).take (P.cellsOf f5.type)) = some y5 := by
  obtain ⟨xs, n, _, rfl, hl, hlen, hf⟩ := DataW.trod_struct ht h
  match xs, hlen with
  | [y0, y1, y2, y3, y4, y5], _ => exact ⟨y0, y1, y2, y3, y4, y5, n, hl, by simpa using hf 0 f0 rfl, by simpa using hf 1 f1 rfl, by simpa using hf 2 f2 rfl, by simpa using hf 3 f3 rfl, by simpa using hf 4 f4 rfl, by simpa using hf 5 f5 rfl⟩
/-- A struct of six cells, read. -/
theorem amend_cells {cs : List Value} {x : DataW H × List MemPlace} (h : DataW.trod enc Try.prog W 0 (fun _ => true) true fuel 24 cs = some x) :
    ∃ i0 i1 i2 i3 i4 : Int, ∃ b5 : Bool, cs = [.int .i64 i0, .int .i64 i1, .int .i64 i2, .int .i64 i3, .int .i64 i4, .bool b5] := by
  obtain ⟨y0, y1, y2, y3, y4, y5, n, hl, t0, t1, t2, t3, t4, t5⟩ := trod_struct6 Try.underlying24 h
  rw [show Try.prog.cellsOf 24 = 6 from by kernel_rfl] at hl
  match cs, hl with
  | [v0, v1, v2, v3, v4, v5], _ =>
    simp only [show Try.prog.cellsOf 3 = 1 from by kernel_rfl, show Try.prog.cellsOf 4 = 1 from by kernel_rfl, List.drop_zero, List.drop_succ_cons, List.take_succ_cons, List.take_zero] at t0 t1 t2 t3 t4 t5
    obtain ⟨i0, e0, _, _⟩ := DataW.trod_int Try.underlying3 t0
    obtain ⟨i1, e1, _, _⟩ := DataW.trod_int Try.underlying3 t1
    obtain ⟨i2, e2, _, _⟩ := DataW.trod_int Try.underlying3 t2
    obtain ⟨i3, e3, _, _⟩ := DataW.trod_int Try.underlying3 t3
    obtain ⟨i4, e4, _, _⟩ := DataW.trod_int Try.underlying3 t4
    obtain ⟨b5, e5, _⟩ := DataW.trod_bool Try.underlying4 t5
    simp only [List.cons.injEq, and_true] at e0 e1 e2 e3 e4 e5
    subst e0 e1 e2 e3 e4 e5
    exact ⟨i0, i1, i2, i3, i4, b5, rfl⟩
/-- A row of amendments. -/
theorem amends_of (h : DataW.trod enc Try.prog W 0 (fun _ => true) true fuel 22 [v] = some y) : ∃ A c, ∃ l : List S24, v = .slice A l.length c ∧ l.length ≤ c ∧ Kd.C k24 W A l.length l := by
  rcases open_slice Try.underlying22 h with ⟨hc, _⟩ | ⟨a, len, cap, m, n, D, Pl, hc, _, hl, hm, hmm, _, hel⟩
  · obtain rfl : v = .slice none 0 0 := by simpa using hc
    exact ⟨none, 0, [], rfl, Nat.le_refl _, Kd.C_nil _ _⟩
  · obtain rfl : v = .slice (some a) len cap := by simpa using hc
    have hmm' : m = cap := by simpa using hmm
    obtain ⟨xs, hx⟩ := row_of (K := k24.K W) (sz := 6) (w := W) (a := a) len (by unfold maxLen at hm; omega) (fun i hi => by
      obtain ⟨cs, hcs, ht⟩ := hel i (by omega)
      rw [show Try.prog.cellsOf 24 = 6 from by kernel_rfl] at hcs
      obtain ⟨_, hcl, hat⟩ := World.cells?_some hcs
      obtain ⟨i0, i1, i2, i3, i4, b5, rfl⟩ := amend_cells ht
      refine ⟨(⟨i0, i1, i2, i3, i4, b5⟩ : S24), [.int .i64 i0, .int .i64 i1, .int .i64 i2, .int .i64 i3, .int .i64 i4, .bool b5], rfl, ⟨[.int .i64 i0], [.int .i64 i1, .int .i64 i2, .int .i64 i3, .int .i64 i4, .bool b5], rfl, rfl, ⟨[.int .i64 i1], [.int .i64 i2, .int .i64 i3, .int .i64 i4, .bool b5], rfl, rfl, ⟨[.int .i64 i2], [.int .i64 i3, .int .i64 i4, .bool b5], rfl, rfl, ⟨[.int .i64 i3], [.int .i64 i4, .bool b5], rfl, rfl, ⟨[.int .i64 i4], [.bool b5], rfl, rfl, rfl⟩⟩⟩⟩⟩, fun j u hu => ?_⟩
      have hj : j < 6 := by
        have := (List.getElem?_eq_some_iff.1 hu).1
        simpa using this
      rw [← hu, ← hat j hj, Go.Deep.add_add])
    have hlen : xs.length = len := hx.1
    subst hlen
    exact ⟨some a, cap, xs, rfl, hl, hx⟩
/-- A row of bytes. -/
theorem bytes_of {t : TypeId} (hu : Try.prog.underlying t = some (.slice 5)) (h : DataW.trod enc Try.prog W 0 (fun _ => true) true fuel t [v] = some y) : ∃ A c, ∃ l : List Int, v = .slice A l.length c ∧ l.length ≤ c ∧ Kd.C (Kd.int .u8) W A l.length l ∧ l.length ≤ maxLen ∧ ∀ x ∈ l, 0 ≤ x ∧ x < 256 := by
  rcases open_ints hu Try.underlying5 (by kernel_rfl) h with ⟨hc, _⟩ | ⟨a, len, cap, zs, hc, _, hl, hm, hz, _, hcell, hwz⟩
  · obtain rfl : v = .slice none 0 0 := by simpa using hc
    exact ⟨none, 0, [], rfl, Nat.le_refl _, Kd.C_nil _ _, by simp, by simp⟩
  · obtain rfl : v = .slice (some a) len cap := by simpa using hc
    have hz' : zs.length = cap := by simpa using hz
    have hlen : (zs.take len).length = len := by rw [List.length_take]; omega
    refine ⟨some a, cap, zs.take len, by rw [hlen], by rw [hlen]; exact hl, ?_, by omega, ?_⟩
    · rw [hlen]
      refine ⟨hlen, by unfold maxLen at hm; omega, fun _ => ⟨a, rfl, fun j x hj => ⟨[.int .u8 x], rfl, rfl, fun i u hu => ?_⟩⟩⟩
      match i, hu with
      | 0, hu =>
        obtain rfl := Option.some.inj hu
        have hjl : j < (zs.take len).length := (List.getElem?_eq_some_iff.1 hj).1
        have hj2 : j < zs.length := by rw [List.length_take] at hjl; omega
        have hx : zs.getD j 0 = x := by
          rw [List.getElem?_take, if_pos (by omega)] at hj
          rw [List.getD_eq_getElem?_getD, hj]; rfl
        have h1 := hcell j hj2
        rw [hx] at h1
        show W.cell? (a.add (j * 1 + 0)) = _
        rw [Nat.mul_one, Nat.add_zero]
        exact h1
    · intro x hx
      have hw := hwz x (List.mem_of_mem_take hx)
      simp [Lit.wf, IntKind.min, IntKind.max, IntKind.bits, IntKind.signed] at hw
      omega
/-- The arguments. -/
theorem amendsArg {d : DataW H} {ps : List MemPlace} {r : Reach} {b0 : Nat} (hu : Try.prog.underlying 22 = some (.slice 24)) (hv : Value.okWide Try.prog W r b0 22 v) (h : DataW.Trod enc Try.prog W 0 (fun _ => true) true 22 v d ps) :
    ∃ A c, ∃ l : List S24, v = .slice A l.length c ∧ l.length ≤ c ∧ Kd.C k24 W A l.length l := by
  obtain ⟨a, len, cap, rfl⟩ := okWide_slice hu hv
  obtain ⟨fuel, hf⟩ := h
  exact amends_of (by simpa [Value.cells] using hf)
theorem bytesArg {t : TypeId} {d : DataW H} {ps : List MemPlace} {r : Reach} {b0 : Nat} (hu : Try.prog.underlying t = some (.slice 5)) (hv : Value.okWide Try.prog W r b0 t v) (h : DataW.Trod enc Try.prog W 0 (fun _ => true) true t v d ps) :
    ∃ A c, ∃ l : List Int, v = .slice A l.length c ∧ l.length ≤ c ∧ Kd.C (Kd.int .u8) W A l.length l ∧ l.length ≤ maxLen ∧ ∀ x ∈ l, 0 ≤ x ∧ x < 256 := by
  obtain ⟨a, len, cap, rfl⟩ := okWide_slice hu hv
  obtain ⟨fuel, hf⟩ := h
  exact bytes_of hu (by simpa [Value.cells] using hf)
theorem amendArg {d : DataW H} {ps : List MemPlace} {r : Reach} {b0 : Nat} (hv : Value.okWide Try.prog W r b0 24 v) (h : DataW.Trod enc Try.prog W 0 (fun _ => true) true 24 v d ps) :
    ∃ x : S24, v = .agg #[.int .i64 x.f0, .int .i64 x.f1, .int .i64 x.f2, .int .i64 x.f3, .int .i64 x.f4, .bool x.f5] := by
  obtain ⟨cs, rfl, hsz⟩ := okWide_struct Try.underlying24 hv
  obtain ⟨fuel, hf⟩ := h
  obtain ⟨i0, i1, i2, i3, i4, b5, he⟩ := amend_cells hf
  have hc : cs = #[.int .i64 i0, .int .i64 i1, .int .i64 i2, .int .i64 i3, .int .i64 i4, .bool b5] := by
    have : cs.toList = _ := he
    exact Array.toList_inj.1 this
  exact ⟨⟨i0, i1, i2, i3, i4, b5⟩, by rw [hc]⟩
end
end Go.Proofs.Ytnahfhbnfidanaa.Q
