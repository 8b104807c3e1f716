-- Written by wip/tools/extprint.py of this repo (a program of this claim's own, over the kit's printer) out of the translation; Lean checks it.
import Derived.Test.YtnahfhbnfidanaaQ0
import Derived.Test.YtnahfhbnfidanaaQ3
import Derived.Test.YtnahfhbnfidanaaQ4
import Derived.Test.YtnahfhbnfidanaaQ10
namespace Go.Proofs.Ytnahfhbnfidanaa.Q
open Go.RowKit Go.Proofs.YtnahfhbnfidanaaW.PrintWords Go.Proofs.YtnahfhbnfidanaaW.PrintLast Go.Proofs.YtnahfhbnfidanaaW.PrintMore
attribute [local go_sem] max2_int min2_int max_two min_two max_three min_three max_four min_four   -- for this text's walks alone
set_option linter.unusedVariables false
set_option linter.unusedSimpArgs false

section
open Go.Shelf
section
attribute [local go_sem] Oper.semAt_some
/-- Is an amendment one of this key, and known at this time. -/
def isKnown (key time : Int) (x : S24) : Bool := x.f3 == key && decide (x.f2 ≤ time)
/-- The amendments of a key that are known at a time. -/
def pick (key time : Int) (xs : List S24) : List S24 := xs.filter (isKnown key time)
theorem pick_snoc (key time : Int) (xs : List S24) (x : S24) : pick key time (xs ++ [x]) = pick key time xs ++ (if isKnown key time x = true then [x] else []) := by
  unfold pick
  rw [List.filter_append]
  by_cases h : isKnown key time x = true <;> simp [List.filter_cons, h]
theorem rd24_at (q : List S24) (i : Nat) (h : i < q.length) : rd_T24 q (i : Int) = q[i] := by unfold rd_T24; simp [List.getD_eq_getElem?_getD, h]
theorem take_rd (xs : List S24) (i : Nat) (h : i < xs.length) : xs.take (i + 1) = xs.take i ++ [rd_T24 xs (i : Int)] := by
  rw [rd24_at xs i h, List.take_succ_eq_append_getElem h]
theorem i64_succ (n : Nat) (h : n < 4611686018427387904) : IntKind.i64.wrap ((n : Int) + 1) = ((n + 1 : Nat) : Int) := by rw [i64_w]; unfold wrap64; omega
abbrev ag24 (x : S24) : Value := .agg #[.int .i64 x.f0, .int .i64 x.f1, .int .i64 x.f2, .int .i64 x.f3, .int .i64 x.f4, .bool x.f5]
set_option maxRecDepth 100000 in
set_option maxHeartbeats 4000000 in
theorem known1_in (n : Nat) (hn : 3 ≤ n) (l n₀ B1 B2 B3 : Nat) (A : Option Addr) (c : Nat) (xs : List S24) (key time : Int) (J Jx : List S24 → World → Prop) (w : World)
    (h1 : w.cell? ⟨B1, 0, none⟩ = some (.slice A xs.length c)) (h2 : w.cell? ⟨B2, 0, none⟩ = some (.int .i64 key)) (h3 : w.cell? ⟨B3, 0, none⟩ = some (.int .i64 time))
    (n1 : B1 < n₀) (n2 : B2 < n₀) (n3 : B3 < n₀) (hC : ∀ W', Below n₀ w W' → Kd.C k24 W' A xs.length xs) (hl : xs.length ≤ 1000000)
    (W : World) (hJ : AbidesFrom W.heap.size J)
    (hY : ∀ pre x W1, J pre W1 → pre.length < 1000001 → YieldAt Fence.wide (n - 1) Try.prog l #[ag24 x] W1 fun e W' =>
      (e = .returned (.bool true) ∧ J (pre ++ [x]) W' ∧ Below n₀ W1 W') ∨ (e = .returned (.bool false) ∧ Jx (pre ++ [x]) W'))
    (hW : Below n₀ w W) (hn1 : n₀ ≤ W.heap.size) (h0 : J [] W) :
    CallsIn Fence.wide n Try.prog 42 #[.func (.yield l) #[] #[], .pointer (some ⟨B1, 0, none⟩), .pointer (some ⟨B2, 0, none⟩), .pointer (some ⟨B3, 0, none⟩)] W fun e W' => (∃ v, e = .returned v) ∧
      ((∃ ys, ys = pick key time xs ∧ J ys W') ∨ (∃ pre, True ∧ Jx pre W')) := by
  have h1n : 1 ≤ n := by omega
  have b1 := (hW.cell (p := ⟨B1, 0, none⟩) n1).trans h1
  refine callsIn_of_wp Try.func42 rfl trivial ?_ rfl
  simp only [Try.ntmps42, List.size_toArray, List.length_cons, List.length_nil, Nat.reduceAdd, Nat.reduceSub, Array.replicate_succ, Array.replicate_zero, List.push_toArray, List.append_toArray, List.nil_append, List.cons_append]
  gi_wp2
  clear b1
  gi_loopw [9] (fun v wr => ∃ i : Nat, i ≤ xs.length ∧ v = .int .i64 i ∧ J (pick key time (xs.take i)) wr ∧ Below n₀ w wr ∧ W.heap.size ≤ wr.heap.size) (fun v _ => xs.length - (intOf v).toNat)
  case atStart =>
    exact ⟨0, by omega, rfl, by simpa [pick] using h0, hW, Nat.le_refl _⟩
  case round =>
    obtain ⟨i, hi, rfl, hJi, hKi, hsi⟩ := hrel
    by_cases hlt : i < xs.length
    · have hlt' : ((i : Int) < (xs.length : Int)) := by omega
      have hi0 : (0 : Int) ≤ (i : Int) := by omega
      have hnr : n₀ ≤ wr.heap.size := Nat.le_trans hn1 hsi
      obtain ⟨ad, hA, e0, e1, e2, e3, e4, e5⟩ := at_T24 (hC wr hKi) (i : Int) hi0 hlt'
      subst hA
      have hsn := pick_snoc key time (xs.take i) (rd_T24 xs (i : Int))
      rw [← take_rd xs i hlt] at hsn
      obtain ⟨x, hx⟩ : ∃ x, x = rd_T24 xs (i : Int) := ⟨_, rfl⟩
      rw [← hx] at e0 e1 e2 e3 e4 e5 hsn
      rw [Int.toNat_natCast] at e0 e1 e2 e3 e4 e5
      clear hx
      have HS : Aside0 (pick key time (xs.take (i + 1)) = pick key time (xs.take i) ++ (if isKnown key time x = true then [x] else [])) := ⟨hsn⟩
      clear hsn
      have hbA : Below wr.heap.size wr (wr.alloc (.cells #[.int .i64 x.f0, .int .i64 x.f1, .int .i64 x.f2, .int .i64 x.f3, .int .i64 x.f4, .bool x.f5] 24)) := (Below.refl _ wr).alloc (Nat.le_refl _) _
      have a2 := (hbA.cell (p := ⟨B2, 0, none⟩) (show B2 < wr.heap.size by omega)).trans ((hKi.cell (p := ⟨B2, 0, none⟩) n2).trans h2)
      have a3 := (hbA.cell (p := ⟨B3, 0, none⟩) (show B3 < wr.heap.size by omega)).trans ((hKi.cell (p := ⟨B3, 0, none⟩) n3).trans h3)
      have hJA := hJ _ wr _ none hJi (grown_of_below hbA none) (fun _ e => by cases e)
      have hKA : Below n₀ w (wr.alloc (.cells #[.int .i64 x.f0, .int .i64 x.f1, .int .i64 x.f2, .int .i64 x.f3, .int .i64 x.f4, .bool x.f5] 24)) := hKi.trans (hbA.mono hnr)
      have hsA : W.heap.size ≤ (wr.alloc (.cells #[.int .i64 x.f0, .int .i64 x.f1, .int .i64 x.f2, .int .i64 x.f3, .int .i64 x.f4, .bool x.f5] 24)).heap.size := Nat.le_trans hsi hbA.size
      have hlen : (pick key time (xs.take i)).length < 1000001 := by
        have := List.length_filter_le (isKnown key time) (xs.take i)
        rw [List.length_take] at this
        unfold pick
        omega
      by_cases hk : (x.f3 == key) = true
      · by_cases ht : x.f2 ≤ time
        · have ht1 : decide (x.f2 ≤ time) = true := decide_eq_true ht
          have hb : isKnown key time x = true := by unfold isKnown; rw [hk, ht1]; rfl
          rw [if_pos hb] at HS
          obtain ⟨fn, tmps, assign, body, hy, hR⟩ := hY _ x _ hJA hlen
          try dsimp only at hy
          gi_wp2
          refine hR.mono ?_
          rintro e W3 (⟨rfl, hJ3, hk3⟩ | ⟨rfl, hJx3⟩)
          · gi_wp2
            go_roundw
            case rel => exact ⟨i + 1, by omega, by simp, by rw [HS.out]; exact hJ3, hKA.trans hk3, Nat.le_trans hsA hk3.size⟩
            case measure => dsimp only [intOf]; omega
          · gi_wp2
            refine bodyPost_ret (results_none rfl _ _ _) rfl ?_
            exact ⟨⟨_, rfl⟩, .inr ⟨_, trivial, hJx3⟩⟩
        · have ht1 : decide (x.f2 ≤ time) = false := decide_eq_false ht
          have hb : isKnown key time x = false := by unfold isKnown; rw [ht1, Bool.and_false]
          rw [if_neg (by rw [hb]; decide)] at HS
          gi_wp2
          refine ⟨fun _ h => (by cases h), ?_⟩
          gi_wp2
          go_roundw
          case rel => exact ⟨i + 1, by omega, by simp, by rw [HS.out, List.append_nil]; exact hJA, hKA, hsA⟩
          case measure => dsimp only [intOf]; omega
      · have hk1 : (x.f3 == key) = false := by simpa using hk
        have hb : isKnown key time x = false := by unfold isKnown; rw [hk1, Bool.false_and]
        rw [if_neg (by rw [hb]; decide)] at HS
        gi_wp2
        refine ⟨fun _ h => (by cases h), ?_⟩
        gi_wp2
        go_roundw
        case rel => exact ⟨i + 1, by omega, by simp, by rw [HS.out, List.append_nil]; exact hJA, hKA, hsA⟩
        case measure => dsimp only [intOf]; omega
    · gi_wp2
      go_end0
      have he : xs.take i = xs := List.take_of_length_le (by omega)
      rw [he] at hJi
      exact ⟨⟨_, rfl⟩, .inl ⟨_, rfl, hJi⟩⟩
theorem known_calls (A : Option Addr) (m c : Nat) (key time : Int) (w : World) :
    Calls Try.prog 32 #[.slice A m c, .int .i64 key, .int .i64 time] w fun e w' => ∃ b1 b2 b3 : Nat, e = .returned (.func (.func 42) #[] #[.pointer (some ⟨b1, 0, none⟩), .pointer (some ⟨b2, 0, none⟩), .pointer (some ⟨b3, 0, none⟩)]) ∧
      (w.heap.size ≤ b1 ∧ b1 < w'.heap.size ∧ w'.cell? ⟨b1, 0, none⟩ = some (.slice A m c)) ∧ (w.heap.size ≤ b2 ∧ b2 < w'.heap.size ∧ w'.cell? ⟨b2, 0, none⟩ = some (.int .i64 key)) ∧
      (w.heap.size ≤ b3 ∧ b3 < w'.heap.size ∧ w'.cell? ⟨b3, 0, none⟩ = some (.int .i64 time)) ∧ Below w.heap.size w w' := by
  go_enter Try.func32, Try.ntmps32
  go_wp2
  go_ret
  have hb1 : Below w.heap.size w (w.alloc (.cells #[.slice A m c] 22)) := (Below.refl _ w).alloc (Nat.le_refl _) _
  have q3 := World.alloc_heap_new w (.cells #[.slice A m c] 22)
  generalize hw1 : w.alloc (.cells #[.slice A m c] 22) = w1 at *
  have hs1 : w1.heap.size = w.heap.size + 1 := by rw [← hw1]; simp
  have hb2 : Below w1.heap.size w1 (w1.alloc (.cells #[.int .i64 key] 3)) := (Below.refl _ w1).alloc (Nat.le_refl _) _
  have q4 := World.alloc_heap_new w1 (.cells #[.int .i64 key] 3)
  generalize hw2 : w1.alloc (.cells #[.int .i64 key] 3) = w2 at *
  have hs2 : w2.heap.size = w1.heap.size + 1 := by rw [← hw2]; simp
  have hb3 : Below w2.heap.size w2 (w2.alloc (.cells #[.int .i64 time] 3)) := (Below.refl _ w2).alloc (Nat.le_refl _) _
  have q5 := World.alloc_heap_new w2 (.cells #[.int .i64 time] 3)
  generalize hw3 : w2.alloc (.cells #[.int .i64 time] 3) = w3 at *
  have hs3 : w3.heap.size = w2.heap.size + 1 := by rw [← hw3]; simp
  replace q4 := (hb3.block _ (by omega)).trans q4
  replace q3 := (hb3.block _ (by omega)).trans ((hb2.block _ (by omega)).trans q3)
  exact ⟨w.heap.size, w1.heap.size, w2.heap.size, by rw [hs2, hs1]; rfl, ⟨by omega, by omega, (blk_cell q3 0).trans rfl⟩, ⟨by omega, by omega, (blk_cell q4 0).trans rfl⟩, ⟨by omega, by omega, (blk_cell q5 0).trans rfl⟩,
    (hb1.trans (hb2.mono (by omega))).trans (hb3.mono (by omega))⟩
theorem known_stops (d n₀ B1 B2 B3 : Nat) (hd : 3 ≤ d) (A : Option Addr) (c : Nat) (xs : List S24) (key time : Int) (w : World)
    (h1 : w.cell? ⟨B1, 0, none⟩ = some (.slice A xs.length c)) (h2 : w.cell? ⟨B2, 0, none⟩ = some (.int .i64 key)) (h3 : w.cell? ⟨B3, 0, none⟩ = some (.int .i64 time))
    (n1 : B1 < n₀) (n2 : B2 < n₀) (n3 : B3 < n₀) (hn : n₀ ≤ w.heap.size) (hC : ∀ W', Below n₀ w W' → Kd.C k24 W' A xs.length xs) (hl : xs.length ≤ 1000000) :
    SeqStopsK Fence.wide d Try.prog 42 #[.pointer (some ⟨B1, 0, none⟩), .pointer (some ⟨B2, 0, none⟩), .pointer (some ⟨B3, 0, none⟩)] (fun x : S24 => #[ag24 x]) (Below n₀) (fun ys => ys = pick key time xs) (fun _ => True) 1000001 w :=
  fun l J Jx W hW hJ _ hY h0 => known1_in d hd l n₀ B1 B2 B3 A c xs key time J Jx w h1 h2 h3 n1 n2 n3 hC hl W hJ hY (hW.mono hn) (Nat.le_trans hn hW.size) h0
end
end
section
open Go.Shelf
section
/-- The order of amendments: by At, then by No. -/
def atLt (x y : S24) : Bool := decide (x.f1 < y.f1) || (decide (x.f1 = y.f1) && decide (x.f0 < y.f0))
def atCmp (x y : S24) : Int := if x.f1 < y.f1 then -1 else if y.f1 < x.f1 then 1 else if x.f0 < y.f0 then -1 else if y.f0 < x.f0 then 1 else 0
theorem atCmp_lt (x y : S24) : decide (atCmp x y < 0) = atLt x y := by
  unfold atCmp atLt
  by_cases h1 : x.f1 < y.f1
  · simp [h1]
  · by_cases h2 : y.f1 < x.f1
    · have h3 : ¬ x.f1 = y.f1 := by omega
      simp [h1, h2, h3]
    · have h3 : x.f1 = y.f1 := by omega
      by_cases h4 : x.f0 < y.f0
      · simp [h1, h2, h3, h4]
      · by_cases h5 : y.f0 < x.f0 <;> simp [h1, h2, h3, h4, h5]
theorem compare_eq (a b : Int) : cmp_Compare_int.f a b = some (if a < b then -1 else if b < a then 1 else 0) := by
  unfold cmp_Compare_int.f cmp_isNaN_int.f
  simp only [bne_self_eq_false, Option.bind_some, Bool.false_eq_true, if_false]
  by_cases h : a < b
  · rw [if_pos h, if_pos h]
  · rw [if_neg h, if_neg h]
    by_cases h2 : b < a
    · rw [if_pos h2, if_pos h2]
    · rw [if_neg h2, if_neg h2]
theorem byAt_eq (x y : S24) : versions_byAt.f 4 x.f0 x.f1 x.f2 x.f3 x.f4 x.f5 y.f0 y.f1 y.f2 y.f3 y.f4 y.f5 = some (atCmp x y) := by
  unfold versions_byAt.f cmp_Or_int.f
  rw [compare_eq, compare_eq]
  have w1 : wrap64 (0 + 1) = 1 := by unfold wrap64; omega
  have w2 : wrap64 (1 + 1) = 2 := by unfold wrap64; omega
  simp only [Option.bind_some, cmp_Or_int.l0, List.length_cons, List.length_nil, rd, w1, w2]
  unfold atCmp
  by_cases h1 : x.f1 < y.f1
  · simp [h1]
  · by_cases h2 : y.f1 < x.f1
    · simp [h1, h2]
    · by_cases h4 : x.f0 < y.f0
      · simp [h1, h2, h4]
      · by_cases h5 : y.f0 < x.f0 <;> simp [h1, h2, h4, h5]
theorem byAt_calls (x y : S24) (w : World) : Calls Try.prog 34 #[ag24 x, ag24 y] w fun e w' => e = .returned (.int .i64 (atCmp x y)) ∧ Below w.heap.size w w' :=
  versions_byAt.calls 4 x.f0 x.f1 x.f2 x.f3 x.f4 x.f5 y.f0 y.f1 y.f2 y.f3 y.f4 y.f5 (atCmp x y) w (byAt_eq x y)
theorem okAt_calls (b : Nat) (at_ : Int) (y : S24) (w : World) (h : w.cell? ⟨b, 0, none⟩ = some (.int .i64 at_)) (hb : b < w.heap.size) :
    Calls Try.prog 33 #[ag24 y, .pointer (some ⟨b, 0, none⟩)] w fun e w' => e = .returned (.bool (decide (y.f1 ≤ at_))) ∧ Below w.heap.size w w' := by
  have hbA : Below w.heap.size w (w.alloc (.cells #[.int .i64 y.f0, .int .i64 y.f1, .int .i64 y.f2, .int .i64 y.f3, .int .i64 y.f4, .bool y.f5] 24)) := (Below.refl _ w).alloc (Nat.le_refl _) _
  have a2 := (hbA.cell (p := ⟨b, 0, none⟩) hb).trans h
  go_enter Try.func33, Try.ntmps33
  go_wp2
  go_ret
  exact ⟨rfl, hbA⟩
/-- The greatest so far. -/
def gre (at_ : Int) (acc : Option S24) (y : S24) : Option S24 :=
  if decide (y.f1 ≤ at_) = true then (match acc with
    | none => some y
    | some x => if atLt x y = true then some y else some x) else acc
def great (at_ : Int) (l : List S24) : Option S24 := l.foldl (gre at_) none
theorem great_snoc (at_ : Int) (l : List S24) (y : S24) : great at_ (l ++ [y]) = gre at_ (great at_ l) y := by unfold great; rw [List.foldl_append]; rfl
/-- What is stored is what lies there. -/
theorem set_same {w : World} {g i : Nat} {v : Value} (h : w.cell? ⟨g, i, none⟩ = some v) : w.setCell ⟨g, i, none⟩ v = w := by
  obtain ⟨heap, tape, drawn, os, output⟩ := w
  unfold World.cell? at h
  unfold World.setCell
  simp only [Option.isSome_none, Bool.false_eq_true, if_false, ite_false] at h ⊢
  congr 1
  apply Array.ext
  · simp
  · intro j h1 h2
    rw [Array.getElem_modify]
    split
    · rename_i hj
      subst hj
      simp only [Array.getElem?_eq_getElem h2] at h
      split
      · rename_i c e f hc
        simp only [hc] at h
        refine Eq.trans ?_ hc.symm
        rw [Obj.cells.injEq]
        refine ⟨?_, rfl, rfl⟩
        apply Array.ext
        · simp
        · intro k k1 k2
          rw [Array.getElem_setIfInBounds]
          split
          · rename_i hk
            subst hk
            rw [Array.getElem?_eq_getElem k2] at h
            exact (Option.some.inj h).symm
          · rfl
      · rfl
    · rfl
theorem results_cb {P : Program} {fn : Func} {p p' : Tmp} {ty ty' : TypeId} (h : fn.results = #[.cell p ty, .cell p' ty']) (tmps : Array Value) (w : World) (g g' : Nat) (t : TypeId) (cs : Array Value) (fr : Nat × Nat) (d : TypeDesc) (v : Value)
    (hp : tmps.getD p undef = .pointer (some ⟨g, 0, none⟩)) (hg : w.heap[g]? = some (.cells cs t fr))
    (hu : P.underlying ty = some d) (hd : (match d with | .struct _ | .array _ _ => true | _ => false) = true) (hi : (P.info? ty).map (·.size) = some cs.size)
    (hp' : tmps.getD p' undef = .pointer (some ⟨g', 0, none⟩)) (hl : (loadVar ty' ⟨g', 0, none⟩).run P w = .ok v w) :
    (results fn tmps).run P w = .ok (.tuple #[.agg cs, v]) w := by
  have h1 : tmps[p]?.getD undef = .pointer (some ⟨g, 0, none⟩) := by simpa using hp
  have h2 : tmps[p']?.getD undef = .pointer (some ⟨g', 0, none⟩) := by simpa using hp'
  simp [results, h, h1, h2, asAddr, run_loadVar_row w g t ty cs fr d hg hu hd hi, hl]
theorem load_bool (w : World) (g : Nat) (b : Bool) (h : w.cell? ⟨g, 0, none⟩ = some (.bool b)) : (loadVar 4 ⟨g, 0, none⟩).run Try.prog w = .ok (.bool b) w := by
  go_simp
attribute [local go_sem] Oper.semAt_some
/-- What lies in the boxes of greatest between two rounds. -/
def GI (w0 : World) (Nn bA X Fd Bo Bl : Nat) (at_ : Int) (pre : List S24) (W : World) : Prop :=
  W.heap[X]? = some (.cells #[.int .i64 ((great at_ pre).getD z24).f0, .int .i64 ((great at_ pre).getD z24).f1, .int .i64 ((great at_ pre).getD z24).f2, .int .i64 ((great at_ pre).getD z24).f3, .int .i64 ((great at_ pre).getD z24).f4, .bool ((great at_ pre).getD z24).f5] 24 (0, 0)) ∧
  W.heap[Fd]? = some (.cells #[.bool (great at_ pre).isSome] 4 (0, 0)) ∧
  W.heap[Bo]? = some (.cells #[.func (.func 33) #[] #[.pointer (some ⟨bA, 0, none⟩)]] 50 (0, 0)) ∧
  W.heap[Bl]? = some (.cells #[.func (.func 34) #[] #[]] 49 (0, 0)) ∧
  Below w0.heap.size w0 W ∧ Nn ≤ W.heap.size
theorem blk_own {W W1 : World} {row : Option Nat} {g : Nat} {cs : Array Value} {t : TypeId} {fr : Nat × Nat} (h : W.heap[g]? = some (.cells cs t fr)) (hg : W.grownBy W1 row) (hr : ∀ r, row = some r → ∃ o : Obj, W.heap[r]? = some o ∧ o.isCells = false) : W1.heap[g]? = some (.cells cs t fr) :=
  (hg.block g (Array.getElem?_eq_some_iff.1 h).1 (fun e => by
    obtain ⟨o, ho, hc⟩ := hr g e.symm
    rw [h] at ho
    cases ho
    cases hc)).trans h
theorem GI.own {w0 : World} {Nn bA X Fd Bo Bl : Nat} {at_ : Int} {B : Nat} (hB : w0.heap.size ≤ B) : OwnFrom B (GI w0 Nn bA X Fd Bo Bl at_) := by
  rintro pre A B' row ⟨h1, h2, h3, h4, h5, h6⟩ hg hr
  have hr' : ∀ r, row = some r → ∃ o : Obj, A.heap[r]? = some o ∧ o.isCells = false := fun r e => (hr r e).2
  exact ⟨blk_own h1 hg hr', blk_own h2 hg hr', blk_own h3 hg hr', blk_own h4 hg hr', h5.grown hg h5.size (fun k e => Nat.le_trans hB (hr k e).1), Nat.le_trans h6 hg.size⟩
theorem keepsF_below {B : Nat} {W W' : World} (h : Below W.heap.size W W') : KeepsFrom B W W' := ⟨h.size, fun k o _ ho _ => (h.block k (Array.getElem?_eq_some_iff.1 ho).1).trans ho⟩
theorem GI.later {w0 : World} {Nn bA X Fd Bo Bl : Nat} {at_ : Int} {pre : List S24} {W W' : World} (h : GI w0 Nn bA X Fd Bo Bl at_ pre W) (hb : Below W.heap.size W W') : GI w0 Nn bA X Fd Bo Bl at_ pre W' :=
  ⟨blk_below h.1 hb, blk_below h.2.1 hb, blk_below h.2.2.1 hb, blk_below h.2.2.2.1 hb, h.2.2.2.2.1.trans (hb.mono h.2.2.2.2.1.size), Nat.le_trans h.2.2.2.2.2 hb.size⟩
/-- A round that finds a greater one. -/
theorem GI.stored {w0 : World} {Nn bA X Fd Bo Bl B : Nat} {at_ : Int} {pre : List S24} {x : S24} {W : World} (h : GI w0 Nn bA X Fd Bo Bl at_ pre W) (hg : gre at_ (great at_ pre) x = some x) (hX : w0.heap.size ≤ X) (hF : w0.heap.size ≤ Fd)
    (x1 : X ≠ Fd) (x2 : Bo ≠ X) (x3 : Bo ≠ Fd) (x4 : Bl ≠ X) (x5 : Bl ≠ Fd) {W2 : World}
    (e : W2 = ((((((W.setCell ⟨X, 0, none⟩ (.int .i64 x.f0)).setCell ⟨X, 1, none⟩ (.int .i64 x.f1)).setCell ⟨X, 2, none⟩ (.int .i64 x.f2)).setCell ⟨X, 3, none⟩ (.int .i64 x.f3)).setCell ⟨X, 4, none⟩ (.int .i64 x.f4)).setCell ⟨X, 5, none⟩ (.bool x.f5)).setCell ⟨Fd, 0, none⟩ (.bool true)) :
    KeepsFrom B W W2 ∧ Below w0.heap.size W W2 ∧ GI w0 Nn bA X Fd Bo Bl at_ (pre ++ [x]) W2 := by
  subst e
  obtain ⟨h1, h2, h3, h4, h5, h6⟩ := h
  have hb : ∀ W' : World, Below w0.heap.size W W' → ∀ (j : Nat) (v : Value), Below w0.heap.size W (W'.setCell ⟨X, j, none⟩ v) := fun W' h j v => h.setCell hX _
  have hbb := (hb _ (hb _ (hb _ (hb _ (hb _ (hb _ (Below.refl w0.heap.size W) 0 (.int .i64 x.f0)) 1 (.int .i64 x.f1)) 2 (.int .i64 x.f2)) 3 (.int .i64 x.f3)) 4 (.int .i64 x.f4)) 5 (.bool x.f5)).setCell (p := ⟨Fd, 0, none⟩) hF (.bool true)
  have hk : ∀ W' : World, KeepsOthers W W' → ∀ (a : Addr) (v : Value), KeepsOthers W (W'.setCell a v) := fun W' h a v => h.trans (KeepsOthers.setCell _ _ _)
  have far : ∀ {g : Nat} {cs : Array Value} {t : TypeId}, W.heap[g]? = some (.cells cs t (0, 0)) → g ≠ X → g ≠ Fd →
      (((((((W.setCell ⟨X, 0, none⟩ (.int .i64 x.f0)).setCell ⟨X, 1, none⟩ (.int .i64 x.f1)).setCell ⟨X, 2, none⟩ (.int .i64 x.f2)).setCell ⟨X, 3, none⟩ (.int .i64 x.f3)).setCell ⟨X, 4, none⟩ (.int .i64 x.f4)).setCell ⟨X, 5, none⟩ (.bool x.f5)).setCell ⟨Fd, 0, none⟩ (.bool true)).heap[g]? = some (.cells cs t (0, 0)) := fun hq k1 k2 =>
    blk_far (blk_far (blk_far (blk_far (blk_far (blk_far (blk_far hq (p := ⟨X, 0, none⟩) k1 _) (p := ⟨X, 1, none⟩) k1 _) (p := ⟨X, 2, none⟩) k1 _) (p := ⟨X, 3, none⟩) k1 _) (p := ⟨X, 4, none⟩) k1 _) (p := ⟨X, 5, none⟩) k1 _) (p := ⟨Fd, 0, none⟩) k2 _
  refine ⟨(hk _ (hk _ (hk _ (hk _ (hk _ (hk _ (hk _ (KeepsOthers.refl W) _ _) _ _) _ _) _ _) _ _) _ _) _ _).from _, hbb, ?_, ?_, far h3 x2 x3, far h4 x4 x5, h5.trans hbb, Nat.le_trans h6 hbb.size⟩
  · rw [great_snoc, hg]
    exact blk_far (blk_put (blk_put (blk_put (blk_put (blk_put (blk_put h1 0 _ rfl) 1 _ rfl) 2 _ rfl) 3 _ rfl) 4 _ rfl) 5 _ rfl) (p := ⟨Fd, 0, none⟩) x1 _
  · rw [great_snoc, hg]
    exact blk_put (blk_far (blk_far (blk_far (blk_far (blk_far (blk_far h2 (p := ⟨X, 0, none⟩) x1.symm _) (p := ⟨X, 1, none⟩) x1.symm _) (p := ⟨X, 2, none⟩) x1.symm _) (p := ⟨X, 3, none⟩) x1.symm _) (p := ⟨X, 4, none⟩) x1.symm _) (p := ⟨X, 5, none⟩) x1.symm _) 0 _ rfl
set_option maxRecDepth 100000 in
set_option maxHeartbeats 200000000 in
theorem greatest_calls (bA B1 B2 B3 : Nat) (A : Option Addr) (c : Nat) (xs : List S24) (key time at_ : Int) (w : World)
    (h1 : w.cell? ⟨B1, 0, none⟩ = some (.slice A xs.length c)) (h2 : w.cell? ⟨B2, 0, none⟩ = some (.int .i64 key)) (h3 : w.cell? ⟨B3, 0, none⟩ = some (.int .i64 time)) (hA : w.cell? ⟨bA, 0, none⟩ = some (.int .i64 at_))
    (n1 : B1 < w.heap.size) (n2 : B2 < w.heap.size) (n3 : B3 < w.heap.size) (nA : bA < w.heap.size) (hC : ∀ W', Below w.heap.size w W' → Kd.C k24 W' A xs.length xs) (hl : xs.length ≤ 1000000) :
    Calls Try.prog 31 #[.func (.func 42) #[] #[.pointer (some ⟨B1, 0, none⟩), .pointer (some ⟨B2, 0, none⟩), .pointer (some ⟨B3, 0, none⟩)], .func (.func 33) #[] #[.pointer (some ⟨bA, 0, none⟩)], .func (.func 34) #[] #[]] w fun e w' =>
      e = .returned (.tuple #[ag24 ((great at_ (pick key time xs)).getD z24), .bool (great at_ (pick key time xs)).isSome]) ∧ Below w.heap.size w w' := by
  refine (callsIn_wide (n := 9)).1 (callsIn_of_wp_marks (F := Fence.wide) Try.func31 rfl trivial (wpIn_wide.2 ?_) rfl)
  simp only [Try.ntmps31, List.size_toArray, List.length_cons, List.length_nil, Nat.reduceAdd, Nat.reduceSub, Array.replicate_succ, Array.replicate_zero, List.push_toArray, List.append_toArray, List.nil_append, List.cons_append]
  go_wp2
  rename_i K0_ hK0_
  obtain ⟨w1, hw1⟩ : ∃ w1, w.alloc (.cells #[.func (.func 33) #[] #[.pointer (some ⟨bA, 0, none⟩)]] 50) = w1 := ⟨_, rfl⟩
  obtain ⟨w2, hw2⟩ : ∃ w2, w1.alloc (.cells #[.func (.func 34) #[] #[]] 49) = w2 := ⟨_, rfl⟩
  obtain ⟨w3, hw3⟩ : ∃ w3, w2.alloc (.cells #[.int .i64 0, .int .i64 0, .int .i64 0, .int .i64 0, .int .i64 0, .bool false] 24) = w3 := ⟨_, rfl⟩
  obtain ⟨w4, hw4⟩ : ∃ w4, w3.alloc (.cells #[.bool false] 4) = w4 := ⟨_, rfl⟩
  have hs1 : w1.heap.size = w.heap.size + 1 := by rw [← hw1]; simp
  have hs2 : w2.heap.size = w1.heap.size + 1 := by rw [← hw2]; simp
  have hs3 : w3.heap.size = w2.heap.size + 1 := by rw [← hw3]; simp
  have hs4 : w4.heap.size = w3.heap.size + 1 := by rw [← hw4]; simp
  have q1 : w4.heap[w.heap.size]? = some (.cells #[.func (.func 33) #[] #[.pointer (some ⟨bA, 0, none⟩)]] 50 (0, 0)) := by
    rw [← hw4, ← hw3, ← hw2, ← hw1]; exact blk_alloc (blk_alloc (blk_alloc (World.alloc_heap_new w _) _) _) _
  have q2 : w4.heap[w1.heap.size]? = some (.cells #[.func (.func 34) #[] #[]] 49 (0, 0)) := by
    rw [← hw4, ← hw3, ← hw2]; exact blk_alloc (blk_alloc (World.alloc_heap_new w1 _) _) _
  have q3 : w4.heap[w2.heap.size]? = some (.cells #[.int .i64 0, .int .i64 0, .int .i64 0, .int .i64 0, .int .i64 0, .bool false] 24 (0, 0)) := by
    rw [← hw4, ← hw3]; exact blk_alloc (World.alloc_heap_new w2 _) _
  have q4 : w4.heap[w3.heap.size]? = some (.cells #[.bool false] 4 (0, 0)) := by
    rw [← hw4]; exact World.alloc_heap_new w3 _
  have hb4 : Below w.heap.size w w4 := by
    rw [← hw4, ← hw3, ← hw2, ← hw1]
    exact ((((Below.refl _ w).alloc (Nat.le_refl _) _).alloc (by simp) _).alloc (by simp; omega) _).alloc (by simp; omega) _
  obtain ⟨Bl, hBl⟩ : ∃ b, w1.heap.size = b := ⟨_, rfl⟩
  obtain ⟨X, hX⟩ : ∃ b, w2.heap.size = b := ⟨_, rfl⟩
  obtain ⟨Fd, hFd⟩ : ∃ b, w3.heap.size = b := ⟨_, rfl⟩
  rw [show w.heap.size + 1 + 1 + 1 = Fd by omega, show w.heap.size + 1 + 1 = X by omega, show w.heap.size + 1 = Bl by omega, hw1, hw2, hw3, hw4]
  rw [hBl] at q2
  rw [hX] at q3
  rw [hFd] at q4
  refine wpIn_wide.1 (wpIn_rangeFunc_ownH (F := Fence.wide) (n := 9) rfl (by omega) (gf := 42) (lb := #[.pointer (some ⟨B1, 0, none⟩), .pointer (some ⟨B2, 0, none⟩), .pointer (some ⟨B3, 0, none⟩)]) rfl trivial (enters_of Try.func42 (by kernel_rfl) rfl)
    (known_stops 8 w.heap.size B1 B2 B3 (by omega) A c xs key time w4 ((hb4.cell (p := ⟨B1, 0, none⟩) n1).trans h1) ((hb4.cell (p := ⟨B2, 0, none⟩) n2).trans h2) ((hb4.cell (p := ⟨B3, 0, none⟩) n3).trans h3) n1 n2 n3 (by omega) (fun W' hW' => hC W' (hb4.trans hW')) hl)
    belowK_t (belowK_b (by omega)) (Below.refl _ _) (fun _ => rfl)
    (GI w w4.heap.size bA X Fd w.heap.size Bl at_) (fun _ _ _ => False) (GI.own (by omega)) (fun _ _ _ _ _ hs _ _ => hs) ⟨q3, q4, q1, q2, hb4, Nat.le_refl _⟩
    (fun x a' W => ∃ Bx, w4.heap.size ≤ Bx ∧ W.heap[Bx]? = some (.cells #[.int .i64 x.f0, .int .i64 x.f1, .int .i64 x.f2, .int .i64 x.f3, .int .i64 x.f4, .bool x.f5] 24 (0, 0)) ∧ a' = ⟨#[.func (.func 42) #[] #[.pointer (some ⟨B1, 0, none⟩), .pointer (some ⟨B2, 0, none⟩), .pointer (some ⟨B3, 0, none⟩)], .func (.func 33) #[] #[.pointer (some ⟨bA, 0, none⟩)], .func (.func 34) #[] #[], undef, .pointer (some ⟨w.heap.size, 0, none⟩), .pointer (some ⟨Bl, 0, none⟩), .pointer (some ⟨X, 0, none⟩), .pointer (some ⟨Fd, 0, none⟩), .pointer (some ⟨Bx, 0, none⟩), .func (.func 42) #[] #[.pointer (some ⟨B1, 0, none⟩), .pointer (some ⟨B2, 0, none⟩), .pointer (some ⟨B3, 0, none⟩)], ag24 x, undef, undef, undef, undef, undef, undef, undef, undef, undef, undef, undef, undef, undef, undef, undef, undef, undef], []⟩)
    (fun x a' _ P Q row hs hg hr => by
      obtain ⟨Bx, h0, h1, h2⟩ := hs
      exact ⟨Bx, h0, blk_own h1 hg (fun r e => (hr r e).2), h2⟩)
    ?assign ?body ?done ?stop)
  case assign =>
    rintro l pre x W K hi hK
    gi_wp2
    have hba : Below W.heap.size W (W.alloc (.cells #[.int .i64 x.f0, .int .i64 x.f1, .int .i64 x.f2, .int .i64 x.f3, .int .i64 x.f4, .bool x.f5] 24)) := (Below.refl _ W).alloc (Nat.le_refl _) _
    exact hK _ _ (keepsF_below hba) (hba.mono hi.2.2.2.2.1.size) (hi.later hba) ⟨W.heap.size, hi.2.2.2.2.2, World.alloc_heap_new W _, rfl⟩
  case body =>
    rintro l pre x a' W hl ⟨r, hr⟩ hG ⟨Bx, hBx, bx, rfl⟩ hlt
    have hGs := great_snoc at_ pre x
    have i3 := hG.2.2.1
    have e0 := (blk_cell bx 0).trans rfl
    have e1 := (blk_cell bx 1).trans rfl
    have e2 := (blk_cell bx 2).trans rfl
    have e3 := (blk_cell bx 3).trans rfl
    have e4 := (blk_cell bx 4).trans rfl
    have e5 := (blk_cell bx 5).trans rfl
    have o0 := (blk_cell i3 0).trans rfl
    by_cases hok : x.f1 ≤ at_
    · have hok1 : decide (x.f1 ≤ at_) = true := decide_eq_true hok
      cases hacc : great at_ pre with
      | none =>
        have hgre : gre at_ (great at_ pre) x = some x := by rw [hacc]; unfold gre; rw [if_pos hok1]
        have HG := Aside0.mk hG
        have HH := Aside0.mk hgre
        clear hG hgre hGs i3 hok
        gi_wp2
        refine ⟨trivial, ?_⟩
        refine (CallsIn.inRound l ((callsIn_wide).2 (okAt_calls bA at_ x W ((HG.out.2.2.2.2.1.cell (p := ⟨bA, 0, none⟩) nA).trans hA) (Nat.lt_of_lt_of_le nA HG.out.2.2.2.2.1.size)))).mono ?_
        rintro e W1 ⟨rfl, hb⟩
        have HG1 := Aside0.mk (HG.out.later hb)
        have bx1 := blk_below bx hb
        clear e0 e1 e2 e3 e4 e5 o0 bx
        have f0 : W1.cell? ⟨Fd, 0, none⟩ = some (.bool false) := by have h := HG1.out.2.1; rw [hacc] at h; exact (blk_cell h 0).trans rfl
        have g0 := (blk_cell bx1 0).trans rfl
        have g1 := (blk_cell bx1 1).trans rfl
        have g2 := (blk_cell bx1 2).trans rfl
        have g3 := (blk_cell bx1 3).trans rfl
        have g4 := (blk_cell bx1 4).trans rfl
        have g5 := (blk_cell bx1 5).trans rfl
        obtain ⟨j1, j2, _, _, _, _⟩ := HG1.out
        have z0 := blk_frozen j1 0
        have z1 := blk_frozen j1 1
        have z2 := blk_frozen j1 2
        have z3 := blk_frozen j1 3
        have z4 := blk_frozen j1 4
        have z5 := blk_frozen j1 5
        have y0 := (blk_cell j1 0).trans rfl
        have y1 := (blk_cell j1 1).trans rfl
        have y2 := (blk_cell j1 2).trans rfl
        have y3 := (blk_cell j1 3).trans rfl
        have y4 := (blk_cell j1 4).trans rfl
        have y5 := (blk_cell j1 5).trans rfl
        have zf := blk_frozen j2 0
        have yf := (blk_cell j2 0).trans rfl
        clear j1 j2
        gi_wp2
        refine ⟨fun _ h => (by cases h), ?_⟩
        gi_wp2
        obtain ⟨k1, k2, k3⟩ := HG1.out.stored (B := w4.heap.size) HH.out (by omega) (by omega) (by omega) (by omega) (by omega) (by omega) (by omega) rfl
        exact ⟨(keepsF_below hb).trans k1, (hb.mono HG.out.2.2.2.2.1.size).trans k2, k3⟩
      | some z =>
        obtain ⟨b, hb0⟩ : ∃ b, atLt z x = b := ⟨_, rfl⟩
        have hlt2 : decide (atCmp z x < 0) = b := by rw [atCmp_lt, hb0]
        have HG := Aside0.mk hG
        have hgre : gre at_ (great at_ pre) x = if b = true then some x else some z := by
          rw [hacc]; unfold gre; rw [if_pos hok1]
          show (if atLt z x = true then some x else some z) = _
          rw [hb0]
        have HH := Aside0.mk hgre
        clear hG hgre hGs i3 hok hb0
        gi_wp2
        refine ⟨trivial, ?_⟩
        refine (CallsIn.inRound l ((callsIn_wide).2 (okAt_calls bA at_ x W ((HG.out.2.2.2.2.1.cell (p := ⟨bA, 0, none⟩) nA).trans hA) (Nat.lt_of_lt_of_le nA HG.out.2.2.2.2.1.size)))).mono ?_
        rintro e W1 ⟨rfl, hb⟩
        have HG1 := Aside0.mk (HG.out.later hb)
        have bx1 := blk_below bx hb
        clear e0 e1 e2 e3 e4 e5 o0 bx
        have f0 : W1.cell? ⟨Fd, 0, none⟩ = some (.bool true) := by have h := HG1.out.2.1; rw [hacc] at h; exact (blk_cell h 0).trans rfl
        have l0 := (blk_cell HG1.out.2.2.2.1 0).trans rfl
        have jx : W1.heap[X]? = some (.cells #[.int .i64 z.f0, .int .i64 z.f1, .int .i64 z.f2, .int .i64 z.f3, .int .i64 z.f4, .bool z.f5] 24 (0, 0)) := by have h := HG1.out.1; rw [hacc] at h; exact h
        have v0 := (blk_cell jx 0).trans rfl
        have v1 := (blk_cell jx 1).trans rfl
        have v2 := (blk_cell jx 2).trans rfl
        have v3 := (blk_cell jx 3).trans rfl
        have v4 := (blk_cell jx 4).trans rfl
        have v5 := (blk_cell jx 5).trans rfl
        have g0 := (blk_cell bx1 0).trans rfl
        have g1 := (blk_cell bx1 1).trans rfl
        have g2 := (blk_cell bx1 2).trans rfl
        have g3 := (blk_cell bx1 3).trans rfl
        have g4 := (blk_cell bx1 4).trans rfl
        have g5 := (blk_cell bx1 5).trans rfl
        gi_wp2
        refine ⟨trivial, ?_⟩
        refine (CallsIn.inRound l ((callsIn_wide).2 (byAt_calls z x W1))).mono ?_
        rintro e W5 ⟨rfl, hb5⟩
        have HG5 := Aside0.mk (HG1.out.later hb5)
        replace bx1 := blk_below bx1 hb5
        clear f0 l0 jx v0 v1 v2 v3 v4 v5 g0 g1 g2 g3 g4 g5 HG1
        have HG1 := HG5
        clear HG5
        replace hb := hb.trans (hb5.mono hb.size)
        cases b with
        | true =>
          rw [if_pos rfl] at HH
          have g0 := (blk_cell bx1 0).trans rfl
          have g1 := (blk_cell bx1 1).trans rfl
          have g2 := (blk_cell bx1 2).trans rfl
          have g3 := (blk_cell bx1 3).trans rfl
          have g4 := (blk_cell bx1 4).trans rfl
          have g5 := (blk_cell bx1 5).trans rfl
          obtain ⟨j1, j2, _, _, _, _⟩ := HG1.out
          have z0 := blk_frozen j1 0
          have z1 := blk_frozen j1 1
          have z2 := blk_frozen j1 2
          have z3 := blk_frozen j1 3
          have z4 := blk_frozen j1 4
          have z5 := blk_frozen j1 5
          have y0 := (blk_cell j1 0).trans rfl
          have y1 := (blk_cell j1 1).trans rfl
          have y2 := (blk_cell j1 2).trans rfl
          have y3 := (blk_cell j1 3).trans rfl
          have y4 := (blk_cell j1 4).trans rfl
          have y5 := (blk_cell j1 5).trans rfl
          have zf := blk_frozen j2 0
          have yf := (blk_cell j2 0).trans rfl
          clear j1 j2
          gi_wp2
          obtain ⟨k1, k2, k3⟩ := HG1.out.stored (B := w4.heap.size) HH.out (by omega) (by omega) (by omega) (by omega) (by omega) (by omega) (by omega) rfl
          exact ⟨(keepsF_below hb).trans k1, (hb.mono HG.out.2.2.2.2.1.size).trans k2, k3⟩
        | false =>
          rw [if_neg (by decide)] at HH
          gi_wp2
          exact ⟨keepsF_below hb, hb.mono HG.out.2.2.2.2.1.size, by
            obtain ⟨m1, m2, m3⟩ := HG1.out
            refine ⟨?_, ?_, m3⟩
            · rw [great_snoc, HH.out, ← hacc]; exact m1
            · rw [great_snoc, HH.out, ← hacc]; exact m2⟩
    · have hok1 : decide (x.f1 ≤ at_) = false := decide_eq_false hok
      have hgre : gre at_ (great at_ pre) x = great at_ pre := by unfold gre; rw [if_neg (by rw [hok1]; decide)]
      have HG := Aside0.mk hG
      have HH := Aside0.mk hgre
      clear hG hgre hGs i3 hok
      gi_wp2
      refine ⟨trivial, ?_⟩
      refine (CallsIn.inRound l ((callsIn_wide).2 (okAt_calls bA at_ x W ((HG.out.2.2.2.2.1.cell (p := ⟨bA, 0, none⟩) nA).trans hA) (Nat.lt_of_lt_of_le nA HG.out.2.2.2.2.1.size)))).mono ?_
      rintro e W1 ⟨rfl, hb⟩
      have HG1 := Aside0.mk (HG.out.later hb)
      clear e0 e1 e2 e3 e4 e5 o0 bx
      gi_wp2
      all_goals try (exact absurd ‹some undef = some (Value.bool _)› (by simp [undef]))
      refine ⟨fun _ h => (by cases h), ?_⟩
      gi_wp2
      exact ⟨keepsF_below hb, hb.mono HG.out.2.2.2.2.1.size, by
        obtain ⟨m1, m2, m3⟩ := HG1.out
        refine ⟨?_, ?_, m3⟩
        · rw [great_snoc, HH.out]; exact m1
        · rw [great_snoc, HH.out]; exact m2⟩
  case done =>
    rintro D ys W hD hys hG hK
    replace hys : ys = pick key time xs := hys
    subst hys
    obtain ⟨m1, m2, _, _, m5, m6⟩ := hG
    obtain ⟨acc, hacc⟩ : ∃ acc, great at_ (pick key time xs) = acc := ⟨_, rfl⟩
    rw [hacc] at m1 m2
    obtain ⟨z, hz⟩ : ∃ z, acc.getD z24 = z := ⟨_, rfl⟩
    rw [hz] at m1
    have y0 : W.cell? ⟨X, 0, none⟩ = some (.int .i64 z.f0) := (blk_cell m1 0).trans rfl
    have y1 : W.cell? ⟨X, 1, none⟩ = some (.int .i64 z.f1) := (blk_cell m1 1).trans rfl
    have y2 : W.cell? ⟨X, 2, none⟩ = some (.int .i64 z.f2) := (blk_cell m1 2).trans rfl
    have y3 : W.cell? ⟨X, 3, none⟩ = some (.int .i64 z.f3) := (blk_cell m1 3).trans rfl
    have y4 : W.cell? ⟨X, 4, none⟩ = some (.int .i64 z.f4) := (blk_cell m1 4).trans rfl
    have y5 : W.cell? ⟨X, 5, none⟩ = some (.bool z.f5) := (blk_cell m1 5).trans rfl
    have yf : W.cell? ⟨Fd, 0, none⟩ = some (.bool acc.isSome) := (blk_cell m2 0).trans rfl
    have z0 := blk_frozen m1 0
    have z1 := blk_frozen m1 1
    have z2 := blk_frozen m1 2
    have z3 := blk_frozen m1 3
    have z4 := blk_frozen m1 4
    have z5 := blk_frozen m1 5
    have zf := blk_frozen m2 0
    simp only [Exit.inBlock, Exit.then]
    refine hK0_ _ _ ?_
    go_wp2
    go_region
    go_wp2
    rw [set_same y0, set_same y1, set_same y2, set_same y3, set_same y4, set_same y5, set_same yf]
    have hKd : W.drew.heap[D]? = some (.deferred (some [])) := hK
    refine ⟨by simp, .inl ⟨_, _, rfl, run_takeDeferred hKd, ?_⟩⟩
    have hBW2 : Below w.heap.size w (W.drew.putObj D (.deferred none)) := (below_drew1 m5).trans (belowK_b (w := w) (Nat.le_refl _) W.drew D _ _ (by omega) hKd rfl rfl)
    have hXD : X ≠ D := fun e => by rw [e, hK] at m1; cases m1
    have hFD : Fd ≠ D := fun e => by rw [e, hK] at m2; cases m2
    have p1 : (W.drew.putObj D (.deferred none)).heap[X]? = some (.cells #[.int .i64 z.f0, .int .i64 z.f1, .int .i64 z.f2, .int .i64 z.f3, .int .i64 z.f4, .bool z.f5] 24 (0, 0)) := (World.putObj_heap_other hXD).trans m1
    have p2 : (W.drew.putObj D (.deferred none)).heap[Fd]? = some (.cells #[.bool acc.isSome] 4 (0, 0)) := (World.putObj_heap_other hFD).trans m2
    refine ⟨_, results_cb rfl _ _ X Fd 24 _ (0, 0) _ (.bool acc.isSome) rfl p1 Try.underlying24 rfl (by kernel_rfl) rfl (load_bool _ Fd _ ((blk_cell p2 0).trans rfl)), ?_⟩
    rw [hacc, hz]
    exact ⟨rfl, hBW2⟩
  case stop =>
    rintro D c pre W _ _ h _
    exact h.elim
end
end
section
open Go.Shelf
section
theorem heap24 : Kd.Heap k24 := Kd.heap_iso _ (Kd.heap_pair (Kd.heap_int _) (Kd.heap_pair (Kd.heap_int _) (Kd.heap_pair (Kd.heap_int _) (Kd.heap_pair (Kd.heap_int _) (Kd.heap_pair (Kd.heap_int _) Kd.heap_bool)))))
theorem later24 {w w1 : World} {A : Option Addr} {n : Nat} {xs : List S24} (h : Kd.C k24 w A n xs) (hb : Below w.heap.size w w1) : Kd.C k24 w1 A n xs := heap24.C (fun i hi => hb.block i hi) h
theorem check_short {k : Nat} {l : List S24} (h : versions_Check.f k l = some 0) : l.length ≤ 4096 := by
  unfold versions_Check.f at h
  split at h
  · cases h
  · omega
/-- The value of a register: what the greatest amendment says. -/
def valP (l : List S24) (key at_ time : Int) : Int × Bool := (((great at_ (pick key time l)).getD z24).f4, (great at_ (pick key time l)).isSome && !((great at_ (pick key time l)).getD z24).f5)
def versions_Value.f (k : Nat) (l0 : List (S24)) (a1 : Int) (a2 : Int) (a3 : Int) : Option (Int × Bool × Int) := (versions_Check.f k l0).bind fun t1 => (if t1 = 0 then ((versions_within.f a1 1048576).bind fun t2 => (if t2 = true then ((versions_within.f a2 1099511627775).bind fun t3 => (if t3 = true then ((versions_within.f a3 1099511627775).bind fun t4 => (if t4 = true then (some ((valP l0 a1 a2 a3).1, (valP l0 a1 a2 a3).2, 0)) else (some (0, false, 1)))) else (some (0, false, 1)))) else (some (0, false, 1)))) else (some (0, false, t1)))
theorem versions_Value.mono : ∀ a0 a1 a2 a3 k, LeO (versions_Value.f k a0 a1 a2 a3) (versions_Value.f (k + 1) a0 a1 a2 a3) := by
  intro a0 a1 a2 a3 k
  unfold versions_Value.f
  exact LeO.bind (versions_Check.mono _ _) (fun _ => LeO.refl _)
set_option maxHeartbeats 200000000 in
set_option maxRecDepth 100000 in
theorem versions_Value.calls (k : Nat) (A0 : Option Addr) (c0 : Nat) (l0 : List (S24)) (a1 : Int) (a2 : Int) (a3 : Int) (r1 : Int) (r2 : Bool) (r3 : Int) (w : World) (hr0 : Kd.C k24 w A0 l0.length l0) (hc0 : l0.length ≤ c0) (h : versions_Value.f k l0 a1 a2 a3 = some (r1, r2, r3)) :
    Calls Try.prog 16 #[.slice A0 l0.length c0, .int .i64 a1, .int .i64 a2, .int .i64 a3] w fun e w' => e = .returned (.tuple #[.int .i64 r1, .bool r2, .int .i64 r3]) ∧ Below w.heap.size w w' := by
  have hu24 := Try.underlying24
  unfold versions_Value.f at h
  obtain ⟨t1, ht1, h⟩ := Option.bind_eq_some_iff.mp h
  have HR := Aside0.mk hr0
  clear hr0
  have HB := Aside0.mk (Below.refl w.heap.size w)
  have start : ∀ {R : Ending → World → Prop}, True := fun {_} => trivial
  by_cases hz : t1 = 0
  · subst hz
    rw [if_pos rfl] at h
    obtain ⟨t2, ht2, h⟩ := Option.bind_eq_some_iff.mp h
    have hshort := check_short ht1
    have HS := Aside0.mk hshort
    clear hshort
    go_enter Try.func16, Try.ntmps16
    have hba := (Below.refl _ w).alloc (Nat.le_refl _) (.cells #[.int .i64 a2] 3)
    have BA := World.alloc_heap_new w (.cells #[.int .i64 a2] 3)
    have hsz : w.heap.size < (w.alloc (.cells #[.int .i64 a2] 3)).heap.size := by simp
    go_wp2_with fail
    generalize w.alloc (.cells #[.int .i64 a2] 3) = w1 at *
    have R1 := later24 HR.out hba
    refine (versions_Check.calls k A0 c0 l0 0 w1 R1 hc0 ht1).mono ?_
    rintro e w2 ⟨rfl, hb⟩
    have R2 := Aside0.mk (later24 R1 hb)
    have B2 := Aside0.mk (hba.trans (hb.mono hba.size))
    replace BA := blk_below BA hb
    have s2 : w.heap.size < w2.heap.size := Nat.lt_of_lt_of_le hsz hb.size
    clear hba hsz hb R1
    have xa := (blk_cell BA 0).trans rfl
    go_wp2_with fail
    refine (versions_within.calls a1 1048576 t2 w2 ht2).mono ?_
    rintro e w3 ⟨rfl, hd⟩
    have hb := hd.below
    have R3 := Aside0.mk (later24 R2.out hb)
    have B3 := Aside0.mk (B2.out.trans (hb.mono B2.out.size))
    replace BA := blk_below BA hb
    have s3 := Nat.lt_of_lt_of_le s2 hb.size
    clear hd hb xa
    have xa := (blk_cell BA 0).trans rfl
    cases t2 with
    | false =>
      rw [if_neg (by decide)] at h
      cases h
      go_wp2
      go_ret3
      exact ⟨rfl, B3.out⟩
    | true =>
      rw [if_pos rfl] at h
      obtain ⟨t3, ht3, h⟩ := Option.bind_eq_some_iff.mp h
      go_wp2_with fail
      refine (versions_within.calls a2 1099511627775 t3 w3 ht3).mono ?_
      rintro e w4 ⟨rfl, hd⟩
      have hb := hd.below
      have R4 := Aside0.mk (later24 R3.out hb)
      have B4 := Aside0.mk (B3.out.trans (hb.mono B3.out.size))
      replace BA := blk_below BA hb
      have s4 := Nat.lt_of_lt_of_le s3 hb.size
      clear hd hb xa
      have xa := (blk_cell BA 0).trans rfl
      cases t3 with
      | false =>
        rw [if_neg (by decide)] at h
        cases h
        go_wp2
        go_ret3
        exact ⟨rfl, B4.out⟩
      | true =>
        rw [if_pos rfl] at h
        obtain ⟨t4, ht4, h⟩ := Option.bind_eq_some_iff.mp h
        go_wp2_with fail
        refine (versions_within.calls a3 1099511627775 t4 w4 ht4).mono ?_
        rintro e w5 ⟨rfl, hd⟩
        have hb := hd.below
        have R5 := Aside0.mk (later24 R4.out hb)
        have B5 := Aside0.mk (B4.out.trans (hb.mono B4.out.size))
        replace BA := blk_below BA hb
        have s5 := Nat.lt_of_lt_of_le s4 hb.size
        clear hd hb xa
        have xa := (blk_cell BA 0).trans rfl
        cases t4 with
        | false =>
          rw [if_neg (by decide)] at h
          cases h
          go_wp2
          go_ret3
          exact ⟨rfl, B5.out⟩
        | true =>
          rw [if_pos rfl] at h
          go_wp2_with fail
          refine (known_calls A0 l0.length c0 a1 a3 w5).mono ?_
          rintro e w6 ⟨b1, b2, b3, rfl, ⟨g1, m1, d1⟩, ⟨g2, m2, d2⟩, ⟨g3, m3, d3⟩, hb⟩
          have R6 := Aside0.mk (later24 R5.out hb)
          have B6 := Aside0.mk (B5.out.trans (hb.mono B5.out.size))
          replace BA := blk_below BA hb
          have s6 := Nat.lt_of_lt_of_le s5 hb.size
          clear hb xa
          have D1 := Aside0.mk d1
          have D2 := Aside0.mk d2
          have D3 := Aside0.mk d3
          clear d1 d2 d3
          dsimp only
          go_wp2_with fail
          refine (greatest_calls w.heap.size b1 b2 b3 A0 c0 l0 a1 a3 a2 w6 D1.out D2.out D3.out ((blk_cell BA 0).trans rfl) m1 m2 m3 s6 (fun W' hW' => later24 R6.out hW') (Nat.le_trans HS.out (by decide))).mono ?_
          rintro e w7 ⟨rfl, hb⟩
          have B7 := Aside0.mk (B6.out.trans (hb.mono B6.out.size))
          obtain ⟨acc, hacc⟩ : ∃ acc, great a2 (pick a1 a3 l0) = acc := ⟨_, rfl⟩
          unfold valP at h
          rw [hacc] at h ⊢
          obtain ⟨z, hz⟩ : ∃ z, acc.getD z24 = z := ⟨_, rfl⟩
          rw [hz] at h ⊢
          obtain ⟨b, hb0⟩ : ∃ b, acc.isSome = b := ⟨_, rfl⟩
          rw [hb0] at h ⊢
          have h' := Option.some.inj h
          simp only [Prod.mk.injEq] at h'
          obtain ⟨e1, e2, e3⟩ := h'
          subst e1 e2 e3
          clear h hacc hz hb0 hb BA HR
          have hbx := (Below.refl _ w7).alloc (Nat.le_refl _) (.cells #[.int .i64 z.f0, .int .i64 z.f1, .int .i64 z.f2, .int .i64 z.f3, .int .i64 z.f4, .bool z.f5] 24)
          have BX := World.alloc_heap_new w7 (.cells #[.int .i64 z.f0, .int .i64 z.f1, .int .i64 z.f2, .int .i64 z.f3, .int .i64 z.f4, .bool z.f5] 24)
          have B8 := Aside0.mk (B7.out.trans (hbx.mono B7.out.size))
          clear hbx
          have x4 := (blk_cell BX 4).trans rfl
          have x5 := (blk_cell BX 5).trans rfl
          clear BX
          dsimp only
          cases b with
          | false =>
            go_wp2_with fail
            go_quiet (fail)
            go_wp2
            go_ret3
            exact ⟨rfl, pw_below_drewN B8.out _⟩
          | true =>
            go_wp2_with fail
            go_quiet (fail)
            go_wp2
            go_ret3
            exact ⟨rfl, pw_below_drewN B8.out _⟩
  · rw [if_neg hz] at h
    have h' := Option.some.inj h
    simp only [Prod.mk.injEq] at h'
    obtain ⟨e1, e2, e3⟩ := h'
    subst e1 e2 e3
    clear h
    have hne : (t1 != 0) = true := by simpa using hz
    go_enter Try.func16, Try.ntmps16
    have hba := (Below.refl _ w).alloc (Nat.le_refl _) (.cells #[.int .i64 a2] 3)
    go_wp2_with fail
    generalize w.alloc (.cells #[.int .i64 a2] 3) = w1 at *
    have R1 := later24 HR.out hba
    refine (versions_Check.calls k A0 c0 l0 t1 w1 R1 hc0 ht1).mono ?_
    rintro e w2 ⟨rfl, hb⟩
    have B2 := Aside0.mk (hba.trans (hb.mono hba.size))
    clear hba hb
    go_wp2
    go_ret3
    exact ⟨rfl, B2.out⟩
end
end
section
open Go.Shelf Go.Lib
section
/-- The cells of one. -/
def cell6 (x : S24) : List Value := [.int .i64 x.f0, .int .i64 x.f1, .int .i64 x.f2, .int .i64 x.f3, .int .i64 x.f4, .bool x.f5]
theorem c6_len (x : S24) : (cell6 x).length = 6 := rfl
theorem c6_one (x : S24) : ∀ u ∈ cell6 x, u.oneCell' = true := by
  intro u hu
  simp only [cell6, List.mem_cons, List.not_mem_nil, or_false] at hu
  rcases hu with rfl | rfl | rfl | rfl | rfl | rfl <;> rfl
/-- The cells of a row. -/
def cells24 (xs : List S24) : List Value := xs.flatMap cell6
theorem cells24_cons (x : S24) (t : List S24) : cells24 (x :: t) = cell6 x ++ cells24 t := rfl
theorem cells24_append (a b : List S24) : cells24 (a ++ b) = cells24 a ++ cells24 b := by unfold cells24; simp
theorem cells24_len (xs : List S24) : (cells24 xs).length = xs.length * 6 := by
  induction xs with
  | nil => rfl
  | cons x t ih => rw [cells24_cons, List.length_append, c6_len, ih, List.length_cons]; omega
theorem cells24_one (xs : List S24) : ∀ u ∈ cells24 xs, u.oneCell' = true := by
  intro u hu
  obtain ⟨x, _, h⟩ := List.mem_flatMap.1 hu
  exact c6_one x u h
theorem cells24_take (xs : List S24) : ∀ i, (cells24 xs).take (i * 6) = cells24 (xs.take i) := by
  induction xs with
  | nil => intro i; simp [cells24]
  | cons x t ih =>
    intro i
    cases i with
    | zero => simp [cells24]
    | succ i =>
      rw [cells24_cons, List.take_succ_cons, cells24_cons, List.take_append, c6_len]
      rw [show (i + 1) * 6 - 6 = i * 6 from by omega, ih, List.take_of_length_le (by rw [c6_len]; omega)]
theorem cells24_drop (xs : List S24) : ∀ i, (cells24 xs).drop (i * 6) = cells24 (xs.drop i) := by
  induction xs with
  | nil => intro i; simp [cells24]
  | cons x t ih =>
    intro i
    cases i with
    | zero => simp
    | succ i =>
      rw [cells24_cons, List.drop_succ_cons, List.drop_append, c6_len]
      rw [show (i + 1) * 6 - 6 = i * 6 from by omega, ih, List.drop_of_length_le (by rw [c6_len]; omega)]
      rfl
theorem cells24_get (xs : List S24) : ∀ j u, (cells24 xs)[j]? = some u → ∃ x, xs[j / 6]? = some x ∧ (cell6 x)[j % 6]? = some u := by
  induction xs with
  | nil => intro j u h; simp [cells24] at h
  | cons x t ih =>
    intro j u h
    rw [cells24_cons] at h
    rcases Nat.lt_or_ge j 6 with hj | hj
    · rw [List.getElem?_append_left (by rw [c6_len]; exact hj)] at h
      exact ⟨x, by rw [Nat.div_eq_of_lt hj]; rfl, by rw [Nat.mod_eq_of_lt hj]; exact h⟩
    · rw [List.getElem?_append_right (by rw [c6_len]; exact hj), c6_len] at h
      obtain ⟨y, h1, h2⟩ := ih _ _ h
      refine ⟨y, ?_, by rw [Nat.mod_eq_sub_mod hj]; exact h2⟩
      rw [Nat.div_eq_sub_div (by omega) hj, List.getElem?_cons_succ]
      exact h1
/-- What a row that is read holds, cell by cell. -/
theorem src24 {w : World} {ad : Addr} {n : Nat} {l : List S24} (h : Kd.C k24 w (some ad) n l) : ∀ j u, (cells24 l)[j]? = some u → w.cell? (ad.add j) = some u := by
  intro j u hj
  obtain ⟨x, h1, h2⟩ := cells24_get l j u hj
  have hlt : j / 6 < l.length := (List.getElem?_eq_some_iff.1 h1).1
  obtain ⟨ad', e, hr⟩ := h.2.2 (by have := h.1; omega)
  obtain rfl := Option.some.inj e
  obtain ⟨c, hc, hK, hcell⟩ := hr _ x h1
  obtain rfl := k24_open hK
  have := hcell (j % 6) u h2
  rw [show k24.sz = 6 from rfl] at this
  rw [show j / 6 * 6 + j % 6 = j from Nat.div_add_mod' j 6] at this
  exact this
theorem reps24 {R : S24 → List Value → Prop} (hR : ∀ x : S24, R x (cell6 x)) : ∀ xs : List S24, Reps R 6 xs (cells24 xs)
  | [] => Reps.none _ _
  | x :: t => Reps.c6 (hR x) (reps24 hR t)
theorem R_of_own {W : World} {base : Nat} {v : Value} {xs : List S24} (h : W.ownsRow base 24 6 v xs.length (cells24 xs)) : Kd.R k24 24 W base (fun _ => True) v xs :=
  ⟨fun _ _ => trivial, cells24 xs, h, reps24 (fun x => k24_mkM W base _ x) xs⟩
theorem run_copy_rowK {P : Program} (w : World) (dT sT ty elem : TypeId) (g o dLen dCap : Nat) (a : Addr) (sLen sCap : Nat) (cur : Array Value) (t : TypeId) (cs : List Value) (K : Nat)
    (hu : P.underlying dT = some (.slice elem)) (hs : (P.info? elem).map (·.size) = some K)
    (hg : w.heap[g]? = some (.cells cur t (0, 0))) (hn : cs.length = Nat.min sLen dLen * K)
    (hsrc : ∀ j v, cs[j]? = some v → w.cell? (a.add j) = some v) (hfit : o + cs.length ≤ cur.size) (h1 : ∀ v ∈ cs, v.oneCell' = true) :
    (Builtin.copy_ #[dT, sT] ty #[.slice (some ⟨g, o, none⟩) dLen dCap, .slice (some a) sLen sCap]).run P w =
      .ok (goInt (Nat.min sLen dLen)) (w.setRow g (cur.toList.take o ++ cs ++ cur.toList.drop (o + cs.length)).toArray) := by
  have hl := run_loadCells_list (P := P) w a cs hsrc
  have hst := run_storeCells_at P g o t cs 0 cur w hg (by simpa using hfit) h1
  cases hq : P.info? elem with
  | none => simp [hq] at hs
  | some i =>
    have hi : i.size = K := by simpa [hq] using hs
    simp [Builtin.copy_, run_underlying hu, Builtin.lenOf, Builtin.firstCells, sizeOf, typeInfo, hq, hi, ← hn, hl, hst]
theorem wpList_copy_run {P : Program} (w : World) {ops : Array Oper} {rest : List Oper} {o : Oper} {a : Act} {Q : Exit → Act → World → Prop} (hgd : o.guard = none) (d s : Operand) (t t' : TypeId)
    (ho : o.op = .call { callee := .builtin .copy, args := #[d, s], argTypes := #[t, t'] }) (v u : Value) (hd : a.eval d = v) (hs : a.eval s = u) {v' : Value} {w' : World}
    (hr : (Builtin.copy_ #[t, t'] o.type #[v, u]).run P w = .ok v' w') (h : wpList P ops Q rest (a.put o.dst v') w') : wpList P ops Q (o :: rest) a w :=
  wpList_plain hgd fun _ hK => by
    unfold Oper.wp execOp
    simp only [ho, resolve, invoke, builtin, Sem.run_bind, Sem.run_pure, Result.andThen_ok, List.map_toArray, List.map_cons, List.map_nil, hd, hs, hr]
    exact hK _ _ h
theorem step_copy_run {P : Program} {ops : Array Oper} {o : Oper} {a : Act} {w : World} {K : Act → World → Prop} {Q : Exit → Act → World → Prop} {E : Prop}
    (hg : o.guard = none) (d x : Operand) (dT sT : TypeId) (hop : o.op = Op.call { callee := Callee.builtin Builtin.copy, args := #[d, x], argTypes := #[dT, sT] })
    (v u : Value) (hd : a.eval d = v) (hx : a.eval x = u) {v' : Value} {w' : World} (hr : (Builtin.copy_ #[dT, sT] o.type #[v, u]).run P w = .ok v' w') (hK : K (a.put o.dst v') w') :
    if Region.wanted o (yielded ops a.tmps) = true then Oper.wp P o a w K Q else E := by
  have hw : Region.wanted o (yielded ops a.tmps) = true := by simp [Region.wanted, hg]
  rw [if_pos hw]
  unfold Oper.wp
  simp [execOp, hop, resolve, invoke, builtin, hd, hx, hr, Result.andThen]
  exact hK
theorem info24c : (Try.prog.info? 24).map (fun i => (i.zero, i.size, i.bytes)) = some (some (.agg #[(.int .i64 0), (.int .i64 0), (.int .i64 0), (.int .i64 0), (.int .i64 0), (.bool false)]), 6, 48) := by kernel_rfl
set_option maxHeartbeats 4000000 in
set_option maxRecDepth 100000 in
theorem clone_calls (A : Option Addr) (c : Nat) (l : List S24) (w : World) (hr : Kd.C k24 w A l.length l) (hc : l.length ≤ c) (hl : l.length ≤ 4096) :
    Calls Try.prog 28 #[.slice A l.length c] w fun e w' => ∃ v, e = .returned v ∧ w'.ownsRow w.heap.size 24 6 v l.length (cells24 l) ∧ Below w.heap.size w w' := by
  obtain ⟨i0, hi0, hz0, hs0, hb0⟩ := info_parts info24c
  cases A with
  | none =>
    have h0 : l.length = 0 := by
      rcases Nat.eq_zero_or_pos l.length with h | h
      · exact h
      · obtain ⟨_, e, _⟩ := hr.2.2 h; cases e
    have hl0 : l = [] := List.eq_nil_of_length_eq_zero h0
    subst hl0
    have he : ∀ w, (binOp .eql 22 (.slice none 0 c) (.slice none 0 0)).run Try.prog w = .ok (.bool true) w := fun w => run_eql_slice_nil_nil w 0 c Try.underlying22
    show Calls Try.prog 28 #[.slice none 0 c] w _
    go_enter Try.func28, Try.ntmps28
    go_wp2
    go_ret
    exact ⟨_, rfl, World.ownsRow_nil w w.heap.size 24 6, Below.refl _ _⟩
  | some ad =>
    have he : ∀ w, (binOp .eql 22 (.slice (some ad) l.length c) (.slice none 0 0)).run Try.prog w = .ok (.bool false) w := fun w => by
      have h : ∀ d : Nat, (Op.equalIn (d + 1) 22 (.slice (some ad) l.length c) (.slice none 0 0)).run Try.prog w = .ok false w := fun d => by
        simp [Op.equalIn, run_underlying Try.underlying22]
      simp [binOp, Op.equal, Op.maxDepth, h 9999]
    have hsrc := src24 hr
    have HR := Aside0.mk hsrc
    clear hsrc hr
    go_enter Try.func28, Try.ntmps28
    have hba := (Below.refl _ w).alloc (Nat.le_refl _) (.cells #[] 24)
    have hown : (w.alloc (.cells #[] 24)).ownsRow w.heap.size 24 6 (.slice (some ⟨w.heap.size, 0, none⟩) 0 0) 0 [] := ⟨rfl, .inr ⟨w.heap.size, 0, #[], rfl, Nat.le_refl _, World.alloc_heap_new w _, Nat.le_refl _, Nat.zero_le _, rfl, rfl⟩⟩
    go_wp2_with (at_builtin; refine wpList_append_own (P := Try.prog) _ rfl _ _ 22 rfl w.heap.size 24 i0 _ 6 48 Try.underlying22 hi0 hz0 hs0 hb0 rfl (by decide) _ 0 [] rfl hown ad l.length c (cells24 l) rfl (cells24_len l) (fun j u hj => (hba.cell (World.block_lt_of_cell? w _ (HR.out j u hj))).trans (HR.out j u hj)) (cells24_one l) (by unfold maxLen; omega) (by omega) hba.size ?_; intro v' w1 hown' hgrow _)
    go_ret
    refine ⟨v', rfl, by simpa using hown', hba.grown hgrow hba.size (fun k e => by cases e; exact Nat.le_refl _)⟩
theorem add0 (g o j : Nat) : (⟨g, o, none⟩ : Addr).add j = ⟨g, o + j, none⟩ := by unfold Addr.add; split <;> simp_all
theorem ins_cells (l : List S24) (x : S24) (i : Nat) : cells24 (l.take i ++ x :: l.drop i) = (cells24 l).take (i * 6) ++ cell6 x ++ (cells24 l).drop (i * 6) := by
  rw [cells24_append, cells24_cons, cells24_take, cells24_drop, List.append_assoc]
set_option maxHeartbeats 200000000 in
set_option maxRecDepth 100000 in
/-- slices.Insert at the end. -/
theorem insert_end (base : Nat) (v : Value) (l : List S24) (x : S24) (vb : Nat) (w : World) (hown : w.ownsRow base 24 6 v l.length (cells24 l)) (hbase : base ≤ w.heap.size) (hx : w.heap[vb]? = some (.cells (cell6 x).toArray 24 (0, 0))) (hl : l.length ≤ 4096) :
    Calls Try.prog 27 #[v, .int .i64 (l.length : Int), .slice (some ⟨vb, 0, none⟩) 1 1] w fun e w' => ∃ v', e = .returned v' ∧ w'.ownsRow base 24 6 v' (l.length + 1) (cells24 l ++ cell6 x) ∧ w.grownBy w' v.ownBlock := by
  obtain ⟨i0, hi0, hz0, hs0, hb0⟩ := info_parts info24c
  have hsrc : ∀ j u, (cell6 x)[j]? = some u → w.cell? ((⟨vb, 0, none⟩ : Addr).add j) = some u := fun j u hj => by
    rw [add0, Nat.zero_add, blk_cell hx j]
    simpa using hj
  have HS := Aside0.mk hsrc
  clear hsrc hx
  obtain ⟨A, c, rfl, hc⟩ : ∃ A c, v = .slice A l.length c ∧ l.length ≤ c := by
    rcases hown.2 with ⟨rfl, h0⟩ | ⟨g, cap, cur, rfl, h1, h2, h3, h4⟩
    · exact ⟨none, 0, by rw [h0], by omega⟩
    · exact ⟨_, _, rfl, h3⟩
  have HO := Aside0.mk hown
  clear hown
  by_cases hcl : c = l.length
  · subst hcl
    go_enter Try.func27, Try.ntmps27
    go_wp2_with (at_builtin; refine wpList_append_own (P := Try.prog) _ rfl _ _ 22 rfl base 24 i0 _ 6 48 Try.underlying22 hi0 hz0 hs0 hb0 rfl (by decide) _ l.length (cells24 l) rfl HO.out ⟨vb, 0, none⟩ 1 1 (cell6 x) rfl rfl HS.out (c6_one x) (by unfold maxLen; omega) (by omega) hbase ?_; intro v' w1 hown' hgrow _)
    go_ret
    exact ⟨v', rfl, hown', hgrow⟩
  · have hcl' : l.length < c := by omega
    go_enter Try.func27, Try.ntmps27
    go_wp2_with (at_builtin; refine wpList_append_own (P := Try.prog) _ rfl _ _ 22 rfl base 24 i0 _ 6 48 Try.underlying22 hi0 hz0 hs0 hb0 rfl (by decide) _ l.length (cells24 l) rfl HO.out ⟨vb, 0, none⟩ 1 1 (cell6 x) rfl rfl HS.out (c6_one x) (by unfold maxLen; omega) (by omega) hbase ?_; intro v' w1 hown' hgrow _)
    go_ret
    exact ⟨v', rfl, hown', hgrow⟩
set_option maxHeartbeats 200000000 in
set_option maxRecDepth 100000 in
/-- slices.Insert ahead of the end, where there is no room. -/
theorem insert_grow (g : Nat) (cap : Nat) (cur : Array Value) (l : List S24) (x : S24) (i : Nat) (vb : Nat) (w : World) (hg : w.heap[g]? = some (.cells cur 24 (0, 0))) (hcur : cur.toList.take (l.length * 6) = cells24 l)
    (hx : w.heap[vb]? = some (.cells (cell6 x).toArray 24 (0, 0))) (hi : i < l.length) (hroom : ¬ l.length + 1 ≤ cap) (hlc : l.length ≤ cap) (hl : l.length ≤ 4096) :
    Calls Try.prog 27 #[.slice (some ⟨g, 0, none⟩) l.length cap, .int .i64 (i : Int), .slice (some ⟨vb, 0, none⟩) 1 1] w fun e w' => ∃ v', e = .returned v' ∧ w'.ownsRow w.heap.size 24 6 v' (l.length + 1) (cells24 (l.take i ++ x :: l.drop i)) ∧ Below w.heap.size w w' := by
  obtain ⟨i0, hi0, hz0, hs0, hb0⟩ := info_parts info24c
  obtain rfl : cap = l.length := by omega
  obtain ⟨n, hn⟩ : ∃ n, l.length = n := ⟨_, rfl⟩
  have hold : (cells24 l).length = n * 6 := by rw [cells24_len, hn]
  have hread : ∀ j u, (cells24 l)[j]? = some u → w.cell? ((⟨g, 0, none⟩ : Addr).add j) = some u := fun j u hj => by
    rw [add0, Nat.zero_add, blk_cell hg j]
    rw [← hcur, hn] at hj
    have := (List.getElem?_eq_some_iff.1 hj).1
    rw [List.length_take] at this
    rw [List.getElem?_take, if_pos (by omega)] at hj
    simpa using hj
  have hsrc : ∀ (W : World), Below w.heap.size w W → ∀ j u, (cell6 x)[j]? = some u → W.cell? ((⟨vb, 0, none⟩ : Addr).add j) = some u := fun W hb j u hj => by
    rw [add0, Nat.zero_add, blk_cell (blk_below hx hb) j]
    simpa using hj
  obtain ⟨k, hk⟩ : ∃ k, n + 1 = i + k := ⟨n + 1 - i, by omega⟩
  have hkz : ((n : Int) + 1 - (i : Int)) = (k : Int) := by omega
  obtain ⟨cap, hcap⟩ : ∃ c, grownCap w (i + k) n 24 = c := ⟨_, rfl⟩
  obtain ⟨z, hz⟩ : ∃ z : Value, z = .agg #[(.int .i64 0), (.int .i64 0), (.int .i64 0), (.int .i64 0), (.int .i64 0), (.bool false)] := ⟨_, rfl⟩
  rw [← hz] at hz0
  have hzs : z.cells.size = 6 := by rw [hz]; rfl
  obtain ⟨C0, hC0⟩ : ∃ C0, ((cells24 l).take (i * 6)).toArray ++ Builtin.zeroCells z.cells k ++ Builtin.zeroCells z.cells (cap - (i + k)) = C0 := ⟨_, rfl⟩
  have hle : i + k ≤ cap := by rw [← hcap]; exact grownCap_ge w (i + k) n 24
  have hml : cap ≤ maxLen := by rw [← hcap]; exact grownCap_le_maxLen w (i + k) n 24 (by unfold maxLen; omega)
  have htl : ((cells24 l).take (i * 6)).length = i * 6 := by rw [List.length_take, hold]; omega
  have hsz0 : C0.size = cap * 6 := by
    rw [← hC0]
    simp only [Array.size_append, List.size_toArray, size_zeroCells, hzs, htl]
    rw [← Nat.add_mul, ← Nat.add_mul]
    congr 1
    omega
  have hap : ∀ ty, (Builtin.append_ #[22, 3] ty #[.slice (some ⟨g, 0, none⟩) i n, .int .i64 (k : Int)]).run Try.prog w = .ok (.slice (some ⟨w.heap.size, 0, none⟩) (n + 1) cap) (w.drew.alloc (.cells C0 24)) := fun ty => by
    rw [run_append_grow_zeros w 22 3 ty 24 i0 z .i64 .i64 Try.underlying22 Try.underlying3 hi0 hz0 (some ⟨g, 0, none⟩) i n ((cells24 l).take (i * 6))
      (run_firstCells_some (P := Try.prog) w.drew i0.size i _ i n _ (by rw [hs0]; exact htl) (fun j u hj => by
        rw [List.getElem?_take] at hj
        split at hj
        · exact hread j u hj
        · cases hj)) k (by omega) (by omega) (by omega) (by omega) (by rw [hb0]; omega) (by rw [hb0]; exact growslice_fits (by omega) (by omega)), hcap, hC0, hk]
  have hC : Aside0 ((i + k) = n + 1) := ⟨hk.symm⟩
  obtain ⟨w1, hw1⟩ : ∃ w1, w.drew.alloc (.cells C0 24) = w1 := ⟨_, rfl⟩
  rw [hw1] at hap
  have HA := Aside0.mk hap
  have hb1 : Below w.heap.size w w1 := by rw [← hw1]; exact ((Below.refl _ w).drew).alloc (by simp) _
  have hg1 : w1.heap[w.heap.size]? = some (.cells C0 24 (0, 0)) := by rw [← hw1]; exact World.alloc_heap_new w.drew _
  rw [hn] at hi hroom hlc hl
  show Calls Try.prog 27 #[.slice (some ⟨g, 0, none⟩) l.length l.length, .int .i64 (i : Int), .slice (some ⟨vb, 0, none⟩) 1 1] w _
  rw [hn]
  obtain ⟨C1, hC1⟩ : ∃ C1, (C0.toList.take (i * 6) ++ cell6 x ++ C0.toList.drop (i * 6 + (cell6 x).length)).toArray = C1 := ⟨_, rfl⟩
  obtain ⟨w2, hw2⟩ : ∃ w2, w1.setRow w.heap.size C1 = w2 := ⟨_, rfl⟩
  have hsz1 : C1.size = cap * 6 := by
    rw [← hC1]
    simp only [List.size_toArray, List.length_append, List.length_take, List.length_drop, Array.length_toList, hsz0, c6_len]
    omega
  have hg2 : w2.heap[w.heap.size]? = some (.cells C1 24 (0, 0)) := by rw [← hw2]; exact setRow_heap _ _ _ _ _ _ hg1
  have hb2 : Below w.heap.size w w2 := by
    rw [← hw2]
    exact hb1.grown (row := some w.heap.size) ⟨rfl, rfl, rfl, by simp, fun k _ hk => setRow_other _ _ _ _ (fun e => hk (by rw [e]))⟩ hb1.size (fun k e => by cases e; exact Nat.le_refl _)
  have hin : Nat.min 1 (n + 1 - i) = 1 := Nat.min_eq_left (show 1 ≤ n + 1 - i by omega)
  have hcp1 : ∀ ty dc sc, (Builtin.copy_ #[22, 22] ty #[.slice (some ⟨w.heap.size, i * 6, none⟩) (n + 1 - i) dc, .slice (some ⟨vb, 0, none⟩) 1 sc]).run Try.prog w1 = .ok (goInt (Nat.min 1 (n + 1 - i))) w2 := fun ty dc sc => by
    rw [← hw2, ← hC1]
    exact run_copy_rowK w1 22 22 ty 24 w.heap.size (i * 6) (n + 1 - i) dc ⟨vb, 0, none⟩ 1 sc C0 24 (cell6 x) 6 Try.underlying22 (by rw [hi0]; simp [hs0]) hg1 (by rw [hin, c6_len]) (hsrc w1 hb1) (by rw [c6_len, hsz0]; omega) (c6_one x)
  obtain ⟨C2, hC2⟩ : ∃ C2, (C1.toList.take ((i + 1) * 6) ++ (cells24 l).drop (i * 6) ++ C1.toList.drop ((i + 1) * 6 + ((cells24 l).drop (i * 6)).length)).toArray = C2 := ⟨_, rfl⟩
  have hdl : ((cells24 l).drop (i * 6)).length = (n - i) * 6 := by rw [List.length_drop, hold, Nat.sub_mul]
  have hmin : Nat.min (n - i) (n - i) = n - i := Nat.min_self _
  obtain ⟨w3, hw3⟩ : ∃ w3, w2.drew.setRow w.heap.size C2 = w3 := ⟨_, rfl⟩
  have hg3 : w3.heap[w.heap.size]? = some (.cells C2 24 (0, 0)) := by rw [← hw3]; exact setRow_heap _ _ _ _ _ _ (show w2.drew.heap[w.heap.size]? = _ from hg2)
  have hb3 : Below w.heap.size w w3 := by
    rw [← hw3]
    exact (hb2.drew).grown (row := some w.heap.size) ⟨rfl, rfl, rfl, by simp, fun k _ hk => setRow_other _ _ _ _ (fun e => hk (by rw [e]))⟩ hb2.size (fun k e => by cases e; exact Nat.le_refl _)
  have hcp2 : ∀ ty dc sc, (Builtin.copy_ #[22, 22] ty #[.slice (some ⟨w.heap.size, (i + 1) * 6, none⟩) (n - i) dc, .slice (some ⟨g, i * 6, none⟩) (n - i) sc]).run Try.prog w2.drew = .ok (goInt (Nat.min (n - i) (n - i))) w3 := fun ty dc sc => by
    rw [← hw3, ← hC2]
    refine run_copy_rowK w2.drew 22 22 ty 24 w.heap.size ((i + 1) * 6) (n - i) dc ⟨g, i * 6, none⟩ (n - i) sc C1 24 ((cells24 l).drop (i * 6)) 6 Try.underlying22 (by rw [hi0]; simp [hs0]) hg2 (by rw [hmin, hdl]) (fun j u hj => ?_) (by rw [hdl, hsz1, ← Nat.add_mul]; exact Nat.mul_le_mul_right _ (by omega)) (fun u hu => cells24_one l u (List.mem_of_mem_drop hu))
    rw [List.getElem?_drop] at hj
    have h1 := hread _ u hj
    rw [add0, Nat.zero_add] at h1
    rw [add0]
    have hgl : g < w.heap.size := (Array.getElem?_eq_some_iff.1 hg).1
    exact (hb2.cell (p := ⟨g, i * 6 + j, none⟩) hgl).trans h1
  have hfin : w3.ownsRow w.heap.size 24 6 (.slice (some ⟨w.heap.size, 0, none⟩) (n + 1) cap) (n + 1) (cells24 (l.take i ++ x :: l.drop i)) := by
    refine ⟨by rw [cells24_len]; simp only [List.length_append, List.length_cons, List.length_take, List.length_drop]; congr 1; omega, .inr ⟨w.heap.size, cap, C2, rfl, Nat.le_refl _, hg3, by omega, hml, ?_, ?_⟩⟩
    · rw [← hC2]
      simp only [List.size_toArray, List.length_append, List.length_take, List.length_drop, Array.length_toList, hsz1, hold]
      omega
    · rw [ins_cells, ← hC2]
      have h1 : C1.toList.take ((i + 1) * 6) = (cells24 l).take (i * 6) ++ cell6 x := by
        rw [← hC1]
        have h2 : C0.toList.take (i * 6) = (cells24 l).take (i * 6) := by
          rw [← hC0]
          simp only [Array.toList_append, List.append_assoc]
          rw [List.take_left' htl]
        show List.take _ (C0.toList.take (i * 6) ++ cell6 x ++ _) = _
        rw [h2]
        exact List.take_left' (by rw [List.length_append, htl, c6_len]; omega)
      show List.take _ (C1.toList.take ((i + 1) * 6) ++ _ ++ _) = _
      rw [h1]
      exact List.take_left' (by rw [List.length_append, List.length_append, htl, c6_len, hdl, Nat.sub_mul]; have := Nat.mul_le_mul_right 6 (show i ≤ n by omega); omega)
  have H1 := Aside0.mk hcp1
  have H2 := Aside0.mk hcp2
  have HF := Aside0.mk hfin
  have HB := Aside0.mk hb3
  clear hcp1 hcp2 hfin hb3 hb2 hb1 hg3 hg2 hw3 hw2 hC1 hC2 hsz1 hdl hmin hin
  have hi' : (i : Int) < (n : Int) := by omega
  have hin : ¬ ((i : Int) = (n : Int)) := by omega
  have hin2 : ¬ (n = i) := by omega
  have hcap1 : ¬ (cap = i) := by omega
  have hcap2 : ¬ (cap = i + 1) := by omega
  have hcap3 : (i : Int) ≤ (cap : Int) := by omega
  have hcap4 : (i : Int) + 1 ≤ (n : Int) + 1 := by omega
  have htn : ((i : Int) + 1).toNat = i + 1 := by omega
  have hnn : ((n : Int) + 1) ≤ (cap : Int) := by omega
  have HK := Aside0.mk hk
  have HE := Aside0.mk hn
  clear hap hk hn hcap hw1 hz hz0 hzs hC0 hs0 hb0 hi0 hcur hsz0 hold htl hg hx hg1 hle hml hroom hlc hi
  go_enter Try.func27, Try.ntmps27
  go_wp2_with (first | (at_builtin; refine wpList_append_run _ rfl _ _ 22 3 rfl _ _ rfl rfl _ _ (HA.out _) ?_) | (refine wpList_copy_run _ rfl (.tmp 43) (.tmp 44) 22 22 rfl _ _ rfl rfl (H1.out _ _ _) ?_))
  have hw1 : IntKind.i64.wrap ((i : Int) + 1) = (i : Int) + 1 := by rw [IntKind.wrap_i64]; omega
  have hbb : (0 : Int) ≤ (i : Int) + 1 := by omega
  have hbi : (0 : Int) ≤ (i : Int) := by omega
  have hbn : (i : Int) ≤ (n : Int) := by omega
  have h2 := H2.out 3 (cap - (i + 1)) (n - i)
  go_region
  go_wp2
  go_ret
  exact ⟨_, rfl, HF.out, HB.out⟩
set_option maxHeartbeats 200000000 in
set_option maxRecDepth 100000 in
/-- slices.Insert ahead of the end, where there is room. -/
theorem insert_room (base : Nat) (g : Nat) (cap : Nat) (cur : Array Value) (l : List S24) (x : S24) (i : Nat) (vb : Nat) (w : World) (hbase : base ≤ g) (hg : w.heap[g]? = some (.cells cur 24 (0, 0))) (hcur : cur.toList.take (l.length * 6) = cells24 l) (hcs : cur.size = cap * 6) (hml : cap ≤ maxLen)
    (hx : w.heap[vb]? = some (.cells (cell6 x).toArray 24 (0, 0))) (hvg : vb ≠ g) (hi : i < l.length) (hroom : l.length + 1 ≤ cap) (hl : l.length ≤ 4096) :
    Calls Try.prog 27 #[.slice (some ⟨g, 0, none⟩) l.length cap, .int .i64 (i : Int), .slice (some ⟨vb, 0, none⟩) 1 1] w fun e w' => ∃ v', e = .returned v' ∧ w'.ownsRow base 24 6 v' (l.length + 1) (cells24 (l.take i ++ x :: l.drop i)) ∧ w.grownBy w' (some g) := by
  obtain ⟨i0, hi0, hz0, hs0, hb0⟩ := info_parts info24c
  obtain ⟨n, hn⟩ : ∃ n, l.length = n := ⟨_, rfl⟩
  have hold : (cells24 l).length = n * 6 := by rw [cells24_len, hn]
  rw [hn] at hcur hi hroom hl
  have hread : ∀ j u, (cells24 l)[j]? = some u → w.cell? ((⟨g, 0, none⟩ : Addr).add j) = some u := fun j u hj => by
    rw [add0, Nat.zero_add, blk_cell hg j]
    rw [← hcur] at hj
    have := (List.getElem?_eq_some_iff.1 hj).1
    rw [List.length_take] at this
    rw [List.getElem?_take, if_pos (by omega)] at hj
    simpa using hj
  have hov : ∀ lb cb, (callFunc 40 #[.slice (some ⟨vb, 0, none⟩) 1 1, .slice (some ⟨g, (i + 1) * 6, none⟩) lb cb]).run Try.prog w = .ok (.value (.bool false)) w := fun lb cb => by
    rw [run_callFunc_extern Try.func40 (by kernel_rfl) (by kernel_rfl) (by kernel_rfl) (e := Extern.SlicesOverlaps.overlaps #[22, 22] #[4]) (by kernel_rfl),
      run_overlaps_apart w 22 4 24 Try.underlying22 6 (fun w => by simp [Go.sizeOf, typeInfo, hi0, hs0]) ⟨vb, 0, none⟩ ⟨g, (i + 1) * 6, none⟩ 1 1 lb cb hvg 24 24 6 (cap * 6) (by simp [World.shape?, hx, c6_len]) (by simp [World.shape?, hg, hcs]) (by omega) (blk_frozen hx 0) (blk_frozen hx 6)]
    rfl
  obtain ⟨C1, hC1⟩ : ∃ C1, (cur.toList.take ((i + 1) * 6) ++ (cells24 l).drop (i * 6) ++ cur.toList.drop ((i + 1) * 6 + ((cells24 l).drop (i * 6)).length)).toArray = C1 := ⟨_, rfl⟩
  have hdl : ((cells24 l).drop (i * 6)).length = (n - i) * 6 := by rw [List.length_drop, hold, Nat.sub_mul]
  have hmin : Nat.min (n + 1 - i) (n - i) = n - i := Nat.min_eq_right (show n - i ≤ n + 1 - i by omega)
  obtain ⟨w1, hw1⟩ : ∃ w1, w.drew.setRow g C1 = w1 := ⟨_, rfl⟩
  have hcc : (i + 1) * 6 + (n - i) * 6 = (n + 1) * 6 := by rw [← Nat.add_mul]; congr 1; omega
  have hncap : (n + 1) * 6 ≤ cap * 6 := Nat.mul_le_mul_right _ hroom
  have hsz1 : C1.size = cap * 6 := by
    rw [← hC1]
    simp only [List.size_toArray, List.length_append, List.length_take, List.length_drop, Array.length_toList, hcs, hold]
    have := Nat.mul_le_mul_right 6 (show i ≤ n by omega)
    omega
  have hcp1 : ∀ ty dc sc, (Builtin.copy_ #[22, 22] ty #[.slice (some ⟨g, (i + 1) * 6, none⟩) (n - i) dc, .slice (some ⟨g, i * 6, none⟩) (n + 1 - i) sc]).run Try.prog w.drew = .ok (goInt (Nat.min (n + 1 - i) (n - i))) w1 := fun ty dc sc => by
    rw [← hw1, ← hC1]
    refine run_copy_rowK w.drew 22 22 ty 24 g ((i + 1) * 6) (n - i) dc ⟨g, i * 6, none⟩ (n + 1 - i) sc cur 24 ((cells24 l).drop (i * 6)) 6 Try.underlying22 (by rw [hi0]; simp [hs0]) hg (by rw [hmin, hdl]) (fun j u hj => ?_) (by rw [hdl, hcs, hcc]; exact hncap) (fun u hu => cells24_one l u (List.mem_of_mem_drop hu))
    rw [List.getElem?_drop] at hj
    have h1 := hread _ u hj
    rw [add0, Nat.zero_add] at h1
    rw [add0]
    exact h1
  have hg1 : w1.heap[g]? = some (.cells C1 24 (0, 0)) := by rw [← hw1]; exact setRow_heap _ _ _ _ _ _ (show w.drew.heap[g]? = _ from hg)
  have hx1 : w1.heap[vb]? = some (.cells (cell6 x).toArray 24 (0, 0)) := by rw [← hw1]; exact (setRow_other _ _ _ _ hvg).trans hx
  obtain ⟨C2, hC2⟩ : ∃ C2, (C1.toList.take (i * 6) ++ cell6 x ++ C1.toList.drop (i * 6 + (cell6 x).length)).toArray = C2 := ⟨_, rfl⟩
  obtain ⟨w2, hw2⟩ : ∃ w2, w1.setRow g C2 = w2 := ⟨_, rfl⟩
  have hin : Nat.min 1 (n + 1 - i) = 1 := Nat.min_eq_left (show 1 ≤ n + 1 - i by omega)
  have hcp2 : ∀ ty dc sc, (Builtin.copy_ #[22, 22] ty #[.slice (some ⟨g, i * 6, none⟩) (n + 1 - i) dc, .slice (some ⟨vb, 0, none⟩) 1 sc]).run Try.prog w1 = .ok (goInt (Nat.min 1 (n + 1 - i))) w2 := fun ty dc sc => by
    rw [← hw2, ← hC2]
    refine run_copy_rowK w1 22 22 ty 24 g (i * 6) (n + 1 - i) dc ⟨vb, 0, none⟩ 1 sc C1 24 (cell6 x) 6 Try.underlying22 (by rw [hi0]; simp [hs0]) hg1 (by rw [hin, c6_len]) (fun j u hj => ?_) (by rw [c6_len, hsz1]; have := Nat.mul_le_mul_right 6 (show i + 1 ≤ cap by omega); omega) (c6_one x)
    rw [add0, Nat.zero_add, blk_cell hx1 j]
    simpa using hj
  have hg2 : w2.heap[g]? = some (.cells C2 24 (0, 0)) := by rw [← hw2]; exact setRow_heap _ _ _ _ _ _ hg1
  have hgr : w.grownBy w2 (some g) := by
    rw [← hw2, ← hw1]
    exact ⟨rfl, rfl, rfl, by simp, fun k _ hk => (setRow_other _ _ _ _ (fun e => hk (by rw [e]))).trans (setRow_other _ _ _ _ (fun e => hk (by rw [e])))⟩
  have hsz2 : C2.size = cap * 6 := by
    rw [← hC2]
    simp only [List.size_toArray, List.length_append, List.length_take, List.length_drop, Array.length_toList, hsz1, c6_len]
    have := Nat.mul_le_mul_right 6 (show i + 1 ≤ cap by omega)
    omega
  have hfin : w2.ownsRow base 24 6 (.slice (some ⟨g, 0, none⟩) (n + 1) cap) (n + 1) (cells24 (l.take i ++ x :: l.drop i)) := by
    refine ⟨by rw [cells24_len]; simp only [List.length_append, List.length_cons, List.length_take, List.length_drop]; congr 1; omega, .inr ⟨g, cap, C2, rfl, hbase, hg2, hroom, hml, hsz2, ?_⟩⟩
    rw [ins_cells, ← hC2]
    have hin2 := Nat.mul_le_mul_right 6 (show i ≤ n by omega)
    have hin3 := Nat.mul_le_mul_right 6 (show i + 1 ≤ cap by omega)
    have h0 : cur.toList.take (i * 6) = (cells24 l).take (i * 6) := by
      rw [← hcur, List.take_take, Nat.min_eq_left hin2]
    have hcl : cur.toList.length = cap * 6 := by rw [Array.length_toList, hcs]
    have h1 : C1.toList.take (i * 6) = (cells24 l).take (i * 6) := by
      rw [← hC1]
      show List.take _ (cur.toList.take ((i + 1) * 6) ++ _ ++ _) = _
      rw [List.append_assoc, List.take_append_of_le_length (by rw [List.length_take, hcl]; omega), List.take_take, Nat.min_eq_left (by omega), h0]
    have h2 : C1.toList.drop (i * 6 + (cell6 x).length) = (cells24 l).drop (i * 6) ++ cur.toList.drop ((i + 1) * 6 + ((cells24 l).drop (i * 6)).length) := by
      rw [← hC1]
      show List.drop _ (cur.toList.take ((i + 1) * 6) ++ _ ++ _) = _
      rw [List.append_assoc]
      exact List.drop_left' (by rw [List.length_take, hcl, c6_len]; omega)
    show List.take _ (C1.toList.take (i * 6) ++ cell6 x ++ C1.toList.drop (i * 6 + (cell6 x).length)) = _
    rw [h1, h2, ← List.append_assoc]
    exact List.take_left' (by rw [List.length_append, List.length_append, List.length_take, hold, c6_len, hdl]; omega)
  have hi' : (i : Int) < (n : Int) := by omega
  have hin' : ¬ ((i : Int) = (n : Int)) := by omega
  have hin2 : ¬ (n = i) := by omega
  have hcap1 : ¬ (cap = i) := by omega
  have hcap2 : ¬ (cap = i + 1) := by omega
  have hcap3 : (i : Int) ≤ (cap : Int) := by omega
  have hcap4 : (i : Int) + 1 ≤ (n : Int) + 1 := by omega
  have hcap5 : ((n : Int) + 1) ≤ (cap : Int) := by omega
  have htn : ((i : Int) + 1).toNat = i + 1 := by omega
  have hnt : ((n : Int) + 1).toNat = n + 1 := by omega
  have H1 := Aside0.mk hcp1
  have H2 := Aside0.mk hcp2
  have HF := Aside0.mk hfin
  have HB := Aside0.mk hgr
  have HO := Aside0.mk hov
  show Calls Try.prog 27 #[.slice (some ⟨g, 0, none⟩) l.length cap, .int .i64 (i : Int), .slice (some ⟨vb, 0, none⟩) 1 1] w _
  rw [hn]
  clear hov hcp1 hcp2 hfin hgr hg hg1 hg2 hx hx1 hw1 hw2 hC1 hC2 hdl hmin hcc hncap hsz1 hsz2 hin hcs hcur hml hread hold hz0 hs0 hb0 hi0 hn hi hroom
  go_enter Try.func27, Try.ntmps27
  have ho := HO.out
  go_wp2_with (simp only [ho])
  have hw1 : IntKind.i64.wrap ((i : Int) + 1) = (i : Int) + 1 := by rw [IntKind.wrap_i64]; omega
  have hbb : (0 : Int) ≤ (i : Int) + 1 := by omega
  have hbi : (0 : Int) ≤ (i : Int) := by omega
  have hbn : (i : Int) ≤ (n : Int) + 1 := by omega
  have h1 := H1.out 3 (cap - (i + 1)) (cap - i)
  go_region
  clear h1
  go_wp2_with (refine wpList_copy_run _ rfl (.tmp 80) (.tmp 81) 22 22 rfl _ _ rfl rfl (H2.out _ _ _) ?_)
  go_ret
  exact ⟨_, rfl, HF.out, HB.out⟩
/-- **slices.Insert of one element into a row of the call's own.** -/
theorem insert_calls (base : Nat) (v : Value) (l : List S24) (x : S24) (i : Nat) (vb : Nat) (w : World) (hown : w.ownsRow base 24 6 v l.length (cells24 l)) (hbase : base ≤ w.heap.size) (hx : w.heap[vb]? = some (.cells (cell6 x).toArray 24 (0, 0))) (hvb : v.ownBlock ≠ some vb) (hi : i ≤ l.length) (hl : l.length ≤ 4096) :
    Calls Try.prog 27 #[v, .int .i64 (i : Int), .slice (some ⟨vb, 0, none⟩) 1 1] w fun e w' => ∃ v', e = .returned v' ∧ Kd.R k24 24 w' base (fun _ => True) v' (l.take i ++ x :: l.drop i) ∧ Below base w w' := by
  have hlen : (l.take i ++ x :: l.drop i).length = l.length + 1 := by simp only [List.length_append, List.length_cons, List.length_take, List.length_drop]; omega
  have hbelow : ∀ w', w.grownBy w' v.ownBlock → Below base w w' := fun w' hg => (Below.refl base w).grown hg hbase (fun k e => (hown.lt k e).1)
  rcases Nat.lt_or_ge i l.length with hlt | hge
  · have hown' := hown
    rcases hown.2 with ⟨rfl, h0⟩ | ⟨g, cap, cur, rfl, h1, h2, h3, h4, h5, h6⟩
    · omega
    · by_cases hroom : l.length + 1 ≤ cap
      · refine (insert_room base g cap cur l x i vb w h1 h2 h6 h5 h4 hx (fun e => hvb (by rw [e]; rfl)) hlt hroom hl).mono fun e w' ⟨v', he, ho, hg⟩ => ⟨v', he, R_of_own (by rw [hlen]; exact ho), hbelow w' hg⟩
      · refine (insert_grow g cap cur l x i vb w h2 h6 hx hlt hroom h3 hl).mono fun e w' ⟨v', he, ho, hb⟩ => ⟨v', he, R_of_own (by rw [hlen]; exact ⟨ho.1, ho.2.imp id (fun ⟨g', c', r', k1, k2, k3⟩ => ⟨g', c', r', k1, Nat.le_trans hbase k2, k3⟩)⟩), hb.mono hbase⟩
  · obtain rfl : i = l.length := by omega
    rw [List.take_length, List.drop_length]
    refine (insert_end base v l x vb w hown hbase hx hl).mono fun e w' ⟨v', he, ho, hg⟩ => ⟨v', he, R_of_own (by rw [List.length_append, cells24_append]; simpa [cells24] using ho), hbelow w' hg⟩
end
end
section
open Go.Shelf
section
def insAt (l : List S24) (i : Int) (x : S24) : List S24 := l.take i.toNat ++ x :: l.drop i.toNat
def versions_Add.f (k : Nat) (l0 : List (S24)) (a1_0 : Int) (a1_1 : Int) (a1_2 : Int) (a1_3 : Int) (a1_4 : Int) (a1_5 : Bool) : Option ((List (S24)) × Int) := (versions_Check.f k l0).bind fun t1 => (if t1 = 0 then ((api_Amend_24.f k l0 a1_0 a1_1 a1_2 a1_3 a1_4 a1_5 ()).bind fun t2 => ((versions_right.f a1_0 a1_1 a1_2 a1_3 a1_4 a1_5).bind fun t3 => (if t3 = true then (if t2.2 = true then (some (([] : List (S24)), 151)) else (if (l0.length : Int) = 4096 then (some (([] : List (S24)), 2)) else (if 0 ≤ t2.1 ∧ t2.1 ≤ (l0.length : Int) then (some (insAt l0 t2.1 ⟨a1_0, a1_1, a1_2, a1_3, a1_4, a1_5⟩, 0)) else none))) else (some (([] : List (S24)), 140))))) else (some (([] : List (S24)), t1)))
theorem versions_Add.mono : ∀ a0 a1 a2 a3 a4 a5 a6 k, LeO (versions_Add.f k a0 a1 a2 a3 a4 a5 a6) (versions_Add.f (k + 1) a0 a1 a2 a3 a4 a5 a6) := by
  intro a0 a1 a2 a3 a4 a5 a6 k
  unfold versions_Add.f
  refine LeO.bind (versions_Check.mono _ _) (fun _ => LeO.ite (LeO.bind (api_Amend_24.mono _ _ _ _ _ _ _ _ _) (fun _ => LeO.refl _)) (LeO.refl _))
set_option maxHeartbeats 200000000 in
set_option maxRecDepth 100000 in
theorem versions_Add.calls (k : Nat) (A0 : Option Addr) (c0 : Nat) (l0 : List (S24)) (a1_0 : Int) (a1_1 : Int) (a1_2 : Int) (a1_3 : Int) (a1_4 : Int) (a1_5 : Bool) (r1 : List (S24)) (r2 : Int) (w : World) (hr0 : Kd.C k24 w A0 l0.length l0) (hc0 : l0.length ≤ c0) (h : versions_Add.f k l0 a1_0 a1_1 a1_2 a1_3 a1_4 a1_5 = some (r1, r2)) :
    Calls Try.prog 11 #[.slice A0 l0.length c0, .agg #[.int .i64 a1_0, .int .i64 a1_1, .int .i64 a1_2, .int .i64 a1_3, .int .i64 a1_4, .bool a1_5]] w fun e w' => ∃ v0_ : Value, e = .returned (.tuple #[v0_, .int .i64 r2]) ∧ Kd.R k24 24 w' w.heap.size (fun _ => True) v0_ r1 ∧ Below w.heap.size w w' := by
  have hu24 := Try.underlying24
  unfold versions_Add.f at h
  obtain ⟨t1, ht1, h⟩ := Option.bind_eq_some_iff.mp h
  have HR := Aside0.mk hr0
  clear hr0
  have hba := (Below.refl _ w).alloc (Nat.le_refl _) (.cells #[.int .i64 a1_0, .int .i64 a1_1, .int .i64 a1_2, .int .i64 a1_3, .int .i64 a1_4, .bool a1_5] 24)
  have BX := World.alloc_heap_new w (.cells #[.int .i64 a1_0, .int .i64 a1_1, .int .i64 a1_2, .int .i64 a1_3, .int .i64 a1_4, .bool a1_5] 24)
  by_cases hz : t1 = 0
  · subst hz
    rw [if_pos rfl] at h
    obtain ⟨⟨t2, t2b⟩, ht2, h⟩ := Option.bind_eq_some_iff.mp h
    obtain ⟨t3, ht3, h⟩ := Option.bind_eq_some_iff.mp h
    dsimp only at h
    have HS := Aside0.mk (check_short ht1)
    go_enter Try.func11, Try.ntmps11
    go_wp2_with fail
    generalize w.alloc (.cells #[.int .i64 a1_0, .int .i64 a1_1, .int .i64 a1_2, .int .i64 a1_3, .int .i64 a1_4, .bool a1_5] 24) = w1 at *
    refine (versions_Check.calls k A0 c0 l0 0 w1 (later24 HR.out hba) hc0 ht1).mono ?_
    rintro e w2 ⟨rfl, hb⟩
    have B2 := Aside0.mk (hba.trans (hb.mono hba.size))
    replace BX := blk_below BX hb
    clear hba hb
    have x0 := (blk_cell BX 0).trans rfl
    have x1 := (blk_cell BX 1).trans rfl
    have x2 := (blk_cell BX 2).trans rfl
    have x3 := (blk_cell BX 3).trans rfl
    have x4 := (blk_cell BX 4).trans rfl
    have x5 := (blk_cell BX 5).trans rfl
    go_wp2_with fail
    refine (api_Amend_24.calls k A0 c0 l0 a1_0 a1_1 a1_2 a1_3 a1_4 a1_5 () t2 t2b w2 (later24 HR.out B2.out) hc0 ht2).mono ?_
    rintro e w3 ⟨rfl, hb⟩
    have B3 := Aside0.mk (B2.out.trans (hb.mono B2.out.size))
    replace BX := blk_below BX hb
    clear hb
    clear x0 x1 x2 x3 x4 x5
    have x0 := (blk_cell BX 0).trans rfl
    have x1 := (blk_cell BX 1).trans rfl
    have x2 := (blk_cell BX 2).trans rfl
    have x3 := (blk_cell BX 3).trans rfl
    have x4 := (blk_cell BX 4).trans rfl
    have x5 := (blk_cell BX 5).trans rfl
    dsimp only
    go_wp2_with fail
    refine (versions_right.calls a1_0 a1_1 a1_2 a1_3 a1_4 a1_5 t3 w3 ht3).mono ?_
    rintro e w4 ⟨rfl, hb⟩
    have B4 := Aside0.mk (B3.out.trans (hb.mono B3.out.size))
    replace BX := blk_below BX hb
    clear hb
    clear x0 x1 x2 x3 x4 x5
    dsimp only
    have fin : ∀ {r : List S24} {c : Int}, some (([] : List S24), c) = some (r1, r2) → r1 = [] ∧ r2 = c := fun e => by cases e; exact ⟨rfl, rfl⟩
    cases t3 with
    | false =>
      rw [if_neg (by decide)] at h
      obtain ⟨rfl, rfl⟩ := fin (r := []) h
      clear fin h
      go_wp2
      go_ret2
      exact ⟨_, rfl, Kd.R_nil _ _ _ _ _, B4.out⟩
    | true =>
      rw [if_pos rfl] at h
      cases t2b with
      | true =>
        rw [if_pos rfl] at h
        obtain ⟨rfl, rfl⟩ := fin (r := []) h
        clear fin h
        go_wp2
        go_ret2
        exact ⟨_, rfl, Kd.R_nil _ _ _ _ _, B4.out⟩
      | false =>
        rw [if_neg (by decide)] at h
        by_cases hfull : (l0.length : Int) = 4096
        · rw [if_pos hfull] at h
          obtain ⟨rfl, rfl⟩ := fin (r := []) h
          have hfb : ((l0.length : Int) == 4096) = true := by simpa using hfull
          clear fin h hfull
          go_wp2
          go_ret2
          exact ⟨_, rfl, Kd.R_nil _ _ _ _ _, B4.out⟩
        · rw [if_neg hfull] at h
          have hfb : ((l0.length : Int) == 4096) = false := by simpa using hfull
          by_cases hrange : 0 ≤ t2 ∧ t2 ≤ (l0.length : Int)
          · rw [if_pos hrange] at h
            cases h
            obtain ⟨i, rfl⟩ : ∃ i : Nat, t2 = (i : Int) := ⟨t2.toNat, by omega⟩
            have hi : i ≤ l0.length := by omega
            have HI := Aside0.mk hi
            have R4 := Aside0.mk (later24 HR.out B4.out)
            clear fin hrange hi hfull
            have x0 := (blk_cell BX 0).trans rfl
            have x1 := (blk_cell BX 1).trans rfl
            have x2 := (blk_cell BX 2).trans rfl
            have x3 := (blk_cell BX 3).trans rfl
            have x4 := (blk_cell BX 4).trans rfl
            have x5 := (blk_cell BX 5).trans rfl
            have HX := Aside0.mk BX
            clear BX
            go_wp2
            go_region_with (first
              | (go_at_call 28; (refine (clone_calls A0 c0 l0 _ ?s1 hc0 ?s2).mono ?_); (case s1 => exact Kd.C_below R4.out (by (repeat (first | exact Below.refl _ _ | apply below_alloc | apply below_drew1 | apply pw_below_drewN)))); (case s2 => exact HS.out); rintro e W5 ⟨v, rfl, hv, hb5⟩; have B5 : Below w4.heap.size w4 W5 := below_step (by (repeat (first | exact Below.refl _ _ | apply below_alloc | apply below_drew1 | apply pw_below_drewN))) hb5; have BX5 := blk_below HX.out B5; have y0 := (blk_cell BX5 0).trans rfl; have y1 := (blk_cell BX5 1).trans rfl; have y2 := (blk_cell BX5 2).trans rfl; have y3 := (blk_cell BX5 3).trans rfl; have y4 := (blk_cell BX5 4).trans rfl; have y5 := (blk_cell BX5 5).trans rfl; clear BX5; have hv2 : W5.ownsRow w.heap.size 24 6 v l0.length (cells24 l0) := ⟨hv.1, hv.2.imp id (fun ⟨g', c', r', k1, k2, k3⟩ => ⟨g', c', r', k1, Nat.le_trans (by have h4 := B4.out.size; simp; omega) k2, k3⟩)⟩; have HV := Aside0.mk hv; have HV2 := Aside0.mk hv2; have s5 := B5.size; have HB5 := Aside0.mk hb5; clear hv hv2 hb5)
              | (go_at_call 27; (refine (insert_calls w.heap.size v l0 ⟨a1_0, a1_1, a1_2, a1_3, a1_4, a1_5⟩ i _ _ ?t1 ?t2 ?t3 ?t4 HI.out ?t5).mono ?_); (case t1 => (first | exact HV2.out.alloc _ | exact HV2.out)); (case t2 => (have h4 := B4.out.size; have h5 := B5.size; first | (simp; omega) | omega)); (case t3 => (first | exact World.alloc_heap_new W5 _ | exact blk_below (World.alloc_heap_new w4.drew _) HB5.out)); (case t4 => (first | exact (fun e => by have := (HV2.out.lt _ e).2; omega) | exact (fun e => by have := (HV.out.lt _ e).1; simp at this; omega))); (case t5 => exact HS.out); rintro e W7 ⟨v', rfl, hR, hb7⟩))
            all_goals
              have B45 := B4.out.trans (B5.mono B4.out.size)
              go_wp2
              go_ret2
              exact ⟨_, rfl, hR, by first | exact B45.trans hb7 | exact (below_alloc B45 _).trans hb7⟩
          · rw [if_neg hrange] at h
            cases h
  · rw [if_neg hz] at h
    have h' := Option.some.inj h
    simp only [Prod.mk.injEq] at h'
    obtain ⟨e1, e2⟩ := h'
    subst e1 e2
    clear h
    have hne : (t1 != 0) = true := by simpa using hz
    go_enter Try.func11, Try.ntmps11
    go_wp2_with fail
    generalize w.alloc (.cells #[.int .i64 a1_0, .int .i64 a1_1, .int .i64 a1_2, .int .i64 a1_3, .int .i64 a1_4, .bool a1_5] 24) = w1 at *
    refine (versions_Check.calls k A0 c0 l0 t1 w1 (later24 HR.out hba) hc0 ht1).mono ?_
    rintro e w2 ⟨rfl, hb⟩
    have B2 := Aside0.mk (hba.trans (hb.mono hba.size))
    clear hba hb BX
    go_wp2
    go_ret2
    exact ⟨_, rfl, Kd.R_nil _ _ _ _ _, B2.out⟩
end
end

end Go.Proofs.Ytnahfhbnfidanaa.Q
