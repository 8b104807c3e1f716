-- Written by wip/tools/extprint.py of this repo (a program of this claim's own, over the kit's printer) out of the translation; Lean checks it.
import Derived.Test.YtomlcakliljmbaaQ0
import Derived.Test.YtomlcakliljmbaaQ3
import Derived.Test.YtomlcakliljmbaaQ8
import Derived.Test.YtomlcakliljmbaaQ9
namespace Go.Proofs.Ytomlcakliljmbaa.Q
open Go.RowKit Go.Proofs.YtomlcakliljmbaaW.PrintWords Go.Proofs.YtomlcakliljmbaaW.PrintLast Go.Proofs.YtomlcakliljmbaaW.PrintMore
attribute [local go_sem] max2_int min2_int max_two min_two max_three min_three max_four min_four   -- for this text's walks alone
set_option linter.unusedVariables false
set_option linter.unusedSimpArgs false

section
open Go.Shelf Go.Maps
section
/-- What an appointment is about. -/
abbrev sv (o p : Int) : Value := .agg #[.int .i64 o, .int .i64 p]
set_option maxRecDepth 100000
theorem laid15 : laidOutB Try.prog = true := by kernel_rfl
theorem wide60 : (match Try.prog.underlying 60 with | some (.array _ _) | some (.struct _) => true | _ => false) = true := by rw [Try.underlying60]
theorem law60 : Keyed Try.prog 60 := Keyed.of_law (deep_law_laid laid15 (m := 2) (by omega) (of_decide_eq_true (by kernel_rfl)) (by kernel_rfl) wide60)
theorem types60 : ∃ m, Try.prog.types.size = m + 1 := ⟨Try.prog.types.size - 1, by kernel_rfl⟩
theorem cells60 : Try.prog.cellsOf 60 = 2 := by kernel_rfl
theorem cells3 : Try.prog.cellsOf 3 = 1 := by kernel_rfl
theorem keyT60 : Try.prog.keyType 60 = true := by kernel_rfl
theorem key_mk {o p : Int} (ho : (Lit.int .i64 o).wf = true) (hp : (Lit.int .i64 p).wf = true) : keyOf Try.prog 60 (sv o p) = some (.string (keyBytes [.int .i64 o, .int .i64 p])) := by
  obtain ⟨m, hm⟩ := types60
  unfold keyOf
  simp only [Try.underlying60]
  rw [if_pos (by simp [keyT60, Value.formed, Try.underlying60, cells60]), hm]
  unfold Program.keyLits
  simp only [Try.underlying60, Value.cells]
  rw [if_pos (by rw [cells60]; exact ⟨rfl, by kernel_rfl⟩)]
  simp [cells3, Program.keyLits, Try.underlying3, ho, hp]
theorem key_inv {v : Value} {l : Lit} (h : keyOf Try.prog 60 v = some l) : ∃ x : Int × Int, v = sv x.1 x.2 := by
  obtain ⟨xs, L, rfl, h1, _⟩ := keyOf_top wide60 h
  obtain ⟨m, hm⟩ := types60
  rw [hm] at h1
  unfold Program.keyLits at h1
  simp only [Try.underlying60] at h1
  split at h1
  · rename_i hc
    rw [cells60] at hc
    obtain ⟨a, b, hx⟩ : ∃ a b, xs = #[a, b] := by
      obtain ⟨l, hl⟩ : ∃ l, xs = List.toArray l := ⟨xs.toList, by simp⟩
      subst hl
      have := hc.1
      match l, this with
      | [a, b], _ => exact ⟨a, b, rfl⟩
    subst hx
    simp only [Option.map_eq_some_iff] at h1
    obtain ⟨L', h2, _⟩ := h1
    have e : ∀ (v : Value) (m : Nat) (L : List Lit), Try.prog.keyLits m 3 [v] = some L → ∃ n, v = .int .i64 n := by
      intro v m L hm
      cases m with
      | zero => simp [Program.keyLits] at hm
      | succ m =>
        unfold Program.keyLits at hm
        rw [Try.underlying3] at hm
        cases v <;> simp at hm
        rename_i q n
        exact ⟨n, by rw [hm.1.1]⟩
    simp only [List.mapM_cons, List.mapM_nil, cells3, Option.bind_eq_bind, Option.bind_eq_some_iff] at h2
    obtain ⟨l1, k1, l2, ⟨l3, k2, _⟩, _⟩ := h2
    obtain ⟨n1, rfl⟩ := e _ _ _ k1
    obtain ⟨n2, rfl⟩ := e _ _ _ k2
    exact ⟨(n1, n2), rfl⟩
  · cases h1
/-- How an appointment reads. -/
def enc24 (x : S24) : DataW Unit := .agg [.lit (.int .i64 x.f0), .lit (.int .i64 x.f1), .lit (.int .i64 x.f2), .lit (.int .i64 x.f3), .lit (.int .i64 x.f4), .lit (.int .i64 x.f5), .lit (.bool x.f6)]
theorem enc24_inj {x y : S24} (h : enc24 x = enc24 y) : x = y := by
  obtain ⟨a, b, c, d, e, f, g⟩ := x
  obtain ⟨a', b', c', d', e', f', g'⟩ := y
  simp [enc24] at h
  simp [h]
def el24 : Value → Option (DataW Unit × List MemPlace)
  | .agg cs => match cs.toList with
    | [.int .i64 a, .int .i64 b, .int .i64 c, .int .i64 d, .int .i64 e, .int .i64 f, .bool g] => some (enc24 ⟨a, b, c, d, e, f, g⟩, [])
    | _ => none
  | _ => none
theorem el24_mk (x : S24) : el24 (ag24 x) = some (enc24 x, []) := rfl
theorem el24_inv {v : Value} {z : DataW Unit × List MemPlace} (h : el24 v = some z) : ∃ x : S24, v = ag24 x ∧ z = (enc24 x, []) := by
  unfold el24 at h
  split at h
  · rename_i cs
    split at h
    · rename_i hl
      cases h
      refine ⟨⟨_, _, _, _, _, _, _⟩, ?_, rfl⟩
      have e1 : cs = List.toArray cs.toList := by simp
      rw [e1, hl]
    · cases h
  · cases h
theorem zero24 (w : World) : (zeroValue 24).run Try.prog w = .ok (ag24 z24) w := by kernel_rfl
/-- Block b of w is a map of at most n entries: what M says. -/
def MapIs (w : World) (b n : Nat) (M : Int → Int → Option S24) : Prop :=
  ∃ D : DataW Unit, w.ownsMap Try.prog 60 el24 b n D ∧ ∀ o p l, keyOf Try.prog 60 (sv o p) = some l → has D l = (M o p).isSome ∧ ∀ z, D.atKey l z = ((M o p).map enc24).getD z
theorem MapIs.made (w : World) : MapIs (w.alloc (.map #[] 0)) w.heap.size 0 (fun _ _ => none) :=
  ⟨.map [], World.ownsMap_made w Try.prog 60 el24, fun o p l h => ⟨rfl, fun z => rfl⟩⟩
theorem MapIs.kept {w w' : World} {b n : Nat} {M : Int → Int → Option S24} {row : Option Nat} (h : MapIs w b n M) (hg : w.grownBy w' row) (hne : some b ≠ row) : MapIs w' b n M := by
  obtain ⟨D, h1, h2⟩ := h
  exact ⟨D, h1.kept hg hne, h2⟩
theorem MapIs.lt {w : World} {b n : Nat} {M : Int → Int → Option S24} (h : MapIs w b n M) : b < w.heap.size := by
  obtain ⟨D, h1, h2⟩ := h
  exact h1.lt
theorem MapIs.later {w w' : World} {b n : Nat} {M : Int → Int → Option S24} (h : MapIs w b n M) (hb : Below w.heap.size w w') : MapIs w' b n M := by
  have hlt := h.lt
  obtain ⟨D, ⟨es, clock, hbk, F, hs, hD⟩, h2⟩ := h
  exact ⟨D, ⟨es, clock, (hb.block b hlt).trans hbk, F, hs, hD⟩, h2⟩
theorem MapIs.mono {w : World} {b n n' : Nat} {M : Int → Int → Option S24} (h : MapIs w b n M) (hn : n ≤ n') : MapIs w b n' M := by
  obtain ⟨D, h1, h2⟩ := h
  exact ⟨D, h1.mono hn, h2⟩
theorem MapIs.look {w : World} {b n : Nat} {M : Int → Int → Option S24} (h : MapIs w b n M) {o p : Int} {l : Lit} (hk : keyOf Try.prog 60 (sv o p) = some l) :
    (Instr.lookup 56 (.map (some b)) (sv o p) true).run Try.prog w = .ok (.tuple #[ag24 ((M o p).getD z24), .bool (M o p).isSome]) w := by
  obtain ⟨D, h1, h2⟩ := h
  obtain ⟨v, ps, hrun, hv⟩ := h1.look_ok law60 Try.underlying56 (zero24 w) (el24_mk z24) hk
  obtain ⟨x, rfl, hx⟩ := el24_inv hv
  obtain ⟨h3, h4⟩ := h2 o p l hk
  rw [h3] at hrun
  have e : x = (M o p).getD z24 := by
    have := congrArg Prod.fst hx
    dsimp only at this
    rw [h4] at this
    cases hM : M o p with
    | none => rw [hM] at this; exact (enc24_inj this).symm
    | some y => rw [hM] at this; exact (enc24_inj this).symm
  rw [← e]
  exact hrun
theorem MapIs.look1 {w : World} {b n : Nat} {M : Int → Int → Option S24} (h : MapIs w b n M) {o p : Int} {l : Lit} (hk : keyOf Try.prog 60 (sv o p) = some l) :
    (Instr.lookup 56 (.map (some b)) (sv o p) false).run Try.prog w = .ok (ag24 ((M o p).getD z24)) w := by
  obtain ⟨D, h1, h2⟩ := h
  obtain ⟨v, ps, hrun, hv⟩ := h1.lookup law60 Try.underlying56 (zero24 w) (el24_mk z24) hk
  obtain ⟨x, rfl, hx⟩ := el24_inv hv
  obtain ⟨h3, h4⟩ := h2 o p l hk
  have e : x = (M o p).getD z24 := by
    have := congrArg Prod.fst hx
    dsimp only at this
    rw [h4] at this
    cases hM : M o p with
    | none => rw [hM] at this; exact (enc24_inj this).symm
    | some y => rw [hM] at this; exact (enc24_inj this).symm
  rw [← e]
  exact hrun
/-- A map with one entry more. -/
def putM (M : Int → Int → Option S24) (o p : Int) (x : S24) : Int → Int → Option S24 := fun o' p' => if o' = o ∧ p' = p then some x else M o' p'
theorem MapIs.store {w : World} {b n : Nat} {M : Int → Int → Option S24} (h : MapIs w b n M) (hn : n < maxLen) {o p : Int} {l : Lit} (hk : keyOf Try.prog 60 (sv o p) = some l) (x : S24) :
    ∃ w', (Instr.mapUpdate 56 (.map (some b)) (sv o p) (ag24 x)).run Try.prog w = .ok () w' ∧ MapIs w' b (n + 1) (putM M o p x) ∧ w.grownBy w' (some b) := by
  obtain ⟨D, h1, h2⟩ := h
  obtain ⟨w', r1, r2, r3⟩ := h1.update law60 Try.underlying56 hn hk (el24_mk x)
  refine ⟨w', r1, ⟨_, r2, fun o' p' l' hk' => ?_⟩, r3⟩
  unfold putM
  by_cases hc : o' = o ∧ p' = p
  · obtain ⟨rfl, rfl⟩ := hc
    obtain rfl : l' = l := Option.some.inj (hk'.symm.trans hk)
    rw [if_pos ⟨rfl, rfl⟩]
    exact ⟨has_put_same h1.isMap (law60.key hk) _, fun z => atKey_put_same h1.isMap (law60.key hk) _ z⟩
  · rw [if_neg hc]
    have hne : l' ≠ l := fun e => by
      subst e
      have := law60.inj hk' hk
      simp at this
      exact hc this
    rw [has_put_other hne]
    exact ⟨(h2 o' p' l' hk').1, fun z => by rw [atKey_put_other hne]; exact (h2 o' p' l' hk').2 z⟩
end
end
section
open Go.Shelf Go.Maps
section
attribute [local go_sem] Oper.semAt_some
/-- Does an appointment count. -/
def cnt (at_ known : Int) (x : S24) : Bool := decide (x.f1 ≤ at_) && decide (x.f2 ≤ known)
theorem results_cb {P : Program} {fn : Func} {p p' : Tmp} {ty : TypeId} (h : fn.results = #[.cell p ty, .tmp p']) (tmps : Array Value) (w : World) (g : Nat) (t : TypeId) (cs : Array Value) (fr : Nat × Nat) (d : TypeDesc)
    (hp : tmps.getD p undef = .pointer (some ⟨g, 0, none⟩)) (hg : w.heap[g]? = some (.cells cs t fr))
    (hu : P.underlying ty = some d) (hd : (match d with | .struct _ | .array _ _ => true | _ => false) = true) (hi : (P.info? ty).map (·.size) = some cs.size) :
    (results fn tmps).run P w = .ok (.tuple #[.agg cs, tmps.getD p' undef]) w := by
  have h1 : tmps[p]?.getD undef = .pointer (some ⟨g, 0, none⟩) := by simpa using hp
  simp [results, h, h1, asAddr, run_loadVar_row w g t ty cs fr d hg hu hd hi]
theorem info60 : (Try.prog.info? 60).map (·.size) = some 2 := by kernel_rfl
set_option maxHeartbeats 200000000 in
set_option maxRecDepth 100000 in
theorem counts_calls (b1 b2 : Nat) (at_ known : Int) (x : S24) (w : World) (h1 : w.cell? ⟨b1, 0, none⟩ = some (.int .i64 at_)) (h2 : w.cell? ⟨b2, 0, none⟩ = some (.int .i64 known)) (n1 : b1 < w.heap.size) (n2 : b2 < w.heap.size) :
    Calls Try.prog 47 #[ag24 x, .pointer (some ⟨b1, 0, none⟩), .pointer (some ⟨b2, 0, none⟩)] w fun e w' => e = .returned (.tuple #[sv x.f3 x.f4, .bool (cnt at_ known x)]) ∧ Below w.heap.size w w' := by
  have hu24 := Try.underlying24
  have hu60 := Try.underlying60
  obtain ⟨w1, hw1⟩ : ∃ w1, w.alloc (.cells #[.int .i64 x.f0, .int .i64 x.f1, .int .i64 x.f2, .int .i64 x.f3, .int .i64 x.f4, .int .i64 x.f5, .bool x.f6] 24) = w1 := ⟨_, rfl⟩
  obtain ⟨w2, hw2⟩ : ∃ w2, w1.alloc (.cells #[.int .i64 0, .int .i64 0] 60) = w2 := ⟨_, rfl⟩
  have hs1 : w1.heap.size = w.heap.size + 1 := by rw [← hw1]; simp
  have hs2 : w2.heap.size = w1.heap.size + 1 := by rw [← hw2]; simp
  have hB1 : Below w.heap.size w w1 := by rw [← hw1]; exact (Below.refl _ w).alloc (Nat.le_refl _) _
  have hB2 : Below w.heap.size w w2 := by rw [← hw2]; exact hB1.alloc (by omega) _
  have q1 : w2.heap[w.heap.size]? = some (.cells #[.int .i64 x.f0, .int .i64 x.f1, .int .i64 x.f2, .int .i64 x.f3, .int .i64 x.f4, .int .i64 x.f5, .bool x.f6] 24 (0, 0)) := by
    rw [← hw2, ← hw1]; exact blk_alloc (World.alloc_heap_new w _) _
  have q2 : w2.heap[w1.heap.size]? = some (.cells #[.int .i64 0, .int .i64 0] 60 (0, 0)) := by rw [← hw2]; exact World.alloc_heap_new w1 _
  obtain ⟨Bx, hBx⟩ : ∃ b, w.heap.size = b := ⟨_, rfl⟩
  obtain ⟨Bk, hBk⟩ : ∃ b, w1.heap.size = b := ⟨_, rfl⟩
  have c1 := (hB2.cell (p := ⟨b1, 0, none⟩) n1).trans h1
  have c2 := (hB2.cell (p := ⟨b2, 0, none⟩) n2).trans h2
  rw [hBk] at q2
  rw [hBx] at q1
  have e1 := (blk_cell q1 1).trans rfl
  have e2 := (blk_cell q1 2).trans rfl
  have e3 := (blk_cell q1 3).trans rfl
  have e4 := (blk_cell q1 4).trans rfl
  have k0 := (blk_cell q2 0).trans rfl
  have k1 := (blk_cell q2 1).trans rfl
  have f0 := blk_frozen q2 0
  have f1 := blk_frozen q2 1
  have HB := Aside0.mk hB2
  have HQ := Aside0.mk q2
  have HS := Aside0.mk (show Bx + 1 = Bk by omega)
  have HL := Aside0.mk (show w.heap.size ≤ Bk by omega)
  have m1 : b1 ≠ Bk := by omega
  have m2 : b2 ≠ Bk := by omega
  have m3 : Bx ≠ Bk := by omega
  clear q1 q2 hB1 hB2 h1 h2
  unfold cnt
  by_cases hle : x.f1 ≤ at_
  · have hd : decide (x.f1 ≤ at_) = true := decide_eq_true hle
    clear hle
    go_enter Try.func47, Try.ntmps47
    go_wp2
    rw [HS.out]
    clear hw1 hw2 hs1 hs2
    go_region
    all_goals
      go_wp2
      refine bodyPost_ret (results_cb (fn := Try.f47) (p := 4) (p' := 5) (ty := 60) rfl _ _ Bk 60 #[.int .i64 x.f3, .int .i64 x.f4] (0, 0) _ rfl (blk_drew (blk_put (blk_put HQ.out 0 _ rfl) 1 _ rfl)) hu60 rfl info60) rfl ?_
      exact ⟨by rw [hd]; rfl, below_drew1 (below_set (below_set HB.out HL.out) HL.out)⟩
  · have hd : decide (x.f1 ≤ at_) = false := decide_eq_false hle
    clear hle
    go_enter Try.func47, Try.ntmps47
    go_wp2
    rw [HS.out]
    clear hw1 hw2 hs1 hs2
    go_region
    all_goals
      go_wp2
      refine bodyPost_ret (results_cb (fn := Try.f47) (p := 4) (p' := 5) (ty := 60) rfl _ _ Bk 60 #[.int .i64 x.f3, .int .i64 x.f4] (0, 0) _ rfl (blk_drew (blk_put (blk_put HQ.out 0 _ rfl) 1 _ rfl)) hu60 rfl info60) rfl ?_
      exact ⟨by rw [hd]; rfl, below_drew1 (below_set (below_set HB.out HL.out) HL.out)⟩
end
end
section
open Go.Shelf Go.Maps
section
attribute [local go_sem] Oper.semAt_some
/-- One round of keep. -/
def stepM (at_ known : Int) (M : Int → Int → Option S24) (x : S24) : Int → Int → Option S24 :=
  if cnt at_ known x = true then (match M x.f3 x.f4 with
    | none => putM M x.f3 x.f4 x
    | some y => if y.f1 > x.f1 then M else putM M x.f3 x.f4 x) else M
/-- What standing leaves: the last ones that count. -/
def standP (at_ known : Int) (l : List S24) : Int → Int → Option S24 := l.foldl (stepM at_ known) (fun _ _ => none)
theorem standP_snoc (at_ known : Int) (l : List S24) (x : S24) : standP at_ known (l ++ [x]) = stepM at_ known (standP at_ known l) x := by unfold standP; rw [List.foldl_append]; rfl
theorem later_eq (x y : S24) : offices_standing_2.f x.f0 x.f1 x.f2 x.f3 x.f4 x.f5 x.f6 y.f0 y.f1 y.f2 y.f3 y.f4 y.f5 y.f6 = some (decide (x.f1 > y.f1)) := by
  unfold offices_standing_2.f
  rfl
theorem grown_below {w w' : World} {B : Nat} (hB : B ≤ w.heap.size) (h : Below w.heap.size w w') : w.grownBy w' none := grown_of_below h none
set_option maxHeartbeats 200000000 in
set_option maxRecDepth 100000 in
theorem keep_calls (b1 b2 : Nat) (A : Option Addr) (c : Nat) (l : List S24) (at_ known : Int) (w : World) (h1 : w.cell? ⟨b1, 0, none⟩ = some (.int .i64 at_)) (h2 : w.cell? ⟨b2, 0, none⟩ = some (.int .i64 known)) (n1 : b1 < w.heap.size) (n2 : b2 < w.heap.size)
    (hC : Kd.C k24 w A l.length l) (hl : l.length ≤ 4096) (hwf : ∀ x ∈ l, (Lit.int .i64 x.f3).wf = true ∧ (Lit.int .i64 x.f4).wf = true) :
    Calls Try.prog 48 #[.slice A l.length c, .func (.func 47) #[] #[.pointer (some ⟨b1, 0, none⟩), .pointer (some ⟨b2, 0, none⟩)], .func (.func 49) #[] #[]] w fun e w' =>
      ∃ B, e = .returned (.map (some B)) ∧ w.heap.size ≤ B ∧ MapIs w' B 4096 (standP at_ known l) ∧ Below w.heap.size w w' := by
  have hmm := @run_makeMap Try.prog
  have e47 : ∀ args w, (callFunc 47 args).run Try.prog w = .ok (.enter 47 args) w := enters_of Try.func47 (by kernel_rfl) rfl
  have e49 : ∀ args w, (callFunc 49 args).run Try.prog w = .ok (.enter 49 args) w := enters_of Try.func49 (by kernel_rfl) rfl
  have hu24 := Try.underlying24
  have hu60 := Try.underlying60
  have hu56 := Try.underlying56
  have hM0 := MapIs.made w
  have hB0 : Below w.heap.size w (w.alloc (.map #[] 0)) := (Below.refl _ w).alloc (Nat.le_refl _) _
  go_enter Try.func48, Try.ntmps48
  go_wp2
  go_loopw [17] (fun v wr => ∃ i : Nat, i ≤ l.length ∧ v = .int .i64 i ∧ MapIs wr w.heap.size i (standP at_ known (l.take i)) ∧ Below w.heap.size w wr) (fun v _ => l.length - (intOf v).toNat)
  case atStart =>
    exact ⟨0, by omega, rfl, hM0, hB0⟩
  case round =>
    obtain ⟨i, hi, rfl, hMi, hKi⟩ := hrel
    by_cases hlt : i < l.length
    · have hlt' : ((i : Int) < (l.length : Int)) := by omega
      have hi0 : (0 : Int) ≤ (i : Int) := by omega
      obtain ⟨ad, hA, e0, e1, e2, e3, e4, e5, e6⟩ := at_T24 (later24 hC hKi) (i : Int) hi0 hlt'
      subst hA
      have hsn := standP_snoc at_ known (l.take i) (rd_T24 l (i : Int))
      rw [← take_rd l i hlt] at hsn
      obtain ⟨hw3, hw4⟩ := hwf (rd_T24 l (i : Int)) (by rw [rd24_at l i hlt]; exact List.getElem_mem hlt)
      obtain ⟨x, hx⟩ : ∃ x, x = rd_T24 l (i : Int) := ⟨_, rfl⟩
      rw [← hx] at e0 e1 e2 e3 e4 e5 e6 hsn hw3 hw4
      rw [Int.toNat_natCast] at e0 e1 e2 e3 e4 e5 e6
      clear hx
      have HS := Aside0.mk hsn
      have hkey := key_mk hw3 hw4
      clear hsn hw3 hw4
      obtain ⟨M, hM⟩ : ∃ M, standP at_ known (l.take i) = M := ⟨_, rfl⟩
      rw [hM] at HS hMi
      clear hM
      have hbA : Below wr.heap.size wr (wr.alloc (.cells #[.int .i64 x.f0, .int .i64 x.f1, .int .i64 x.f2, .int .i64 x.f3, .int .i64 x.f4, .int .i64 x.f5, .bool x.f6] 24)) := (Below.refl _ wr).alloc (Nat.le_refl _) _
      have qx := World.alloc_heap_new wr (.cells #[.int .i64 x.f0, .int .i64 x.f1, .int .i64 x.f2, .int .i64 x.f3, .int .i64 x.f4, .int .i64 x.f5, .bool x.f6] 24)
      have hM1 := hMi.later hbA
      have hK1 := hKi.trans (hbA.mono hKi.size)
      have c1 := (hK1.cell (p := ⟨b1, 0, none⟩) n1).trans h1
      have c2 := (hK1.cell (p := ⟨b2, 0, none⟩) n2).trans h2
      have nn1 := Nat.lt_of_lt_of_le n1 hK1.size
      have nn2 := Nat.lt_of_lt_of_le n2 hK1.size
      obtain ⟨Bx, hBx⟩ : ∃ b, wr.heap.size = b := ⟨_, rfl⟩
      rw [hBx] at qx
      have HM1 := Aside0.mk hM1
      have HK1 := Aside0.mk hK1
      have HI := Aside0.mk hi
      have HLT := Aside0.mk hlt
      have HKR := Aside0.mk hkey
      clear hMi hKi hbA hM1 hK1 hi hlt hkey hM0 hB0
      go_wp2_with fail
      generalize wr.alloc (.cells #[.int .i64 x.f0, .int .i64 x.f1, .int .i64 x.f2, .int .i64 x.f3, .int .i64 x.f4, .int .i64 x.f5, .bool x.f6] 24) = W1 at *
      refine (counts_calls b1 b2 at_ known x W1 c1 c2 nn1 nn2).mono ?_
      rintro e W2 ⟨rfl, hb⟩
      have qx2 := blk_below qx hb
      have HM2 := Aside0.mk (HM1.out.later hb)
      have HK2 := Aside0.mk (HK1.out.trans (hb.mono HK1.out.size))
      clear e0 e1 e2 e3 e4 e5 e6 c1 c2 nn1 nn2 qx hb hBx
      have hlook := (HM2.out.later ((Below.refl _ W2).alloc (Nat.le_refl _) (.cells #[.int .i64 x.f3, .int .i64 x.f4] 60))).look HKR.out
      obtain ⟨y, hy⟩ : ∃ y, (M x.f3 x.f4).getD z24 = y := ⟨_, rfl⟩
      obtain ⟨m, hm⟩ : ∃ m, (M x.f3 x.f4).isSome = m := ⟨_, rfl⟩
      obtain ⟨b, hb⟩ : ∃ b, cnt at_ known x = b := ⟨_, rfl⟩
      rw [hy, hm] at hlook
      rw [hb]
      obtain ⟨W3, hW3⟩ : ∃ W3, W2.alloc (.cells #[.int .i64 x.f3, .int .i64 x.f4] 60) = W3 := ⟨_, rfl⟩
      obtain ⟨W4, hW4⟩ : ∃ W4, W3.alloc (.cells #[.int .i64 y.f0, .int .i64 y.f1, .int .i64 y.f2, .int .i64 y.f3, .int .i64 y.f4, .int .i64 y.f5, .bool y.f6] 24) = W4 := ⟨_, rfl⟩
      have hB23 : Below W2.heap.size W2 W3 := by rw [← hW3]; exact (Below.refl _ W2).alloc (Nat.le_refl _) _
      have hB34 : Below W3.heap.size W3 W4 := by rw [← hW4]; exact (Below.refl _ W3).alloc (Nat.le_refl _) _
      have qk3 : W3.heap[W2.heap.size]? = some (.cells #[.int .i64 x.f3, .int .i64 x.f4] 60 (0, 0)) := by rw [← hW3]; exact World.alloc_heap_new W2 _
      have qk := blk_below qk3 hB34
      have qx4 := blk_below (blk_below qx2 hB23) hB34
      have qy : W4.heap[W3.heap.size]? = some (.cells #[.int .i64 y.f0, .int .i64 y.f1, .int .i64 y.f2, .int .i64 y.f3, .int .i64 y.f4, .int .i64 y.f5, .bool y.f6] 24 (0, 0)) := by rw [← hW4]; exact World.alloc_heap_new W3 _
      have HM4 := Aside0.mk ((HM2.out.later hB23).later hB34)
      have HK4 := Aside0.mk ((HK2.out.trans (hB23.mono HK2.out.size)).trans (hB34.mono (Nat.le_trans HK2.out.size hB23.size)))
      rw [hW3] at hlook
      obtain ⟨Bk, hBk⟩ : ∃ b, W2.heap.size = b := ⟨_, rfl⟩
      obtain ⟨By, hBy⟩ : ∃ b, W3.heap.size = b := ⟨_, rfl⟩
      have HBY := Aside0.mk (show Bk + 1 = By by have : W3.heap.size = W2.heap.size + 1 := by rw [← hW3]; simp
                                                 omega)
      rw [hBk] at qk qk3
      rw [hBy] at qy
      have z0 := (blk_cell qk3 0).trans rfl
      have z1 := (blk_cell qk3 1).trans rfl
      have HX := Aside0.mk qx4
      have HY := Aside0.mk qy
      have HKB := Aside0.mk qk
      have g0 := (blk_cell qk 0).trans rfl
      have g1 := (blk_cell qk 1).trans rfl
      have r0 := (blk_cell qx4 0).trans rfl
      have r1 := (blk_cell qx4 1).trans rfl
      have r2 := (blk_cell qx4 2).trans rfl
      have r3 := (blk_cell qx4 3).trans rfl
      have r4 := (blk_cell qx4 4).trans rfl
      have r5 := (blk_cell qx4 5).trans rfl
      have r6 := (blk_cell qx4 6).trans rfl
      have s0 := (blk_cell qy 0).trans rfl
      have s1 := (blk_cell qy 1).trans rfl
      have s2 := (blk_cell qy 2).trans rfl
      have s3 := (blk_cell qy 3).trans rfl
      have s4 := (blk_cell qy 4).trans rfl
      have s5 := (blk_cell qy 5).trans rfl
      have s6 := (blk_cell qy 6).trans rfl
      clear qk qk3 qy qx4 qx2 hB23 hB34
      cases b with
      | false =>
        go_wp2
        go_roundw
        case rel => exact ⟨i + 1, HLT.out, by simp, by rw [HS.out]; unfold stepM; rw [if_neg (by rw [hb]; decide)]; exact HM4.out.mono (by omega), HK4.out⟩
        case measure => dsimp only [intOf]; have := HLT.out; omega
      | true =>
        have hM := HM4.out
        cases hMo : M x.f3 x.f4 with
        | none =>
          rw [hMo] at hy hm
          have hst : stepM at_ known M x = putM M x.f3 x.f4 x := by unfold stepM; rw [if_pos hb, hMo]
          obtain rfl : false = m := hm
          obtain ⟨W5, hrun, hM5, hg5⟩ := hM.store (by have := HLT.out; unfold maxLen; omega) HKR.out x
          have hb5 : Below w.heap.size W4 W5 := (Below.refl _ W4).grown hg5 HK4.out.size (fun k e => by cases e; exact Nat.le_refl _)
          have HM5 := Aside0.mk hM5
          have HK5 := Aside0.mk (HK4.out.trans hb5)
          clear hM hM5 hg5 hb5
          go_wp2
          go_roundw
          case rel => exact ⟨i + 1, HLT.out, by simp, by rw [HS.out, hst]; exact HM5.out, HK5.out⟩
          case measure => dsimp only [intOf]; have := HLT.out; omega
        | some z =>
          rw [hMo] at hy hm
          obtain rfl : z = y := hy
          obtain rfl : true = m := hm
          clear hM
          have hst : stepM at_ known M x = if z.f1 > x.f1 then M else putM M x.f3 x.f4 x := by unfold stepM; rw [if_pos hb, hMo]
          go_wp2_with fail
          refine (offices_standing_2.calls _ _ _ _ _ _ _ _ _ _ _ _ _ _ _ W4 (later_eq z x)).mono ?_
          rintro e W5 ⟨rfl, hb5⟩
          have qx5 := blk_below HX.out hb5
          have qk5 := blk_below HKB.out hb5
          have HM5 := Aside0.mk (HM4.out.later hb5)
          have HK5 := Aside0.mk (HK4.out.trans (hb5.mono HK4.out.size))
          clear g0 g1 r0 r1 r2 r3 r4 r5 r6 s0 s1 s2 s3 s4 s5 s6 hb5 hlook
          have g0 := (blk_cell qk5 0).trans rfl
          have g1 := (blk_cell qk5 1).trans rfl
          have r0 := (blk_cell qx5 0).trans rfl
          have r1 := (blk_cell qx5 1).trans rfl
          have r2 := (blk_cell qx5 2).trans rfl
          have r3 := (blk_cell qx5 3).trans rfl
          have r4 := (blk_cell qx5 4).trans rfl
          have r5 := (blk_cell qx5 5).trans rfl
          have r6 := (blk_cell qx5 6).trans rfl
          clear qx5 qk5
          by_cases hlt2 : z.f1 > x.f1
          · rw [if_pos hlt2] at hst
            have hd : decide (z.f1 > x.f1) = true := decide_eq_true hlt2
            rw [hd]
            clear hlt2
            go_wp2
            go_roundw
            case rel => exact ⟨i + 1, HLT.out, by simp, by rw [HS.out, hst]; exact HM5.out.mono (by omega), HK5.out⟩
            case measure => dsimp only [intOf]; have := HLT.out; omega
          · rw [if_neg hlt2] at hst
            have hd : decide (z.f1 > x.f1) = false := decide_eq_false hlt2
            rw [hd]
            clear hlt2
            obtain ⟨W6, hrun, hM6, hg6⟩ := HM5.out.store (by have := HLT.out; unfold maxLen; omega) HKR.out x
            have hb6 : Below w.heap.size W5 W6 := (Below.refl _ W5).grown hg6 HK5.out.size (fun k e => by cases e; exact Nat.le_refl _)
            have HM6 := Aside0.mk hM6
            have HK6 := Aside0.mk (HK5.out.trans hb6)
            clear hM6 hg6 hb6
            go_wp2
            go_roundw
            case rel => exact ⟨i + 1, HLT.out, by simp, by rw [HS.out, hst]; exact HM6.out, HK6.out⟩
            case measure => dsimp only [intOf]; have := HLT.out; omega
    · go_wp2
      go_ret
      have he : l.take i = l := List.take_of_length_le (by omega)
      rw [he] at hMi
      exact ⟨_, rfl, Nat.le_refl _, hMi.mono (by omega), hKi⟩
theorem standing_calls (A : Option Addr) (c : Nat) (l : List S24) (at_ known : Int) (w : World) (hC : Kd.C k24 w A l.length l) (hl : l.length ≤ 4096) (hwf : ∀ x ∈ l, (Lit.int .i64 x.f3).wf = true ∧ (Lit.int .i64 x.f4).wf = true) :
    Calls Try.prog 31 #[.slice A l.length c, .int .i64 at_, .int .i64 known] w fun e w' =>
      ∃ B, e = .returned (.map (some B)) ∧ w.heap.size ≤ B ∧ MapIs w' B 4096 (standP at_ known l) ∧ Below w.heap.size w w' := by
  have e48 : ∀ args w, (callFunc 48 args).run Try.prog w = .ok (.enter 48 args) w := enters_of Try.func48 (by kernel_rfl) rfl
  obtain ⟨w1, hw1⟩ : ∃ w1, w.alloc (.cells #[.int .i64 at_] 3) = w1 := ⟨_, rfl⟩
  obtain ⟨w2, hw2⟩ : ∃ w2, w1.alloc (.cells #[.int .i64 known] 3) = w2 := ⟨_, rfl⟩
  have hs1 : w1.heap.size = w.heap.size + 1 := by rw [← hw1]; simp
  have hs2 : w2.heap.size = w1.heap.size + 1 := by rw [← hw2]; simp
  have hB1 : Below w.heap.size w w1 := by rw [← hw1]; exact (Below.refl _ w).alloc (Nat.le_refl _) _
  have hB2 : Below w.heap.size w w2 := by rw [← hw2]; exact hB1.alloc (by omega) _
  have q1 : w2.heap[w.heap.size]? = some (.cells #[.int .i64 at_] 3 (0, 0)) := by rw [← hw2, ← hw1]; exact blk_alloc (World.alloc_heap_new w _) _
  have q2 : w2.heap[w.heap.size + 1]? = some (.cells #[.int .i64 known] 3 (0, 0)) := by rw [← hs1, ← hw2]; exact World.alloc_heap_new w1 _
  have HB2 := Aside0.mk hB2
  have HQ1 := Aside0.mk q1
  have HQ2 := Aside0.mk q2
  have HZ := Aside0.mk (show w2.heap.size = w.heap.size + 2 by omega)
  clear hB1 hB2 q1 q2 hs2
  go_enter Try.func31, Try.ntmps31
  go_wp2_with fail
  refine (keep_calls w.heap.size (w.heap.size + 1) A c l at_ known w2 ((blk_cell HQ1.out 0).trans rfl) ((blk_cell HQ2.out 0).trans rfl) (by rw [HZ.out]; omega) (by rw [HZ.out]; omega) (Kd.C_below hC HB2.out) hl hwf).mono ?_
  rintro e w3 ⟨B, rfl, hB, hM, hb⟩
  go_wp2
  go_ret
  exact ⟨B, rfl, Nat.le_trans HB2.out.size hB, hM, HB2.out.trans (hb.mono HB2.out.size)⟩
end
end
section
open Go.Shelf Go.Maps
section
attribute [local go_sem] Oper.semAt_some
/-- A round that collects turns rows of its own types alone. -/
def prot (T1 T2 : TypeId) : Obj → Bool
  | .cells _ t _ => t != T1 && t != T2
  | o => o.isWalk
structure KT (T1 T2 : TypeId) (W W' : World) : Prop where
  size : W.heap.size ≤ W'.heap.size
  same : ∀ (k : Nat) (o : Obj), W.heap[k]? = some o → prot T1 T2 o = true → W'.heap[k]? = some o
theorem KT.refl (T1 T2 : TypeId) (W : World) : KT T1 T2 W W := ⟨Nat.le_refl _, fun _ _ h _ => h⟩
theorem KT.trans {T1 T2 : TypeId} {A B C : World} (h : KT T1 T2 A B) (k : KT T1 T2 B C) : KT T1 T2 A C := ⟨Nat.le_trans h.size k.size, fun i o hi ho => k.same i o (h.same i o hi ho) ho⟩
theorem prot_walk {T1 T2 : TypeId} {o : Obj} (h : o.isWalk = true) : prot T1 T2 o = true := by cases o <;> first | exact h | cases h
theorem KT.walks {T1 T2 : TypeId} {A B : World} (h : KT T1 T2 A B) : KeepsWalks A B := ⟨h.size, fun i o hi ho => h.same i o hi (prot_walk ho)⟩
theorem KT.below {T1 T2 : TypeId} {A B : World} (h : Below A.heap.size A B) : KT T1 T2 A B := ⟨h.size, fun k o ho _ => (h.block k (Array.getElem?_eq_some_iff.1 ho).1).trans ho⟩
theorem KT.grown {T1 T2 : TypeId} {A B : World} {row : Option Nat} (h : A.grownBy B row) (hr : ∀ r o, row = some r → A.heap[r]? = some o → prot T1 T2 o = false) : KT T1 T2 A B :=
  ⟨h.size, fun k o ho hp => (h.block k (Array.getElem?_eq_some_iff.1 ho).1 (fun e => by rw [hr k o e.symm ho] at hp; cases hp)).trans ho⟩
theorem KT.putObj {T1 T2 : TypeId} (W : World) (l : Nat) (o o' : Obj) (hl : W.heap[l]? = some o) (h1 : o.isCells = false) (h2 : o.isWalk = false) : KT T1 T2 W (W.putObj l o') :=
  .grown (grownBy_putObj' W l o') (fun r o2 e h => by
    cases e
    rw [hl] at h
    cases h
    cases o <;> first | exact h2 | cases h1)
theorem KT.cells {T1 T2 t : TypeId} {A B : World} {k : Nat} {cs : Array Value} {fr : Nat × Nat} (h : KT T1 T2 A B) (hk : A.heap[k]? = some (.cells cs t fr)) (h1 : (t != T1 && t != T2) = true) : B.heap[k]? = some (.cells cs t fr) := h.same k _ hk h1
/-- Two numbers. -/
abbrev v2 (x : Int × Int) : Value := .agg #[.int .i64 x.1, .int .i64 x.2]
def cell2 (x : Int × Int) : List Value := [.int .i64 x.1, .int .i64 x.2]
theorem c2_len (x : Int × Int) : (cell2 x).length = 2 := rfl
theorem c2_one (x : Int × Int) : ∀ u ∈ cell2 x, u.oneCell' = true := by
  intro u hu
  simp only [cell2, List.mem_cons, List.not_mem_nil, or_false] at hu
  rcases hu with rfl | rfl <;> rfl
def cells2 (xs : List (Int × Int)) : List Value := xs.flatMap cell2
theorem cells2_cons (x : Int × Int) (t : List (Int × Int)) : cells2 (x :: t) = cell2 x ++ cells2 t := rfl
theorem cells2_append (a b : List (Int × Int)) : cells2 (a ++ b) = cells2 a ++ cells2 b := by unfold cells2; simp
theorem cells2_len (xs : List (Int × Int)) : (cells2 xs).length = xs.length * 2 := by
  induction xs with
  | nil => rfl
  | cons x t ih => rw [cells2_cons, List.length_append, c2_len, ih, List.length_cons]; omega
theorem results_t {P : Program} {fn : Func} {p : Tmp} (h : fn.results = #[.tmp p]) (tmps : Array Value) (w : World) : (results fn tmps).run P w = .ok (tmps.getD p undef) w := by
  simp [results, h]
theorem blk_own {W W1 : World} {row : Option Nat} {g : Nat} {cs : Array Value} {t : TypeId} {fr : Nat × Nat} (h : W.heap[g]? = some (.cells cs t fr)) (hg : W.grownBy W1 row) (hr : ∀ r, row = some r → ∃ o : Obj, W.heap[r]? = some o ∧ o.isCells = false) : W1.heap[g]? = some (.cells cs t fr) :=
  (hg.block g (Array.getElem?_eq_some_iff.1 h).1 (fun e => by
    obtain ⟨o, ho, hc⟩ := hr g e.symm
    rw [h] at ho
    cases ho
    cases hc)).trans h
theorem keepsF_below {B : Nat} {W W' : World} (h : Below W.heap.size W W') : KeepsFrom B W W' := ⟨h.size, fun k o _ ho _ => (h.block k (Array.getElem?_eq_some_iff.1 ho).1).trans ho⟩
end
end
section
open Go.Shelf Go.Maps
section
attribute [local go_sem] Oper.semAt_some
/-- Between two rounds: the box Bs holds the row so far. -/
def CIK (w : World) (n₁ Bs : Nat) (pre : List (Int × Int)) (W : World) : Prop := (∃ v, W.heap[Bs]? = some (.cells #[v] 68 (0, 0)) ∧ W.ownsRow n₁ 60 2 v pre.length (cells2 pre)) ∧ n₁ ≤ W.heap.size ∧ Below w.heap.size w W
theorem CIK.own {w : World} {n₁ Bs : Nat} (hn : w.heap.size ≤ n₁) : OwnFrom n₁ (CIK w n₁ Bs) := by
  rintro pre A B row ⟨⟨v, h1, h2⟩, h3, h4⟩ hg hr
  have hr' : ∀ r, row = some r → ∃ o : Obj, A.heap[r]? = some o ∧ o.isCells = false := fun r e => (hr r e).2
  refine ⟨⟨v, blk_own h1 hg hr', h2.kept hg ?_⟩, Nat.le_trans h3 hg.size, h4.grown hg (Nat.le_trans hn h3) (fun k e => Nat.le_trans hn (hr k e).1)⟩
  cases hv : v.ownBlock with
  | none => exact .inl rfl
  | some g =>
    refine .inr (fun e => ?_)
    obtain ⟨_, o, ho, hc⟩ := hr g e.symm
    rcases h2.2 with ⟨rfl, _⟩ | ⟨g', cap, cur, rfl, hb, hh, _⟩
    · simp [Value.ownBlock] at hv
    · simp [Value.ownBlock] at hv
      subst hv
      rw [hh] at ho
      cases ho
      cases hc
theorem CIK.later {w : World} {n₁ Bs : Nat} {pre : List (Int × Int)} {W W' : World} (h : CIK w n₁ Bs pre W) (hb : Below W.heap.size W W') : CIK w n₁ Bs pre W' := by
  obtain ⟨⟨v, h1, h2⟩, h3, h4⟩ := h
  refine ⟨⟨v, blk_below h1 hb, h2.1, ?_⟩, Nat.le_trans h3 hb.size, h4.trans (hb.mono h4.size)⟩
  rcases h2.2 with h | ⟨g, cap, cur, e, hg, hh, hr⟩
  · exact .inl h
  · exact .inr ⟨g, cap, cur, e, hg, (hb.block g (Array.getElem?_eq_some_iff.1 hh).1).trans hh, hr⟩
theorem CIK.round {w : World} {n₁ Bs : Nat} {pre : List (Int × Int)} {W w1 : World} {v v' : Value} {x : Int × Int} (hX : w.heap.size ≤ Bs) (hn : w.heap.size ≤ n₁) (hXn : Bs < n₁) (h1 : W.heap[Bs]? = some (.cells #[v] 68 (0, 0))) (h2 : W.ownsRow n₁ 60 2 v pre.length (cells2 pre)) (h3 : n₁ ≤ W.heap.size) (h4 : Below w.heap.size w W) {o : Obj}
    (hown : w1.ownsRow n₁ 60 2 v' (pre.length + 1) (cells2 pre ++ cell2 x)) (hg : (W.alloc o).grownBy w1 v.ownBlock) :
    w1.heap[Bs]? = some (.cells #[v] 68 (0, 0)) ∧ KeepsFrom n₁ W (w1.setCell ⟨Bs, 0, none⟩ v') ∧ KT 68 60 W (w1.setCell ⟨Bs, 0, none⟩ v') ∧ CIK w n₁ Bs (pre ++ [x]) (w1.setCell ⟨Bs, 0, none⟩ v') := by
  have hvr : ∀ k, v.ownBlock = some k → n₁ ≤ k := fun k hk => (h2.lt k hk).1
  have hvr' : ∀ k, v'.ownBlock = some k → n₁ ≤ k := fun k hk => (hown.lt k hk).1
  have hba : Below W.heap.size W (W.alloc o) := (Below.refl _ W).alloc (Nat.le_refl _) _
  have hlt : Bs < (W.alloc o).heap.size := by have := hba.size; omega
  have hX1 : w1.heap[Bs]? = some (.cells #[v] 68 (0, 0)) := (hg.block Bs hlt (fun e => by have := hvr Bs e.symm; omega)).trans ((hba.block Bs (by omega)).trans h1)
  have hsz : W.heap.size ≤ w1.heap.size := Nat.le_trans hba.size hg.size
  have hset : w1.grownBy (w1.setCell ⟨Bs, 0, none⟩ v') (some Bs) := ⟨rfl, rfl, rfl, (KeepsWalks.setCell w1 _ v').size, fun k _ hk => Below.heap_setCell _ _ _ k (fun e => hk (by rw [e]))⟩
  have hB : Below w.heap.size W (w1.setCell ⟨Bs, 0, none⟩ v') := (((Below.refl w.heap.size W).alloc h4.size o).grown hg (Nat.le_trans h4.size hba.size) (fun k e => Nat.le_trans hn (hvr k e))).grown hset (Nat.le_trans h4.size hsz) (fun k e => by cases e; exact hX)
  have hrow : ∀ r o2, v.ownBlock = some r → (W.alloc o).heap[r]? = some o2 → ∃ cs, o2 = .cells cs 60 (0, 0) := fun r o2 e ho => by
    rcases h2.2 with ⟨rfl, _⟩ | ⟨g, cap, cur, rfl, _, hh, _⟩
    · simp [Value.ownBlock] at e
    · simp [Value.ownBlock] at e
      subst e
      rw [(hba.block g (Array.getElem?_eq_some_iff.1 hh).1).trans hh] at ho
      cases ho
      exact ⟨_, rfl⟩
  refine ⟨hX1, ?_, ?_, ⟨⟨v', ?_, ?_⟩, ?_, ?_⟩⟩
  · refine ⟨Nat.le_trans hsz hset.size, fun k o' hk ho hc => ?_⟩
    have hkl : k < W.heap.size := (Array.getElem?_eq_some_iff.1 ho).1
    refine (hset.block k (by omega) (fun e => by have := Option.some.inj e; omega)).trans ((hg.block k (by have := hba.size; omega) (fun e => ?_)).trans ((hba.block k hkl).trans ho))
    obtain ⟨cs, rfl⟩ := hrow k o' e.symm ((hba.block k hkl).trans ho)
    cases hc
  · refine (KT.below hba).trans ((KT.grown hg (fun r o2 e ho => ?_)).trans (KT.grown hset (fun r o2 e ho => ?_)))
    · obtain ⟨cs, rfl⟩ := hrow r o2 e ho
      simp [prot]
    · cases e
      rw [hX1] at ho
      cases ho
      simp [prot]
  · exact blk_put hX1 0 _ rfl
  · rw [cells2_append, List.length_append]
    have : cells2 [x] = cell2 x := by simp [cells2]
    rw [this]
    exact hown.kept hset (by
      cases hv : v'.ownBlock with
      | none => exact .inl rfl
      | some g => exact .inr (fun e => by have := hvr' g hv; have := Option.some.inj e; omega))
  · exact Nat.le_trans h3 (Nat.le_trans hsz hset.size)
  · exact h4.trans hB
theorem info60c : (Try.prog.info? 60).map (fun i => (i.zero, i.size, i.bytes)) = some (some (.agg #[.int .i64 0, .int .i64 0]), 2, 16) := by kernel_rfl
theorem load_sliceK (w : World) (g : Nat) (A : Option Addr) (n c : Nat) (h : w.cell? ⟨g, 0, none⟩ = some (.slice A n c)) : (loadVar 68 ⟨g, 0, none⟩).run Try.prog w = .ok (.slice A n c) w := by
  go_simp
set_option maxRecDepth 100000 in
set_option maxHeartbeats 200000000 in
theorem appendSeqK_calls (gf : Nat) (lb : Array Value) (S : List (Int × Int) → Prop) (w : World) (eg : ∀ args w, (callFunc gf args).run Try.prog w = .ok (.enter gf args) w)
    (hst : ∀ w4, Below w.heap.size w w4 → SeqStopsK Fence.wide 8 Try.prog gf lb (fun x : Int × Int => #[v2 x]) (KT 68 60) S (fun _ => True) 1000001 w4) :
    Calls Try.prog 56 #[.slice none 0 0, .func (.func gf) #[] lb] w fun e w' =>
      ∃ v xs, S xs ∧ e = .returned v ∧ w'.ownsRow w.heap.size 60 2 v xs.length (cells2 xs) ∧ Below w.heap.size w w' := by
  refine (callsIn_wide (n := 9)).1 (callsIn_of_wp_marks (F := Fence.wide) Try.func56 rfl trivial (wpIn_wide.2 ?_) rfl)
  simp only [Try.ntmps56, List.size_toArray, List.length_cons, List.length_nil, Nat.reduceAdd, Nat.reduceSub, Array.replicate_succ, Array.replicate_zero, List.push_toArray, List.append_toArray, List.nil_append, List.cons_append]
  go_wp2
  rename_i K0_ hK0_
  obtain ⟨w4, hw4⟩ : ∃ w4, w.alloc (.cells #[.slice none 0 0] 68) = w4 := ⟨_, rfl⟩
  have hs4 : w4.heap.size = w.heap.size + 1 := by rw [← hw4]; simp
  have q1 : w4.heap[w.heap.size]? = some (.cells #[.slice none 0 0] 68 (0, 0)) := by rw [← hw4]; exact World.alloc_heap_new w _
  have hb4 : Below w.heap.size w w4 := by rw [← hw4]; exact (Below.refl _ w).alloc (Nat.le_refl _) _
  rw [hw4]
  clear hw4
  obtain ⟨i0, hi0, hz0, hsz0, hby0⟩ := info_parts info60c
  have hst4 := hst w4 hb4
  refine wpIn_wide.1 (wpIn_rangeFunc_ownH (F := Fence.wide) (n := 9) rfl (by omega) (gf := gf) (lb := lb) rfl trivial eg hst4
    KT.trans (fun W l o o' _ hl h1 h2 => KT.putObj W l o o' hl h1 h2) (Below.refl _ _) (fun _ => rfl)
    (CIK w w4.heap.size w.heap.size) (fun _ _ _ => False) (CIK.own (by omega)) (fun _ _ _ _ _ hs _ _ => hs) ⟨⟨_, q1, World.ownsRow_nil _ _ _ _⟩, Nat.le_refl _, hb4⟩
    (fun x a' W => ∃ Bx, w4.heap.size ≤ Bx ∧ W.heap[Bx]? = some (.cells #[.int .i64 x.1, .int .i64 x.2] 60 (0, 0)) ∧ a' = ⟨#[.slice none 0 0, .func (.func gf) #[] lb, .pointer (some ⟨w.heap.size, 0, none⟩), undef, .slice none 0 0, .pointer (some ⟨Bx, 0, none⟩), .func (.func gf) #[] lb, v2 x, undef, undef, undef, undef, undef], []⟩)
    (fun x a' _ P Q row hs hg hr => by
      obtain ⟨Bx, h0, h1, h2⟩ := hs
      exact ⟨Bx, h0, blk_own h1 hg (fun r e => (hr r e).2), h2⟩)
    ?assign ?body ?done ?stop)
  case assign =>
    rintro l pre x W K hi hK
    gi_wp2
    have hba : Below W.heap.size W (W.alloc (.cells #[.int .i64 x.1, .int .i64 x.2] 60)) := (Below.refl _ W).alloc (Nat.le_refl _) _
    exact hK _ _ (keepsF_below hba) (KT.below hba) (hi.later hba) ⟨W.heap.size, hi.2.1, World.alloc_heap_new W _, rfl⟩
  case body =>
    rintro l pre x a' W hl ⟨r, hr⟩ ⟨⟨v, hv, hrow⟩, hnW, hBW⟩ ⟨Bx, hBx, bx, rfl⟩ hlt
    have e0 := (blk_cell bx 0).trans rfl
    have e1 := (blk_cell bx 1).trans rfl
    have f1 : W.cell? ⟨w.heap.size, 0, none⟩ = some v := (blk_cell hv 0).trans rfl
    have hcell : ∀ j u, (cell2 x)[j]? = some u → (W.alloc (.cells #[.int .i64 x.1, .int .i64 x.2] 60)).cell? ((⟨W.heap.size, 0, none⟩ : Addr).add j) = some u := by
      intro j u hj
      have hz : (⟨W.heap.size, 0, none⟩ : Addr).add j = ⟨W.heap.size, j, none⟩ := by simp [Addr.add]; try omega
      rw [hz, blk_cell (World.alloc_heap_new W _) j]
      exact (by simpa [cell2] using hj : (#[.int .i64 x.1, .int .i64 x.2] : Array Value)[j]? = some u)
    gi_wp2_with (gi_at_builtin; refine wpListIn_append_own _ rfl _ _ 68 rfl w4.heap.size 60 i0 _ 2 16 Try.underlying68 hi0 hz0 hsz0 hby0 rfl (by decide) _ _ _ rfl (hrow.alloc _) ⟨W.heap.size, 0, none⟩ 1 1 (cell2 x) rfl rfl hcell (by simp [Value.oneCell', cell2]) (by unfold maxLen; omega) (by omega) (by simp [cell2]; omega) ?_; intro v' w1 hown' hgrow _; obtain ⟨g', cap', rfl⟩ := ownsRow_succ hown'; obtain ⟨hX1, hk2, hkb, hI2⟩ := CIK.round (x := x) (Nat.le_refl _) (by omega) (by omega) hv hrow hnW hBW hown' hgrow; have hf1 := blk_frozen hX1 0; have hc1 : w1.cell? ⟨w.heap.size, 0, none⟩ = some v := (blk_cell hX1 0).trans rfl)
    exact ⟨hk2, hkb, hI2⟩
  case done =>
    rintro D ys W hD hys ⟨⟨v, hv, hrow⟩, hnW, hBW⟩ hK
    obtain ⟨A26, c26, rfl⟩ : ∃ A2 c2, v = .slice A2 ys.length c2 := by
      rcases hrow.2 with ⟨rfl, h0⟩ | ⟨g, cap, cur, rfl, _⟩
      · exact ⟨none, 0, by rw [h0]⟩
      · exact ⟨_, _, rfl⟩
    have f1 : W.cell? ⟨w.heap.size, 0, none⟩ = some (.slice A26 ys.length c26) := (blk_cell hv 0).trans rfl
    have z1 := blk_frozen hv 0
    simp only [Exit.inBlock, Exit.then]
    refine hK0_ _ _ ?_
    go_wp2
    refine ⟨by simp, .inl ⟨_, _, rfl, run_takeDeferred hK, ?_⟩⟩
    have hXD : w.heap.size ≠ D := fun e => by rw [e, hK] at hv; cases hv
    have hBW2 : Below w.heap.size w (W.putObj D (.deferred none)) := hBW.trans (belowK_b (w := w) (Nat.le_refl _) W D _ _ (by omega) hK rfl rfl)
    refine ⟨.slice A26 ys.length c26, results_t (fn := Try.f56) rfl _ _, _, ys, hys, rfl, ?_, hBW2⟩
    have hq := ownsRow_putObj hrow (.deferred none) hK rfl
    exact ⟨hq.1, hq.2.imp id (fun ⟨g, cap, cur, e, hg, h⟩ => ⟨g, cap, cur, e, by omega, h⟩)⟩
  case stop =>
    rintro D c pre W _ _ h _
    exact h.elim
theorem collectK_calls (gf : Nat) (lb : Array Value) (S : List (Int × Int) → Prop) (w : World) (eg : ∀ args w, (callFunc gf args).run Try.prog w = .ok (.enter gf args) w)
    (hst : ∀ w4, Below w.heap.size w w4 → SeqStopsK Fence.wide 8 Try.prog gf lb (fun x : Int × Int => #[v2 x]) (KT 68 60) S (fun _ => True) 1000001 w4) :
    Calls Try.prog 52 #[.func (.func gf) #[] lb] w fun e w' =>
      ∃ v xs, S xs ∧ e = .returned v ∧ w'.ownsRow w.heap.size 60 2 v xs.length (cells2 xs) ∧ Below w.heap.size w w' := by
  have ef : ∀ args w, (callFunc 56 args).run Try.prog w = .ok (.enter 56 args) w := enters_of Try.func56 (by kernel_rfl) rfl
  go_enter Try.func52, Try.ntmps52
  go_wp2_with fail
  refine (appendSeqK_calls gf lb S w eg hst).mono ?_
  rintro e w' ⟨v, xs, hS, rfl, ho, hb⟩
  go_wp2
  go_ret
  exact ⟨v, xs, hS, rfl, ho, hb⟩
end
end
section
open Go.Shelf Go.Maps
section
attribute [local go_sem] Oper.semAt_some
/-- Between two rounds: the box Bs holds the row so far. -/
def CIH (w : World) (n₁ Bs : Nat) (pre : List (Int × Int)) (W : World) : Prop := (∃ v, W.heap[Bs]? = some (.cells #[v] 30 (0, 0)) ∧ W.ownsRow n₁ 34 2 v pre.length (cells2 pre)) ∧ n₁ ≤ W.heap.size ∧ Below w.heap.size w W
theorem CIH.own {w : World} {n₁ Bs : Nat} (hn : w.heap.size ≤ n₁) : OwnFrom n₁ (CIH w n₁ Bs) := by
  rintro pre A B row ⟨⟨v, h1, h2⟩, h3, h4⟩ hg hr
  have hr' : ∀ r, row = some r → ∃ o : Obj, A.heap[r]? = some o ∧ o.isCells = false := fun r e => (hr r e).2
  refine ⟨⟨v, blk_own h1 hg hr', h2.kept hg ?_⟩, Nat.le_trans h3 hg.size, h4.grown hg (Nat.le_trans hn h3) (fun k e => Nat.le_trans hn (hr k e).1)⟩
  cases hv : v.ownBlock with
  | none => exact .inl rfl
  | some g =>
    refine .inr (fun e => ?_)
    obtain ⟨_, o, ho, hc⟩ := hr g e.symm
    rcases h2.2 with ⟨rfl, _⟩ | ⟨g', cap, cur, rfl, hb, hh, _⟩
    · simp [Value.ownBlock] at hv
    · simp [Value.ownBlock] at hv
      subst hv
      rw [hh] at ho
      cases ho
      cases hc
theorem CIH.later {w : World} {n₁ Bs : Nat} {pre : List (Int × Int)} {W W' : World} (h : CIH w n₁ Bs pre W) (hb : Below W.heap.size W W') : CIH w n₁ Bs pre W' := by
  obtain ⟨⟨v, h1, h2⟩, h3, h4⟩ := h
  refine ⟨⟨v, blk_below h1 hb, h2.1, ?_⟩, Nat.le_trans h3 hb.size, h4.trans (hb.mono h4.size)⟩
  rcases h2.2 with h | ⟨g, cap, cur, e, hg, hh, hr⟩
  · exact .inl h
  · exact .inr ⟨g, cap, cur, e, hg, (hb.block g (Array.getElem?_eq_some_iff.1 hh).1).trans hh, hr⟩
theorem CIH.round {w : World} {n₁ Bs : Nat} {pre : List (Int × Int)} {W w1 : World} {v v' : Value} {x : Int × Int} (hX : w.heap.size ≤ Bs) (hn : w.heap.size ≤ n₁) (hXn : Bs < n₁) (h1 : W.heap[Bs]? = some (.cells #[v] 30 (0, 0))) (h2 : W.ownsRow n₁ 34 2 v pre.length (cells2 pre)) (h3 : n₁ ≤ W.heap.size) (h4 : Below w.heap.size w W) {o : Obj}
    (hown : w1.ownsRow n₁ 34 2 v' (pre.length + 1) (cells2 pre ++ cell2 x)) (hg : (W.alloc o).grownBy w1 v.ownBlock) :
    w1.heap[Bs]? = some (.cells #[v] 30 (0, 0)) ∧ KeepsFrom n₁ W (w1.setCell ⟨Bs, 0, none⟩ v') ∧ KT 30 34 W (w1.setCell ⟨Bs, 0, none⟩ v') ∧ CIH w n₁ Bs (pre ++ [x]) (w1.setCell ⟨Bs, 0, none⟩ v') := by
  have hvr : ∀ k, v.ownBlock = some k → n₁ ≤ k := fun k hk => (h2.lt k hk).1
  have hvr' : ∀ k, v'.ownBlock = some k → n₁ ≤ k := fun k hk => (hown.lt k hk).1
  have hba : Below W.heap.size W (W.alloc o) := (Below.refl _ W).alloc (Nat.le_refl _) _
  have hlt : Bs < (W.alloc o).heap.size := by have := hba.size; omega
  have hX1 : w1.heap[Bs]? = some (.cells #[v] 30 (0, 0)) := (hg.block Bs hlt (fun e => by have := hvr Bs e.symm; omega)).trans ((hba.block Bs (by omega)).trans h1)
  have hsz : W.heap.size ≤ w1.heap.size := Nat.le_trans hba.size hg.size
  have hset : w1.grownBy (w1.setCell ⟨Bs, 0, none⟩ v') (some Bs) := ⟨rfl, rfl, rfl, (KeepsWalks.setCell w1 _ v').size, fun k _ hk => Below.heap_setCell _ _ _ k (fun e => hk (by rw [e]))⟩
  have hB : Below w.heap.size W (w1.setCell ⟨Bs, 0, none⟩ v') := (((Below.refl w.heap.size W).alloc h4.size o).grown hg (Nat.le_trans h4.size hba.size) (fun k e => Nat.le_trans hn (hvr k e))).grown hset (Nat.le_trans h4.size hsz) (fun k e => by cases e; exact hX)
  have hrow : ∀ r o2, v.ownBlock = some r → (W.alloc o).heap[r]? = some o2 → ∃ cs, o2 = .cells cs 34 (0, 0) := fun r o2 e ho => by
    rcases h2.2 with ⟨rfl, _⟩ | ⟨g, cap, cur, rfl, _, hh, _⟩
    · simp [Value.ownBlock] at e
    · simp [Value.ownBlock] at e
      subst e
      rw [(hba.block g (Array.getElem?_eq_some_iff.1 hh).1).trans hh] at ho
      cases ho
      exact ⟨_, rfl⟩
  refine ⟨hX1, ?_, ?_, ⟨⟨v', ?_, ?_⟩, ?_, ?_⟩⟩
  · refine ⟨Nat.le_trans hsz hset.size, fun k o' hk ho hc => ?_⟩
    have hkl : k < W.heap.size := (Array.getElem?_eq_some_iff.1 ho).1
    refine (hset.block k (by omega) (fun e => by have := Option.some.inj e; omega)).trans ((hg.block k (by have := hba.size; omega) (fun e => ?_)).trans ((hba.block k hkl).trans ho))
    obtain ⟨cs, rfl⟩ := hrow k o' e.symm ((hba.block k hkl).trans ho)
    cases hc
  · refine (KT.below hba).trans ((KT.grown hg (fun r o2 e ho => ?_)).trans (KT.grown hset (fun r o2 e ho => ?_)))
    · obtain ⟨cs, rfl⟩ := hrow r o2 e ho
      simp [prot]
    · cases e
      rw [hX1] at ho
      cases ho
      simp [prot]
  · exact blk_put hX1 0 _ rfl
  · rw [cells2_append, List.length_append]
    have : cells2 [x] = cell2 x := by simp [cells2]
    rw [this]
    exact hown.kept hset (by
      cases hv : v'.ownBlock with
      | none => exact .inl rfl
      | some g => exact .inr (fun e => by have := hvr' g hv; have := Option.some.inj e; omega))
  · exact Nat.le_trans h3 (Nat.le_trans hsz hset.size)
  · exact h4.trans hB
theorem info34c : (Try.prog.info? 34).map (fun i => (i.zero, i.size, i.bytes)) = some (some (.agg #[.int .i64 0, .int .i64 0]), 2, 16) := by kernel_rfl
theorem load_sliceH (w : World) (g : Nat) (A : Option Addr) (n c : Nat) (h : w.cell? ⟨g, 0, none⟩ = some (.slice A n c)) : (loadVar 30 ⟨g, 0, none⟩).run Try.prog w = .ok (.slice A n c) w := by
  go_simp
set_option maxRecDepth 100000 in
set_option maxHeartbeats 200000000 in
theorem appendSeqH_calls (gf : Nat) (lb : Array Value) (S : List (Int × Int) → Prop) (w : World) (eg : ∀ args w, (callFunc gf args).run Try.prog w = .ok (.enter gf args) w)
    (hst : ∀ w4, Below w.heap.size w w4 → SeqStopsK Fence.wide 8 Try.prog gf lb (fun x : Int × Int => #[v2 x]) (KT 30 34) S (fun _ => True) 1000001 w4) :
    Calls Try.prog 42 #[.slice none 0 0, .func (.func gf) #[] lb] w fun e w' =>
      ∃ v xs, S xs ∧ e = .returned v ∧ w'.ownsRow w.heap.size 34 2 v xs.length (cells2 xs) ∧ Below w.heap.size w w' := by
  refine (callsIn_wide (n := 9)).1 (callsIn_of_wp_marks (F := Fence.wide) Try.func42 rfl trivial (wpIn_wide.2 ?_) rfl)
  simp only [Try.ntmps42, List.size_toArray, List.length_cons, List.length_nil, Nat.reduceAdd, Nat.reduceSub, Array.replicate_succ, Array.replicate_zero, List.push_toArray, List.append_toArray, List.nil_append, List.cons_append]
  go_wp2
  rename_i K0_ hK0_
  obtain ⟨w4, hw4⟩ : ∃ w4, w.alloc (.cells #[.slice none 0 0] 30) = w4 := ⟨_, rfl⟩
  have hs4 : w4.heap.size = w.heap.size + 1 := by rw [← hw4]; simp
  have q1 : w4.heap[w.heap.size]? = some (.cells #[.slice none 0 0] 30 (0, 0)) := by rw [← hw4]; exact World.alloc_heap_new w _
  have hb4 : Below w.heap.size w w4 := by rw [← hw4]; exact (Below.refl _ w).alloc (Nat.le_refl _) _
  rw [hw4]
  clear hw4
  obtain ⟨i0, hi0, hz0, hsz0, hby0⟩ := info_parts info34c
  have hst4 := hst w4 hb4
  refine wpIn_wide.1 (wpIn_rangeFunc_ownH (F := Fence.wide) (n := 9) rfl (by omega) (gf := gf) (lb := lb) rfl trivial eg hst4
    KT.trans (fun W l o o' _ hl h1 h2 => KT.putObj W l o o' hl h1 h2) (Below.refl _ _) (fun _ => rfl)
    (CIH w w4.heap.size w.heap.size) (fun _ _ _ => False) (CIH.own (by omega)) (fun _ _ _ _ _ hs _ _ => hs) ⟨⟨_, q1, World.ownsRow_nil _ _ _ _⟩, Nat.le_refl _, hb4⟩
    (fun x a' W => ∃ Bx, w4.heap.size ≤ Bx ∧ W.heap[Bx]? = some (.cells #[.int .i64 x.1, .int .i64 x.2] 34 (0, 0)) ∧ a' = ⟨#[.slice none 0 0, .func (.func gf) #[] lb, .pointer (some ⟨w.heap.size, 0, none⟩), undef, .slice none 0 0, .pointer (some ⟨Bx, 0, none⟩), .func (.func gf) #[] lb, v2 x, undef, undef, undef, undef, undef], []⟩)
    (fun x a' _ P Q row hs hg hr => by
      obtain ⟨Bx, h0, h1, h2⟩ := hs
      exact ⟨Bx, h0, blk_own h1 hg (fun r e => (hr r e).2), h2⟩)
    ?assign ?body ?done ?stop)
  case assign =>
    rintro l pre x W K hi hK
    gi_wp2
    have hba : Below W.heap.size W (W.alloc (.cells #[.int .i64 x.1, .int .i64 x.2] 34)) := (Below.refl _ W).alloc (Nat.le_refl _) _
    exact hK _ _ (keepsF_below hba) (KT.below hba) (hi.later hba) ⟨W.heap.size, hi.2.1, World.alloc_heap_new W _, rfl⟩
  case body =>
    rintro l pre x a' W hl ⟨r, hr⟩ ⟨⟨v, hv, hrow⟩, hnW, hBW⟩ ⟨Bx, hBx, bx, rfl⟩ hlt
    have e0 := (blk_cell bx 0).trans rfl
    have e1 := (blk_cell bx 1).trans rfl
    have f1 : W.cell? ⟨w.heap.size, 0, none⟩ = some v := (blk_cell hv 0).trans rfl
    have hcell : ∀ j u, (cell2 x)[j]? = some u → (W.alloc (.cells #[.int .i64 x.1, .int .i64 x.2] 34)).cell? ((⟨W.heap.size, 0, none⟩ : Addr).add j) = some u := by
      intro j u hj
      have hz : (⟨W.heap.size, 0, none⟩ : Addr).add j = ⟨W.heap.size, j, none⟩ := by simp [Addr.add]; try omega
      rw [hz, blk_cell (World.alloc_heap_new W _) j]
      exact (by simpa [cell2] using hj : (#[.int .i64 x.1, .int .i64 x.2] : Array Value)[j]? = some u)
    gi_wp2_with (gi_at_builtin; refine wpListIn_append_own _ rfl _ _ 30 rfl w4.heap.size 34 i0 _ 2 16 Try.underlying30 hi0 hz0 hsz0 hby0 rfl (by decide) _ _ _ rfl (hrow.alloc _) ⟨W.heap.size, 0, none⟩ 1 1 (cell2 x) rfl rfl hcell (by simp [Value.oneCell', cell2]) (by unfold maxLen; omega) (by omega) (by simp [cell2]; omega) ?_; intro v' w1 hown' hgrow _; obtain ⟨g', cap', rfl⟩ := ownsRow_succ hown'; obtain ⟨hX1, hk2, hkb, hI2⟩ := CIH.round (x := x) (Nat.le_refl _) (by omega) (by omega) hv hrow hnW hBW hown' hgrow; have hf1 := blk_frozen hX1 0; have hc1 : w1.cell? ⟨w.heap.size, 0, none⟩ = some v := (blk_cell hX1 0).trans rfl)
    exact ⟨hk2, hkb, hI2⟩
  case done =>
    rintro D ys W hD hys ⟨⟨v, hv, hrow⟩, hnW, hBW⟩ hK
    obtain ⟨A26, c26, rfl⟩ : ∃ A2 c2, v = .slice A2 ys.length c2 := by
      rcases hrow.2 with ⟨rfl, h0⟩ | ⟨g, cap, cur, rfl, _⟩
      · exact ⟨none, 0, by rw [h0]⟩
      · exact ⟨_, _, rfl⟩
    have f1 : W.cell? ⟨w.heap.size, 0, none⟩ = some (.slice A26 ys.length c26) := (blk_cell hv 0).trans rfl
    have z1 := blk_frozen hv 0
    simp only [Exit.inBlock, Exit.then]
    refine hK0_ _ _ ?_
    go_wp2
    refine ⟨by simp, .inl ⟨_, _, rfl, run_takeDeferred hK, ?_⟩⟩
    have hXD : w.heap.size ≠ D := fun e => by rw [e, hK] at hv; cases hv
    have hBW2 : Below w.heap.size w (W.putObj D (.deferred none)) := hBW.trans (belowK_b (w := w) (Nat.le_refl _) W D _ _ (by omega) hK rfl rfl)
    refine ⟨.slice A26 ys.length c26, results_t (fn := Try.f42) rfl _ _, _, ys, hys, rfl, ?_, hBW2⟩
    have hq := ownsRow_putObj hrow (.deferred none) hK rfl
    exact ⟨hq.1, hq.2.imp id (fun ⟨g, cap, cur, e, hg, h⟩ => ⟨g, cap, cur, e, by omega, h⟩)⟩
  case stop =>
    rintro D c pre W _ _ h _
    exact h.elim
theorem collectH_calls (gf : Nat) (lb : Array Value) (S : List (Int × Int) → Prop) (w : World) (eg : ∀ args w, (callFunc gf args).run Try.prog w = .ok (.enter gf args) w)
    (hst : ∀ w4, Below w.heap.size w w4 → SeqStopsK Fence.wide 8 Try.prog gf lb (fun x : Int × Int => #[v2 x]) (KT 30 34) S (fun _ => True) 1000001 w4) :
    Calls Try.prog 29 #[.func (.func gf) #[] lb] w fun e w' =>
      ∃ v xs, S xs ∧ e = .returned v ∧ w'.ownsRow w.heap.size 34 2 v xs.length (cells2 xs) ∧ Below w.heap.size w w' := by
  have ef : ∀ args w, (callFunc 42 args).run Try.prog w = .ok (.enter 42 args) w := enters_of Try.func42 (by kernel_rfl) rfl
  go_enter Try.func29, Try.ntmps29
  go_wp2_with fail
  refine (appendSeqH_calls gf lb S w eg hst).mono ?_
  rintro e w' ⟨v, xs, hS, rfl, ho, hb⟩
  go_wp2
  go_ret
  exact ⟨v, xs, hS, rfl, ho, hb⟩
end
end
section
open Go.Shelf Go.Maps
section
attribute [local go_sem] Oper.semAt_some
/-- The keys met so far. -/
def CollP (D : DataW Unit) (left : Lit → Bool) (ss : List (Int × Int)) : Prop := ss.Nodup ∧ (∀ s ∈ ss, ∃ l, keyOf Try.prog 60 (v2 s) = some l) ∧ ∀ s l, keyOf Try.prog 60 (v2 s) = some l → (s ∈ ss ↔ has D l = true ∧ left l = false)
theorem CollP.start (D : DataW Unit) : CollP D (has D) [] := ⟨List.nodup_nil, by simp, fun s l _ => by cases has D l <;> simp⟩
theorem CollP.step {D : DataW Unit} {left : Lit → Bool} {ss : List (Int × Int)} (h : CollP D left ss) {x : Int × Int} {kl : Lit} {y : DataW Unit} (hk : keyOf Try.prog 60 (v2 x) = some kl) (hlk : left kl = true) (hat : ∀ zd, D.atKey kl zd = y) : CollP D (fun z => left z && !z.sameKey kl) (ss ++ [x]) := by
  have hhas : has D kl = true := has_true_of_atKey hat
  have hnew : x ∉ ss := fun hx => by have := ((h.2.2 x kl hk).1 hx).2; rw [hlk] at this; cases this
  refine ⟨List.nodup_append.2 ⟨h.1, by simp, fun a ha b hb => by simp at hb; subst hb; exact fun e => hnew (e ▸ ha)⟩, fun s hs => ?_, fun s l hs => ?_⟩
  · rcases List.mem_append.1 hs with hs | hs
    · exact h.2.1 s hs
    · simp at hs; subst hs; exact ⟨kl, hk⟩
  · by_cases hy : s = x
    · subst hy
      obtain rfl : l = kl := Option.some.inj (hs.symm.trans hk)
      simp [hhas, WideAt.sameKey_self (law60.key hk)]
    · have hne : l ≠ kl := fun e => by
        subst e
        have := law60.inj hs hk
        simp at this
        exact hy (Prod.ext this.1 this.2)
      simp [h.2.2 s l hs, hy, sameKey_ne hne]
/-- What the keys of a map are. -/
def KeyList (M : Int → Int → Option S24) (xs : List (Int × Int)) : Prop := xs.Nodup ∧ (∀ s ∈ xs, (∃ l, keyOf Try.prog 60 (v2 s) = some l) ∧ (M s.1 s.2).isSome = true) ∧ ∀ o p l, keyOf Try.prog 60 (sv o p) = some l → (M o p).isSome = true → (o, p) ∈ xs
theorem KeyList.of {M : Int → Int → Option S24} {D : DataW Unit} {left : Lit → Bool} {ss : List (Int × Int)} (h2 : ∀ o p l, keyOf Try.prog 60 (sv o p) = some l → has D l = (M o p).isSome ∧ ∀ z, D.atKey l z = ((M o p).map enc24).getD z) (hC : CollP D left ss) (hl : ∀ kl, left kl = false) : KeyList M ss :=
  ⟨hC.1, fun s hs => by
    obtain ⟨l, hk⟩ := hC.2.1 s hs
    exact ⟨⟨l, hk⟩, by rw [← (h2 s.1 s.2 l hk).1]; exact ((hC.2.2 s l hk).1 hs).1⟩, fun o p l hk hM => (hC.2.2 (o, p) l hk).2 ⟨by rw [(h2 o p l hk).1]; exact hM, hl l⟩⟩
set_option maxRecDepth 100000 in
set_option maxHeartbeats 4000000 in
theorem keys1_in (n : Nat) (hn : 1 ≤ n) (l Bm b nn : Nat) (hnn : nn ≤ 1000000) (M : Int → Int → Option S24) (J Jx : List (Int × Int) → World → Prop) (W : World) (hJ : AbidesFrom W.heap.size J)
    (hY : ∀ pre x W1, J pre W1 → pre.length < 1000001 → YieldAt Fence.wide (n - 1) Try.prog l #[v2 x] W1 fun e W' =>
      (e = .returned (.bool true) ∧ J (pre ++ [x]) W' ∧ KT 68 60 W1 W') ∨ (e = .returned (.bool false) ∧ Jx (pre ++ [x]) W'))
    (hm : W.cell? ⟨Bm, 0, none⟩ = some (.map (some b))) (hM : MapIs W b nn M) (h0 : J [] W) :
    CallsIn Fence.wide n Try.prog 54 #[.func (.yield l) #[] #[], .pointer (some ⟨Bm, 0, none⟩)] W fun e W' => (∃ v, e = .returned v) ∧
      ((∃ ys, (KeyList M ys ∧ ys.length ≤ nn) ∧ J ys W') ∨ (∃ pre, True ∧ Jx pre W')) := by
  obtain ⟨D, hown, hD⟩ := hM
  have HD := Aside0.mk hD
  clear hD
  refine callsIn_of_wp Try.func54 rfl trivial ?_ rfl
  simp only [Try.ntmps54, List.size_toArray, List.length_cons, List.length_nil, Nat.reduceAdd, Nat.reduceSub, Array.replicate_succ, Array.replicate_zero, List.push_toArray, List.append_toArray, List.nil_append, List.cons_append]
  gi_wp2_with (first
    | (gi_at_range; refine wpListIn_range_own _ rfl _ 56 rfl 60 24 law60 Try.underlying56 _ b nn _ rfl hown ?_; intro w0 hrg0 hg0 hs0)
    | gi_in)
  go_frame
  gi_loopw [3] (fun _ wr => ∃ (left : Lit → Bool) (cnt : Nat) (ss : List (Int × Int)), wr.ranges Try.prog 60 el24 b W.heap.size nn D left cnt ∧ ss.length + cnt ≤ size D ∧ CollP D left ss ∧ J ss wr)
    (fun _ wr => wr.rangeLeft b W.heap.size)
  case atStart =>
    exact ⟨_, _, [], hrg0, by simp, CollP.start D, hJ [] W w0 none h0 hg0 (fun r e => by cases e)⟩
  case round =>
    obtain ⟨left, cnt, ss, hrg, hcs, hC, hJs⟩ := hrel
    have hsz := hown.size_le
    gi_wp2_with (first
      | (gi_at_next; refine wpListIn_next_ranges _ rfl _ rfl 60 law60 el24 v2 ag24 (fun key kl hk => key_inv hk) (fun v y hv => by obtain ⟨x, rfl, _⟩ := el24_inv hv; exact ⟨x, rfl⟩) b W.heap.size nn _ _ _ rfl hrg ?_ ?_)
      | gi_in)
    · intro hc0 hl0
      gi_wp2
      go_end0
      exact ⟨⟨_, rfl⟩, .inl ⟨ss, ⟨KeyList.of HD.out hC hl0, by omega⟩, hJs⟩⟩
    · intro x1 x2 c kl yd yp w2 cnt2 hkey hlk hv hat hrg2 hlt hg2 hs2 hen
      have hJ2 : J ss w2 := hJ ss wr w2 (some W.heap.size) hJs hg2 (fun r e => by cases e; exact ⟨Nat.le_refl _, hrg.iter_walk⟩)
      have hJ3 := hJ ss w2 (w2.alloc (.cells #[.int .i64 x1, .int .i64 x2] 60)) none hJ2 (World.grownBy_alloc w2 _ none) (fun r e => by cases e)
      have hrg3 := hrg2.alloc (.cells #[.int .i64 x1, .int .i64 x2] 60)
      obtain ⟨fn, tmps, assign, body, hy, hR⟩ := hY ss (x1, x2) _ hJ3 (by omega)
      clear hs2
      gi_wp2
      refine hR.mono ?_
      have hC2 := hC.step (x := (x1, x2)) hkey hlk hat
      rintro e W3 (⟨rfl, hJ4, hk3⟩ | ⟨rfl, hJx3⟩)
      · gi_wp2
        have hrg4 := hrg3.of_walks hk3.walks
        go_roundw
        case rel => exact ⟨_, cnt2, ss ++ [(x1, x2)], hrg4, by simp; omega, hC2, hJ4⟩
        case measure => rw [hrg4.left_eq, hrg.left_eq]; exact hlt
      · gi_wp2
        refine bodyPost_ret (results_none rfl _ _ _) rfl ?_
        exact ⟨⟨_, rfl⟩, .inr ⟨ss ++ [(x1, x2)], trivial, hJx3⟩⟩
theorem keys_stops (Bm b nn : Nat) (hnn : nn ≤ 1000000) (M : Int → Int → Option S24) (w : World) (hm : w.cell? ⟨Bm, 0, none⟩ = some (.map (some b))) (hBm : Bm < w.heap.size) (hM : MapIs w b nn M) :
    SeqStopsK Fence.wide 8 Try.prog 54 #[.pointer (some ⟨Bm, 0, none⟩)] (fun x : Int × Int => #[v2 x]) (KT 68 60) (fun ys => KeyList M ys ∧ ys.length ≤ nn) (fun _ => True) 1000001 w :=
  fun l J Jx W hW hJ _ hY h0 => keys1_in 8 (by omega) l Bm b nn hnn M J Jx W hJ hY ((hW.cell (p := ⟨Bm, 0, none⟩) hBm).trans hm) (hM.later hW) h0
theorem keys_calls (b : Nat) (w : World) :
    Calls Try.prog 46 #[.map (some b)] w fun e w' => ∃ Bm, e = .returned (.func (.func 54) #[] #[.pointer (some ⟨Bm, 0, none⟩)]) ∧ w.heap.size ≤ Bm ∧ Bm < w'.heap.size ∧ w'.cell? ⟨Bm, 0, none⟩ = some (.map (some b)) ∧ Below w.heap.size w w' := by
  go_enter Try.func46, Try.ntmps46
  go_wp2
  go_ret
  exact ⟨w.heap.size, rfl, Nat.le_refl _, by simp, (blk_cell (World.alloc_heap_new w _) 0).trans rfl, (Below.refl _ w).alloc (Nat.le_refl _) _⟩
end
end
section
open Go.Shelf Go.Sort Go.Maps
section
def sf_ren : Go.Shelf.Ren := ⟨fun | 6 => 53 | 15 => 58 | 14 => 57 | 28 => 67 | 29 => 68 | 20 => 59 | 21 => 60 | 22 => 61 | 23 => 62 | 24 => 63 | 25 => 64 | 26 => 65 | 27 => 66 | 46 => 69 | 47 => 70 | 48 => 71 | 49 => 72 | 50 => 73 | 57 => 74 | n => n, fun | 22 => 68 | 24 => 60 | 25 => 67 | 3 => 3 | 39 => 63 | 0 => 0 | 53 => 93 | 55 => 95 | 4 => 4 | 46 => 87 | 45 => 86 | 50 => 45 | 5 => 5 | 9 => 9 | 66 => 96 | 70 => 100 | 76 => 102 | 77 => 103 | n => n, fun | n => n⟩
theorem sf : Go.Proofs.SlLaysF0.n6 Try.prog sf_ren := {
  mixed := by kernel_rfl
  f6 := ⟨Try.f53.name, by decide, Try.func53.trans (congrArg some (by kernel_rfl))⟩
  f14 := ⟨Try.f57.name, by decide, Try.func57.trans (congrArg some (by kernel_rfl))⟩
  f15 := Try.func58.trans (congrArg some (by kernel_rfl))
  f20 := ⟨Try.f59.name, by decide, Try.func59.trans (congrArg some (by kernel_rfl))⟩
  f21 := ⟨Try.f60.name, by decide, Try.func60.trans (congrArg some (by kernel_rfl))⟩
  f22 := ⟨Try.f61.name, by decide, Try.func61.trans (congrArg some (by kernel_rfl))⟩
  f23 := ⟨Try.f62.name, by decide, Try.func62.trans (congrArg some (by kernel_rfl))⟩
  f24 := ⟨Try.f63.name, by decide, Try.func63.trans (congrArg some (by kernel_rfl))⟩
  f25 := ⟨Try.f64.name, by decide, Try.func64.trans (congrArg some (by kernel_rfl))⟩
  f26 := ⟨Try.f65.name, by decide, Try.func65.trans (congrArg some (by kernel_rfl))⟩
  f27 := ⟨Try.f66.name, by decide, Try.func66.trans (congrArg some (by kernel_rfl))⟩
  f28 := Try.func67.trans (congrArg some (by kernel_rfl))
  f29 := Try.func68.trans (congrArg some (by kernel_rfl))
  f46 := ⟨Try.f69.name, by decide, Try.func69.trans (congrArg some (by kernel_rfl))⟩
  f47 := Try.func70.trans (congrArg some (by kernel_rfl))
  f48 := Try.func71.trans (congrArg some (by kernel_rfl))
  f49 := ⟨Try.f72.name, by decide, Try.func72.trans (congrArg some (by kernel_rfl))⟩
  f50 := ⟨Try.f73.name, by decide, Try.func73.trans (congrArg some (by kernel_rfl))⟩
  f57 := ⟨Try.f74.name, by decide, Try.func74.trans (congrArg some (by kernel_rfl))⟩
  t0 := Try.underlying0
  a0 := Try.isAgg0
  z0 := Try.sizeOf0
  v0 := Try.zeroValue0
  t3 := Try.underlying3
  a3 := Try.isAgg3
  z3 := Try.sizeOf3
  v3 := Try.zeroValue3
  t4 := Try.underlying4
  a4 := Try.isAgg4
  z4 := Try.sizeOf4
  v4 := Try.zeroValue4
  t5 := Try.underlying5
  a5 := Try.isAgg5
  z5 := Try.sizeOf5
  v5 := Try.zeroValue5
  t9 := Try.underlying9
  a9 := Try.isAgg9
  z9 := Try.sizeOf9
  v9 := Try.zeroValue9
  t22 := Try.underlying68
  a22 := Try.isAgg68
  z22 := Try.sizeOf68
  v22 := Try.zeroValue68
  t25 := Try.underlying67
  a25 := Try.isAgg67
  z25 := Try.sizeOf67
  v25 := Try.zeroValue67
  t39 := Try.underlying63
  a39 := Try.isAgg63
  z39 := Try.sizeOf63
  v39 := Try.zeroValue63
  t45 := Try.underlying86
  a45 := Try.isAgg86
  z45 := Try.sizeOf86
  v45 := Try.zeroValue86
  t46 := Try.underlying87
  a46 := Try.isAgg87
  z46 := Try.sizeOf87
  v46 := Try.zeroValue87
  t50 := Try.underlying45
  a50 := Try.isAgg45
  z50 := Try.sizeOf45
  v50 := Try.zeroValue45
  t53 := Try.underlying93
  a53 := Try.isAgg93
  z53 := Try.sizeOf93
  v53 := Try.zeroValue93
  t55 := Try.underlying95
  a55 := Try.isAgg95
  z55 := Try.sizeOf95
  v55 := Try.zeroValue95
  t66 := Try.underlying96
  a66 := Try.isAgg96
  z66 := Try.sizeOf96
  v66 := Try.zeroValue96
  t70 := Try.underlying100
  a70 := Try.isAgg100
  z70 := Try.sizeOf100
  v70 := Try.zeroValue100
  t76 := Try.underlying102
  a76 := Try.isAgg102
  z76 := Try.sizeOf102
  v76 := Try.zeroValue102
  t77 := Try.underlying103
  a77 := Try.isAgg103
  z77 := Try.sizeOf103
  v77 := Try.zeroValue103 }
end
section
/-- Draws and blocks behind a world. -/
def Gr (w w' : World) : Prop := ∃ (q : Nat) (os : Array Obj), w' = grow (w.drewN q) os
theorem Gr.refl (w : World) : Gr w w := ⟨0, #[], by rw [grow_empty]; rfl⟩
theorem Gr.drew {w w' : World} (h : Gr w w') : Gr w w'.drew := by
  obtain ⟨q, os, rfl⟩ := h
  exact ⟨q + 1, os, rfl⟩
theorem Gr.drewN {w w' : World} (h : Gr w w') (n : Nat) : Gr w (w'.drewN n) := by
  obtain ⟨q, os, rfl⟩ := h
  exact ⟨q + n, os, by rw [← World.drewN_drewN]; rfl⟩
theorem Gr.alloc {w w' : World} (h : Gr w w') (o : Obj) : Gr w (w'.alloc o) := by
  obtain ⟨q, os, rfl⟩ := h
  exact ⟨q, os ++ #[o], by rw [alloc_eq_grow, grow_grow]⟩
theorem Gr.drew0 {w w1 w2 : World} (h : Gr w w1) (hd : Drawn0 w1 w2) : Gr w w2 := by
  obtain ⟨n, rfl⟩ := hd.out
  exact h.drewN n
/-- The order of seats: by the person. -/
def seatCmp (x y : Int × Int) : Int := if x.2 < y.2 then -1 else if y.2 < x.2 then 1 else 0
theorem compare_eq (a b : Int) : cmp_Compare_int.f a b = some (if a < b then -1 else if b < a then 1 else 0) := by
  unfold cmp_Compare_int.f cmp_isNaN_int.f
  simp only [bne_self_eq_false, Option.bind_some, Bool.false_eq_true, if_false]
  by_cases h : a < b
  · rw [if_pos h, if_pos h]
  · rw [if_neg h, if_neg h]
    by_cases h2 : b < a
    · rw [if_pos h2, if_pos h2]
    · rw [if_neg h2, if_neg h2]
theorem seatLt_iff (x y : Int × Int) : ltOf seatCmp x y = true ↔ x.2 < y.2 := by
  unfold ltOf seatCmp
  by_cases h : x.2 < y.2
  · simp [h]
  · by_cases h2 : y.2 < x.2 <;> simp [h, h2]
theorem seatSWO : SWO (ltOf seatCmp) := by
  have key : ∀ x y, ltOf seatCmp x y = false ↔ ¬ (x.2 < y.2) := fun x y => by
    rw [← seatLt_iff]; simp
  refine ⟨fun x => (key x x).2 (by omega), fun x y z h1 h2 => ?_, fun x y z h1 h2 => ?_⟩
  · rw [seatLt_iff] at h1 h2 ⊢
    omega
  · rw [key] at h1 h2 ⊢
    omega
set_option maxRecDepth 100000 in
theorem seatCmp_grows (x y : Int × Int) (w : World) : Calls Try.prog 44 #[v2 x, v2 y] w fun e w' => e = .returned (.int .i64 (seatCmp x y)) ∧ Gr w w' := by
  have hu60 := Try.underlying60
  have HG := Aside0.mk (((Gr.refl w).alloc (.cells #[.int .i64 x.1, .int .i64 x.2] 60)).alloc (.cells #[.int .i64 y.1, .int .i64 y.2] 60))
  go_enter Try.func44, Try.ntmps44
  go_wp2_with fail
  refine (cmp_Compare_int.calls x.2 y.2 (seatCmp x y) _ (compare_eq _ _)).mono ?_
  rintro e w1 ⟨rfl, hd⟩
  have HG1 := Aside0.mk (HG.out.drew0 hd)
  clear hd HG
  go_wp2
  go_ret
  exact ⟨rfl, HG1.out⟩
/-- What the sort leaves of a row. -/
def sortP (l : List (Int × Int)) : List (Int × Int) := (pdq (ltOf seatCmp) l.toArray 0 l.toArray.size (Lib.bitLen l.toArray.size) true true).toList
theorem sortP_both (l : List (Int × Int)) : PermIn 0 l.toArray.size l.toArray (pdq (ltOf seatCmp) l.toArray 0 l.toArray.size (Lib.bitLen l.toArray.size) true true) ∧ SortedIn (ltOf seatCmp) 0 l.toArray.size (pdq (ltOf seatCmp) l.toArray 0 l.toArray.size (Lib.bitLen l.toArray.size) true true) :=
  pdq_sorts (ltOf seatCmp) seatSWO l.toArray 0 l.toArray.size (Lib.bitLen l.toArray.size) true true (Nat.zero_le _) (Nat.le_refl _) (Or.inl rfl)
theorem sortP_perm (l : List (Int × Int)) : (sortP l).Perm l := by
  obtain ⟨hs, _, hp⟩ := (sortP_both l).1
  have h1 : ∀ a : Array (Int × Int), a.size = l.toArray.size → (a.extract 0 l.toArray.size).toList = a.toList := fun a ha => by rw [← ha, Array.extract_size]
  rw [h1 _ hs, h1 _ rfl] at hp
  exact hp
theorem sortP_len (l : List (Int × Int)) : (sortP l).length = l.length := (sortP_perm l).length_eq
theorem sortP_le (l : List (Int × Int)) (i j : Nat) (x y : (Int × Int)) (hij : i < j) (hi : (sortP l)[i]? = some x) (hj : (sortP l)[j]? = some y) : ltOf seatCmp y x = false := by
  have hjl : j < (sortP l).length := (List.getElem?_eq_some_iff.1 hj).1
  have hlen := sortP_len l
  have hs := (sortP_both l).2 i j (Nat.zero_le _) hij (by simp; omega)
  have e : ∀ k z, (sortP l)[k]? = some z → (pdq (ltOf seatCmp) l.toArray 0 l.toArray.size (Lib.bitLen l.toArray.size) true true)[k]! = z := fun k z h => by
    unfold sortP at h
    rw [Array.getElem!_eq_getD, Array.getD_eq_getD_getElem?, ← Array.getElem?_toList, h]
    rfl
  rw [e j y hj, e i x hi] at hs
  exact hs
/-- The row's cells, each. -/
theorem cells2_at (xs : List (Int × Int)) : ∀ (i j : Nat) (x : (Int × Int)), xs[i]? = some x → j < 2 → (cells2 xs)[i * 2 + j]? = (cell2 x)[j]? := by
  induction xs with
  | nil => intro i j x h; simp at h
  | cons y t ih =>
    intro i j x h hj
    rw [cells2_cons]
    cases i with
    | zero =>
      simp at h
      subst h
      rw [List.getElem?_append_left (by rw [c2_len]; omega)]
      simp
    | succ i =>
      rw [List.getElem?_append_right (by rw [c2_len]; omega), c2_len, show (i + 1) * 2 + j - 2 = i * 2 + j by omega]
      exact ih i j x (by simpa using h) hj
theorem flat_get (d : Array (Int × Int)) (t : Nat) (h : t < d.size * 2) : (cells2 d.toList)[t]? = some ((flatK cell2 2 d)[t]!) := by
  have h1 : t / 2 < d.size := by omega
  have h2 : t % 2 < 2 := Nat.mod_lt _ (by omega)
  rw [get_flatK cell2 2 d t h]
  have := cells2_at d.toList (t / 2) (t % 2) (d[t / 2]!) (by rw [Array.getElem?_toList, Array.getElem?_eq_getElem h1, getElem!_pos d _ h1]) h2
  rw [show t / 2 * 2 + t % 2 = t by omega] at this
  rw [this, getElem!_pos (cell2 d[t / 2]!) (t % 2) (by rw [c2_len]; exact h2)]
  exact List.getElem?_eq_getElem _
theorem holds_own {w : World} {g : Nat} {cur : Array Value} {xs : List (Int × Int)} (h1 : w.heap[g]? = some (.cells cur 60 (0, 0))) (h2 : cur.toList.take (xs.length * 2) = cells2 xs) : HoldsK cell2 2 w g 0 xs.toArray := by
  intro j hj
  rw [size_flatK] at hj
  have hf := flat_get xs.toArray j hj
  have hj' : j < xs.length * 2 := by simpa using hj
  refine ⟨?_, ?_⟩
  · rw [Nat.zero_add, blk_cell h1 j]
    have : cur.toList[j]? = some ((flatK cell2 2 xs.toArray)[j]!) := by
      rw [← hf, show xs.toArray.toList = xs by simp, ← h2, List.getElem?_take_of_lt hj']
    rw [← Array.getElem?_toList]
    exact this
  · rw [Nat.zero_add]
    exact blk_frozen h1 j
/-- What the sort leaves: the row's cells. -/
theorem own_sorted {w : World} {base g cap m : Nat} {cur : Array Value} {xs : List (Int × Int)} {d : Array (Int × Int)} {os : Array Obj} (hb : base ≤ g) (h1 : w.heap[g]? = some (.cells cur 60 (0, 0))) (h2 : xs.length ≤ cap) (h3 : cap ≤ maxLen) (h4 : cur.size = cap * 2)
    (hd : d.size = xs.length) : (sortWorldK cell2 2 w g 0 m d os).ownsRow base 60 2 (.slice (some ⟨g, 0, none⟩) xs.length cap) d.toList.length (cells2 d.toList) ∧ Below base w (sortWorldK cell2 2 w g 0 m d os) := by
  have hg : g < w.heap.size := (Array.getElem?_eq_some_iff.1 h1).1
  have hsz : (putRowK cell2 2 (Sort.ahead w m) g 0 d).heap.size = w.heap.size := by rw [size_putRowK]; rfl
  have hheap : ∀ k, k < w.heap.size → (sortWorldK cell2 2 w g 0 m d os).heap[k]? = (w.heap.modify g (onCells (putCells id 0 (flatK cell2 2 d))))[k]? := fun k hk => by
    unfold sortWorldK grow
    show ((putRowK cell2 2 (Sort.ahead w m) g 0 d).heap ++ os)[k]? = _
    rw [Array.getElem?_append_left (by omega)]
    rfl
  refine ⟨⟨by rw [cells2_len], .inr ⟨g, cap, putCells id 0 (flatK cell2 2 d) cur, by simp [hd], hb, ?_, by simp [hd]; omega, h3, by simp [putCells, h4], ?_⟩⟩, ?_⟩
  · rw [hheap g hg, Array.getElem?_modify, if_pos rfl, h1]
    rfl
  · apply List.ext_getElem?
    intro t
    by_cases ht : t < d.size * 2
    · rw [flat_get d t ht, List.getElem?_take_of_lt (by simpa using ht)]
      have hc : t < cur.size := by rw [h4]; omega
      rw [Array.getElem?_toList]
      unfold putCells
      rw [Array.getElem?_mapIdx, Array.getElem?_eq_getElem hc, Option.map_some, if_pos ⟨Nat.zero_le _, by simpa using ht⟩]
      simp
    · rw [List.getElem?_eq_none (by simp; omega), List.getElem?_eq_none (by rw [cells2_len]; simpa using ht)]
  · refine ⟨rfl, rfl, rfl, ?_, fun k hk => ?_⟩
    · unfold sortWorldK grow
      show w.heap.size ≤ ((putRowK cell2 2 (Sort.ahead w m) g 0 d).heap ++ os).size
      rw [Array.size_append, hsz]
      omega
    · rw [hheap k (by omega), Array.getElem?_modify, if_neg (by omega)]
attribute [local go_sem] Oper.semAt_some
theorem ins_none (p : Option Addr) (cap : Nat) (fv : Value) (w : World) :
    Calls Try.prog 59 #[.slice p 0 cap, .int .i64 0, .int .i64 0, fv] w fun e w' => e = .returned (.tuple #[]) ∧ w' = w := by
  go_enter Try.func59, Try.ntmps59
  go_wp2
  refine wp_loop_rounds 1 ?_
  rw [rounds_succ]
  go_wp2
  go_end0
  exact ⟨rfl, rfl⟩
theorem pdq_none (p : Option Addr) (cap : Nat) (lim : Int) (fv : Value) (w : World) :
    Calls Try.prog 57 #[.slice p 0 cap, .int .i64 0, .int .i64 0, .int .i64 lim, fv] w fun e w' => e = .returned (.tuple #[]) ∧ w' = w := by
  have e59 : ∀ args w, (callFunc 59 args).run Try.prog w = .ok (.enter 59 args) w := enters_of Try.func59 (by kernel_rfl) rfl
  go_enter Try.func57, Try.ntmps57
  go_wp2
  refine wp_loop_rounds 1 ?_
  rw [rounds_succ]
  go_wp2_with fail
  refine (ins_none p cap fv _).mono ?_
  rintro e w' ⟨rfl, rfl⟩
  go_wp2
  (try simp only [Exit.inBlock, Exit.then]); refine bodyPost_ret (results_none rfl _ _ _) rfl ?_
  exact ⟨rfl, rfl⟩
theorem sort_none (p : Option Addr) (cap : Nat) (fv : Value) (w : World) :
    Calls Try.prog 53 #[.slice p 0 cap, fv] w fun e w' => e = .returned (.tuple #[]) ∧ w' = w := by
  have e57 : ∀ args w, (callFunc 57 args).run Try.prog w = .ok (.enter 57 args) w := enters_of Try.func57 (by kernel_rfl) rfl
  have e58 : ∀ args w, (callFunc 58 args).run Try.prog w = .ok (.enter 58 args) w := enters_of Try.func58 (by kernel_rfl) rfl
  have hl : ∀ W, Calls Try.prog 58 #[.int .u64 0] W fun e w' => e = .returned (.int .i64 (Lib.bitLen 0 : Nat)) ∧ w' = W := fun W =>
    Any.bits_Len (SlLaysF0.n15.bits (P := Try.prog) (ρ := sf_ren) { sf with }) 0 W (by omega) (by omega)
  go_enter Try.func53, Try.ntmps53
  go_wp2_with fail
  refine (hl _).mono ?_
  rintro e w' ⟨rfl, rfl⟩
  go_wp2_with fail
  refine (pdq_none p cap _ fv _).mono ?_
  rintro e w' ⟨rfl, rfl⟩
  go_wp2
  go_end0
  exact ⟨rfl, rfl⟩
theorem seat_lays (g n : Nat) (w : World) : CmpLays Try.prog 44 #[] cell2 2 seatCmp g 0 n w := fun m os dk hd x y =>
  (seatCmp_grows x y _).mono fun e w' ⟨he, q, os', hw⟩ => ⟨he, q, os', hw⟩
theorem sort_calls (base : Nat) (v : Value) (xs : List (Int × Int)) (w : World) (h : w.ownsRow base 60 2 v xs.length (cells2 xs)) (hl : xs.length ≤ 1000000) :
    Calls Try.prog 53 #[v, .func (.func 44) #[] #[]] w fun e w' => e = .returned (.tuple #[]) ∧ w'.ownsRow base 60 2 v (sortP xs).length (cells2 (sortP xs)) ∧ Below base w w' := by
  obtain ⟨hlen, ⟨rfl, h0⟩ | ⟨g, cap, cur, rfl, hb, hh, hc, hm, hs, ht⟩⟩ := h
  · obtain rfl : xs = [] := List.length_eq_zero_iff.1 h0
    have e0 : sortP [] = [] := List.length_eq_zero_iff.1 (sortP_len [])
    refine (sort_none none 0 _ w).mono ?_
    rintro e w' ⟨rfl, rfl⟩
    rw [e0]
    exact ⟨rfl, World.ownsRow_nil _ _ _ _, Below.refl _ _⟩
  · have hx : xs.length = xs.toArray.size := by simp
    have hS := AnyQ.slices_SortFunc_eq (P := Try.prog) (ρ := sf_ren) sf 2 (fun w => Try.isAgg60 w) (fun w => Try.sizeOf60 w) cell2 c2_len c2_one seatCmp seatSWO 44 #[] g 0 cap xs.toArray w
      (enters_of Try.func44 (by kernel_rfl) rfl) (seat_lays g _ w) (holds_own hh ht) (Array.getElem?_eq_some_iff.1 hh).1 (by simp; omega)
    rw [← hx] at hS
    refine hS.mono ?_
    rintro e w' ⟨rfl, n, os, rfl⟩
    obtain ⟨k1, k2⟩ := own_sorted (m := n) (os := os) (d := pdq (ltOf seatCmp) xs.toArray 0 xs.length (Lib.bitLen xs.length) true true) hb hh hc hm hs (by have := (sortP_both xs).1.1; rw [← hx] at this; exact this)
    have e1 : (pdq (ltOf seatCmp) xs.toArray 0 xs.length (Lib.bitLen xs.length) true true).toList = sortP xs := by unfold sortP; rw [← hx]
    rw [e1] at k1
    exact ⟨rfl, k1, k2⟩
theorem sortedFunc_calls (gf : Nat) (lb : Array Value) (S : List (Int × Int) → Prop) (w : World) (eg : ∀ args w, (callFunc gf args).run Try.prog w = .ok (.enter gf args) w)
    (hst : ∀ w4, Below w.heap.size w w4 → SeqStopsK Fence.wide 8 Try.prog gf lb (fun x : Int × Int => #[v2 x]) (KT 68 60) S (fun _ => True) 1000001 w4) (hl : ∀ xs, S xs → xs.length ≤ 1000000) :
    Calls Try.prog 45 #[.func (.func gf) #[] lb, .func (.func 44) #[] #[]] w fun e w' =>
      ∃ v xs, S xs ∧ e = .returned v ∧ w'.ownsRow w.heap.size 60 2 v (sortP xs).length (cells2 (sortP xs)) ∧ Below w.heap.size w w' := by
  have e52 : ∀ args w, (callFunc 52 args).run Try.prog w = .ok (.enter 52 args) w := enters_of Try.func52 (by kernel_rfl) rfl
  have e53 : ∀ args w, (callFunc 53 args).run Try.prog w = .ok (.enter 53 args) w := enters_of Try.func53 (by kernel_rfl) rfl
  go_enter Try.func45, Try.ntmps45
  go_wp2_with fail
  refine (collectK_calls gf lb S w eg hst).mono ?_
  rintro e w1 ⟨v, xs, hS, rfl, ho, hb⟩
  go_wp2_with fail
  refine (sort_calls w.heap.size v xs w1 ho (hl xs hS)).mono ?_
  rintro e w2 ⟨rfl, ho2, hb2⟩
  go_wp2
  go_ret
  exact ⟨v, xs, hS, rfl, ho2, hb.trans hb2⟩
end
end
section
open Go.Shelf Go.Maps
section
attribute [local go_sem] Oper.semAt_some
/-- Whom a seat of an office lets holdL it. -/
def hold1 (M : Int → Int → Option S24) (office : Int) (s : Int × Int) : Option (Int × Int) :=
  if (s.1 == office && !((M s.1 s.2).getD z24).f6) = true then some (((M s.1 s.2).getD z24).f4, ((M s.1 s.2).getD z24).f5) else none
def holdL (M : Int → Int → Option S24) (office : Int) (ks : List (Int × Int)) : List (Int × Int) := ks.filterMap (hold1 M office)
theorem hold_snoc (M : Int → Int → Option S24) (office : Int) (ks : List (Int × Int)) (s : Int × Int) : holdL M office (ks ++ [s]) = holdL M office ks ++ (match hold1 M office s with | some h => [h] | none => []) := by
  unfold holdL
  rw [List.filterMap_append]
  congr 1
  cases h : hold1 M office s <;> simp [h]
theorem hold_len (M : Int → Int → Option S24) (office : Int) (ks : List (Int × Int)) : (holdL M office ks).length ≤ ks.length := List.length_filterMap_le _ _
theorem MapIs.kt {T1 T2 : TypeId} {w w' : World} {b n : Nat} {M : Int → Int → Option S24} (h : MapIs w b n M) (hk : KT T1 T2 w w') : MapIs w' b n M := by
  obtain ⟨D, ⟨es, clock, hbk, F, hs, hD⟩, h2⟩ := h
  exact ⟨D, ⟨es, clock, hk.walks.same b _ hbk rfl, F, hs, hD⟩, h2⟩
theorem row_kt {w w' : World} {base : Nat} {v : Value} {xs : List (Int × Int)} (h : w.ownsRow base 60 2 v xs.length (cells2 xs)) (hk : KT 30 34 w w') : w'.ownsRow base 60 2 v xs.length (cells2 xs) :=
  ⟨h.1, h.2.imp id (fun ⟨g, cap, cur, e, hg, hh, hr⟩ => ⟨g, cap, cur, e, hg, hk.cells hh (by decide), hr⟩)⟩
theorem row_later {w w' : World} {base : Nat} {v : Value} {xs : List (Int × Int)} (h : w.ownsRow base 60 2 v xs.length (cells2 xs)) (hb : Below w.heap.size w w') : w'.ownsRow base 60 2 v xs.length (cells2 xs) :=
  ⟨h.1, h.2.imp id (fun ⟨g, cap, cur, e, hg, hh, hr⟩ => ⟨g, cap, cur, e, hg, (hb.block g (Array.getElem?_eq_some_iff.1 hh).1).trans hh, hr⟩)⟩
theorem row_at {w : World} {base : Nat} {v : Value} {xs : List (Int × Int)} (h : w.ownsRow base 60 2 v xs.length (cells2 xs)) (i : Nat) (hi : i < xs.length) :
    ∃ g cap, v = .slice (some ⟨g, 0, none⟩) xs.length cap ∧ w.cell? ⟨g, i * 2, none⟩ = some (.int .i64 xs[i].1) ∧ w.cell? ⟨g, i * 2 + 1, none⟩ = some (.int .i64 xs[i].2) := by
  rcases h.2 with ⟨rfl, h0⟩ | ⟨g, cap, cur, rfl, hg, hh, h1, h2, h3, h4⟩
  · omega
  · refine ⟨g, cap, rfl, ?_, ?_⟩
    · rw [blk_cell hh (i * 2), ← Array.getElem?_toList]
      have := cells2_at xs i 0 xs[i] (List.getElem?_eq_getElem hi) (by omega)
      rw [← h4, Nat.add_zero, List.getElem?_take_of_lt (by omega)] at this
      rw [this]
      rfl
    · rw [blk_cell hh (i * 2 + 1), ← Array.getElem?_toList]
      have := cells2_at xs i 1 xs[i] (List.getElem?_eq_getElem hi) (by omega)
      rw [← h4, List.getElem?_take_of_lt (by omega)] at this
      rw [this]
      rfl
theorem row_slice {w : World} {base : Nat} {v : Value} {xs : List (Int × Int)} (h : w.ownsRow base 60 2 v xs.length (cells2 xs)) : ∃ A c, v = .slice A xs.length c := by
  rcases h.2 with ⟨rfl, h0⟩ | ⟨g, cap, cur, rfl, _⟩
  · exact ⟨none, 0, by rw [h0]⟩
  · exact ⟨_, _, rfl⟩
theorem sortP_mem (l : List (Int × Int)) (s : Int × Int) : s ∈ sortP l ↔ s ∈ l := (sortP_perm l).mem_iff
/-- What the holders are. -/
def HoldList (M : Int → Int → Option S24) (office : Int) (hs : List (Int × Int)) : Prop := ∃ ks, KeyList M ks ∧ hs = holdL M office (sortP ks)
set_option maxRecDepth 100000 in
set_option maxHeartbeats 200000000 in
theorem holders1_in (l B1 B2 b nn : Nat) (hnn : nn ≤ 1000000) (M : Int → Int → Option S24) (office : Int) (J Jx : List (Int × Int) → World → Prop) (W : World) (hJ : AbidesFrom W.heap.size J)
    (hY : ∀ pre x W1, J pre W1 → pre.length < 1000001 → YieldAt Fence.wide 7 Try.prog l #[v2 x] W1 fun e W' =>
      (e = .returned (.bool true) ∧ J (pre ++ [x]) W' ∧ KT 30 34 W1 W') ∨ (e = .returned (.bool false) ∧ Jx (pre ++ [x]) W'))
    (h1 : W.heap[B1]? = some (.cells #[.map (some b)] 56 (0, 0))) (h2 : W.heap[B2]? = some (.cells #[.int .i64 office] 3 (0, 0))) (hM : MapIs W b nn M) (h0 : J [] W) :
    CallsIn Fence.wide 8 Try.prog 43 #[.func (.yield l) #[] #[], .pointer (some ⟨B1, 0, none⟩), .pointer (some ⟨B2, 0, none⟩)] W fun e W' => (∃ v, e = .returned v) ∧
      ((∃ ys, HoldList M office ys ∧ J ys W') ∨ (∃ pre, True ∧ Jx pre W')) := by
  have e46 : ∀ args w, (callFunc 46 args).run Try.prog w = .ok (.enter 46 args) w := enters_of Try.func46 (by kernel_rfl) rfl
  have e45 : ∀ args w, (callFunc 45 args).run Try.prog w = .ok (.enter 45 args) w := enters_of Try.func45 (by kernel_rfl) rfl
  have e54 : ∀ args w, (callFunc 54 args).run Try.prog w = .ok (.enter 54 args) w := enters_of Try.func54 (by kernel_rfl) rfl
  have hu24 := Try.underlying24
  have hu60 := Try.underlying60
  have hu56 := Try.underlying56
  refine callsIn_of_wp Try.func43 rfl trivial ?_ rfl
  simp only [Try.ntmps43, List.size_toArray, List.length_cons, List.length_nil, Nat.reduceAdd, Nat.reduceSub, Array.replicate_succ, Array.replicate_zero, List.push_toArray, List.append_toArray, List.nil_append, List.cons_append]
  have x1 := (blk_cell h1 0).trans rfl
  gi_wp2
  refine ⟨trivial, ?_⟩
  refine ((callsIn_wide).2 (keys_calls b W)).mono ?_
  rintro e W1 ⟨Bm, rfl, g1, g2, g3, hb⟩
  have HM1 := Aside0.mk (hM.later hb)
  have H1 := Aside0.mk (blk_below h1 hb)
  have H2 := Aside0.mk (blk_below h2 hb)
  have HB1 := Aside0.mk hb
  have hJ1 := hJ _ W W1 none h0 (grown_of_below hb none) (fun _ e => by cases e)
  clear x1 hM h1 h2 h0 hb
  gi_wp2
  refine ⟨trivial, ?_⟩
  refine ((callsIn_wide).2 (sortedFunc_calls 54 #[.pointer (some ⟨Bm, 0, none⟩)] (fun ys => KeyList M ys ∧ ys.length ≤ nn) W1 e54 (fun w4 hb4 => keys_stops Bm b nn hnn M w4 ((hb4.cell (p := ⟨Bm, 0, none⟩) g2).trans g3) (Nat.lt_of_lt_of_le g2 hb4.size) (HM1.out.later hb4)) (fun xs hx => by have := hx.2; omega))).mono ?_
  rintro e W2 ⟨v, ks, ⟨hks, hkl⟩, rfl, ho, hb⟩
  have HM2 := Aside0.mk (HM1.out.later hb)
  have H1' := Aside0.mk (blk_below H1.out hb)
  have H2' := Aside0.mk (blk_below H2.out hb)
  have HJ2 := Aside0.mk (hJ _ W1 W2 none hJ1 (grown_of_below hb none) (fun _ e => by cases e))
  have HZ2 := Aside0.mk (Nat.le_trans HB1.out.size hb.size)
  clear HM1 H1 H2 HB1 hJ1 hb g1 g2 g3
  obtain ⟨qs, hqs⟩ : ∃ qs, sortP ks = qs := ⟨_, rfl⟩
  have hql : qs.length ≤ 1000000 := by rw [← hqs, sortP_len]; omega
  have hqk : ∀ s ∈ qs, ∃ l, keyOf Try.prog 60 (v2 s) = some l := fun s hs => (hks.2.1 s ((sortP_mem ks s).1 (by rw [hqs]; exact hs))).1
  rw [hqs] at ho
  obtain ⟨A, c, rfl⟩ := row_slice ho
  have HO2 := Aside0.mk ho
  clear ho
  gi_wp2
  gi_loopw [13] (fun v wr => ∃ i : Nat, i ≤ qs.length ∧ v = .int .i64 i ∧ J (holdL M office (qs.take i)) wr ∧ wr.ownsRow W1.heap.size 60 2 (.slice A qs.length c) qs.length (cells2 qs) ∧ MapIs wr b nn M ∧ wr.heap[B1]? = some (.cells #[.map (some b)] 56 (0, 0)) ∧ wr.heap[B2]? = some (.cells #[.int .i64 office] 3 (0, 0)) ∧ W.heap.size ≤ wr.heap.size) (fun v _ => qs.length - (intOf v).toNat)
  case atStart =>
    exact ⟨0, by omega, rfl, HJ2.out, HO2.out, HM2.out, H1'.out, H2'.out, HZ2.out⟩
  case round =>
    obtain ⟨i, hi, rfl, hJi, hOi, hMi, hB1, hB2, hZi⟩ := hrel
    by_cases hlt : i < qs.length
    · have hlt' : ((i : Int) < (qs.length : Int)) := by omega
      have hi0 : (0 : Int) ≤ (i : Int) := by omega
      obtain ⟨g, cap, hv, e0, e1⟩ := row_at hOi i hlt
      obtain ⟨rfl, rfl⟩ : A = some ⟨g, 0, none⟩ ∧ c = cap := by cases hv; exact ⟨rfl, rfl⟩
      clear hv
      have hsn := hold_snoc M office (qs.take i) qs[i]
      rw [← List.take_succ_eq_append_getElem hlt] at hsn
      obtain ⟨kl, hkey⟩ := hqk qs[i] (List.getElem_mem hlt)
      obtain ⟨s, hs⟩ : ∃ s, qs[i] = s := ⟨_, rfl⟩
      rw [hs] at e0 e1 hsn hkey
      clear hs
      have HS := Aside0.mk hsn
      have HLT := Aside0.mk hlt
      have HI := Aside0.mk hi
      have hb3 : Below wr.heap.size wr (wr.alloc (.cells #[.int .i64 s.1, .int .i64 s.2] 60)) := (Below.refl _ wr).alloc (Nat.le_refl _) _
      have hlook := (hMi.later hb3).look1 hkey
      obtain ⟨y, hy⟩ : ∃ y, (M s.1 s.2).getD z24 = y := ⟨_, rfl⟩
      rw [hy] at hlook
      obtain ⟨W3, hW3⟩ : ∃ W3, wr.alloc (.cells #[.int .i64 s.1, .int .i64 s.2] 60) = W3 := ⟨_, rfl⟩
      obtain ⟨W4, hW4⟩ : ∃ W4, W3.alloc (.cells #[.int .i64 y.f0, .int .i64 y.f1, .int .i64 y.f2, .int .i64 y.f3, .int .i64 y.f4, .int .i64 y.f5, .bool y.f6] 24) = W4 := ⟨_, rfl⟩
      have hb4 : Below W3.heap.size W3 W4 := by rw [← hW4]; exact (Below.refl _ W3).alloc (Nat.le_refl _) _
      rw [hW3] at hb3 hlook
      have qk3 : W3.heap[wr.heap.size]? = some (.cells #[.int .i64 s.1, .int .i64 s.2] 60 (0, 0)) := by rw [← hW3]; exact World.alloc_heap_new wr _
      have qk := blk_below qk3 hb4
      have qy : W4.heap[W3.heap.size]? = some (.cells #[.int .i64 y.f0, .int .i64 y.f1, .int .i64 y.f2, .int .i64 y.f3, .int .i64 y.f4, .int .i64 y.f5, .bool y.f6] 24 (0, 0)) := by rw [← hW4]; exact World.alloc_heap_new W3 _
      have hb34 := hb3.trans (hb4.mono hb3.size)
      have HJ4 := Aside0.mk (hJ _ wr W4 none hJi (grown_of_below hb34 none) (fun _ e => by cases e))
      have HO4 := Aside0.mk (row_later hOi hb34)
      have HM4 := Aside0.mk (hMi.later hb34)
      have HB14 := Aside0.mk (blk_below hB1 hb34)
      have HB24 := Aside0.mk (blk_below hB2 hb34)
      have HZ4 := Aside0.mk (Nat.le_trans hZi hb34.size)
      have m3 : W3.cell? ⟨B1, 0, none⟩ = some (.map (some b)) := (blk_cell (blk_below hB1 hb3) 0).trans rfl
      have o4 : W4.cell? ⟨B2, 0, none⟩ = some (.int .i64 office) := (blk_cell HB24.out 0).trans rfl
      obtain ⟨Bk, hBk⟩ : ∃ b, wr.heap.size = b := ⟨_, rfl⟩
      obtain ⟨By, hBy⟩ : ∃ b, W3.heap.size = b := ⟨_, rfl⟩
      rw [hBk] at qk qk3
      rw [hBy] at qy
      have z0 := (blk_cell qk3 0).trans rfl
      have z1 := (blk_cell qk3 1).trans rfl
      have q0 := (blk_cell qk 0).trans rfl
      have q1 := (blk_cell qk 1).trans rfl
      have y4 := (blk_cell qy 4).trans rfl
      have y5 := (blk_cell qy 5).trans rfl
      have y6 := (blk_cell qy 6).trans rfl
      clear qk qk3 qy hb3 hb4 hb34 hJi hOi hMi hB1 hB2 hZi hlt hsn hkey hi
      unfold hold1 at HS
      rw [hy] at HS
      clear hy
      by_cases hof : (s.1 == office) = true
      · cases hg : y.f6 with
        | true =>
          rw [hg] at y6 HS hW4
          rw [hof] at HS
          gi_wp2
          refine ⟨fun _ h => (by cases h), ?_⟩
          gi_wp2
          go_roundw
          case rel => exact ⟨i + 1, HLT.out, by simp, by rw [HS.out]; simpa using HJ4.out, HO4.out, HM4.out, HB14.out, HB24.out, HZ4.out⟩
          case measure => dsimp only [intOf]; have := HLT.out; omega
        | false =>
          rw [hg] at y6 HS hW4
          rw [hof] at HS
          subst hW4
          obtain ⟨fn, tmps, assign, body, hyy, hR⟩ := hY (holdL M office (qs.take i)) (y.f4, y.f5) _ HJ4.out (by have := hold_len M office (qs.take i); rw [List.length_take] at this; omega)
          try dsimp only at hyy
          gi_wp2
          refine hR.mono ?_
          rintro e W5 (⟨rfl, hJ5, hk5⟩ | ⟨rfl, hJx5⟩)
          · have HJ5 := Aside0.mk hJ5
            have HK5 := Aside0.mk hk5
            clear hJ5 hk5
            gi_wp2
            go_roundw
            case rel => exact ⟨i + 1, HLT.out, by simp, by rw [HS.out]; simpa using HJ5.out, row_kt HO4.out HK5.out, HM4.out.kt HK5.out, HK5.out.cells HB14.out (by decide), HK5.out.cells HB24.out (by decide), Nat.le_trans HZ4.out HK5.out.size⟩
            case measure => dsimp only [intOf]; have := HLT.out; omega
          · gi_wp2
            refine bodyPost_ret (results_none rfl _ _ _) rfl ?_
            exact ⟨⟨_, rfl⟩, .inr ⟨_, trivial, hJx5⟩⟩
      · have hof1 : (s.1 == office) = false := by simpa using hof
        clear hof
        rw [hof1] at HS
        gi_wp2
        refine ⟨fun _ h => (by cases h), ?_⟩
        gi_wp2
        go_roundw
        case rel => exact ⟨i + 1, HLT.out, by simp, by rw [HS.out]; simpa using HJ4.out, HO4.out, HM4.out, HB14.out, HB24.out, HZ4.out⟩
        case measure => dsimp only [intOf]; have := HLT.out; omega
    · gi_wp2
      go_end0
      have he : qs.take i = qs := List.take_of_length_le (by omega)
      rw [he] at hJi
      exact ⟨⟨_, rfl⟩, .inl ⟨_, ⟨ks, hks, by rw [hqs]⟩, hJi⟩⟩
end
end
section
section
theorem w64 (n : Nat) (h : n ≤ 1000000) : wrap64 ((n : Int) + 1) = ((n + 1 : Nat) : Int) := by unfold wrap64; omega
theorem rdAt (l : List S24) (i : Nat) (h : i < l.length) : rd_T24 l (i : Int) = l[i] := by unfold rd_T24; simp [List.getD_eq_getElem?_getD, h]
/-- Is an appointment right. -/
def vR (x : S24) : Bool := decide (0 ≤ x.f0 ∧ x.f0 ≤ 1048576 ∧ 0 ≤ x.f1 ∧ x.f1 ≤ 1099511627775 ∧ 0 ≤ x.f2 ∧ x.f2 ≤ 1099511627775 ∧ 0 ≤ x.f3 ∧ x.f3 ≤ 31 ∧ 0 ≤ x.f4 ∧ x.f4 ≤ 63) && (if x.f6 = true then decide (x.f5 = 0) else decide (1 ≤ x.f5 ∧ x.f5 ≤ 64))
theorem within_eq (a b c : Int) : offices_within.f a b c = some (decide (b ≤ a ∧ a ≤ c)) := by
  unfold offices_within.f
  by_cases h : b ≤ a
  · rw [if_pos h]; simp [h]
  · rw [if_neg h]; simp; omega
theorem isOffice_eq (a : Int) : offices_isOffice.f a = some (decide (0 ≤ a ∧ a ≤ 31)) := by unfold offices_isOffice.f; rw [within_eq]; rfl
theorem isPerson_eq (a : Int) : offices_isPerson.f a = some (decide (0 ≤ a ∧ a ≤ 63)) := by unfold offices_isPerson.f; rw [within_eq]; rfl
theorem isTime_eq (a : Int) : offices_isTime.f a = some (decide (0 ≤ a ∧ a ≤ 1099511627775)) := by unfold offices_isTime.f; rw [within_eq]; rfl
theorem right_j (k : Nat) (lo hi a b c d e f : Int) (g : Bool) : offices_right.j0 (k + 1) lo hi a b c d e f g = some (decide (0 ≤ a ∧ a ≤ 1048576 ∧ 0 ≤ b ∧ b ≤ 1099511627775 ∧ 0 ≤ c ∧ c ≤ 1099511627775 ∧ 0 ≤ d ∧ d ≤ 31 ∧ 0 ≤ e ∧ e ≤ 63) && decide (lo ≤ f ∧ f ≤ hi)) := by
  simp only [offices_right.j0, within_eq, isTime_eq, isOffice_eq, isPerson_eq, Option.bind_some, decide_eq_true_eq]
  by_cases h1 : 0 ≤ a ∧ a ≤ 1048576
  · rw [if_pos h1]
    by_cases h2 : 0 ≤ b ∧ b ≤ 1099511627775
    · rw [if_pos h2]
      by_cases h3 : 0 ≤ c ∧ c ≤ 1099511627775
      · rw [if_pos h3]
        by_cases h4 : 0 ≤ d ∧ d ≤ 31
        · rw [if_pos h4]
          by_cases h5 : 0 ≤ e ∧ e ≤ 63
          · rw [if_pos h5, decide_eq_true (by omega : 0 ≤ a ∧ a ≤ 1048576 ∧ 0 ≤ b ∧ b ≤ 1099511627775 ∧ 0 ≤ c ∧ c ≤ 1099511627775 ∧ 0 ≤ d ∧ d ≤ 31 ∧ 0 ≤ e ∧ e ≤ 63), Bool.true_and]
          · rw [if_neg h5, decide_eq_false (by omega), Bool.false_and]
        · rw [if_neg h4, decide_eq_false (by omega), Bool.false_and]
      · rw [if_neg h3, decide_eq_false (by omega), Bool.false_and]
    · rw [if_neg h2, decide_eq_false (by omega), Bool.false_and]
  · rw [if_neg h1, decide_eq_false (by omega), Bool.false_and]
theorem right_eq (k : Nat) (x : S24) : offices_right.f (k + 1) x.f0 x.f1 x.f2 x.f3 x.f4 x.f5 x.f6 = some (vR x) := by
  unfold offices_right.f vR
  rw [right_j, right_j]
  by_cases hg : x.f6 = true
  · rw [if_pos hg, if_pos hg]
    by_cases h : x.f5 = 0
    · rw [h]; simp
    · rw [decide_eq_false (by omega : ¬ (0 ≤ x.f5 ∧ x.f5 ≤ 0)), decide_eq_false h]
  · rw [if_neg hg, if_neg hg]
/-- Check, behind a last number. -/
def chkL : Int → List S24 → Int
  | _, [] => 0
  | last, x :: t => if vR x = true ∧ last < x.f0 then chkL x.f0 t else 150
def chk (l : List S24) : Int := if l.length > 4096 then 2 else chkL (-1) l
theorem check_l0 (l : List S24) (hl : l.length ≤ 4096) : ∀ (d k i : Nat) (last : Int), d + i = l.length → d + 1 < k → offices_Check.l0 k last l (l.length : Int) (i : Int) = some (chkL last (l.drop i)) := by
  intro d
  induction d with
  | zero =>
    intro k i last h hk
    obtain ⟨k, rfl⟩ : ∃ m, k = m + 1 := ⟨k - 1, by omega⟩
    simp only [offices_Check.l0]
    rw [if_neg (by omega), List.drop_eq_nil_of_le (by omega)]
    rfl
  | succ d ih =>
    intro k i last h hk
    obtain ⟨k, rfl⟩ : ∃ m, k = m + 2 := ⟨k - 2, by omega⟩
    have hi : i < l.length := by omega
    show (offices_Check.l0 (k + 1 + 1) last l (l.length : Int) (i : Int)) = _
    unfold offices_Check.l0
    rw [if_pos (by omega), if_pos (by omega), if_pos (by omega), right_eq, rdAt l i hi, List.drop_eq_getElem_cons hi]
    simp only [Option.bind_some, chkL]
    by_cases h1 : vR l[i] = true
    · rw [if_pos h1]
      by_cases h2 : last < l[i].f0
      · rw [if_neg (by omega), if_pos ⟨h1, h2⟩, w64 i (by omega)]
        exact ih (k + 1) (i + 1) _ (by omega) (by omega)
      · rw [if_pos (by omega), if_neg (fun h => h2 h.2)]
    · rw [if_neg h1, if_neg (fun h => h1 h.1)]
theorem check_eq (l : List S24) (k : Nat) (hk : 4098 < k) : offices_Check.f k l = some (chk l) := by
  unfold offices_Check.f chk
  by_cases h : l.length > 4096
  · rw [if_pos (by omega), if_pos h]
  · rw [if_neg (by omega), if_neg h]
    exact check_l0 l (by omega) l.length k 0 (-1) (by omega) (by omega)
theorem check_some (l : List S24) (k : Nat) (r : Int) (h : offices_Check.f k l = some r) : chk l = r := by
  have hm : ∀ m, offices_Check.f (k + m) l = some r := by
    intro m
    induction m with
    | zero => exact h
    | succ m ih => exact offices_Check.mono l (k + m) r ih
  have := hm 5000
  rw [check_eq l (k + 5000) (by omega)] at this
  exact Option.some.inj this
theorem chkL_ok : ∀ (l : List S24) (last : Int), chkL last l = 0 → (∀ x ∈ l, vR x = true ∧ last < x.f0) ∧ l.Pairwise (fun a b => a.f0 < b.f0)
  | [], _, _ => ⟨by simp, List.Pairwise.nil⟩
  | x :: t, last, h => by
    simp only [chkL] at h
    by_cases hc : vR x = true ∧ last < x.f0
    · rw [if_pos hc] at h
      obtain ⟨h1, h2⟩ := chkL_ok t x.f0 h
      refine ⟨?_, List.Pairwise.cons (fun y hy => (h1 y hy).2) h2⟩
      intro y hy
      rcases List.mem_cons.1 hy with rfl | hy
      · exact hc
      · exact ⟨(h1 y hy).1, by have := (h1 y hy).2; omega⟩
    · rw [if_neg hc] at h
      omega
theorem chkL_of : ∀ (l : List S24) (last : Int), (∀ x ∈ l, vR x = true ∧ last < x.f0) → l.Pairwise (fun a b => a.f0 < b.f0) → chkL last l = 0
  | [], _, _, _ => rfl
  | x :: t, last, h1, h2 => by
    simp only [chkL]
    rw [if_pos (h1 x (by simp))]
    obtain ⟨h3, h4⟩ := List.pairwise_cons.1 h2
    exact chkL_of t x.f0 (fun y hy => ⟨(h1 y (by simp [hy])).1, h3 y hy⟩) h4
theorem chk_ok {l : List S24} (h : chk l = 0) : l.length ≤ 4096 ∧ (∀ x ∈ l, vR x = true) ∧ l.Pairwise (fun a b => a.f0 < b.f0) := by
  unfold chk at h
  by_cases hl : l.length > 4096
  · rw [if_pos hl] at h; omega
  · rw [if_neg hl] at h
    obtain ⟨h1, h2⟩ := chkL_ok l (-1) h
    exact ⟨by omega, fun x hx => (h1 x hx).1, h2⟩
theorem vR_of {x : S24} (h : vR x = true) : 0 ≤ x.f0 ∧ x.f0 ≤ 1048576 ∧ 0 ≤ x.f1 ∧ x.f1 ≤ 1099511627775 ∧ 0 ≤ x.f2 ∧ x.f2 ≤ 1099511627775 ∧ 0 ≤ x.f3 ∧ x.f3 ≤ 31 ∧ 0 ≤ x.f4 ∧ x.f4 ≤ 63 := by
  unfold vR at h
  simp only [Bool.and_eq_true, decide_eq_true_eq] at h
  exact h.1
theorem chk_of {l : List S24} (h1 : l.length ≤ 4096) (h2 : ∀ x ∈ l, vR x = true) (h3 : l.Pairwise (fun a b => a.f0 < b.f0)) : chk l = 0 := by
  unfold chk
  rw [if_neg (by omega)]
  exact chkL_of l (-1) (fun x hx => ⟨h2 x hx, by have := vR_of (h2 x hx); omega⟩) h3
theorem chk_vals (l : List S24) : chk l = 0 ∨ chk l = 2 ∨ chk l = 150 := by
  have h : ∀ (l : List S24) (last : Int), chkL last l = 0 ∨ chkL last l = 150 := by
    intro l
    induction l with
    | nil => intro last; exact .inl rfl
    | cons x t ih =>
      intro last
      simp only [chkL]
      split
      · exact ih _
      · exact .inr rfl
  unfold chk
  split
  · exact .inr (.inl rfl)
  · rcases h l (-1) with h | h
    · exact .inl h
    · exact .inr (.inr h)
theorem wf_small {a : Int} (h0 : 0 ≤ a) (h1 : a ≤ 1000000) : (Lit.int .i64 a).wf = true := WalkArith.wf_i64 (by omega)
/-- What stands is one of the list, at its own place. -/
theorem stand_mem (at_ known : Int) : ∀ (l : List S24) (M : Int → Int → Option S24) (o p : Int) (x : S24), l.foldl (stepM at_ known) M o p = some x → M o p = some x ∨ (x ∈ l ∧ x.f3 = o ∧ x.f4 = p ∧ cnt at_ known x = true)
  | [], M, o, p, x, h => .inl h
  | y :: t, M, o, p, x, h => by
    rw [List.foldl_cons] at h
    rcases stand_mem at_ known t (stepM at_ known M y) o p x h with h | h
    · unfold stepM at h
      have hput : ∀ h : putM M y.f3 y.f4 y o p = some x, cnt at_ known y = true → M o p = some x ∨ (x ∈ y :: t ∧ x.f3 = o ∧ x.f4 = p ∧ cnt at_ known x = true) := fun h hc => by
        unfold putM at h
        split at h
        · rename_i hk
          cases h
          exact .inr ⟨by simp, hk.1.symm, hk.2.symm, hc⟩
        · exact .inl h
      by_cases hc : cnt at_ known y = true
      · rw [if_pos hc] at h
        cases hm : M y.f3 y.f4 with
        | none => rw [hm] at h; exact hput h hc
        | some z =>
          rw [hm] at h
          dsimp only at h
          by_cases hz : z.f1 > y.f1
          · rw [if_pos hz] at h; exact .inl h
          · rw [if_neg hz] at h; exact hput h hc
      · rw [if_neg hc] at h; exact .inl h
    · exact .inr ⟨by simp [h.1], h.2⟩
theorem standP_mem {at_ known : Int} {l : List S24} {o p : Int} {x : S24} (h : standP at_ known l o p = some x) : x ∈ l ∧ x.f3 = o ∧ x.f4 = p ∧ cnt at_ known x = true := by
  rcases stand_mem at_ known l _ o p x h with h | h
  · cases h
  · exact h
/-- Two rising lists with the same members are one. -/
theorem rising_eq : ∀ (l1 l2 : List (Int × Int)), l1.Pairwise (fun a b => a.1 < b.1) → l2.Pairwise (fun a b => a.1 < b.1) → (∀ x, x ∈ l1 ↔ x ∈ l2) → l1 = l2
  | [], [], _, _, _ => rfl
  | [], y :: t, _, _, h => by have := (h y).2 (by simp); simp at this
  | x :: t, [], _, _, h => by have := (h x).1 (by simp); simp at this
  | x :: t1, y :: t2, h1, h2, h => by
    obtain ⟨a1, a2⟩ := List.pairwise_cons.1 h1
    obtain ⟨b1, b2⟩ := List.pairwise_cons.1 h2
    have hxy : x = y := by
      rcases List.mem_cons.1 ((h x).1 (by simp)) with e | e
      · exact e
      · rcases List.mem_cons.1 ((h y).2 (by simp)) with e' | e'
        · exact e'.symm
        · have := b1 x e; have := a1 y e'; omega
    subst hxy
    congr 1
    refine rising_eq t1 t2 a2 b2 (fun z => ⟨fun hz => ?_, fun hz => ?_⟩)
    · rcases List.mem_cons.1 ((h z).1 (by simp [hz])) with e | e
      · have := a1 z hz; rw [e] at this; omega
      · exact e
    · rcases List.mem_cons.1 ((h z).2 (by simp [hz])) with e | e
      · have := b1 z hz; rw [e] at this; omega
      · exact e
/-- Whom an office is held by. -/
def holdOf (M : Int → Int → Option S24) (office p : Int) : Option (Int × Int) := (M office p).bind fun x => if x.f6 = true then none else some (p, x.f5)
def holdersP (M : Int → Int → Option S24) (office : Int) : List (Int × Int) := (List.range 64).filterMap (fun p : Nat => holdOf M office (p : Int))
theorem holdersP_rising (M : Int → Int → Option S24) (office : Int) : (holdersP M office).Pairwise (fun a b => a.1 < b.1) := by
  unfold holdersP
  rw [List.pairwise_filterMap]
  refine List.Pairwise.imp ?_ (List.pairwise_lt_range (n := 64))
  intro a b hab x hx y hy
  have e : ∀ (p : Nat) (z : Int × Int), holdOf M office p = some z → z.1 = p := fun p z h => by
    unfold holdOf at h
    obtain ⟨u, _, h⟩ := Option.bind_eq_some_iff.1 h
    split at h
    · cases h
    · cases h; rfl
  rw [e a x hx, e b y hy]
  omega
theorem hold_eq (l : List S24) (at_ known office : Int) (hr : ∀ x ∈ l, vR x = true) (ho : 0 ≤ office ∧ office ≤ 31) (hs : List (Int × Int)) (h : HoldList (standP at_ known l) office hs) : hs = holdersP (standP at_ known l) office := by
  obtain ⟨ks, hk, rfl⟩ := h
  have hM : ∀ o p x, standP at_ known l o p = some x → x.f3 = o ∧ x.f4 = p ∧ vR x = true := fun o p x hx => by
    obtain ⟨h1, h2, h3, _⟩ := standP_mem hx
    exact ⟨h2, h3, hr x h1⟩
  have hh : ∀ s : Int × Int, s ∈ ks → ∀ z, hold1 (standP at_ known l) office s = some z → s.1 = office ∧ ∃ x, standP at_ known l office s.2 = some x ∧ x.f6 = false ∧ z = (s.2, x.f5) := fun s hs z hz => by
    unfold hold1 at hz
    split at hz
    · rename_i hc
      simp only [Bool.and_eq_true, beq_iff_eq, Bool.not_eq_true'] at hc
      have hsome := (hk.2.1 s hs).2
      cases hMo : standP at_ known l s.1 s.2 with
      | none => rw [hMo] at hsome; cases hsome
      | some x =>
        rw [hMo] at hz hc
        obtain ⟨e1, e2, _⟩ := hM _ _ _ hMo
        simp only [Option.getD_some] at hz hc
        rw [hc.1] at hMo
        cases hz
        exact ⟨hc.1, x, hMo, hc.2, by rw [e2]⟩
    · cases hz
  have hnd : (Go.Proofs.Ytomlcakliljmbaa.Q.sortP ks).Nodup := (sortP_perm ks).nodup_iff.2 hk.1
  refine rising_eq _ _ ?_ (holdersP_rising _ _) (fun z => ?_)
  · unfold holdL
    rw [List.pairwise_filterMap, List.pairwise_iff_getElem]
    intro i j hi hj hij a ha b hb
    obtain ⟨o1, x, _, _, rfl⟩ := hh _ ((sortP_mem ks _).1 (List.getElem_mem hi)) a ha
    obtain ⟨o2, y, _, _, rfl⟩ := hh _ ((sortP_mem ks _).1 (List.getElem_mem hj)) b hb
    have hle := sortP_le ks i j _ _ hij (List.getElem?_eq_getElem hi) (List.getElem?_eq_getElem hj)
    have hge : ¬ ((sortP ks)[j].2 < (sortP ks)[i].2) := fun h => by rw [(seatLt_iff _ _).2 h] at hle; cases hle
    have hne : (sortP ks)[i].2 ≠ (sortP ks)[j].2 := fun e => by
      have : (sortP ks)[i] = (sortP ks)[j] := Prod.ext (o1.trans o2.symm) e
      have := (List.getElem_inj hnd).1 this
      omega
    show (sortP ks)[i].2 < (sortP ks)[j].2
    omega
  · unfold holdL holdersP
    rw [List.mem_filterMap, List.mem_filterMap]
    constructor
    · rintro ⟨s, hs, hz⟩
      obtain ⟨o1, x, hx, hg, rfl⟩ := hh s ((sortP_mem ks s).1 hs) z hz
      obtain ⟨e1, e2, hv⟩ := hM _ _ _ hx
      have := vR_of hv
      refine ⟨s.2.toNat, List.mem_range.2 (by omega), ?_⟩
      have hp : ((s.2.toNat : Nat) : Int) = s.2 := by omega
      unfold holdOf
      rw [hp, hx]
      simp [hg]
    · rintro ⟨p, hp, hz⟩
      unfold holdOf at hz
      obtain ⟨x, hx, hz⟩ := Option.bind_eq_some_iff.1 hz
      split at hz
      · cases hz
      · rename_i hg
        cases hz
        have hp' := List.mem_range.1 hp
        obtain ⟨e1, e2, hv⟩ := hM _ _ _ hx
        refine ⟨(office, (p : Int)), (sortP_mem ks _).2 (hk.2.2 office p _ (key_mk (wf_small ho.1 (by omega)) (wf_small (by omega) (by omega))) (by rw [hx]; rfl)), ?_⟩
        unfold hold1
        simp only [hx, Option.getD_some]
        have hg' : x.f6 = false := by simpa using hg
        simp [hg', e2]
end
end
section
open Go.Shelf Go.Maps
section
/-- A pair as a holder. -/
def h34 (x : Int × Int) : S34 := ⟨x.1, x.2⟩
theorem k34_mk2 (x : Int × Int) (W : World) (base : Nat) (ok : Nat → Prop) : Kd.M k34 W base ok (h34 x) (cell2 x) := k34_mkM W base ok (h34 x)
end
section
theorem reps34 {R : S34 → List Value → Prop} (hR : ∀ x : Int × Int, R (h34 x) (cell2 x)) : ∀ xs : List (Int × Int), Reps R 2 (xs.map h34) (cells2 xs)
  | [] => Reps.none _ _
  | x :: t => Reps.c2 (hR x) (reps34 hR t)
theorem R_of_own34 {W : World} {base : Nat} {v : Value} {xs : List (Int × Int)} (h : W.ownsRow base 34 2 v xs.length (cells2 xs)) : Kd.R k34 34 W base (fun _ => True) v (xs.map h34) :=
  ⟨fun _ _ => trivial, cells2 xs, by rw [List.length_map]; exact h, reps34 (fun x => k34_mkM W base _ (h34 x)) xs⟩
attribute [local go_sem] Oper.semAt_some
theorem holders_calls (b : Nat) (office : Int) (w : World) :
    Calls Try.prog 30 #[.map (some b), .int .i64 office] w fun e w' => ∃ B1 B2, e = .returned (.func (.func 43) #[] #[.pointer (some ⟨B1, 0, none⟩), .pointer (some ⟨B2, 0, none⟩)]) ∧ w'.heap[B1]? = some (.cells #[.map (some b)] 56 (0, 0)) ∧ w'.heap[B2]? = some (.cells #[.int .i64 office] 3 (0, 0)) ∧ Below w.heap.size w w' := by
  obtain ⟨w1, hw1⟩ : ∃ w1, w.alloc (.cells #[.map (some b)] 56) = w1 := ⟨_, rfl⟩
  obtain ⟨w2, hw2⟩ : ∃ w2, w1.alloc (.cells #[.int .i64 office] 3) = w2 := ⟨_, rfl⟩
  have hs1 : w1.heap.size = w.heap.size + 1 := by rw [← hw1]; simp
  have hB1 : Below w.heap.size w w1 := by rw [← hw1]; exact (Below.refl _ w).alloc (Nat.le_refl _) _
  have hB2 : Below w.heap.size w w2 := by rw [← hw2]; exact hB1.alloc (by omega) _
  have q1 : w2.heap[w.heap.size]? = some (.cells #[.map (some b)] 56 (0, 0)) := by rw [← hw2, ← hw1]; exact blk_alloc (World.alloc_heap_new w _) _
  have q2 : w2.heap[w.heap.size + 1]? = some (.cells #[.int .i64 office] 3 (0, 0)) := by rw [← hs1, ← hw2]; exact World.alloc_heap_new w1 _
  have HB := Aside0.mk hB2
  have HQ1 := Aside0.mk q1
  have HQ2 := Aside0.mk q2
  clear hB1 hB2 q1 q2
  go_enter Try.func30, Try.ntmps30
  go_wp2
  go_ret
  exact ⟨_, _, rfl, HQ1.out, HQ2.out, HB.out⟩
def offices_Holders.f (k : Nat) (l0 : List (S24)) (a1 : Int) (a2 : Int) (a3 : Int) : Option ((List (S34)) × Int) := (offices_Check.f k l0).bind fun t1 => (if t1 = 0 then ((offices_isOffice.f a1).bind fun t2 => (if t2 = true then ((offices_isTime.f a2).bind fun t3 => (if t3 = true then ((offices_isTime.f a3).bind fun t4 => (if t4 = true then (some ((holdersP (standP a2 a3 l0) a1).map h34, 0)) else (some (([] : List (S34)), 1)))) else (some (([] : List (S34)), 1)))) else (some (([] : List (S34)), 1)))) else (some (([] : List (S34)), t1)))
theorem offices_Holders.mono : ∀ a0 a1 a2 a3 k, LeO (offices_Holders.f k a0 a1 a2 a3) (offices_Holders.f (k + 1) a0 a1 a2 a3) := by
  intro a0 a1 a2 a3 k
  unfold offices_Holders.f
  exact LeO.bind (offices_Check.mono _ _) (fun _ => LeO.refl _)
theorem holds_wf {k : Nat} {l0 : List S24} (h : offices_Check.f k l0 = some 0) : l0.length ≤ 4096 ∧ (∀ x ∈ l0, vR x = true) ∧ ∀ x ∈ l0, (Lit.int .i64 x.f3).wf = true ∧ (Lit.int .i64 x.f4).wf = true := by
  obtain ⟨h1, h2, _⟩ := chk_ok (check_some l0 k 0 h)
  exact ⟨h1, h2, fun x hx => by have := vR_of (h2 x hx); exact ⟨wf_small (by omega) (by omega), wf_small (by omega) (by omega)⟩⟩
set_option maxHeartbeats 200000000 in
set_option maxRecDepth 100000 in
theorem offices_Holders.calls (k : Nat) (A0 : Option Addr) (c0 : Nat) (l0 : List (S24)) (a1 : Int) (a2 : Int) (a3 : Int) (r1 : List (S34)) (r2 : Int) (w : World) (hr0 : Kd.C k24 w A0 l0.length l0) (hc0 : l0.length ≤ c0) (h : offices_Holders.f k l0 a1 a2 a3 = some (r1, r2)) :
    Calls Try.prog 12 #[.slice A0 l0.length c0, .int .i64 a1, .int .i64 a2, .int .i64 a3] w fun e w' => ∃ v0_ : Value, e = .returned (.tuple #[v0_, .int .i64 r2]) ∧ Kd.R k34 34 w' w.heap.size (fun _ => True) v0_ r1 ∧ Below w.heap.size w w' := by
  unfold offices_Holders.f at h
  obtain ⟨t1, ht1, h⟩ := Option.bind_eq_some_iff.mp h
  have HR := Aside0.mk hr0
  clear hr0
  have fin : ∀ {r : List S34} {c : Int}, some (([] : List S34), c) = some (r1, r2) → r1 = [] ∧ r2 = c := fun e => by cases e; exact ⟨rfl, rfl⟩
  by_cases hz : t1 = 0
  · subst hz
    rw [if_pos rfl] at h
    obtain ⟨hlen, hvr, hwf⟩ := holds_wf ht1
    have HWF := Aside0.mk hwf
    have HVR := Aside0.mk hvr
    have HS := Aside0.mk hlen
    clear hlen hvr hwf
    obtain ⟨t2, ht2, h⟩ := Option.bind_eq_some_iff.mp h
    have HO := Aside0.mk (show decide (0 ≤ a1 ∧ a1 ≤ 31) = t2 from Option.some.inj ((isOffice_eq a1).symm.trans ht2))
    go_enter Try.func12, Try.ntmps12
    go_wp2_with fail
    refine (offices_Check.calls k A0 c0 l0 0 w HR.out hc0 ht1).mono ?_
    rintro e w2 ⟨rfl, hb⟩
    have B2 := Aside0.mk hb
    have R2 := Aside0.mk (later24 HR.out B2.out)
    clear hb
    go_wp2_with fail
    refine (offices_isOffice.calls a1 t2 w2 ht2).mono ?_
    rintro e w3 ⟨rfl, hd⟩
    have hb := hd.below
    have R3 := Aside0.mk (later24 R2.out hb)
    have B3 := Aside0.mk (B2.out.trans (hb.mono B2.out.size))
    clear hd hb
    cases t2 with
    | false =>
      rw [if_neg (by decide)] at h
      obtain ⟨rfl, rfl⟩ := fin (r := []) h
      clear fin h
      go_wp2
      go_ret2
      exact ⟨_, rfl, Kd.R_nil _ _ _ _ _, B3.out⟩
    | true =>
      rw [if_pos rfl] at h
      obtain ⟨t3, ht3, h⟩ := Option.bind_eq_some_iff.mp h
      go_wp2_with fail
      refine (offices_isTime.calls a2 t3 w3 ht3).mono ?_
      rintro e w4 ⟨rfl, hd⟩
      have hb := hd.below
      have R4 := Aside0.mk (later24 R3.out hb)
      have B4 := Aside0.mk (B3.out.trans (hb.mono B3.out.size))
      clear hd hb
      cases t3 with
      | false =>
        rw [if_neg (by decide)] at h
        obtain ⟨rfl, rfl⟩ := fin (r := []) h
        clear fin h
        go_wp2
        go_ret2
        exact ⟨_, rfl, Kd.R_nil _ _ _ _ _, B4.out⟩
      | true =>
        rw [if_pos rfl] at h
        obtain ⟨t4, ht4, h⟩ := Option.bind_eq_some_iff.mp h
        go_wp2_with fail
        refine (offices_isTime.calls a3 t4 w4 ht4).mono ?_
        rintro e w5 ⟨rfl, hd⟩
        have hb := hd.below
        have R5 := Aside0.mk (later24 R4.out hb)
        have B5 := Aside0.mk (B4.out.trans (hb.mono B4.out.size))
        clear hd hb
        cases t4 with
        | false =>
          rw [if_neg (by decide)] at h
          obtain ⟨rfl, rfl⟩ := fin (r := []) h
          clear fin h
          go_wp2
          go_ret2
          exact ⟨_, rfl, Kd.R_nil _ _ _ _ _, B5.out⟩
        | true =>
          rw [if_pos rfl] at h
          clear fin
          go_wp2_with fail
          refine (standing_calls A0 c0 l0 a2 a3 w5 R5.out HS.out HWF.out).mono ?_
          rintro e w6 ⟨B, rfl, hB, hM, hb⟩
          have HM6 := Aside0.mk hM
          have B6 := Aside0.mk (B5.out.trans (hb.mono B5.out.size))
          clear hb hM
          go_wp2_with fail
          refine (holders_calls B a1 w6).mono ?_
          rintro e w7 ⟨B1, B2', rfl, q1, q2, hb⟩
          have HM7 := Aside0.mk (HM6.out.later hb)
          have B7 := Aside0.mk (B6.out.trans (hb.mono B6.out.size))
          have Q1 := Aside0.mk q1
          have Q2 := Aside0.mk q2
          clear hb q1 q2
          go_wp2_with fail
          refine (collectH_calls 43 #[.pointer (some ⟨B1, 0, none⟩), .pointer (some ⟨B2', 0, none⟩)] (HoldList (standP a2 a3 l0) a1) w7 (enters_of Try.func43 (by kernel_rfl) rfl) (fun w8 hb8 => fun l J Jx W hW hJ _ hY h0 => ?hseq)).mono ?_
          case hseq =>
            have hbW := hb8.trans (hW.mono hb8.size)
            exact holders1_in l B1 B2' B 4096 (by omega) (standP a2 a3 l0) a1 J Jx W hJ hY (blk_below Q1.out hbW) (blk_below Q2.out hbW) (HM7.out.later hbW) h0
          rintro e w8 ⟨v, hs, hS, rfl, ho, hb⟩
          have hho : 0 ≤ a1 ∧ a1 ≤ 31 := by simpa using HO.out
          have hs' := hold_eq l0 a2 a3 a1 HVR.out hho hs hS
          subst hs'
          have ho2 : w8.ownsRow w.heap.size 34 2 v (holdersP (standP a2 a3 l0) a1).length (cells2 (holdersP (standP a2 a3 l0) a1)) := ⟨ho.1, ho.2.imp id (fun ⟨g, cap, cur, e, hg, h⟩ => ⟨g, cap, cur, e, Nat.le_trans B7.out.size hg, h⟩)⟩
          have B8 := Aside0.mk (B7.out.trans (hb.mono B7.out.size))
          have HR8 := Aside0.mk (R_of_own34 ho2)
          have e1 : r1 = (holdersP (standP a2 a3 l0) a1).map h34 ∧ r2 = 0 := by cases h; exact ⟨rfl, rfl⟩
          obtain ⟨rfl, rfl⟩ := e1
          clear h hb ho ho2 hS
          go_wp2
          go_ret2
          exact ⟨_, rfl, HR8.out, B8.out⟩
  · rw [if_neg hz] at h
    have h' := Option.some.inj h
    simp only [Prod.mk.injEq] at h'
    obtain ⟨e1, e2⟩ := h'
    subst e1 e2
    clear h fin
    have hne : (t1 != 0) = true := by simpa using hz
    go_enter Try.func12, Try.ntmps12
    go_wp2_with fail
    refine (offices_Check.calls k A0 c0 l0 t1 w HR.out hc0 ht1).mono ?_
    rintro e w2 ⟨rfl, hb⟩
    have B2 := Aside0.mk hb
    clear hb
    go_wp2
    go_ret2
    exact ⟨_, rfl, Kd.R_nil _ _ _ _ _, B2.out⟩
end
end

end Go.Proofs.Ytomlcakliljmbaa.Q
