-- Written by wip/tools/extprint.py of this repo (a program of this claim's own, over the kit's printer) out of the translation; Lean checks it.
import Derived.Test.YtomlcakliljmbaaQ0
import Derived.Test.YtomlcakliljmbaaQ3
namespace Go.Proofs.Ytomlcakliljmbaa.Q
open Go.RowKit Go.Proofs.YtomlcakliljmbaaW.PrintWords Go.Proofs.YtomlcakliljmbaaW.PrintLast Go.Proofs.YtomlcakliljmbaaW.PrintMore
attribute [local go_sem] max2_int min2_int max_two min_two max_three min_three max_four min_four   -- for this text's walks alone
set_option linter.unusedVariables false
set_option linter.unusedSimpArgs false

section
open Go.Shelf
section
theorem heap24 : Kd.Heap k24 := Kd.heap_iso _ (Kd.heap_pair (Kd.heap_int _) (Kd.heap_pair (Kd.heap_int _) (Kd.heap_pair (Kd.heap_int _) (Kd.heap_pair (Kd.heap_int _) (Kd.heap_pair (Kd.heap_int _) (Kd.heap_pair (Kd.heap_int _) Kd.heap_bool))))))
theorem later24 {w w1 : World} {A : Option Addr} {n : Nat} {xs : List S24} (h : Kd.C k24 w A n xs) (hb : Below w.heap.size w w1) : Kd.C k24 w1 A n xs := heap24.C (fun i hi => hb.block i hi) h
theorem check_short {k : Nat} {l : List S24} (h : offices_Check.f k l = some 0) : l.length ≤ 4096 := by
  unfold offices_Check.f at h
  split at h
  · cases h
  · omega
theorem rd24_at (q : List S24) (i : Nat) (h : i < q.length) : rd_T24 q (i : Int) = q[i] := by unfold rd_T24; simp [List.getD_eq_getElem?_getD, h]
theorem take_rd (xs : List S24) (i : Nat) (h : i < xs.length) : xs.take (i + 1) = xs.take i ++ [rd_T24 xs (i : Int)] := by
  rw [rd24_at xs i h, List.take_succ_eq_append_getElem h]
theorem i64_succ (n : Nat) (h : n < 4611686018427387904) : IntKind.i64.wrap ((n : Int) + 1) = ((n + 1 : Nat) : Int) := by rw [i64_w]; unfold wrap64; omega
abbrev ag24 (x : S24) : Value := .agg #[.int .i64 x.f0, .int .i64 x.f1, .int .i64 x.f2, .int .i64 x.f3, .int .i64 x.f4, .int .i64 x.f5, .bool x.f6]
end
end
section
open Go.Shelf Go.Lib
section
/-- The cells of one. -/
def cell6 (x : S24) : List Value := [.int .i64 x.f0, .int .i64 x.f1, .int .i64 x.f2, .int .i64 x.f3, .int .i64 x.f4, .int .i64 x.f5, .bool x.f6]
theorem c6_len (x : S24) : (cell6 x).length = 7 := rfl
theorem c6_one (x : S24) : ∀ u ∈ cell6 x, u.oneCell' = true := by
  intro u hu
  simp only [cell6, List.mem_cons, List.not_mem_nil, or_false] at hu
  rcases hu with rfl | rfl | rfl | rfl | rfl | rfl | rfl <;> rfl
/-- The cells of a row. -/
def cells24 (xs : List S24) : List Value := xs.flatMap cell6
theorem cells24_cons (x : S24) (t : List S24) : cells24 (x :: t) = cell6 x ++ cells24 t := rfl
theorem cells24_append (a b : List S24) : cells24 (a ++ b) = cells24 a ++ cells24 b := by unfold cells24; simp
theorem cells24_len (xs : List S24) : (cells24 xs).length = xs.length * 7 := by
  induction xs with
  | nil => rfl
  | cons x t ih => rw [cells24_cons, List.length_append, c6_len, ih, List.length_cons]; omega
theorem cells24_one (xs : List S24) : ∀ u ∈ cells24 xs, u.oneCell' = true := by
  intro u hu
  obtain ⟨x, _, h⟩ := List.mem_flatMap.1 hu
  exact c6_one x u h
theorem cells24_take (xs : List S24) : ∀ i, (cells24 xs).take (i * 7) = cells24 (xs.take i) := by
  induction xs with
  | nil => intro i; simp [cells24]
  | cons x t ih =>
    intro i
    cases i with
    | zero => simp [cells24]
    | succ i =>
      rw [cells24_cons, List.take_succ_cons, cells24_cons, List.take_append, c6_len]
      rw [show (i + 1) * 7 - 7 = i * 7 from by omega, ih, List.take_of_length_le (by rw [c6_len]; omega)]
theorem cells24_drop (xs : List S24) : ∀ i, (cells24 xs).drop (i * 7) = cells24 (xs.drop i) := by
  induction xs with
  | nil => intro i; simp [cells24]
  | cons x t ih =>
    intro i
    cases i with
    | zero => simp
    | succ i =>
      rw [cells24_cons, List.drop_succ_cons, List.drop_append, c6_len]
      rw [show (i + 1) * 7 - 7 = i * 7 from by omega, ih, List.drop_of_length_le (by rw [c6_len]; omega)]
      rfl
theorem cells24_get (xs : List S24) : ∀ j u, (cells24 xs)[j]? = some u → ∃ x, xs[j / 7]? = some x ∧ (cell6 x)[j % 7]? = some u := by
  induction xs with
  | nil => intro j u h; simp [cells24] at h
  | cons x t ih =>
    intro j u h
    rw [cells24_cons] at h
    rcases Nat.lt_or_ge j 7 with hj | hj
    · rw [List.getElem?_append_left (by rw [c6_len]; exact hj)] at h
      exact ⟨x, by rw [Nat.div_eq_of_lt hj]; rfl, by rw [Nat.mod_eq_of_lt hj]; exact h⟩
    · rw [List.getElem?_append_right (by rw [c6_len]; exact hj), c6_len] at h
      obtain ⟨y, h1, h2⟩ := ih _ _ h
      refine ⟨y, ?_, by rw [Nat.mod_eq_sub_mod hj]; exact h2⟩
      rw [Nat.div_eq_sub_div (by omega) hj, List.getElem?_cons_succ]
      exact h1
/-- What a row that is read holds, cell by cell. -/
theorem src24 {w : World} {ad : Addr} {n : Nat} {l : List S24} (h : Kd.C k24 w (some ad) n l) : ∀ j u, (cells24 l)[j]? = some u → w.cell? (ad.add j) = some u := by
  intro j u hj
  obtain ⟨x, h1, h2⟩ := cells24_get l j u hj
  have hlt : j / 7 < l.length := (List.getElem?_eq_some_iff.1 h1).1
  obtain ⟨ad', e, hr⟩ := h.2.2 (by have := h.1; omega)
  obtain rfl := Option.some.inj e
  obtain ⟨c, hc, hK, hcell⟩ := hr _ x h1
  obtain rfl := k24_open hK
  have := hcell (j % 7) u h2
  rw [show k24.sz = 7 from rfl] at this
  rw [show j / 7 * 7 + j % 7 = j from Nat.div_add_mod' j 7] at this
  exact this
theorem reps24 {R : S24 → List Value → Prop} (hR : ∀ x : S24, R x (cell6 x)) : ∀ xs : List S24, Reps R 7 xs (cells24 xs)
  | [] => Reps.none _ _
  | x :: t => Reps.c7 (hR x) (reps24 hR t)
theorem R_of_own {W : World} {base : Nat} {v : Value} {xs : List S24} (h : W.ownsRow base 24 7 v xs.length (cells24 xs)) : Kd.R k24 24 W base (fun _ => True) v xs :=
  ⟨fun _ _ => trivial, cells24 xs, h, reps24 (fun x => k24_mkM W base _ x) xs⟩
theorem run_copy_rowK {P : Program} (w : World) (dT sT ty elem : TypeId) (g o dLen dCap : Nat) (a : Addr) (sLen sCap : Nat) (cur : Array Value) (t : TypeId) (cs : List Value) (K : Nat)
    (hu : P.underlying dT = some (.slice elem)) (hs : (P.info? elem).map (·.size) = some K)
    (hg : w.heap[g]? = some (.cells cur t (0, 0))) (hn : cs.length = Nat.min sLen dLen * K)
    (hsrc : ∀ j v, cs[j]? = some v → w.cell? (a.add j) = some v) (hfit : o + cs.length ≤ cur.size) (h1 : ∀ v ∈ cs, v.oneCell' = true) :
    (Builtin.copy_ #[dT, sT] ty #[.slice (some ⟨g, o, none⟩) dLen dCap, .slice (some a) sLen sCap]).run P w =
      .ok (goInt (Nat.min sLen dLen)) (w.setRow g (cur.toList.take o ++ cs ++ cur.toList.drop (o + cs.length)).toArray) := by
  have hl := run_loadCells_list (P := P) w a cs hsrc
  have hst := run_storeCells_at P g o t cs 0 cur w hg (by simpa using hfit) h1
  cases hq : P.info? elem with
  | none => simp [hq] at hs
  | some i =>
    have hi : i.size = K := by simpa [hq] using hs
    simp [Builtin.copy_, run_underlying hu, Builtin.lenOf, Builtin.firstCells, sizeOf, typeInfo, hq, hi, ← hn, hl, hst]
theorem wpList_copy_run {P : Program} (w : World) {ops : Array Oper} {rest : List Oper} {o : Oper} {a : Act} {Q : Exit → Act → World → Prop} (hgd : o.guard = none) (d s : Operand) (t t' : TypeId)
    (ho : o.op = .call { callee := .builtin .copy, args := #[d, s], argTypes := #[t, t'] }) (v u : Value) (hd : a.eval d = v) (hs : a.eval s = u) {v' : Value} {w' : World}
    (hr : (Builtin.copy_ #[t, t'] o.type #[v, u]).run P w = .ok v' w') (h : wpList P ops Q rest (a.put o.dst v') w') : wpList P ops Q (o :: rest) a w :=
  wpList_plain hgd fun _ hK => by
    unfold Oper.wp execOp
    simp only [ho, resolve, invoke, builtin, Sem.run_bind, Sem.run_pure, Result.andThen_ok, List.map_toArray, List.map_cons, List.map_nil, hd, hs, hr]
    exact hK _ _ h
theorem step_copy_run {P : Program} {ops : Array Oper} {o : Oper} {a : Act} {w : World} {K : Act → World → Prop} {Q : Exit → Act → World → Prop} {E : Prop}
    (hg : o.guard = none) (d x : Operand) (dT sT : TypeId) (hop : o.op = Op.call { callee := Callee.builtin Builtin.copy, args := #[d, x], argTypes := #[dT, sT] })
    (v u : Value) (hd : a.eval d = v) (hx : a.eval x = u) {v' : Value} {w' : World} (hr : (Builtin.copy_ #[dT, sT] o.type #[v, u]).run P w = .ok v' w') (hK : K (a.put o.dst v') w') :
    if Region.wanted o (yielded ops a.tmps) = true then Oper.wp P o a w K Q else E := by
  have hw : Region.wanted o (yielded ops a.tmps) = true := by simp [Region.wanted, hg]
  rw [if_pos hw]
  unfold Oper.wp
  simp [execOp, hop, resolve, invoke, builtin, hd, hx, hr, Result.andThen]
  exact hK
theorem info24c : (Try.prog.info? 24).map (fun i => (i.zero, i.size, i.bytes)) = some (some (.agg #[(.int .i64 0), (.int .i64 0), (.int .i64 0), (.int .i64 0), (.int .i64 0), (.int .i64 0), (.bool false)]), 7, 56) := by kernel_rfl
set_option maxHeartbeats 4000000 in
set_option maxRecDepth 100000 in
theorem clone_calls (A : Option Addr) (c : Nat) (l : List S24) (w : World) (hr : Kd.C k24 w A l.length l) (hc : l.length ≤ c) (hl : l.length ≤ 4096) :
    Calls Try.prog 26 #[.slice A l.length c] w fun e w' => ∃ v, e = .returned v ∧ w'.ownsRow w.heap.size 24 7 v l.length (cells24 l) ∧ Below w.heap.size w w' := by
  obtain ⟨i0, hi0, hz0, hs0, hb0⟩ := info_parts info24c
  cases A with
  | none =>
    have h0 : l.length = 0 := by
      rcases Nat.eq_zero_or_pos l.length with h | h
      · exact h
      · obtain ⟨_, e, _⟩ := hr.2.2 h; cases e
    have hl0 : l = [] := List.eq_nil_of_length_eq_zero h0
    subst hl0
    have he : ∀ w, (binOp .eql 22 (.slice none 0 c) (.slice none 0 0)).run Try.prog w = .ok (.bool true) w := fun w => run_eql_slice_nil_nil w 0 c Try.underlying22
    show Calls Try.prog 26 #[.slice none 0 c] w _
    go_enter Try.func26, Try.ntmps26
    go_wp2
    go_ret
    exact ⟨_, rfl, World.ownsRow_nil w w.heap.size 24 7, Below.refl _ _⟩
  | some ad =>
    have he : ∀ w, (binOp .eql 22 (.slice (some ad) l.length c) (.slice none 0 0)).run Try.prog w = .ok (.bool false) w := fun w => by
      have h : ∀ d : Nat, (Op.equalIn (d + 1) 22 (.slice (some ad) l.length c) (.slice none 0 0)).run Try.prog w = .ok false w := fun d => by
        simp [Op.equalIn, run_underlying Try.underlying22]
      simp [binOp, Op.equal, Op.maxDepth, h 9999]
    have hsrc := src24 hr
    have HR := Aside0.mk hsrc
    clear hsrc hr
    go_enter Try.func26, Try.ntmps26
    have hba := (Below.refl _ w).alloc (Nat.le_refl _) (.cells #[] 24)
    have hown : (w.alloc (.cells #[] 24)).ownsRow w.heap.size 24 7 (.slice (some ⟨w.heap.size, 0, none⟩) 0 0) 0 [] := ⟨rfl, .inr ⟨w.heap.size, 0, #[], rfl, Nat.le_refl _, World.alloc_heap_new w _, Nat.le_refl _, Nat.zero_le _, rfl, rfl⟩⟩
    go_wp2_with (at_builtin; refine wpList_append_own (P := Try.prog) _ rfl _ _ 22 rfl w.heap.size 24 i0 _ 7 56 Try.underlying22 hi0 hz0 hs0 hb0 rfl (by decide) _ 0 [] rfl hown ad l.length c (cells24 l) rfl (cells24_len l) (fun j u hj => (hba.cell (World.block_lt_of_cell? w _ (HR.out j u hj))).trans (HR.out j u hj)) (cells24_one l) (by unfold maxLen; omega) (by omega) hba.size ?_; intro v' w1 hown' hgrow _)
    go_ret
    refine ⟨v', rfl, by simpa using hown', hba.grown hgrow hba.size (fun k e => by cases e; exact Nat.le_refl _)⟩
theorem add0 (g o j : Nat) : (⟨g, o, none⟩ : Addr).add j = ⟨g, o + j, none⟩ := by unfold Addr.add; split <;> simp_all
theorem ins_cells (l : List S24) (x : S24) (i : Nat) : cells24 (l.take i ++ x :: l.drop i) = (cells24 l).take (i * 7) ++ cell6 x ++ (cells24 l).drop (i * 7) := by
  rw [cells24_append, cells24_cons, cells24_take, cells24_drop, List.append_assoc]
set_option maxHeartbeats 200000000 in
set_option maxRecDepth 100000 in
/-- slices.Insert at the end. -/
theorem insert_end (base : Nat) (v : Value) (l : List S24) (x : S24) (vb : Nat) (w : World) (hown : w.ownsRow base 24 7 v l.length (cells24 l)) (hbase : base ≤ w.heap.size) (hx : w.heap[vb]? = some (.cells (cell6 x).toArray 24 (0, 0))) (hl : l.length ≤ 4096) :
    Calls Try.prog 25 #[v, .int .i64 (l.length : Int), .slice (some ⟨vb, 0, none⟩) 1 1] w fun e w' => ∃ v', e = .returned v' ∧ w'.ownsRow base 24 7 v' (l.length + 1) (cells24 l ++ cell6 x) ∧ w.grownBy w' v.ownBlock := by
  obtain ⟨i0, hi0, hz0, hs0, hb0⟩ := info_parts info24c
  have hsrc : ∀ j u, (cell6 x)[j]? = some u → w.cell? ((⟨vb, 0, none⟩ : Addr).add j) = some u := fun j u hj => by
    rw [add0, Nat.zero_add, blk_cell hx j]
    simpa using hj
  have HS := Aside0.mk hsrc
  clear hsrc hx
  obtain ⟨A, c, rfl, hc⟩ : ∃ A c, v = .slice A l.length c ∧ l.length ≤ c := by
    rcases hown.2 with ⟨rfl, h0⟩ | ⟨g, cap, cur, rfl, h1, h2, h3, h4⟩
    · exact ⟨none, 0, by rw [h0], by omega⟩
    · exact ⟨_, _, rfl, h3⟩
  have HO := Aside0.mk hown
  clear hown
  by_cases hcl : c = l.length
  · subst hcl
    go_enter Try.func25, Try.ntmps25
    go_wp2_with (at_builtin; refine wpList_append_own (P := Try.prog) _ rfl _ _ 22 rfl base 24 i0 _ 7 56 Try.underlying22 hi0 hz0 hs0 hb0 rfl (by decide) _ l.length (cells24 l) rfl HO.out ⟨vb, 0, none⟩ 1 1 (cell6 x) rfl rfl HS.out (c6_one x) (by unfold maxLen; omega) (by omega) hbase ?_; intro v' w1 hown' hgrow _)
    go_ret
    exact ⟨v', rfl, hown', hgrow⟩
  · have hcl' : l.length < c := by omega
    go_enter Try.func25, Try.ntmps25
    go_wp2_with (at_builtin; refine wpList_append_own (P := Try.prog) _ rfl _ _ 22 rfl base 24 i0 _ 7 56 Try.underlying22 hi0 hz0 hs0 hb0 rfl (by decide) _ l.length (cells24 l) rfl HO.out ⟨vb, 0, none⟩ 1 1 (cell6 x) rfl rfl HS.out (c6_one x) (by unfold maxLen; omega) (by omega) hbase ?_; intro v' w1 hown' hgrow _)
    go_ret
    exact ⟨v', rfl, hown', hgrow⟩
set_option maxHeartbeats 200000000 in
set_option maxRecDepth 100000 in
/-- slices.Insert ahead of the end, where there is no room. -/
theorem insert_grow (g : Nat) (cap : Nat) (cur : Array Value) (l : List S24) (x : S24) (i : Nat) (vb : Nat) (w : World) (hg : w.heap[g]? = some (.cells cur 24 (0, 0))) (hcur : cur.toList.take (l.length * 7) = cells24 l)
    (hx : w.heap[vb]? = some (.cells (cell6 x).toArray 24 (0, 0))) (hi : i < l.length) (hroom : ¬ l.length + 1 ≤ cap) (hlc : l.length ≤ cap) (hl : l.length ≤ 4096) :
    Calls Try.prog 25 #[.slice (some ⟨g, 0, none⟩) l.length cap, .int .i64 (i : Int), .slice (some ⟨vb, 0, none⟩) 1 1] w fun e w' => ∃ v', e = .returned v' ∧ w'.ownsRow w.heap.size 24 7 v' (l.length + 1) (cells24 (l.take i ++ x :: l.drop i)) ∧ Below w.heap.size w w' := by
  obtain ⟨i0, hi0, hz0, hs0, hb0⟩ := info_parts info24c
  obtain rfl : cap = l.length := by omega
  obtain ⟨n, hn⟩ : ∃ n, l.length = n := ⟨_, rfl⟩
  have hold : (cells24 l).length = n * 7 := by rw [cells24_len, hn]
  have hread : ∀ j u, (cells24 l)[j]? = some u → w.cell? ((⟨g, 0, none⟩ : Addr).add j) = some u := fun j u hj => by
    rw [add0, Nat.zero_add, blk_cell hg j]
    rw [← hcur, hn] at hj
    have := (List.getElem?_eq_some_iff.1 hj).1
    rw [List.length_take] at this
    rw [List.getElem?_take, if_pos (by omega)] at hj
    simpa using hj
  have hsrc : ∀ (W : World), Below w.heap.size w W → ∀ j u, (cell6 x)[j]? = some u → W.cell? ((⟨vb, 0, none⟩ : Addr).add j) = some u := fun W hb j u hj => by
    rw [add0, Nat.zero_add, blk_cell (blk_below hx hb) j]
    simpa using hj
  obtain ⟨k, hk⟩ : ∃ k, n + 1 = i + k := ⟨n + 1 - i, by omega⟩
  have hkz : ((n : Int) + 1 - (i : Int)) = (k : Int) := by omega
  obtain ⟨cap, hcap⟩ : ∃ c, grownCap w (i + k) n 24 = c := ⟨_, rfl⟩
  obtain ⟨z, hz⟩ : ∃ z : Value, z = .agg #[(.int .i64 0), (.int .i64 0), (.int .i64 0), (.int .i64 0), (.int .i64 0), (.int .i64 0), (.bool false)] := ⟨_, rfl⟩
  rw [← hz] at hz0
  have hzs : z.cells.size = 7 := by rw [hz]; rfl
  obtain ⟨C0, hC0⟩ : ∃ C0, ((cells24 l).take (i * 7)).toArray ++ Builtin.zeroCells z.cells k ++ Builtin.zeroCells z.cells (cap - (i + k)) = C0 := ⟨_, rfl⟩
  have hle : i + k ≤ cap := by rw [← hcap]; exact grownCap_ge w (i + k) n 24
  have hml : cap ≤ maxLen := by rw [← hcap]; exact grownCap_le_maxLen w (i + k) n 24 (by unfold maxLen; omega)
  have htl : ((cells24 l).take (i * 7)).length = i * 7 := by rw [List.length_take, hold]; omega
  have hsz0 : C0.size = cap * 7 := by
    rw [← hC0]
    simp only [Array.size_append, List.size_toArray, size_zeroCells, hzs, htl]
    rw [← Nat.add_mul, ← Nat.add_mul]
    congr 1
    omega
  have hap : ∀ ty, (Builtin.append_ #[22, 3] ty #[.slice (some ⟨g, 0, none⟩) i n, .int .i64 (k : Int)]).run Try.prog w = .ok (.slice (some ⟨w.heap.size, 0, none⟩) (n + 1) cap) (w.drew.alloc (.cells C0 24)) := fun ty => by
    rw [run_append_grow_zeros w 22 3 ty 24 i0 z .i64 .i64 Try.underlying22 Try.underlying3 hi0 hz0 (some ⟨g, 0, none⟩) i n ((cells24 l).take (i * 7))
      (run_firstCells_some (P := Try.prog) w.drew i0.size i _ i n _ (by rw [hs0]; exact htl) (fun j u hj => by
        rw [List.getElem?_take] at hj
        split at hj
        · exact hread j u hj
        · cases hj)) k (by omega) (by omega) (by omega) (by omega) (by rw [hb0]; omega) (by rw [hb0]; exact growslice_fits (by omega) (by omega)), hcap, hC0, hk]
  have hC : Aside0 ((i + k) = n + 1) := ⟨hk.symm⟩
  obtain ⟨w1, hw1⟩ : ∃ w1, w.drew.alloc (.cells C0 24) = w1 := ⟨_, rfl⟩
  rw [hw1] at hap
  have HA := Aside0.mk hap
  have hb1 : Below w.heap.size w w1 := by rw [← hw1]; exact ((Below.refl _ w).drew).alloc (by simp) _
  have hg1 : w1.heap[w.heap.size]? = some (.cells C0 24 (0, 0)) := by rw [← hw1]; exact World.alloc_heap_new w.drew _
  rw [hn] at hi hroom hlc hl
  show Calls Try.prog 25 #[.slice (some ⟨g, 0, none⟩) l.length l.length, .int .i64 (i : Int), .slice (some ⟨vb, 0, none⟩) 1 1] w _
  rw [hn]
  obtain ⟨C1, hC1⟩ : ∃ C1, (C0.toList.take (i * 7) ++ cell6 x ++ C0.toList.drop (i * 7 + (cell6 x).length)).toArray = C1 := ⟨_, rfl⟩
  obtain ⟨w2, hw2⟩ : ∃ w2, w1.setRow w.heap.size C1 = w2 := ⟨_, rfl⟩
  have hsz1 : C1.size = cap * 7 := by
    rw [← hC1]
    simp only [List.size_toArray, List.length_append, List.length_take, List.length_drop, Array.length_toList, hsz0, c6_len]
    omega
  have hg2 : w2.heap[w.heap.size]? = some (.cells C1 24 (0, 0)) := by rw [← hw2]; exact setRow_heap _ _ _ _ _ _ hg1
  have hb2 : Below w.heap.size w w2 := by
    rw [← hw2]
    exact hb1.grown (row := some w.heap.size) ⟨rfl, rfl, rfl, by simp, fun k _ hk => setRow_other _ _ _ _ (fun e => hk (by rw [e]))⟩ hb1.size (fun k e => by cases e; exact Nat.le_refl _)
  have hin : Nat.min 1 (n + 1 - i) = 1 := Nat.min_eq_left (show 1 ≤ n + 1 - i by omega)
  have hcp1 : ∀ ty dc sc, (Builtin.copy_ #[22, 22] ty #[.slice (some ⟨w.heap.size, i * 7, none⟩) (n + 1 - i) dc, .slice (some ⟨vb, 0, none⟩) 1 sc]).run Try.prog w1 = .ok (goInt (Nat.min 1 (n + 1 - i))) w2 := fun ty dc sc => by
    rw [← hw2, ← hC1]
    exact run_copy_rowK w1 22 22 ty 24 w.heap.size (i * 7) (n + 1 - i) dc ⟨vb, 0, none⟩ 1 sc C0 24 (cell6 x) 7 Try.underlying22 (by rw [hi0]; simp [hs0]) hg1 (by rw [hin, c6_len]) (hsrc w1 hb1) (by rw [c6_len, hsz0]; omega) (c6_one x)
  obtain ⟨C2, hC2⟩ : ∃ C2, (C1.toList.take ((i + 1) * 7) ++ (cells24 l).drop (i * 7) ++ C1.toList.drop ((i + 1) * 7 + ((cells24 l).drop (i * 7)).length)).toArray = C2 := ⟨_, rfl⟩
  have hdl : ((cells24 l).drop (i * 7)).length = (n - i) * 7 := by rw [List.length_drop, hold, Nat.sub_mul]
  have hmin : Nat.min (n - i) (n - i) = n - i := Nat.min_self _
  obtain ⟨w3, hw3⟩ : ∃ w3, w2.drew.setRow w.heap.size C2 = w3 := ⟨_, rfl⟩
  have hg3 : w3.heap[w.heap.size]? = some (.cells C2 24 (0, 0)) := by rw [← hw3]; exact setRow_heap _ _ _ _ _ _ (show w2.drew.heap[w.heap.size]? = _ from hg2)
  have hb3 : Below w.heap.size w w3 := by
    rw [← hw3]
    exact (hb2.drew).grown (row := some w.heap.size) ⟨rfl, rfl, rfl, by simp, fun k _ hk => setRow_other _ _ _ _ (fun e => hk (by rw [e]))⟩ hb2.size (fun k e => by cases e; exact Nat.le_refl _)
  have hcp2 : ∀ ty dc sc, (Builtin.copy_ #[22, 22] ty #[.slice (some ⟨w.heap.size, (i + 1) * 7, none⟩) (n - i) dc, .slice (some ⟨g, i * 7, none⟩) (n - i) sc]).run Try.prog w2.drew = .ok (goInt (Nat.min (n - i) (n - i))) w3 := fun ty dc sc => by
    rw [← hw3, ← hC2]
    refine run_copy_rowK w2.drew 22 22 ty 24 w.heap.size ((i + 1) * 7) (n - i) dc ⟨g, i * 7, none⟩ (n - i) sc C1 24 ((cells24 l).drop (i * 7)) 7 Try.underlying22 (by rw [hi0]; simp [hs0]) hg2 (by rw [hmin, hdl]) (fun j u hj => ?_) (by rw [hdl, hsz1, ← Nat.add_mul]; exact Nat.mul_le_mul_right _ (by omega)) (fun u hu => cells24_one l u (List.mem_of_mem_drop hu))
    rw [List.getElem?_drop] at hj
    have h1 := hread _ u hj
    rw [add0, Nat.zero_add] at h1
    rw [add0]
    have hgl : g < w.heap.size := (Array.getElem?_eq_some_iff.1 hg).1
    exact (hb2.cell (p := ⟨g, i * 7 + j, none⟩) hgl).trans h1
  have hfin : w3.ownsRow w.heap.size 24 7 (.slice (some ⟨w.heap.size, 0, none⟩) (n + 1) cap) (n + 1) (cells24 (l.take i ++ x :: l.drop i)) := by
    refine ⟨by rw [cells24_len]; simp only [List.length_append, List.length_cons, List.length_take, List.length_drop]; congr 1; omega, .inr ⟨w.heap.size, cap, C2, rfl, Nat.le_refl _, hg3, by omega, hml, ?_, ?_⟩⟩
    · rw [← hC2]
      simp only [List.size_toArray, List.length_append, List.length_take, List.length_drop, Array.length_toList, hsz1, hold]
      omega
    · rw [ins_cells, ← hC2]
      have h1 : C1.toList.take ((i + 1) * 7) = (cells24 l).take (i * 7) ++ cell6 x := by
        rw [← hC1]
        have h2 : C0.toList.take (i * 7) = (cells24 l).take (i * 7) := by
          rw [← hC0]
          simp only [Array.toList_append, List.append_assoc]
          rw [List.take_left' htl]
        show List.take _ (C0.toList.take (i * 7) ++ cell6 x ++ _) = _
        rw [h2]
        exact List.take_left' (by rw [List.length_append, htl, c6_len]; omega)
      show List.take _ (C1.toList.take ((i + 1) * 7) ++ _ ++ _) = _
      rw [h1]
      exact List.take_left' (by rw [List.length_append, List.length_append, htl, c6_len, hdl, Nat.sub_mul]; have := Nat.mul_le_mul_right 7 (show i ≤ n by omega); omega)
  have H1 := Aside0.mk hcp1
  have H2 := Aside0.mk hcp2
  have HF := Aside0.mk hfin
  have HB := Aside0.mk hb3
  clear hcp1 hcp2 hfin hb3 hb2 hb1 hg3 hg2 hw3 hw2 hC1 hC2 hsz1 hdl hmin hin
  have hi' : (i : Int) < (n : Int) := by omega
  have hin : ¬ ((i : Int) = (n : Int)) := by omega
  have hin2 : ¬ (n = i) := by omega
  have hcap1 : ¬ (cap = i) := by omega
  have hcap2 : ¬ (cap = i + 1) := by omega
  have hcap3 : (i : Int) ≤ (cap : Int) := by omega
  have hcap4 : (i : Int) + 1 ≤ (n : Int) + 1 := by omega
  have htn : ((i : Int) + 1).toNat = i + 1 := by omega
  have hnn : ((n : Int) + 1) ≤ (cap : Int) := by omega
  have HK := Aside0.mk hk
  have HE := Aside0.mk hn
  clear hap hk hn hcap hw1 hz hz0 hzs hC0 hs0 hb0 hi0 hcur hsz0 hold htl hg hx hg1 hle hml hroom hlc hi
  go_enter Try.func25, Try.ntmps25
  go_wp2_with (first | (at_builtin; refine wpList_append_run _ rfl _ _ 22 3 rfl _ _ rfl rfl _ _ (HA.out _) ?_) | (refine wpList_copy_run _ rfl (.tmp 43) (.tmp 44) 22 22 rfl _ _ rfl rfl (H1.out _ _ _) ?_))
  have hw1 : IntKind.i64.wrap ((i : Int) + 1) = (i : Int) + 1 := by rw [IntKind.wrap_i64]; omega
  have hbb : (0 : Int) ≤ (i : Int) + 1 := by omega
  have hbi : (0 : Int) ≤ (i : Int) := by omega
  have hbn : (i : Int) ≤ (n : Int) := by omega
  have h2 := H2.out 3 (cap - (i + 1)) (n - i)
  go_region
  go_wp2
  go_ret
  exact ⟨_, rfl, HF.out, HB.out⟩
set_option maxHeartbeats 200000000 in
set_option maxRecDepth 100000 in
/-- slices.Insert ahead of the end, where there is room. -/
theorem insert_room (base : Nat) (g : Nat) (cap : Nat) (cur : Array Value) (l : List S24) (x : S24) (i : Nat) (vb : Nat) (w : World) (hbase : base ≤ g) (hg : w.heap[g]? = some (.cells cur 24 (0, 0))) (hcur : cur.toList.take (l.length * 7) = cells24 l) (hcs : cur.size = cap * 7) (hml : cap ≤ maxLen)
    (hx : w.heap[vb]? = some (.cells (cell6 x).toArray 24 (0, 0))) (hvg : vb ≠ g) (hi : i < l.length) (hroom : l.length + 1 ≤ cap) (hl : l.length ≤ 4096) :
    Calls Try.prog 25 #[.slice (some ⟨g, 0, none⟩) l.length cap, .int .i64 (i : Int), .slice (some ⟨vb, 0, none⟩) 1 1] w fun e w' => ∃ v', e = .returned v' ∧ w'.ownsRow base 24 7 v' (l.length + 1) (cells24 (l.take i ++ x :: l.drop i)) ∧ w.grownBy w' (some g) := by
  obtain ⟨i0, hi0, hz0, hs0, hb0⟩ := info_parts info24c
  obtain ⟨n, hn⟩ : ∃ n, l.length = n := ⟨_, rfl⟩
  have hold : (cells24 l).length = n * 7 := by rw [cells24_len, hn]
  rw [hn] at hcur hi hroom hl
  have hread : ∀ j u, (cells24 l)[j]? = some u → w.cell? ((⟨g, 0, none⟩ : Addr).add j) = some u := fun j u hj => by
    rw [add0, Nat.zero_add, blk_cell hg j]
    rw [← hcur] at hj
    have := (List.getElem?_eq_some_iff.1 hj).1
    rw [List.length_take] at this
    rw [List.getElem?_take, if_pos (by omega)] at hj
    simpa using hj
  have hov : ∀ lb cb, (callFunc 40 #[.slice (some ⟨vb, 0, none⟩) 1 1, .slice (some ⟨g, (i + 1) * 7, none⟩) lb cb]).run Try.prog w = .ok (.value (.bool false)) w := fun lb cb => by
    rw [run_callFunc_extern Try.func40 (by kernel_rfl) (by kernel_rfl) (by kernel_rfl) (e := Extern.SlicesOverlaps.overlaps #[22, 22] #[4]) (by kernel_rfl),
      run_overlaps_apart w 22 4 24 Try.underlying22 7 (fun w => by simp [Go.sizeOf, typeInfo, hi0, hs0]) ⟨vb, 0, none⟩ ⟨g, (i + 1) * 7, none⟩ 1 1 lb cb hvg 24 24 7 (cap * 7) (by simp [World.shape?, hx, c6_len]) (by simp [World.shape?, hg, hcs]) (by omega) (blk_frozen hx 0) (blk_frozen hx 7)]
    rfl
  obtain ⟨C1, hC1⟩ : ∃ C1, (cur.toList.take ((i + 1) * 7) ++ (cells24 l).drop (i * 7) ++ cur.toList.drop ((i + 1) * 7 + ((cells24 l).drop (i * 7)).length)).toArray = C1 := ⟨_, rfl⟩
  have hdl : ((cells24 l).drop (i * 7)).length = (n - i) * 7 := by rw [List.length_drop, hold, Nat.sub_mul]
  have hmin : Nat.min (n + 1 - i) (n - i) = n - i := Nat.min_eq_right (show n - i ≤ n + 1 - i by omega)
  obtain ⟨w1, hw1⟩ : ∃ w1, w.drew.setRow g C1 = w1 := ⟨_, rfl⟩
  have hcc : (i + 1) * 7 + (n - i) * 7 = (n + 1) * 7 := by rw [← Nat.add_mul]; congr 1; omega
  have hncap : (n + 1) * 7 ≤ cap * 7 := Nat.mul_le_mul_right _ hroom
  have hsz1 : C1.size = cap * 7 := by
    rw [← hC1]
    simp only [List.size_toArray, List.length_append, List.length_take, List.length_drop, Array.length_toList, hcs, hold]
    have := Nat.mul_le_mul_right 7 (show i ≤ n by omega)
    omega
  have hcp1 : ∀ ty dc sc, (Builtin.copy_ #[22, 22] ty #[.slice (some ⟨g, (i + 1) * 7, none⟩) (n - i) dc, .slice (some ⟨g, i * 7, none⟩) (n + 1 - i) sc]).run Try.prog w.drew = .ok (goInt (Nat.min (n + 1 - i) (n - i))) w1 := fun ty dc sc => by
    rw [← hw1, ← hC1]
    refine run_copy_rowK w.drew 22 22 ty 24 g ((i + 1) * 7) (n - i) dc ⟨g, i * 7, none⟩ (n + 1 - i) sc cur 24 ((cells24 l).drop (i * 7)) 7 Try.underlying22 (by rw [hi0]; simp [hs0]) hg (by rw [hmin, hdl]) (fun j u hj => ?_) (by rw [hdl, hcs, hcc]; exact hncap) (fun u hu => cells24_one l u (List.mem_of_mem_drop hu))
    rw [List.getElem?_drop] at hj
    have h1 := hread _ u hj
    rw [add0, Nat.zero_add] at h1
    rw [add0]
    exact h1
  have hg1 : w1.heap[g]? = some (.cells C1 24 (0, 0)) := by rw [← hw1]; exact setRow_heap _ _ _ _ _ _ (show w.drew.heap[g]? = _ from hg)
  have hx1 : w1.heap[vb]? = some (.cells (cell6 x).toArray 24 (0, 0)) := by rw [← hw1]; exact (setRow_other _ _ _ _ hvg).trans hx
  obtain ⟨C2, hC2⟩ : ∃ C2, (C1.toList.take (i * 7) ++ cell6 x ++ C1.toList.drop (i * 7 + (cell6 x).length)).toArray = C2 := ⟨_, rfl⟩
  obtain ⟨w2, hw2⟩ : ∃ w2, w1.setRow g C2 = w2 := ⟨_, rfl⟩
  have hin : Nat.min 1 (n + 1 - i) = 1 := Nat.min_eq_left (show 1 ≤ n + 1 - i by omega)
  have hcp2 : ∀ ty dc sc, (Builtin.copy_ #[22, 22] ty #[.slice (some ⟨g, i * 7, none⟩) (n + 1 - i) dc, .slice (some ⟨vb, 0, none⟩) 1 sc]).run Try.prog w1 = .ok (goInt (Nat.min 1 (n + 1 - i))) w2 := fun ty dc sc => by
    rw [← hw2, ← hC2]
    refine run_copy_rowK w1 22 22 ty 24 g (i * 7) (n + 1 - i) dc ⟨vb, 0, none⟩ 1 sc C1 24 (cell6 x) 7 Try.underlying22 (by rw [hi0]; simp [hs0]) hg1 (by rw [hin, c6_len]) (fun j u hj => ?_) (by rw [c6_len, hsz1]; have := Nat.mul_le_mul_right 7 (show i + 1 ≤ cap by omega); omega) (c6_one x)
    rw [add0, Nat.zero_add, blk_cell hx1 j]
    simpa using hj
  have hg2 : w2.heap[g]? = some (.cells C2 24 (0, 0)) := by rw [← hw2]; exact setRow_heap _ _ _ _ _ _ hg1
  have hgr : w.grownBy w2 (some g) := by
    rw [← hw2, ← hw1]
    exact ⟨rfl, rfl, rfl, by simp, fun k _ hk => (setRow_other _ _ _ _ (fun e => hk (by rw [e]))).trans (setRow_other _ _ _ _ (fun e => hk (by rw [e])))⟩
  have hsz2 : C2.size = cap * 7 := by
    rw [← hC2]
    simp only [List.size_toArray, List.length_append, List.length_take, List.length_drop, Array.length_toList, hsz1, c6_len]
    have := Nat.mul_le_mul_right 7 (show i + 1 ≤ cap by omega)
    omega
  have hfin : w2.ownsRow base 24 7 (.slice (some ⟨g, 0, none⟩) (n + 1) cap) (n + 1) (cells24 (l.take i ++ x :: l.drop i)) := by
    refine ⟨by rw [cells24_len]; simp only [List.length_append, List.length_cons, List.length_take, List.length_drop]; congr 1; omega, .inr ⟨g, cap, C2, rfl, hbase, hg2, hroom, hml, hsz2, ?_⟩⟩
    rw [ins_cells, ← hC2]
    have hin2 := Nat.mul_le_mul_right 7 (show i ≤ n by omega)
    have hin3 := Nat.mul_le_mul_right 7 (show i + 1 ≤ cap by omega)
    have h0 : cur.toList.take (i * 7) = (cells24 l).take (i * 7) := by
      rw [← hcur, List.take_take, Nat.min_eq_left hin2]
    have hcl : cur.toList.length = cap * 7 := by rw [Array.length_toList, hcs]
    have h1 : C1.toList.take (i * 7) = (cells24 l).take (i * 7) := by
      rw [← hC1]
      show List.take _ (cur.toList.take ((i + 1) * 7) ++ _ ++ _) = _
      rw [List.append_assoc, List.take_append_of_le_length (by rw [List.length_take, hcl]; omega), List.take_take, Nat.min_eq_left (by omega), h0]
    have h2 : C1.toList.drop (i * 7 + (cell6 x).length) = (cells24 l).drop (i * 7) ++ cur.toList.drop ((i + 1) * 7 + ((cells24 l).drop (i * 7)).length) := by
      rw [← hC1]
      show List.drop _ (cur.toList.take ((i + 1) * 7) ++ _ ++ _) = _
      rw [List.append_assoc]
      exact List.drop_left' (by rw [List.length_take, hcl, c6_len]; omega)
    show List.take _ (C1.toList.take (i * 7) ++ cell6 x ++ C1.toList.drop (i * 7 + (cell6 x).length)) = _
    rw [h1, h2, ← List.append_assoc]
    exact List.take_left' (by rw [List.length_append, List.length_append, List.length_take, hold, c6_len, hdl]; omega)
  have hi' : (i : Int) < (n : Int) := by omega
  have hin' : ¬ ((i : Int) = (n : Int)) := by omega
  have hin2 : ¬ (n = i) := by omega
  have hcap1 : ¬ (cap = i) := by omega
  have hcap2 : ¬ (cap = i + 1) := by omega
  have hcap3 : (i : Int) ≤ (cap : Int) := by omega
  have hcap4 : (i : Int) + 1 ≤ (n : Int) + 1 := by omega
  have hcap5 : ((n : Int) + 1) ≤ (cap : Int) := by omega
  have htn : ((i : Int) + 1).toNat = i + 1 := by omega
  have hnt : ((n : Int) + 1).toNat = n + 1 := by omega
  have H1 := Aside0.mk hcp1
  have H2 := Aside0.mk hcp2
  have HF := Aside0.mk hfin
  have HB := Aside0.mk hgr
  have HO := Aside0.mk hov
  show Calls Try.prog 25 #[.slice (some ⟨g, 0, none⟩) l.length cap, .int .i64 (i : Int), .slice (some ⟨vb, 0, none⟩) 1 1] w _
  rw [hn]
  clear hov hcp1 hcp2 hfin hgr hg hg1 hg2 hx hx1 hw1 hw2 hC1 hC2 hdl hmin hcc hncap hsz1 hsz2 hin hcs hcur hml hread hold hz0 hs0 hb0 hi0 hn hi hroom
  go_enter Try.func25, Try.ntmps25
  have ho := HO.out
  go_wp2_with (simp only [ho])
  have hw1 : IntKind.i64.wrap ((i : Int) + 1) = (i : Int) + 1 := by rw [IntKind.wrap_i64]; omega
  have hbb : (0 : Int) ≤ (i : Int) + 1 := by omega
  have hbi : (0 : Int) ≤ (i : Int) := by omega
  have hbn : (i : Int) ≤ (n : Int) + 1 := by omega
  have h1 := H1.out 3 (cap - (i + 1)) (cap - i)
  go_region
  clear h1
  go_wp2_with (refine wpList_copy_run _ rfl (.tmp 80) (.tmp 81) 22 22 rfl _ _ rfl rfl (H2.out _ _ _) ?_)
  go_ret
  exact ⟨_, rfl, HF.out, HB.out⟩
/-- **slices.Insert of one element into a row of the call's own.** -/
theorem insert_calls (base : Nat) (v : Value) (l : List S24) (x : S24) (i : Nat) (vb : Nat) (w : World) (hown : w.ownsRow base 24 7 v l.length (cells24 l)) (hbase : base ≤ w.heap.size) (hx : w.heap[vb]? = some (.cells (cell6 x).toArray 24 (0, 0))) (hvb : v.ownBlock ≠ some vb) (hi : i ≤ l.length) (hl : l.length ≤ 4096) :
    Calls Try.prog 25 #[v, .int .i64 (i : Int), .slice (some ⟨vb, 0, none⟩) 1 1] w fun e w' => ∃ v', e = .returned v' ∧ Kd.R k24 24 w' base (fun _ => True) v' (l.take i ++ x :: l.drop i) ∧ Below base w w' := by
  have hlen : (l.take i ++ x :: l.drop i).length = l.length + 1 := by simp only [List.length_append, List.length_cons, List.length_take, List.length_drop]; omega
  have hbelow : ∀ w', w.grownBy w' v.ownBlock → Below base w w' := fun w' hg => (Below.refl base w).grown hg hbase (fun k e => (hown.lt k e).1)
  rcases Nat.lt_or_ge i l.length with hlt | hge
  · have hown' := hown
    rcases hown.2 with ⟨rfl, h0⟩ | ⟨g, cap, cur, rfl, h1, h2, h3, h4, h5, h6⟩
    · omega
    · by_cases hroom : l.length + 1 ≤ cap
      · refine (insert_room base g cap cur l x i vb w h1 h2 h6 h5 h4 hx (fun e => hvb (by rw [e]; rfl)) hlt hroom hl).mono fun e w' ⟨v', he, ho, hg⟩ => ⟨v', he, R_of_own (by rw [hlen]; exact ho), hbelow w' hg⟩
      · refine (insert_grow g cap cur l x i vb w h2 h6 hx hlt hroom h3 hl).mono fun e w' ⟨v', he, ho, hb⟩ => ⟨v', he, R_of_own (by rw [hlen]; exact ⟨ho.1, ho.2.imp id (fun ⟨g', c', r', k1, k2, k3⟩ => ⟨g', c', r', k1, Nat.le_trans hbase k2, k3⟩)⟩), hb.mono hbase⟩
  · obtain rfl : i = l.length := by omega
    rw [List.take_length, List.drop_length]
    refine (insert_end base v l x vb w hown hbase hx hl).mono fun e w' ⟨v', he, ho, hg⟩ => ⟨v', he, R_of_own (by rw [List.length_append, cells24_append]; simpa [cells24] using ho), hbelow w' hg⟩
end
end
section
open Go.Shelf
section
def insAt (l : List S24) (i : Int) (x : S24) : List S24 := l.take i.toNat ++ x :: l.drop i.toNat
def offices_Add.f (k : Nat) (l0 : List (S24)) (a1_0 : Int) (a1_1 : Int) (a1_2 : Int) (a1_3 : Int) (a1_4 : Int) (a1_5 : Int) (a1_6 : Bool) : Option ((List (S24)) × Int) := (offices_Check.f k l0).bind fun t1 => (if t1 = 0 then ((offices_right.f k a1_0 a1_1 a1_2 a1_3 a1_4 a1_5 a1_6).bind fun t3 => (if t3 = true then ((api_Appoint_int.f k l0 a1_0 ()).bind fun t2 => (if t2.2 = true then (some (([] : List (S24)), 151)) else (if (l0.length : Int) = 4096 then (some (([] : List (S24)), 2)) else (if 0 ≤ t2.1 ∧ t2.1 ≤ (l0.length : Int) then (some (insAt l0 t2.1 ⟨a1_0, a1_1, a1_2, a1_3, a1_4, a1_5, a1_6⟩, 0)) else none)))) else (some (([] : List (S24)), 150)))) else (some (([] : List (S24)), t1)))
theorem offices_Add.mono : ∀ a0 a1 a2 a3 a4 a5 a6 a7 k, LeO (offices_Add.f k a0 a1 a2 a3 a4 a5 a6 a7) (offices_Add.f (k + 1) a0 a1 a2 a3 a4 a5 a6 a7) := by
  intro a0 a1 a2 a3 a4 a5 a6 a7 k
  unfold offices_Add.f
  refine LeO.bind (offices_Check.mono _ _) (fun _ => LeO.ite (LeO.bind (offices_right.mono _ _ _ _ _ _ _ _) (fun _ => LeO.ite (LeO.bind (api_Appoint_int.mono _ _ _ _) (fun _ => LeO.refl _)) (LeO.refl _))) (LeO.refl _))
set_option maxHeartbeats 200000000 in
set_option maxRecDepth 100000 in
theorem offices_Add.calls (k : Nat) (A0 : Option Addr) (c0 : Nat) (l0 : List (S24)) (a1_0 : Int) (a1_1 : Int) (a1_2 : Int) (a1_3 : Int) (a1_4 : Int) (a1_5 : Int) (a1_6 : Bool) (r1 : List (S24)) (r2 : Int) (w : World) (hr0 : Kd.C k24 w A0 l0.length l0) (hc0 : l0.length ≤ c0) (h : offices_Add.f k l0 a1_0 a1_1 a1_2 a1_3 a1_4 a1_5 a1_6 = some (r1, r2)) :
    Calls Try.prog 11 #[.slice A0 l0.length c0, .agg #[.int .i64 a1_0, .int .i64 a1_1, .int .i64 a1_2, .int .i64 a1_3, .int .i64 a1_4, .int .i64 a1_5, .bool a1_6]] w fun e w' => ∃ v0_ : Value, e = .returned (.tuple #[v0_, .int .i64 r2]) ∧ Kd.R k24 24 w' w.heap.size (fun _ => True) v0_ r1 ∧ Below w.heap.size w w' := by
  have hu24 := Try.underlying24
  unfold offices_Add.f at h
  obtain ⟨t1, ht1, h⟩ := Option.bind_eq_some_iff.mp h
  have HR := Aside0.mk hr0
  clear hr0
  have hba := (Below.refl _ w).alloc (Nat.le_refl _) (.cells #[.int .i64 a1_0, .int .i64 a1_1, .int .i64 a1_2, .int .i64 a1_3, .int .i64 a1_4, .int .i64 a1_5, .bool a1_6] 24)
  have BX := World.alloc_heap_new w (.cells #[.int .i64 a1_0, .int .i64 a1_1, .int .i64 a1_2, .int .i64 a1_3, .int .i64 a1_4, .int .i64 a1_5, .bool a1_6] 24)
  have fin : ∀ {r : List S24} {c : Int}, some (([] : List S24), c) = some (r1, r2) → r1 = [] ∧ r2 = c := fun e => by cases e; exact ⟨rfl, rfl⟩
  by_cases hz : t1 = 0
  · subst hz
    rw [if_pos rfl] at h
    obtain ⟨t3, ht3, h⟩ := Option.bind_eq_some_iff.mp h
    have HS := Aside0.mk (check_short ht1)
    go_enter Try.func11, Try.ntmps11
    go_wp2_with fail
    generalize w.alloc (.cells #[.int .i64 a1_0, .int .i64 a1_1, .int .i64 a1_2, .int .i64 a1_3, .int .i64 a1_4, .int .i64 a1_5, .bool a1_6] 24) = w1 at *
    refine (offices_Check.calls k A0 c0 l0 0 w1 (later24 HR.out hba) hc0 ht1).mono ?_
    rintro e w2 ⟨rfl, hb⟩
    have B2 := Aside0.mk (hba.trans (hb.mono hba.size))
    replace BX := blk_below BX hb
    clear hba hb
    have x0 := (blk_cell BX 0).trans rfl
    have x1 := (blk_cell BX 1).trans rfl
    have x2 := (blk_cell BX 2).trans rfl
    have x3 := (blk_cell BX 3).trans rfl
    have x4 := (blk_cell BX 4).trans rfl
    have x5 := (blk_cell BX 5).trans rfl
    have x6 := (blk_cell BX 6).trans rfl
    go_wp2_with fail
    refine (offices_right.calls k a1_0 a1_1 a1_2 a1_3 a1_4 a1_5 a1_6 t3 w2 ht3).mono ?_
    rintro e w4 ⟨rfl, hb⟩
    have B4 := Aside0.mk (B2.out.trans (hb.mono B2.out.size))
    replace BX := blk_below BX hb
    clear hb
    clear x0 x1 x2 x3 x4 x5 x6
    dsimp only
    cases t3 with
    | false =>
      rw [if_neg (by decide)] at h
      obtain ⟨rfl, rfl⟩ := fin (r := []) h
      clear fin h
      go_wp2
      go_ret2
      exact ⟨_, rfl, Kd.R_nil _ _ _ _ _, B4.out⟩
    | true =>
      rw [if_pos rfl] at h
      obtain ⟨⟨t2, t2b⟩, ht2, h⟩ := Option.bind_eq_some_iff.mp h
      dsimp only at h
      have x0 := (blk_cell BX 0).trans rfl
      have x1 := (blk_cell BX 1).trans rfl
      have x2 := (blk_cell BX 2).trans rfl
      have x3 := (blk_cell BX 3).trans rfl
      have x4 := (blk_cell BX 4).trans rfl
      have x5 := (blk_cell BX 5).trans rfl
      have x6 := (blk_cell BX 6).trans rfl
      go_wp2_with fail
      refine (api_Appoint_int.calls k A0 c0 l0 a1_0 () t2 t2b w4 (later24 HR.out B4.out) hc0 ht2).mono ?_
      rintro e w3 ⟨rfl, hb⟩
      have B3 := Aside0.mk (B4.out.trans (hb.mono B4.out.size))
      replace BX := blk_below BX hb
      clear hb
      clear x0 x1 x2 x3 x4 x5 x6
      dsimp only
      cases t2b with
      | true =>
        rw [if_pos rfl] at h
        obtain ⟨rfl, rfl⟩ := fin (r := []) h
        clear fin h
        go_wp2
        go_ret2
        exact ⟨_, rfl, Kd.R_nil _ _ _ _ _, B3.out⟩
      | false =>
        rw [if_neg (by decide)] at h
        by_cases hfull : (l0.length : Int) = 4096
        · rw [if_pos hfull] at h
          obtain ⟨rfl, rfl⟩ := fin (r := []) h
          have hfb : ((l0.length : Int) == 4096) = true := by simpa using hfull
          clear fin h hfull
          go_wp2
          go_ret2
          exact ⟨_, rfl, Kd.R_nil _ _ _ _ _, B3.out⟩
        · rw [if_neg hfull] at h
          have hfb : ((l0.length : Int) == 4096) = false := by simpa using hfull
          by_cases hrange : 0 ≤ t2 ∧ t2 ≤ (l0.length : Int)
          · rw [if_pos hrange] at h
            cases h
            obtain ⟨i, rfl⟩ : ∃ i : Nat, t2 = (i : Int) := ⟨t2.toNat, by omega⟩
            have hi : i ≤ l0.length := by omega
            have HI := Aside0.mk hi
            have R4 := Aside0.mk (later24 HR.out B3.out)
            clear fin hrange hi hfull
            have x0 := (blk_cell BX 0).trans rfl
            have x1 := (blk_cell BX 1).trans rfl
            have x2 := (blk_cell BX 2).trans rfl
            have x3 := (blk_cell BX 3).trans rfl
            have x4 := (blk_cell BX 4).trans rfl
            have x5 := (blk_cell BX 5).trans rfl
            have x6 := (blk_cell BX 6).trans rfl
            have HX := Aside0.mk BX
            clear BX
            go_wp2
            go_region_with (first
              | (go_at_call 26; (refine (clone_calls A0 c0 l0 _ ?s1 hc0 ?s2).mono ?_); (case s1 => exact Kd.C_below R4.out (by (repeat (first | exact Below.refl _ _ | apply below_alloc | apply below_drew1 | apply pw_below_drewN)))); (case s2 => exact HS.out); rintro e W5 ⟨v, rfl, hv, hb5⟩; have B5 : Below w3.heap.size w3 W5 := below_step (by (repeat (first | exact Below.refl _ _ | apply below_alloc | apply below_drew1 | apply pw_below_drewN))) hb5; have BX5 := blk_below HX.out B5; have y0 := (blk_cell BX5 0).trans rfl; have y1 := (blk_cell BX5 1).trans rfl; have y2 := (blk_cell BX5 2).trans rfl; have y3 := (blk_cell BX5 3).trans rfl; have y4 := (blk_cell BX5 4).trans rfl; have y5 := (blk_cell BX5 5).trans rfl; have y6 := (blk_cell BX5 6).trans rfl; clear BX5; have hv2 : W5.ownsRow w.heap.size 24 7 v l0.length (cells24 l0) := ⟨hv.1, hv.2.imp id (fun ⟨g', c', r', k1, k2, k3⟩ => ⟨g', c', r', k1, Nat.le_trans (by have h4 := B3.out.size; simp; omega) k2, k3⟩)⟩; have HV := Aside0.mk hv; have HV2 := Aside0.mk hv2; have s5 := B5.size; have HB5 := Aside0.mk hb5; clear hv hv2 hb5)
              | (go_at_call 25; (refine (insert_calls w.heap.size v l0 ⟨a1_0, a1_1, a1_2, a1_3, a1_4, a1_5, a1_6⟩ i _ _ ?t1 ?t2 ?t3 ?t4 HI.out ?t5).mono ?_); (case t1 => (first | exact HV2.out.alloc _ | exact HV2.out)); (case t2 => (have h4 := B3.out.size; have h5 := B5.size; first | (simp; omega) | omega)); (case t3 => (first | exact World.alloc_heap_new W5 _ | exact blk_below (World.alloc_heap_new w3.drew _) HB5.out)); (case t4 => (first | exact (fun e => by have := (HV2.out.lt _ e).2; omega) | exact (fun e => by have := (HV.out.lt _ e).1; simp at this; omega))); (case t5 => exact HS.out); rintro e W7 ⟨v', rfl, hR, hb7⟩))
            all_goals
              have B45 := B3.out.trans (B5.mono B3.out.size)
              go_wp2
              go_ret2
              exact ⟨_, rfl, hR, by first | exact B45.trans hb7 | exact (below_alloc B45 _).trans hb7⟩
          · rw [if_neg hrange] at h
            cases h
  · rw [if_neg hz] at h
    have h' := Option.some.inj h
    simp only [Prod.mk.injEq] at h'
    obtain ⟨e1, e2⟩ := h'
    subst e1 e2
    clear h
    have hne : (t1 != 0) = true := by simpa using hz
    go_enter Try.func11, Try.ntmps11
    go_wp2_with fail
    generalize w.alloc (.cells #[.int .i64 a1_0, .int .i64 a1_1, .int .i64 a1_2, .int .i64 a1_3, .int .i64 a1_4, .int .i64 a1_5, .bool a1_6] 24) = w1 at *
    refine (offices_Check.calls k A0 c0 l0 t1 w1 (later24 HR.out hba) hc0 ht1).mono ?_
    rintro e w2 ⟨rfl, hb⟩
    have B2 := Aside0.mk (hba.trans (hb.mono hba.size))
    clear hba hb BX fin
    go_wp2
    go_ret2
    exact ⟨_, rfl, Kd.R_nil _ _ _ _ _, B2.out⟩
end
end

end Go.Proofs.Ytomlcakliljmbaa.Q
