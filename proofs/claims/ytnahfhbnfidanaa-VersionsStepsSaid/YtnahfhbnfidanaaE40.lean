import Derived.Test.YtnahfhbnfidanaaE27
import Derived.Test.YtnahfhbnfidanaaE30
namespace Go.Proofs.Ytnahfhbnfidanaa.Q
open Go.RowKit Go.Shelf Go.Proofs.YtnahfhbnfidanaaW.PrintWords Go.Proofs.YtnahfhbnfidanaaW.PrintLast Go.Proofs.YtnahfhbnfidanaaW.PrintMore
set_option linter.unusedVariables false
set_option linter.unusedSimpArgs false
section
theorem heap42 : Kd.Heap k42 := Kd.heap_iso _ (Kd.heap_pair (Kd.heap_int _) (Kd.heap_pair (Kd.heap_int _) Kd.heap_bool))
theorem later42 {w w1 : World} {A : Option Addr} {n : Nat} {xs : List S42} (h : Kd.C k42 w A n xs) (hb : Below w.heap.size w w1) : Kd.C k42 w1 A n xs := heap42.C (fun i hi => hb.block i hi) h
/-- Is there an amendment at a time. -/
def fnd (l : List S24) (key known t : Int) : Bool := l.any (fun y => (y.f1 == t && y.f3 == key) && decide (y.f2 ≤ known))
theorem fnd_take (l : List S24) (key known t : Int) (j : Nat) (hj : j < l.length) : fnd (l.take (j + 1)) key known t = (fnd (l.take j) key known t || ((l[j].f1 == t && l[j].f3 == key) && decide (l[j].f2 ≤ known))) := by
  rw [List.take_succ_eq_append_getElem hj]
  unfold fnd
  rw [List.any_append, List.any_cons, List.any_nil, Bool.or_false]
/-- What stands ahead of a step (nought ahead of the first). -/
def bef (s : List S42) : Nat → S42
  | 0 => z42
  | i + 1 => s.getD i z42
theorem okS_at {l : List S24} {key known : Int} : ∀ (s : List S42) (lo : Int) (last : Int × Bool) (i : Nat) (hi : i < s.length), okS l key known lo last s →
    okS l key known (match i with | 0 => lo | j + 1 => (s.getD j z42).f0) (match i with | 0 => last | j + 1 => ((s.getD j z42).f1, (s.getD j z42).f2)) (s.drop i)
  | [], _, _, i, hi, _ => by simp at hi
  | x :: t, lo, last, 0, _, h => h
  | x :: t, lo, last, 1, hi, h => by simpa using h.2.2.2.2
  | x :: t, lo, last, i + 2, hi, h => by
    have := okS_at t x.f0 (x.f1, x.f2) (i + 1) (by simp at hi; omega) h.2.2.2.2
    simpa using this
theorem okS_bef {l : List S24} {key known : Int} {s : List S42} (h : okS l key known (-1) (0, false) s) (i : Nat) (hi : i < s.length) :
    (0 < i → (bef s i).f0 < s[i].f0) ∧ ¬ (s[i].f1 = (bef s i).f1 ∧ s[i].f2 = (bef s i).f2) ∧ (s[i].f2 = false → s[i].f1 = 0) ∧ fnd l key known s[i].f0 = true := by
  have h1 := okS_at s (-1) (0, false) i hi h
  rw [List.drop_eq_getElem_cons hi] at h1
  obtain ⟨g1, g2, g3, ⟨y, g4, g5, g6, g7⟩, _⟩ := h1
  refine ⟨fun h0 => ?_, fun e => g2 ?_, g3, ?_⟩
  · cases i with
    | zero => omega
    | succ j => exact g1
  · cases i with
    | zero => exact Prod.ext e.1 e.2
    | succ j => exact Prod.ext e.1 e.2
  · unfold fnd
    rw [List.any_eq_true]
    exact ⟨y, g4, by simp [g5, g6, g7]⟩
theorem lastOf_take (at_ : Int) (init : Int × Bool) (s : List S42) (i : Nat) (hi : i < s.length) : lastOf at_ init (s.take (i + 1)) = if s[i].f0 ≤ at_ then (s[i].f1, s[i].f2) else lastOf at_ init (s.take i) := by
  rw [List.take_succ_eq_append_getElem hi]
  unfold lastOf
  rw [List.foldl_append]
  rfl
/-- The last step that is not later, among the first ones. -/
def lx (s : List S42) (at_ : Int) : Nat → S42
  | 0 => z42
  | i + 1 => if (s.getD i z42).f0 ≤ at_ then s.getD i z42 else lx s at_ i
theorem lx_last (s : List S42) (at_ : Int) : ∀ i, i ≤ s.length → lastOf at_ (0, false) (s.take i) = ((lx s at_ i).f1, (lx s at_ i).f2)
  | 0, _ => rfl
  | i + 1, h => by
    have hi : i < s.length := h
    have e : s.getD i z42 = s[i] := by rw [List.getD_eq_getElem?_getD, List.getElem?_eq_getElem hi]; rfl
    rw [lastOf_take at_ _ s i hi, lx_last s at_ i (by omega)]
    unfold lx
    rw [e]
    by_cases c : s[i].f0 ≤ at_
    · rw [if_pos c, if_pos c]
    · rw [if_neg c, if_neg c]
      cases i <;> rfl
set_option maxHeartbeats 20000000 in
set_option maxRecDepth 100000 in
theorem VersionsSteps.calls (l0 : List S24) (A0 : Option Addr) (c0 : Nat) (a1 : Int) (w1 : (Lit.int .i64 a1).wf = true) (a2 : Int) (w2 : (Lit.int .i64 a2).wf = true) (a3 : Int) (w3 : (Lit.int .i64 a3).wf = true) (w : World) (Hl0 : l0.length ≤ c0) (Hc0 : Kd.C k24 w A0 l0.length l0) :
    Calls Try.prog 6 #[.slice A0 l0.length c0, .int .i64 a1, .int .i64 a2, .int .i64 a3] w fun e w' => e = .returned (.bool true) ∧ Below w.heap.size w w' := by
  clear w1 w2 w3
  have hu42 := Try.underlying42
  have hu24 := Try.underlying24
  obtain ⟨k, hk⟩ : ∃ k : Nat, k = 10000 := ⟨_, rfl⟩
  go_enter Try.func6, Try.ntmps6
  go_wp2_with fail
  refine (signatorylaw14_sane.calls k true w (sane_eq k (by omega))).mono ?_
  rintro e wa ⟨rfl, hb⟩
  have HA := Aside0.mk (later24 Hc0 hb)
  have BA := Aside0.mk hb
  clear hb
  go_wp2_with fail
  refine (signatorylaw14_right.calls k A0 c0 l0 _ wa HA.out Hl0 (rt_eq l0 k (by omega))).mono ?_
  rintro e wb ⟨rfl, hb⟩
  have HB := Aside0.mk (later24 HA.out hb)
  have BB := Aside0.mk (BA.out.trans (hb.mono BA.out.size))
  clear hb HA
  cases hr : (decide (l0.length ≤ 30) && chk l0 == 0) with
  | false =>
    clear hr
    go_wp2
    go_ret
    exact ⟨rfl, BB.out⟩
  | true =>
    have hr2 : l0.length ≤ 30 ∧ chk l0 = 0 := by simpa using hr
    clear hr
    go_wp2_with fail
    refine (versions_History.calls k A0 c0 l0 a1 a3 (historyP l0 a1 a3).1 (historyP l0 a1 a3).2 wb HB.out Hl0 (history_eq l0 a1 a3 k (by omega))).mono ?_
    rintro e wc ⟨vs, rfl, hR, hb⟩
    have HR := Aside0.mk hR
    have HC := Aside0.mk (later24 HB.out hb)
    have BC := Aside0.mk (BB.out.trans (hb.mono BB.out.size))
    clear hb HB hR
    obtain ⟨As, cs, rfl⟩ := Kd.R_slice HR.out
    dsimp only
    go_wp2_with fail
    refine (versions_Value.calls k A0 c0 l0 a1 a2 a3 (valueP l0 a1 a2 a3).1 (valueP l0 a1 a2 a3).2.1 (valueP l0 a1 a2 a3).2.2 wc HC.out Hl0 (value_eq l0 a1 a2 a3 k (by omega))).mono ?_
    rintro e wd ⟨rfl, hb⟩
    have HD := Aside0.mk (later24 HC.out hb)
    have HS := Aside0.mk (later42 (Kd.R_reads' HR.out).2.2 hb)
    have BD := Aside0.mk (BC.out.trans (hb.mono BC.out.size))
    clear hb HC
    clear HR
    dsimp only
    have HL := Aside0.mk hr2.1
    have HK := Aside0.mk hr2.2
    by_cases h1 : (0 ≤ a1 ∧ a1 ≤ 1048576) ∧ (0 ≤ a3 ∧ a3 ≤ 1099511627775)
    · have eh : historyP l0 a1 a3 = (histP l0 a1 a3, 0) := by unfold historyP; rw [if_pos hr2.2, if_pos h1]
      rw [eh] at HS ⊢
      have k1 : decide (a1 < 0) = false := decide_eq_false (by omega)
      have k2 : decide (a1 > 1048576) = false := decide_eq_false (by omega)
      have k3 : decide (a3 < 0) = false := decide_eq_false (by omega)
      have k4 : decide (a3 ≥ 1099511627776) = false := decide_eq_false (by omega)
      obtain ⟨s, hs⟩ : ∃ s, histP l0 a1 a3 = s := ⟨_, rfl⟩
      by_cases h2 : 0 ≤ a2 ∧ a2 ≤ 1099511627775
      · have ev : valueP l0 a1 a2 a3 = ((valP l0 a1 a2 a3).1, (valP l0 a1 a2 a3).2, 0) := by unfold valueP; rw [if_pos hr2.2, if_pos ⟨h1.1, h2, h1.2⟩]
        rw [ev]
        obtain ⟨gok, glast⟩ := steps_ok hr2.2 a1 a3
        have hslen : s.length ≤ 30 := by rw [← hs]; have := histP_len l0 a1 a3; omega
        have hv := glast a2 h2.1
        rw [hs] at gok hv HS ⊢
        obtain ⟨v, hv0⟩ : ∃ v, (valP l0 a1 a2 a3).1 = v := ⟨_, rfl⟩
        obtain ⟨ok, hok0⟩ : ∃ ok, (valP l0 a1 a2 a3).2 = ok := ⟨_, rfl⟩
        have hv2 : lastOf a2 (0, false) s = (v, ok) := by rw [hv, ← hv0, ← hok0]
        rw [hv0, hok0]
        clear hv hv0 hok0 glast ev eh hs k1 k2 k3 k4 h1 h2 hr2
        have GOK := Aside0.mk gok
        have HV := Aside0.mk hv2
        have HSL := Aside0.mk hslen
        clear gok hv2 hslen
        try dsimp only at HS ⊢
        go_wp2
        obtain ⟨Bl, hBl⟩ : ∃ b, wd.heap.size = b := ⟨_, rfl⟩
        have ql := World.alloc_heap_new wd (.cells #[.int .i64 0, .int .i64 0, .bool false] 42)
        have be := (Below.refl Bl wd).alloc (Nat.le_of_eq hBl.symm) (.cells #[.int .i64 0, .int .i64 0, .bool false] 42)
        have ze : Bl < (wd.alloc (.cells #[.int .i64 0, .int .i64 0, .bool false] 42)).heap.size := by rw [← hBl]; simp
        rw [hBl] at ql
        try rw [hBl]
        have QL := Aside0.mk ql
        have BE := Aside0.mk be
        have ZE := Aside0.mk ze
        have HBl := Aside0.mk hBl
        clear ql be ze hBl
        go_loopw [93] (fun v wr => ∃ i : Nat, i ≤ s.length ∧ v = .int .i64 i ∧ wr.heap[Bl]? = some (.cells #[.int .i64 (lx s a2 i).f0, .int .i64 (lx s a2 i).f1, .bool (lx s a2 i).f2] 42 (0, 0)) ∧ Below Bl wd wr ∧ Bl < wr.heap.size) (fun v _ => s.length - (intOf v).toNat)
        case atStart =>
          exact ⟨0, by omega, rfl, QL.out, BE.out, ZE.out⟩
        case round =>
          obtain ⟨i, hi, rfl, hbl, hbw, hzr⟩ := hrel
          by_cases hlt : i < s.length
          · obtain ⟨ii, hii⟩ : ∃ ii : Int, (i : Int) = ii := ⟨_, rfl⟩
            rw [hii]
            have hlt' : ii < (s.length : Int) := by omega
            have hi0 : (0 : Int) ≤ ii := by omega
            have hiw : IntKind.i64.wrap (ii + 1) = ii + 1 := by rw [i64_w]; unfold wrap64; have := HSL.out; omega
            have hiw2 : wrap64 (ii + 1) = ii + 1 := (i64_w _).symm.trans hiw
            have hC := later42 HS.out (by rw [HBl.out]; exact hbw)
            obtain ⟨ad, hA, e0, e1, e2⟩ := at_T42 hC ii hi0 hlt'
            subst hA
            obtain ⟨g1, g2, g3, g4⟩ := okS_bef GOK.out i hlt
            rw [← rdAt42 s i hlt, hii] at g1 g2 g3 g4
            have hlx : lx s a2 (i + 1) = if (rd_T42 s ii).f0 ≤ a2 then rd_T42 s ii else lx s a2 i := by rw [← hii]; rfl
            obtain ⟨x, hx⟩ : ∃ x, rd_T42 s ii = x := ⟨_, rfl⟩
            rw [hx] at e0 e1 e2 g1 g2 g3 g4 hlx
            clear hx
            have HII := Aside0.mk hii
            have HLI := Aside0.mk hlt
            clear hii hlt
            have HLX := Aside0.mk hlx
            have G1 := Aside0.mk g1
            have G2 := Aside0.mk g2
            have G3 := Aside0.mk g3
            have G4 := Aside0.mk g4
            have HC2 := Aside0.mk hC
            have HI := Aside0.mk hi
            have HLT := HLI
            clear hlx g1 g2 g3 g4 hC hi
            have HBL0 := Aside0.mk hzr
            obtain ⟨W1, hW1⟩ : ∃ W1, wr.alloc (.cells #[.int .i64 x.f0, .int .i64 x.f1, .bool x.f2] 42) = W1 := ⟨_, rfl⟩
            obtain ⟨W2, hW2⟩ : ∃ W2, W1.alloc (.cells #[.int .i64 0, .int .i64 0, .bool false] 42) = W2 := ⟨_, rfl⟩
            have hb1 : Below wr.heap.size wr W1 := by rw [← hW1]; exact (Below.refl _ wr).alloc (Nat.le_refl _) _
            have hb2 : Below W1.heap.size W1 W2 := by rw [← hW2]; exact (Below.refl _ W1).alloc (Nat.le_refl _) _
            have hb12 : Below wr.heap.size wr W2 := hb1.trans (hb2.mono hb1.size)
            have qx : W1.heap[wr.heap.size]? = some (.cells #[.int .i64 x.f0, .int .i64 x.f1, .bool x.f2] 42 (0, 0)) := by rw [← hW1]; exact World.alloc_heap_new wr _
            have qx2 := blk_below qx hb2
            have qb : W2.heap[W1.heap.size]? = some (.cells #[.int .i64 0, .int .i64 0, .bool false] 42 (0, 0)) := by rw [← hW2]; exact World.alloc_heap_new W1 _
            have hs1 : W1.heap.size = wr.heap.size + 1 := by rw [← hW1]; simp
            have hs2 : W2.heap.size = W1.heap.size + 1 := by rw [← hW2]; simp
            obtain ⟨Bx, hBx⟩ : ∃ b, wr.heap.size = b := ⟨_, rfl⟩
            obtain ⟨Bb, hBb⟩ : ∃ b, W1.heap.size = b := ⟨_, rfl⟩
            have hxb : Bx + 1 = Bb := by omega
            have hlb : Bl ≠ Bb := by omega
            have hlx1 : Bl ≠ Bx := by omega
            have hxb1 : Bx ≠ Bb := by omega
            rw [hBx] at qx2
            rw [hBb] at qb
            have QX := Aside0.mk qx2
            have QB := Aside0.mk qb
            have QLL := Aside0.mk (blk_below hbl hb12)
            have BW := Aside0.mk (hbw.trans (hb12.mono (by omega)))
            have ZB := Aside0.mk (show Bb < W2.heap.size by omega)
            have HXB := Aside0.mk hxb
            have HLB := Aside0.mk hlb
            have HLX1 := Aside0.mk hlx1
            have HXB1 := Aside0.mk hxb1
            have HBL := Aside0.mk (show Bl ≤ Bb by omega)
            have HC12 := Aside0.mk (later42 HC2.out hb12)
            have HW1 := Aside0.mk hW1
            have HW2 := Aside0.mk hW2
            have HBX := Aside0.mk hBx
            have HBB := Aside0.mk (show wr.heap.size + 1 = Bb by omega)
            clear hb1 hb2 hb12 qx qx2 qb hs1 hs2 hlb hlx1 hxb1 hxb hbl hbw hzr hW1 hW2 hBx hBb
            go_upto_if 100 with fail
            (try simp only [Act.put, List.setIfInBounds_toArray, List.set_cons_zero, List.set_cons_succ])
            rw [HW1.out, HW2.out, HBB.out, HBX.out]
            clear HW1 HW2 HBB HBX
            go_cut [] (fun wc => wc.heap[Bl]? = some (.cells #[.int .i64 (lx s a2 i).f0, .int .i64 (lx s a2 i).f1, .bool (lx s a2 i).f2] 42 (0, 0)) ∧ wc.heap[Bx]? = some (.cells #[.int .i64 x.f0, .int .i64 x.f1, .bool x.f2] 42 (0, 0)) ∧ wc.heap[Bb]? = some (.cells #[.int .i64 (bef s i).f0, .int .i64 (bef s i).f1, .bool (bef s i).f2] 42 (0, 0)) ∧ Below Bl wd wc ∧ Bb < wc.heap.size)
            case first =>
              by_cases cI : 0 < ii
              · have k1 : decide (0 < ii) = true := decide_eq_true cI
                obtain ⟨j, hj⟩ : ∃ j : Nat, i = j + 1 := ⟨i - 1, by have := HII.out; omega⟩
                have hb0 : bef s i = rd_T42 s (j : Int) := by rw [hj]; rfl
                obtain ⟨jj, hjj⟩ : ∃ jj : Int, (j : Int) = jj := ⟨_, rfl⟩
                rw [hjj] at hb0
                have hjw : IntKind.i64.wrap (ii - 1) = jj := by rw [i64_w]; unfold wrap64; have := HSL.out; have := HII.out; omega
                have hjw2 : wrap64 (ii - 1) = jj := (i64_w _).symm.trans hjw
                have p1 : (0 : Int) ≤ jj := by omega
                have q1 : jj < (s.length : Int) := by have := HII.out; have := HLI.out; omega
                obtain ⟨ad2, hA2, d0, d1, d2⟩ := at_T42 HC12.out jj p1 q1
                obtain rfl : ad = ad2 := by injection hA2
                replace p1 := eq_true p1
                replace q1 := eq_true q1
                rw [k1]
                clear hjj
                obtain ⟨y, hy⟩ : ∃ y, rd_T42 s jj = y := ⟨_, rfl⟩
                rw [hy] at d0 d1 d2 hb0
                have HB0 := Aside0.mk hb0
                clear hy hb0 hA2 cI
                have HJ := Aside0.mk hj
                clear hj
                have z0 : W2.cell? ⟨Bb, 0, none⟩ = some (.int .i64 0) := (blk_cell QB.out 0).trans rfl
                have z1 : W2.cell? ⟨Bb, 1, none⟩ = some (.int .i64 0) := (blk_cell QB.out 1).trans rfl
                have z2 : W2.cell? ⟨Bb, 2, none⟩ = some (.bool false) := (blk_cell QB.out 2).trans rfl
                have y0 := blk_frozen QB.out 0
                have y1 := blk_frozen QB.out 1
                have y2 := blk_frozen QB.out 2
                go_wp2
                go_meet
                case rel => exact ⟨by refine blk_far ?_ HLB.out _; refine blk_far ?_ HLB.out _; refine blk_far ?_ HLB.out _; exact QLL.out, by refine blk_far ?_ HXB1.out _; refine blk_far ?_ HXB1.out _; refine blk_far ?_ HXB1.out _; exact QX.out, by rw [HB0.out]; refine blk_put (cs := #[.int .i64 y.f0, .int .i64 y.f1, .bool false]) ?_ 2 _ rfl; refine blk_put (cs := #[.int .i64 y.f0, .int .i64 0, .bool false]) ?_ 1 _ rfl; refine blk_put (cs := #[.int .i64 0, .int .i64 0, .bool false]) ?_ 0 _ rfl; exact QB.out, by refine Below.setCell ?_ HBL.out _; refine Below.setCell ?_ HBL.out _; refine Below.setCell ?_ HBL.out _; exact BW.out, by simpa [World.setCell] using ZB.out⟩
              · have k1 : decide (0 < ii) = false := decide_eq_false cI
                have hi00 : i = 0 := by have := HII.out; omega
                have hb0 : bef s i = z42 := by rw [hi00]; rfl
                have HB0 := Aside0.mk hb0
                rw [k1]
                clear hb0 cI
                have HJ := Aside0.mk hi00
                clear hi00
                go_wp2
                go_meet
                case rel => exact ⟨QLL.out, QX.out, by rw [HB0.out]; exact QB.out, BW.out, ZB.out⟩
            case rest =>
            obtain ⟨r1, r2, r3, r4, r5⟩ := hcut
            have R1 := Aside0.mk r1
            have R2 := Aside0.mk r2
            have R3 := Aside0.mk r3
            have R4 := Aside0.mk r4
            have R5 := Aside0.mk r5
            clear r1 r2 r3 r4 r5 QLL QX QB BW ZB HC12 e0 e1 e2
            obtain ⟨b, hb⟩ : ∃ b, bef s i = b := ⟨_, rfl⟩
            rw [hb] at G1 G2 R3
            clear hb
            go_upto_region 16 with fail
            go_cut [138] (fun v138 wc => v138 = .bool false ∧ wc.heap[Bl]? = some (.cells #[.int .i64 (lx s a2 i).f0, .int .i64 (lx s a2 i).f1, .bool (lx s a2 i).f2] 42 (0, 0)) ∧ wc.heap[Bx]? = some (.cells #[.int .i64 x.f0, .int .i64 x.f1, .bool x.f2] 42 (0, 0)) ∧ Below Bl wd wc ∧ Bb < wc.heap.size)
            case first =>
              have x0 : wc.cell? ⟨Bx, 0, none⟩ = some (.int .i64 x.f0) := (blk_cell R2.out 0).trans rfl
              have x1 : wc.cell? ⟨Bx, 1, none⟩ = some (.int .i64 x.f1) := (blk_cell R2.out 1).trans rfl
              have x2 : wc.cell? ⟨Bx, 2, none⟩ = some (.bool x.f2) := (blk_cell R2.out 2).trans rfl
              have b0 : wc.cell? ⟨Bb, 0, none⟩ = some (.int .i64 b.f0) := (blk_cell R3.out 0).trans rfl
              have b1 : wc.cell? ⟨Bb, 1, none⟩ = some (.int .i64 b.f1) := (blk_cell R3.out 1).trans rfl
              have b2 : wc.cell? ⟨Bb, 2, none⟩ = some (.bool b.f2) := (blk_cell R3.out 2).trans rfl
              have E := Aside0.mk (show (0 < ii → decide (x.f0 ≤ b.f0) = false) from fun h => decide_eq_false (by have := G1.out (by have := HII.out; omega); omega))
              by_cases cI : 0 < ii
              · have k1 : decide (0 < ii) = true := decide_eq_true cI
                have k2 := E.out cI
                clear cI
                by_cases c1 : x.f1 = b.f1
                · have k3 : (x.f1 == b.f1) = true := by simpa using c1
                  have k4 : (x.f2 == b.f2) = false := by have := G2.out; simp [c1] at this ⊢; exact this
                  clear c1
                  cases hf : x.f2 with
                  | true =>
                    rw [hf] at x2 k4
                    go_wp2
                    go_meet
                    case rel => exact ⟨rfl, R1.out, R2.out, R4.out, R5.out⟩
                  | false =>
                    rw [hf] at x2 k4
                    have k5 : (x.f1 != 0) = false := by simp [G3.out hf]
                    go_wp2
                    go_meet
                    case rel => exact ⟨rfl, R1.out, R2.out, R4.out, R5.out⟩
                · have k3 : (x.f1 == b.f1) = false := by simpa using c1
                  clear c1
                  cases hf : x.f2 with
                  | true =>
                    rw [hf] at x2
                    go_wp2
                    go_meet
                    case rel => exact ⟨rfl, R1.out, R2.out, R4.out, R5.out⟩
                  | false =>
                    rw [hf] at x2
                    have k5 : (x.f1 != 0) = false := by simp [G3.out hf]
                    go_wp2
                    go_meet
                    case rel => exact ⟨rfl, R1.out, R2.out, R4.out, R5.out⟩
              · have k1 : decide (0 < ii) = false := decide_eq_false cI
                clear cI
                by_cases c1 : x.f1 = b.f1
                · have k3 : (x.f1 == b.f1) = true := by simpa using c1
                  have k4 : (x.f2 == b.f2) = false := by have := G2.out; simp [c1] at this ⊢; exact this
                  clear c1
                  cases hf : x.f2 with
                  | true =>
                    rw [hf] at x2 k4
                    go_wp2
                    go_meet
                    case rel => exact ⟨rfl, R1.out, R2.out, R4.out, R5.out⟩
                  | false =>
                    rw [hf] at x2 k4
                    have k5 : (x.f1 != 0) = false := by simp [G3.out hf]
                    go_wp2
                    go_meet
                    case rel => exact ⟨rfl, R1.out, R2.out, R4.out, R5.out⟩
                · have k3 : (x.f1 == b.f1) = false := by simpa using c1
                  clear c1
                  cases hf : x.f2 with
                  | true =>
                    rw [hf] at x2
                    go_wp2
                    go_meet
                    case rel => exact ⟨rfl, R1.out, R2.out, R4.out, R5.out⟩
                  | false =>
                    rw [hf] at x2
                    have k5 : (x.f1 != 0) = false := by simp [G3.out hf]
                    go_wp2
                    go_meet
                    case rel => exact ⟨rfl, R1.out, R2.out, R4.out, R5.out⟩
            case rest =>
            obtain ⟨rfl, r1, r2, r4, r5⟩ := hcut
            clear R1 R2 R3 R4 R5
            have R1 := Aside0.mk r1
            have R2 := Aside0.mk r2
            have R4 := Aside0.mk r4
            have R5 := Aside0.mk r5
            clear r1 r2 r4 r5
            go_wp2
            go_loopw [18, 141] (fun v18 v wq => ∃ j : Nat, j ≤ l0.length ∧ v18 = .bool (fnd (l0.take j) a1 a3 x.f0) ∧ v = .int .i64 j ∧ wq.heap[Bl]? = some (.cells #[.int .i64 (lx s a2 i).f0, .int .i64 (lx s a2 i).f1, .bool (lx s a2 i).f2] 42 (0, 0)) ∧ wq.heap[Bx]? = some (.cells #[.int .i64 x.f0, .int .i64 x.f1, .bool x.f2] 42 (0, 0)) ∧ Below Bl wd wq ∧ Bb < wq.heap.size) (fun _ v _ => l0.length - (intOf v).toNat)
            case atStart => exact ⟨0, by omega, rfl, rfl, R1.out, R2.out, R4.out, R5.out⟩
            case round =>
              obtain ⟨j, hj, rfl, rfl, r1, r2, r4, r5⟩ := hrel
              clear R1 R2 R4 R5
              have HCQ := Aside0.mk (later24 HD.out (by rw [HBl.out]; exact r4))
              have R1 := Aside0.mk r1
              have R2 := Aside0.mk r2
              have R4 := Aside0.mk r4
              have R5 := Aside0.mk r5
              clear r1 r2 r4 r5
              by_cases hjl : j < l0.length
              · have p1 : (0 : Int) ≤ (j : Int) := by omega
                have q1 : (j : Int) < (l0.length : Int) := by omega
                obtain ⟨ad2, hA2, d0, d1, d2, d3, d4, d5⟩ := at_T24 HCQ.out (j : Int) p1 q1
                subst hA2
                rw [Int.toNat_natCast] at d0 d1 d2 d3 d4 d5
                have hft := fnd_take l0 a1 a3 x.f0 j hjl
                rw [← rdAt l0 j hjl] at hft
                obtain ⟨y, hy⟩ : ∃ y, rd_T24 l0 (j : Int) = y := ⟨_, rfl⟩
                rw [hy] at d0 d1 d2 d3 d4 d5 hft
                clear hy
                have w1 := i64_succ j (by have := HL.out; omega)
                have w2 : wrap64 ((j : Int) + 1) = ((j + 1 : Nat) : Int) := (i64_w _).symm.trans w1
                have HFT := Aside0.mk hft
                have HJ := Aside0.mk hj
                clear hft hj
                have hbA : Below wr.heap.size wr (wr.alloc (.cells #[.int .i64 y.f0, .int .i64 y.f1, .int .i64 y.f2, .int .i64 y.f3, .int .i64 y.f4, .bool y.f5] 24)) := (Below.refl _ wr).alloc (Nat.le_refl _) _
                have N1 := Aside0.mk (blk_below R1.out hbA)
                have N2 := Aside0.mk (blk_below R2.out hbA)
                have N4 := Aside0.mk (R4.out.trans (hbA.mono (Nat.le_of_lt (Nat.lt_of_le_of_lt HBL.out R5.out))))
                have N5 := Aside0.mk (Nat.lt_of_lt_of_le R5.out hbA.size)
                have x0 : (wr.alloc (.cells #[.int .i64 y.f0, .int .i64 y.f1, .int .i64 y.f2, .int .i64 y.f3, .int .i64 y.f4, .bool y.f5] 24)).cell? ⟨Bx, 0, none⟩ = some (.int .i64 x.f0) := (blk_cell N2.out 0).trans rfl
                clear hbA R1 R2 R4 R5
                by_cases cf : fnd (l0.take j) a1 a3 x.f0 = true
                · have e : fnd (l0.take (j + 1)) a1 a3 x.f0 = true := by rw [HFT.out, cf, Bool.true_or]
                  have HE := Aside0.mk e
                  rw [cf]
                  clear e cf
                  go_wp2
                  go_roundw
                  case rel => exact ⟨j + 1, by omega, by rw [HE.out], by simp, N1.out, N2.out, N4.out, N5.out⟩
                  case measure => dsimp only [intOf]; omega
                · have cf' : fnd (l0.take j) a1 a3 x.f0 = false := by simpa using cf
                  have e0 := HFT.out
                  rw [cf', Bool.false_or] at e0
                  rw [cf']
                  clear cf cf'
                  by_cases c1 : y.f1 = x.f0
                  · have k1 : (y.f1 == x.f0) = true := by simpa using c1
                    rw [k1, Bool.true_and] at e0
                    by_cases c2 : y.f3 = a1
                    · have k2 : (y.f3 == a1) = true := by simpa using c2
                      rw [k2, Bool.true_and] at e0
                      have HE := Aside0.mk e0
                      clear e0 c1 c2
                      go_wp2
                      go_roundw
                      case rel => exact ⟨j + 1, by omega, by rw [HE.out], by simp, N1.out, N2.out, N4.out, N5.out⟩
                      case measure => dsimp only [intOf]; omega
                    · have k2 : (y.f3 == a1) = false := by simpa using c2
                      rw [k2, Bool.false_and] at e0
                      have HE := Aside0.mk e0
                      clear e0 c1 c2
                      go_wp2
                      go_roundw
                      case rel => exact ⟨j + 1, by omega, by rw [HE.out], by simp, N1.out, N2.out, N4.out, N5.out⟩
                      case measure => dsimp only [intOf]; omega
                  · have k1 : (y.f1 == x.f0) = false := by simpa using c1
                    rw [k1, Bool.false_and, Bool.false_and] at e0
                    have HE := Aside0.mk e0
                    clear e0 c1
                    go_wp2
                    go_roundw
                    case rel => exact ⟨j + 1, by omega, by rw [HE.out], by simp, N1.out, N2.out, N4.out, N5.out⟩
                    case measure => dsimp only [intOf]; omega
              · have ef : fnd (l0.take j) a1 a3 x.f0 = true := by rw [List.take_of_length_le (by omega)]; exact G4.out
                rw [ef]
                clear ef
                have x0 : wr.cell? ⟨Bx, 0, none⟩ = some (.int .i64 x.f0) := (blk_cell R2.out 0).trans rfl
                by_cases ct : x.f0 ≤ a2
                · have k1 : decide (x.f0 ≤ a2) = true := decide_eq_true ct
                  have hlx := HLX.out
                  rw [if_pos ct] at hlx
                  have HL2 := Aside0.mk hlx
                  clear hlx ct
                  have x1 : wr.cell? ⟨Bx, 1, none⟩ = some (.int .i64 x.f1) := (blk_cell R2.out 1).trans rfl
                  have x2 : wr.cell? ⟨Bx, 2, none⟩ = some (.bool x.f2) := (blk_cell R2.out 2).trans rfl
                  obtain ⟨m, hm⟩ : ∃ m, lx s a2 i = m := ⟨_, rfl⟩
                  rw [hm] at R1
                  clear hm
                  have z0 : wr.cell? ⟨Bl, 0, none⟩ = some (.int .i64 m.f0) := (blk_cell R1.out 0).trans rfl
                  have z1 : wr.cell? ⟨Bl, 1, none⟩ = some (.int .i64 m.f1) := (blk_cell R1.out 1).trans rfl
                  have z2 : wr.cell? ⟨Bl, 2, none⟩ = some (.bool m.f2) := (blk_cell R1.out 2).trans rfl
                  have y0 := blk_frozen R1.out 0
                  have y1 := blk_frozen R1.out 1
                  have y2 := blk_frozen R1.out 2
                  go_wp2
                  go_roundw
                  case rel => exact ⟨i + 1, HLT.out, by rw [← HII.out]; simp, by rw [HL2.out]; refine blk_put (cs := #[.int .i64 x.f0, .int .i64 x.f1, .bool m.f2]) ?_ 2 _ rfl; refine blk_put (cs := #[.int .i64 x.f0, .int .i64 m.f1, .bool m.f2]) ?_ 1 _ rfl; refine blk_put (cs := #[.int .i64 m.f0, .int .i64 m.f1, .bool m.f2]) ?_ 0 _ rfl; exact R1.out, by refine Below.setCell ?_ (Nat.le_refl Bl) _; refine Below.setCell ?_ (Nat.le_refl Bl) _; refine Below.setCell ?_ (Nat.le_refl Bl) _; exact R4.out, by simpa [World.setCell] using Nat.lt_of_le_of_lt HBL.out R5.out⟩
                  case measure => dsimp only [intOf]; have := HII.out; have := HLT.out; omega
                · have k1 : decide (x.f0 ≤ a2) = false := decide_eq_false ct
                  have hlx := HLX.out
                  rw [if_neg ct] at hlx
                  have HL2 := Aside0.mk hlx
                  clear hlx ct
                  go_wp2
                  go_roundw
                  case rel => exact ⟨i + 1, HLT.out, by rw [← HII.out]; simp, by rw [HL2.out]; exact R1.out, R4.out, Nat.lt_of_le_of_lt HBL.out R5.out⟩
                  case measure => dsimp only [intOf]; have := HII.out; have := HLT.out; omega
          · have hll := lx_last s a2 i hi
            rw [List.take_of_length_le (by omega), HV.out] at hll
            obtain ⟨hl1, hl2⟩ := Prod.mk.inj hll
            rw [← hl1, ← hl2] at hbl
            have f1 := (blk_cell hbl 1).trans rfl
            have f2 := (blk_cell hbl 2).trans rfl
            have BW := Aside0.mk (BD.out.trans (hbw.mono (by rw [← HBl.out]; exact BD.out.size)))
            clear hll hl1 hl2 hbl hbw
            go_wp2
            go_ret
            exact ⟨by simp, BW.out⟩
      · have ev : valueP l0 a1 a2 a3 = (0, false, 1) := by unfold valueP; rw [if_pos hr2.2, if_neg (fun h => h2 h.2.1)]
        rw [ev]
        rw [hs] at HS ⊢
        clear ev eh h1 hr2 hs
        dsimp only
        by_cases c : (s.length : Int) = 0
        · have kc : ((s.length : Int) == 0) = true := by simpa using c
          clear c h2
          go_wp2
          go_ret
          exact ⟨rfl, BD.out⟩
        · have kc : ((s.length : Int) == 0) = false := by simpa using c
          clear c
          by_cases c2 : a2 < 0
          · have k5 : decide (a2 < 0) = true := decide_eq_true c2
            clear c2 h2
            go_wp2
            go_ret
            exact ⟨rfl, BD.out⟩
          · have k5 : decide (a2 < 0) = false := decide_eq_false c2
            have k6 : decide (a2 ≥ 1099511627776) = true := decide_eq_true (by omega)
            clear c2 h2
            go_wp2
            go_ret
            exact ⟨rfl, BD.out⟩
    · have eh : historyP l0 a1 a3 = ([], 1) := by unfold historyP; rw [if_pos hr2.2, if_neg h1]
      have ev : valueP l0 a1 a2 a3 = (0, false, 1) := by unfold valueP; rw [if_pos hr2.2, if_neg (fun h => h1 ⟨h.1, h.2.2⟩)]
      rw [eh, ev]
      clear eh ev hr2 HS
      dsimp only
      by_cases c1 : a1 < 0
      · have k1 : decide (a1 < 0) = true := decide_eq_true c1
        clear c1 h1
        go_wp2
        go_ret
        exact ⟨rfl, BD.out⟩
      · have k1 : decide (a1 < 0) = false := decide_eq_false c1
        by_cases c2 : a1 > 1048576
        · have k2 : decide (a1 > 1048576) = true := decide_eq_true c2
          clear c1 c2 h1
          go_wp2
          go_ret
          exact ⟨rfl, BD.out⟩
        · have k2 : decide (a1 > 1048576) = false := decide_eq_false c2
          by_cases c3 : a3 < 0
          · have k3 : decide (a3 < 0) = true := decide_eq_true c3
            clear c1 c2 c3 h1
            go_wp2
            go_ret
            exact ⟨rfl, BD.out⟩
          · have k3 : decide (a3 < 0) = false := decide_eq_false c3
            have k4 : decide (a3 ≥ 1099511627776) = true := decide_eq_true (by omega)
            clear c1 c2 c3 h1
            go_wp2
            go_ret
            exact ⟨rfl, BD.out⟩
end
end Go.Proofs.Ytnahfhbnfidanaa.Q
