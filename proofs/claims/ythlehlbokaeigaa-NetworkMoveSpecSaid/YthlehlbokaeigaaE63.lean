import Derived.Test.YthlehlbokaeigaaQ
import Derived.Test.YthlehlbokaeigaaE48
import Derived.Test.YthlehlbokaeigaaE50
namespace Go.Proofs.Ythlehlbokaeigaa.Q
open Go.RowKit Go.Proofs.YthlehlbokaeigaaW.PrintWords Go.Proofs.YthlehlbokaeigaaW.PrintLast Go.Proofs.YthlehlbokaeigaaW.PrintMore
set_option linter.unusedVariables false
set_option linter.unusedSimpArgs false
theorem keepOut {α : Type} {d : Kd α} {e b g h n : Nat} {W : World} {v : Value} {xs : List α} (hV : Kd.V d e W b (fun k => ((k ≠ g ∧ k ≠ h) ∨ (k ≠ g ∧ k ≠ h)) ∨ n ≤ k) v xs) (hg : g < n) (hh : h < n) : Kd.V d e W 0 (fun k => k ≠ g ∧ k ≠ h) v xs :=
  Kd.V_map hV (fun _ hF => Kd.F_mono hF (fun k hk => by
    rcases hk with (h1 | h1) | h1
    · exact h1
    · exact h1
    · exact ⟨by omega, by omega⟩))
set_option maxHeartbeats 20000000 in
set_option maxRecDepth 100000 in
theorem NetworkMoveSpec.calls (n0 : List S28) (n1 : List S55) (An0 : Option Addr) (cn0 : Nat) (An1 : Option Addr) (cn1 : Nat) (at_ : Int) (hat : (Lit.int .i64 at_).wf = true) (a : Int) (ha : (Lit.int .i64 a).wf = true) (b : Int) (hb : (Lit.int .i64 b).wf = true) (on : Bool) (w : World)
    (Vn0 : Kd.V k28 28 w 0 (fun _ => True) (.slice An0 n0.length cn0) n0) (Vn1 : Kd.V k55 55 w 0 (fun _ => True) (.slice An1 n1.length cn1) n1) :
    Calls Try.prog 6 #[.agg #[.slice An0 n0.length cn0, .slice An1 n1.length cn1], .int .i64 at_, .int .i64 a, .int .i64 b, .bool on] w fun e w' => e = .returned (.bool true) ∧ Below w.heap.size w w' := by
  have hu25 := Try.underlying25
  have hu28 := Try.underlying28
  clear hat ha hb
  by_cases hq : n0.length ≤ 40 ∧ n1.length ≤ 40
  · have hfew : signatoryref06_Few.f n0 n1 = some true := by
      unfold signatoryref06_Few.f
      rw [if_pos (by omega), decide_eq_true (by omega)]
    obtain ⟨hq0, hq1⟩ := hq
    obtain ⟨k, hk0⟩ : ∃ k : Nat, k = 3000 := ⟨_, rfl⟩
    have hk : 3000 ≤ k := by omega
    clear hk0
    have Vw0 := Vn0
    have Vw1 := Vn1
    obtain ⟨xq, xa, xe, hX, hY, hE⟩ := cutM_plain n0 n1 hq0 hq1 k hk a b on
    go_enter Try.func6, Try.ntmps6
    have HB := Below.refl w.heap.size w
    have hba := (Below.refl _ w).alloc (Nat.le_refl _) (.cells #[.slice An0 n0.length cn0, .slice An1 n1.length cn1] 25)
    replace HB := below_step HB hba
    replace Vn0 := Kd.V_below Vn0 hba
    replace Vn1 := Kd.V_below Vn1 hba
    have B5 := World.alloc_heap_new w (.cells #[.slice An0 n0.length cn0, .slice An1 n1.length cn1] 25)
    clear hba
    go_wp2_with fail
    generalize w.alloc (.cells #[.slice An0 n0.length cn0, .slice An1 n1.length cn1] 25) = w1 at *
    refine (sane_ok w1).mono ?_
    rintro e w2 ⟨rfl, hb⟩
    replace HB := below_step HB hb
    replace Vn0 := Kd.V_below Vn0 hb
    replace Vn1 := Kd.V_below Vn1 hb
    replace B5 := blk_below B5 hb
    clear hb
    dsimp only
    have x5_0 := (blk_cell B5 0).trans rfl
    have x5_1 := (blk_cell B5 1).trans rfl
    go_wp2_with fail
    clear x5_0 x5_1
    refine (signatoryref06_Few.calls An0 cn0 n0 An1 cn1 n1 true w2 (Kd.V_reads' Vn0).2.2 (Kd.V_reads' Vn0).2.1 (Kd.V_reads' Vn1).2.2 (Kd.V_reads' Vn1).2.1 hfew).mono ?_
    rintro e w3 ⟨rfl, hb⟩
    replace HB := below_step HB hb
    replace Vn0 := Kd.V_below Vn0 hb
    replace Vn1 := Kd.V_below Vn1 hb
    replace B5 := blk_below B5 hb
    clear hb
    dsimp only
    have x5_0 := (blk_cell B5 0).trans rfl
    have x5_1 := (blk_cell B5 1).trans rfl
    go_wp2_with fail
    clear x5_0 x5_1
    refine (network_Cut.calls k (fun _ => True) An0 cn0 n0 An1 cn1 n1 a b on xq xa xe w3 Vn0 (Kd.V_reads' Vn1).2.2 (Kd.V_reads' Vn1).2.1 hX).mono ?_
    rintro e w4 ⟨v0, v1, rfl, Vx0, Vx1, hb⟩
    replace HB := below_step HB hb
    replace Vn0 := Kd.V_below Vn0 hb
    replace Vn1 := Kd.V_below Vn1 hb
    replace B5 := blk_below B5 hb
    replace Vx1 := Kd.R_V (base' := 0) Vx1
    clear hb
    replace Vx0 := Vt Vx0
    obtain ⟨Ax0, cx0, rfl⟩ := Kd.V_slice Vx0
    replace Vx1 := Vt Vx1
    obtain ⟨Ax1, cx1, rfl⟩ := Kd.V_slice Vx1
    dsimp only
    have hba := (Below.refl _ w4).alloc (Nat.le_refl _) (.cells #[.slice Ax0 xq.length cx0, .slice Ax1 xa.length cx1] 25)
    replace HB := below_step HB hba
    replace Vn0 := Kd.V_below Vn0 hba
    replace Vn1 := Kd.V_below Vn1 hba
    replace B5 := blk_below B5 hba
    replace Vx0 := Kd.V_below Vx0 hba
    replace Vx1 := Kd.V_below Vx1 hba
    have B11 := World.alloc_heap_new w4 (.cells #[.slice Ax0 xq.length cx0, .slice Ax1 xa.length cx1] 25)
    clear hba
    have x5_0 := (blk_cell B5 0).trans rfl
    have x5_1 := (blk_cell B5 1).trans rfl
    go_wp2_with fail
    clear x5_0 x5_1
    generalize w4.alloc (.cells #[.slice Ax0 xq.length cx0, .slice Ax1 xa.length cx1] 25) = w5 at *
    refine (signatoryref06_Cut.calls k (fun _ => True) An0 cn0 n0 An1 cn1 n1 a b on xq xa xe w5 Vn0 (Kd.V_reads' Vn1).2.2 (Kd.V_reads' Vn1).2.1 hY).mono ?_
    rintro e w6 ⟨v0, v1, rfl, Vy0, Vy1, hb⟩
    replace HB := below_step HB hb
    replace Vn0 := Kd.V_below Vn0 hb
    replace Vn1 := Kd.V_below Vn1 hb
    replace B5 := blk_below B5 hb
    replace Vx0 := Kd.V_below Vx0 hb
    replace Vx1 := Kd.V_below Vx1 hb
    replace B11 := blk_below B11 hb
    replace Vy1 := Kd.R_V (base' := 0) Vy1
    clear hb
    replace Vy0 := Vt Vy0
    obtain ⟨Ay0, cy0, rfl⟩ := Kd.V_slice Vy0
    replace Vy1 := Vt Vy1
    obtain ⟨Ay1, cy1, rfl⟩ := Kd.V_slice Vy1
    dsimp only
    have hba := (Below.refl _ w6).alloc (Nat.le_refl _) (.cells #[.slice Ay0 xq.length cy0, .slice Ay1 xa.length cy1] 25)
    replace HB := below_step HB hba
    replace Vn0 := Kd.V_below Vn0 hba
    replace Vn1 := Kd.V_below Vn1 hba
    replace B5 := blk_below B5 hba
    replace Vx0 := Kd.V_below Vx0 hba
    replace Vx1 := Kd.V_below Vx1 hba
    replace B11 := blk_below B11 hba
    replace Vy0 := Kd.V_below Vy0 hba
    replace Vy1 := Kd.V_below Vy1 hba
    have B13 := World.alloc_heap_new w6 (.cells #[.slice Ay0 xq.length cy0, .slice Ay1 xa.length cy1] 25)
    clear hba
    have x11_0 := (blk_cell B11 0).trans rfl
    have x11_1 := (blk_cell B11 1).trans rfl
    have x13_0 := (blk_cell B13 0).trans rfl
    have x13_1 := (blk_cell B13 1).trans rfl
    go_wp2_with fail
    clear x11_0 x11_1
    clear x13_0 x13_1
    generalize w6.alloc (.cells #[.slice Ay0 xq.length cy0, .slice Ay1 xa.length cy1] 25) = w7 at *
    refine (signatoryref06_Same.calls k Ax0 cx0 xq Ax1 cx1 xa Ay0 cy0 xq Ay1 cy1 xa true w7 (Kd.V_reads' Vx0).2.2 (Kd.V_reads' Vx0).2.1 (Kd.V_reads' Vx1).2.2 (Kd.V_reads' Vx1).2.1 (Kd.V_reads' Vy0).2.2 (Kd.V_reads' Vy0).2.1 (Kd.V_reads' Vy1).2.2 (Kd.V_reads' Vy1).2.1 hE).mono ?_
    rintro e w8 ⟨rfl, hb⟩
    replace HB := below_step HB hb
    replace Vn0 := Kd.V_below Vn0 hb
    replace Vn1 := Kd.V_below Vn1 hb
    replace B5 := blk_below B5 hb
    replace Vx0 := Kd.V_below Vx0 hb
    replace Vx1 := Kd.V_below Vx1 hb
    replace B11 := blk_below B11 hb
    replace Vy0 := Kd.V_below Vy0 hb
    replace Vy1 := Kd.V_below Vy1 hb
    replace B13 := blk_below B13 hb
    clear hb
    dsimp only
    clear Vx0 Vx1 Vy0 Vy1 B11 B13
    have HB0 := HB
    clear Vn0 Vn1
    go_upto_block 0 with (first | ((with_reducible refine gate_dst (N := 56) rfl ?_); refine Kd.R_lit (Kd.int .i64) _ 3 ?hg (N := 56) ?hd (xs := ([at_] : List Int)) (inner := [.int .i64 at_]) (ok := fun _ => True) (okp := fun _ => True) ?hr ?hp (fun _ hk => hk) trivial (Below.refl _ _) (Nat.le_refl _) (by simp) ?_; (case hd => rfl); (case hg => rfl); (case hr => first | (go_simp; done) | (go_simp; rfl)); (case hp => exact (Reps.one (show Kd.M (Kd.int .i64) _ _ _ at_ [.int .i64 at_] from rfl) (Reps.none _ _))); intro v356 w49 ho50 hb hg_ hnew_; clear hg_ hnew_; have HO := Kd.R_lower ho50 HB.size; replace B5 := blk_below B5 hb; replace HB := below_step HB hb; clear ho50 hb))
    (try simp only [Act.put, List.setIfInBounds_toArray, List.set_cons_zero, List.set_cons_succ])
    go_cut [15] (fun v15 wc => ∃ xs : List Int, xs.length ≤ 4 ∧ Kd.R (Kd.int .i64) 3 wc w.heap.size (fun _ => True) v15 xs ∧ wc.heap[w.heap.size]? = some (.cells #[.slice An0 n0.length cn0, .slice An1 n1.length cn1] 25 (0, 0)) ∧ Below w.heap.size w wc)
    case first =>
      go_wp2
      go_loopw [15, 16] (fun v15 v16 w' => ∃ (xs : List Int) (ii : Int), 0 ≤ ii ∧ ii ≤ 3 ∧ xs.length = ii.toNat + 1 ∧ v16 = .int .i64 ii ∧ Kd.R (Kd.int .i64) 3 w' w.heap.size (fun _ => True) v15 xs ∧ w'.heap[w.heap.size]? = some (.cells #[.slice An0 n0.length cn0, .slice An1 n1.length cn1] 25 (0, 0)) ∧ Below w.heap.size w w') (fun _ v _ => 3 - (intOf v).toNat)
      case atStart => exact ⟨[at_], 0, by omega, by omega, rfl, rfl, HO, B5, HB⟩
      case round =>
        clear HO B5 HB
        obtain ⟨xs, ii, i0, i3, hxl, rfl, HO, B5, HB⟩ := hrel
        have hiw : IntKind.i64.wrap (ii + 1) = ii + 1 := by rw [i64_w]; unfold wrap64; omega
        have hiw2 : wrap64 (ii + 1) = ii + 1 := (i64_w _).symm.trans hiw
        have x5_0 := (blk_cell B5 0).trans rfl
        have x5_1 := (blk_cell B5 1).trans rfl
        by_cases c1 : ii < (n0.length : Int)
        · have k1 : decide (ii < (n0.length : Int)) = true := decide_eq_true c1
          by_cases c2 : ii < 3
          · have k2 : decide (ii < 3) = true := decide_eq_true c2
            clear c1
            go_wp2_with (first | ((with_reducible refine gate_builtin (b := .append) (xs := #[.tmp 68, .tmp 70]) rfl ?_); at_builtin; refine Kd.R_append (Kd.int .i64) (w0 := w) w.heap.size rfl (.tmp 68) (.tmp 70) 45 3 (.int .i64 0) 8 rfl Try.underlying45 info3 rfl (by decide) (by omega) u15 xs ii [.int .i64 ii] (fun _ => True) (fun _ => False) rfl rfl ?aP (fun _ hk => hk.elim) ?aF ?aO ?aB ?aS ?aL ?_; (case aP => exact rfl); (case aB => exact (by repeat (first | (with_reducible first | exact HB | apply below_alloc | apply below_drew1 | apply pw_below_drewN) | exact HB))); (case aF => exact (fun _ _ => trivial)); (case aO => exact (by (with_reducible repeat (first | apply Kd.R_alloc | apply Kd.R_drewN | apply Kd.R_drew)); exact HO)); (case aS => exact (below_size (by repeat (first | (with_reducible first | exact HB | apply below_alloc | apply below_drew1 | apply pw_below_drewN) | exact HB)))); (case aL => omega); intro v359 w57 ho hb hg hat; have n4_ := blk_grown (g := w.heap.size) (by (with_reducible repeat (first | refine blk_drewN ?_ _ | refine blk_drew ?_ | refine blk_alloc ?_ _)); exact B5) hg (Kd.R_ne HO B5 (by decide)); clear HO B5 HB x5_0 x5_1; have HO := ho; have B5 := n4_; have HB := hb; clear ho hb hg hat n4_))
            go_roundw
            case rel => exact ⟨xs ++ [ii], ii + 1, by omega, by omega, by simp; omega, rfl, HO, B5, HB⟩
            case measure => dsimp only [intOf]; omega
          · have k2 : decide (ii < 3) = false := decide_eq_false c2
            clear c1 c2
            go_wp2
            go_meet
            case rel => exact ⟨xs, by omega, HO, B5, HB⟩
        · have k1 : decide (ii < (n0.length : Int)) = false := decide_eq_false c1
          clear c1
          go_wp2
          go_meet
          case rel => exact ⟨xs, by omega, HO, B5, HB⟩
    case rest =>
    clear HO B5 HB
    obtain ⟨xs, hxl, HO, B5, HB⟩ := hcut
    obtain ⟨Ao, co, eo⟩ := Kd.R_slice HO
    subst eo
    have HC := (Kd.R_reads' HO).2.2
    clear HO
    have hBw : w.heap.size < wc.heap.size := blk_lt B5
    have Vn0 := Kd.V_below Vw0 HB
    have Vn1 := Kd.V_below Vw1 HB
    have HBw := Aside0.mk HB
    have HCL := Aside0.mk HC
    have B5L := Aside0.mk B5
    have VL0 := Aside0.mk (Kd.V_bound Vn0)
    have VL1 := Aside0.mk (Kd.V_bound Vn1)
    clear HB HC B5 Vn0 Vn1 HB0
    go_wp2
    go_loopw [74] (fun v w' => ∃ jj : Int, 0 ≤ jj ∧ jj ≤ (xs.length : Int) ∧ v = .int .i64 jj ∧ Below wc.heap.size wc w') (fun v _ => xs.length - (intOf v).toNat)
    case atStart => exact ⟨0, by omega, by omega, rfl, Below.refl _ _⟩
    case round =>
      obtain ⟨jj, j0, jl, rfl, HB⟩ := hrel
      by_cases c1 : jj < (xs.length : Int)
      · have hjw : IntKind.i64.wrap (jj + 1) = jj + 1 := by rw [i64_w]; unfold wrap64; omega
        have hjw2 : wrap64 (jj + 1) = jj + 1 := (i64_w _).symm.trans hjw
        have k1 : decide (jj < (xs.length : Int)) = true := decide_eq_true c1
        have HCr : Kd.C (Kd.int .i64) wr Ao xs.length xs := (Kd.heap_int .i64).C (fun i hi => HB.block i hi) HCL.out
        obtain ⟨ad, eA, e0⟩ := Kd.at_int HCr jj j0 c1
        subst eA
        obtain ⟨x, hx⟩ : ∃ x, rd xs jj = x := ⟨_, rfl⟩
        rw [hx] at e0
        clear hx HCr
        obtain ⟨d0, d1, d2, dq, da, de, lq, la, le, rq, ra, re, hD1, hD2, hL1, hL2, hR1, hR2, hS, hSd, hSl, hSr⟩ := move_plain n0 n1 hq0 hq1 k hk x
        have j1 := eq_true j0
        have c1' := eq_true c1
        have B5 := blk_below B5L.out HB
        have x5_0 := (blk_cell B5 0).trans rfl
        have x5_1 := (blk_cell B5 1).trans rfl
        go_upto_region 17 with fail
        go_wp2_with fail
        clear x5_0 x5_1
        clear B5
        refine (network_Deliver.calls k (fun _ => True) An0 cn0 n0 (fun _ => True) An1 cn1 n1 x d0 d1 d2 dq da de wr (Kd.V_below (Vt VL0.out) HB) (Kd.V_below (Vt VL1.out) HB) hD1).mono ?_
        rintro e w1 ⟨v2, v3, v4, rfl, V2, V3, V4, hb⟩
        have Vp2 := Vt (V2)
        clear V2
        obtain ⟨Ap2, cp2, rfl⟩ := Kd.V_slice Vp2
        have Vp3 := Vt (V3)
        clear V3
        obtain ⟨Ap3, cp3, rfl⟩ := Kd.V_slice Vp3
        have Vp4 := Vt (V4)
        clear V4
        obtain ⟨Ap4, cp4, rfl⟩ := Kd.V_slice Vp4
        replace HB := HB.trans (hb.mono HB.size)
        clear hb
        dsimp only
        go_upto_region 18 with fail
        have hb1 : Below w1.heap.size w1 ((w1.alloc (.cells #[.int .i64 d0, .int .i64 d1, .slice Ap2 d2.length cp2] 28)).alloc (.cells #[.slice Ap3 dq.length cp3, .slice Ap4 da.length cp4] 25)) := ((Below.refl _ w1).alloc (Nat.le_refl _) _).alloc (Nat.le_of_lt (by simp)) _
        have B19 : ((w1.alloc (.cells #[.int .i64 d0, .int .i64 d1, .slice Ap2 d2.length cp2] 28)).alloc (.cells #[.slice Ap3 dq.length cp3, .slice Ap4 da.length cp4] 25)).heap[w1.heap.size]? = some (.cells #[.int .i64 d0, .int .i64 d1, .slice Ap2 d2.length cp2] 28 (0, 0)) := blk_alloc (World.alloc_heap_new w1 _) _
        have B20 : ((w1.alloc (.cells #[.int .i64 d0, .int .i64 d1, .slice Ap2 d2.length cp2] 28)).alloc (.cells #[.slice Ap3 dq.length cp3, .slice Ap4 da.length cp4] 25)).heap[w1.heap.size + 1]? = some (.cells #[.slice Ap3 dq.length cp3, .slice Ap4 da.length cp4] 25 (0, 0)) := by have h_ := World.alloc_heap_new (w1.alloc (.cells #[.int .i64 d0, .int .i64 d1, .slice Ap2 d2.length cp2] 28)) (.cells #[.slice Ap3 dq.length cp3, .slice Ap4 da.length cp4] 25); rw [World.size_alloc] at h_; exact h_
        have G20 : wc.heap.size ≤ w1.heap.size + 1 := Nat.le_succ_of_le HB.size
        replace HB := HB.trans (hb1.mono HB.size)
        replace Vp2 := Kd.V_below Vp2 hb1
        replace Vp3 := Kd.V_below Vp3 hb1
        replace Vp4 := Kd.V_below Vp4 hb1
        clear hb1
        generalize ((w1.alloc (.cells #[.int .i64 d0, .int .i64 d1, .slice Ap2 d2.length cp2] 28)).alloc (.cells #[.slice Ap3 dq.length cp3, .slice Ap4 da.length cp4] 25)) = w2 at *
        obtain ⟨g20, hg20⟩ : ∃ g, w1.heap.size + 1 = g := ⟨_, rfl⟩
        rw [hg20]
        rw [hg20] at B20 G20
        obtain ⟨g19, hg19⟩ : ∃ g, w1.heap.size = g := ⟨_, rfl⟩
        rw [hg19]
        rw [hg19] at B19
        have L20 : g20 < w2.heap.size := blk_lt B20
        have B5 := blk_below B5L.out HB
        have x5_0 := (blk_cell B5 0).trans rfl
        have x5_1 := (blk_cell B5 1).trans rfl
        go_wp2_with fail
        clear x5_0 x5_1
        clear B5
        refine (signatoryref06_Deliver.calls k (fun _ => True) An0 cn0 n0 (fun _ => True) An1 cn1 n1 x d0 d1 d2 dq da de w2 (Kd.V_below (Vt VL0.out) HB) (Kd.V_below (Vt VL1.out) HB) hD2).mono ?_
        rintro e w3 ⟨v2, v3, v4, rfl, V2, V3, V4, hb⟩
        have Vq2 := Vt (V2)
        clear V2
        obtain ⟨Aq2, cq2, rfl⟩ := Kd.V_slice Vq2
        have Vq3 := Vt (Kd.N_V (base' := 0) V3)
        clear V3
        obtain ⟨Aq3, cq3, rfl⟩ := Kd.V_slice Vq3
        have Vq4 := Vt (V4)
        clear V4
        obtain ⟨Aq4, cq4, rfl⟩ := Kd.V_slice Vq4
        replace HB := HB.trans (hb.mono HB.size)
        replace Vp2 := Kd.V_below Vp2 hb
        replace Vp3 := Kd.V_below Vp3 hb
        replace Vp4 := Kd.V_below Vp4 hb
        replace B19 := blk_below B19 hb
        replace B20 := blk_below B20 hb
        clear hb
        dsimp only
        go_upto_region 19 with fail
        have hb1 : Below w3.heap.size w3 ((w3.alloc (.cells #[.int .i64 d0, .int .i64 d1, .slice Aq2 d2.length cq2] 28)).alloc (.cells #[.slice Aq3 dq.length cq3, .slice Aq4 da.length cq4] 25)) := ((Below.refl _ w3).alloc (Nat.le_refl _) _).alloc (Nat.le_of_lt (by simp)) _
        have hlt20 := blk_lt B20
        have B22 : ((w3.alloc (.cells #[.int .i64 d0, .int .i64 d1, .slice Aq2 d2.length cq2] 28)).alloc (.cells #[.slice Aq3 dq.length cq3, .slice Aq4 da.length cq4] 25)).heap[w3.heap.size]? = some (.cells #[.int .i64 d0, .int .i64 d1, .slice Aq2 d2.length cq2] 28 (0, 0)) := blk_alloc (World.alloc_heap_new w3 _) _
        have B23 : ((w3.alloc (.cells #[.int .i64 d0, .int .i64 d1, .slice Aq2 d2.length cq2] 28)).alloc (.cells #[.slice Aq3 dq.length cq3, .slice Aq4 da.length cq4] 25)).heap[w3.heap.size + 1]? = some (.cells #[.slice Aq3 dq.length cq3, .slice Aq4 da.length cq4] 25 (0, 0)) := by have h_ := World.alloc_heap_new (w3.alloc (.cells #[.int .i64 d0, .int .i64 d1, .slice Aq2 d2.length cq2] 28)) (.cells #[.slice Aq3 dq.length cq3, .slice Aq4 da.length cq4] 25); rw [World.size_alloc] at h_; exact h_
        have G23 : wc.heap.size ≤ w3.heap.size + 1 := Nat.le_succ_of_le HB.size
        replace HB := HB.trans (hb1.mono HB.size)
        replace Vp2 := Kd.V_below Vp2 hb1
        replace Vp3 := Kd.V_below Vp3 hb1
        replace Vp4 := Kd.V_below Vp4 hb1
        replace B19 := blk_below B19 hb1
        replace B20 := blk_below B20 hb1
        replace Vq2 := Kd.V_below Vq2 hb1
        replace Vq3 := Kd.V_below Vq3 hb1
        replace Vq4 := Kd.V_below Vq4 hb1
        clear hb1
        generalize ((w3.alloc (.cells #[.int .i64 d0, .int .i64 d1, .slice Aq2 d2.length cq2] 28)).alloc (.cells #[.slice Aq3 dq.length cq3, .slice Aq4 da.length cq4] 25)) = w4 at *
        have hne : g20 ≠ w3.heap.size + 1 := by omega
        clear hlt20
        obtain ⟨g23, hg23⟩ : ∃ g, w3.heap.size + 1 = g := ⟨_, rfl⟩
        rw [hg23]
        rw [hg23] at B23 G23 hne
        obtain ⟨g22, hg22⟩ : ∃ g, w3.heap.size = g := ⟨_, rfl⟩
        rw [hg22]
        rw [hg22] at B22
        have x19_0 := (blk_cell B19 0).trans rfl
        have x19_1 := (blk_cell B19 1).trans rfl
        have x19_2 := (blk_cell B19 2).trans rfl
        have x22_0 := (blk_cell B22 0).trans rfl
        have x22_1 := (blk_cell B22 1).trans rfl
        have x22_2 := (blk_cell B22 2).trans rfl
        go_wp2_with fail
        clear x19_0 x19_1 x19_2
        clear x22_0 x22_1 x22_2
        refine (signatoryref06_SamePacket.calls d0 d1 Ap2 cp2 d2 d0 d1 Aq2 cq2 d2 true w4 (Kd.V_reads' Vp2).2.2 (Kd.V_reads' Vp2).2.1 (Kd.V_reads' Vq2).2.2 (Kd.V_reads' Vq2).2.1 hS).mono ?_
        rintro e w5 ⟨rfl, hb⟩
        replace HB := HB.trans (hb.mono HB.size)
        replace Vp2 := Kd.V_below Vp2 hb
        replace Vp3 := Kd.V_below Vp3 hb
        replace Vp4 := Kd.V_below Vp4 hb
        replace B19 := blk_below B19 hb
        replace B20 := blk_below B20 hb
        replace Vq2 := Kd.V_below Vq2 hb
        replace Vq3 := Kd.V_below Vq3 hb
        replace Vq4 := Kd.V_below Vq4 hb
        replace B22 := blk_below B22 hb
        replace B23 := blk_below B23 hb
        clear hb
        dsimp only
        have x20_0 := (blk_cell B20 0).trans rfl
        have x20_1 := (blk_cell B20 1).trans rfl
        have x23_0 := (blk_cell B23 0).trans rfl
        have x23_1 := (blk_cell B23 1).trans rfl
        go_wp2_with fail
        clear x20_0 x20_1
        clear x23_0 x23_1
        refine (signatoryref06_Same.calls k Ap3 cp3 dq Ap4 cp4 da Aq3 cq3 dq Aq4 cq4 da true w5 (Kd.V_reads' Vp3).2.2 (Kd.V_reads' Vp3).2.1 (Kd.V_reads' Vp4).2.2 (Kd.V_reads' Vp4).2.1 (Kd.V_reads' Vq3).2.2 (Kd.V_reads' Vq3).2.1 (Kd.V_reads' Vq4).2.2 (Kd.V_reads' Vq4).2.1 hSd).mono ?_
        rintro e w6 ⟨rfl, hb⟩
        replace HB := HB.trans (hb.mono HB.size)
        replace Vp2 := Kd.V_below Vp2 hb
        replace Vp3 := Kd.V_below Vp3 hb
        replace Vp4 := Kd.V_below Vp4 hb
        replace B19 := blk_below B19 hb
        replace B20 := blk_below B20 hb
        replace Vq2 := Kd.V_below Vq2 hb
        replace Vq3 := Kd.V_below Vq3 hb
        replace Vq4 := Kd.V_below Vq4 hb
        replace B22 := blk_below B22 hb
        replace B23 := blk_below B23 hb
        clear hb
        dsimp only
        clear Vp2 Vp3 Vp4 Vq2 Vq3 Vq4 B19 B22
        have N0 : g20 ≠ g23 := hne
        have N1 : g23 ≠ g20 := hne.symm
        have VO0 : Kd.V k28 28 wc 0 (fun k_ => k_ ≠ g20 ∧ k_ ≠ g23) (.slice An0 n0.length cn0) n0 := Kd.V_mono VL0.out (fun k_ hk_ => ⟨by have := hk_.2; omega, by have := hk_.2; omega⟩)
        have VO1 : Kd.V k55 55 wc 0 (fun k_ => k_ ≠ g20 ∧ k_ ≠ g23) (.slice An1 n1.length cn1) n1 := Kd.V_mono VL1.out (fun k_ hk_ => ⟨by have := hk_.2; omega, by have := hk_.2; omega⟩)
        go_upto_region 21 with fail
        have B5 := blk_below B5L.out HB
        have x5_0 := (blk_cell B5 0).trans rfl
        have x5_1 := (blk_cell B5 1).trans rfl
        go_wp2_with fail
        clear x5_0 x5_1
        clear B5
        have L20 := blk_lt B20
        have L23 := blk_lt B23
        refine (network_Lose.calls k (fun k_ => k_ ≠ g20 ∧ k_ ≠ g23) An0 cn0 n0 (fun k_ => k_ ≠ g20 ∧ k_ ≠ g23) An1 cn1 n1 x lq la le w6 (Kd.V_below VO0 HB) (Kd.V_below VO1 HB) hL1).mono ?_
        rintro e w7 ⟨v0, v1, rfl, V0, V1, hb⟩
        have Vs00 := keepOut V0 L20 L23
        have Vs01 := keepOut V1 L20 L23
        clear V0 V1 L20 L23
        obtain ⟨As00, cs00, rfl⟩ := Kd.V_slice Vs00
        obtain ⟨As01, cs01, rfl⟩ := Kd.V_slice Vs01
        replace HB := HB.trans (hb.mono HB.size)
        replace B20 := blk_below B20 hb
        replace B23 := blk_below B23 hb
        clear hb
        dsimp only
        have z0 := (blk_cell B20 0).trans rfl
        have y0 := blk_frozen B20 0
        have z1 := (blk_cell B20 1).trans rfl
        have y1 := blk_frozen B20 1
        go_upto_region 22 with fail
        clear z0 z1 y0 y1
        have HB2 : Below wc.heap.size wc ((w7.setCell ⟨g20, 0, none⟩ (.slice As00 lq.length cs00)).setCell ⟨g20, 1, none⟩ (.slice As01 la.length cs01)) := below_set (below_set HB G20) G20
        clear HB
        have HB := HB2
        clear HB2
        have Bn : ((w7.setCell ⟨g20, 0, none⟩ (.slice As00 lq.length cs00)).setCell ⟨g20, 1, none⟩ (.slice As01 la.length cs01)).heap[g20]? = some (.cells #[.slice As00 lq.length cs00, .slice As01 la.length cs01] 25 (0, 0)) := blk_put (blk_put B20 0 _ rfl) 1 _ rfl
        have Bm := blk_far (p := ⟨g20, 1, none⟩) (blk_far (p := ⟨g20, 0, none⟩) B23 N1 (.slice As00 lq.length cs00)) N1 (.slice As01 la.length cs01)
        replace Vs00 := Kd.V_far (p := ⟨g20, 1, none⟩) (Kd.V_far (p := ⟨g20, 0, none⟩) Vs00 (fun _ hk => hk.1) (.slice As00 lq.length cs00)) (fun _ hk => hk.1) (.slice As01 la.length cs01)
        replace Vs01 := Kd.V_far (p := ⟨g20, 1, none⟩) (Kd.V_far (p := ⟨g20, 0, none⟩) Vs01 (fun _ hk => hk.1) (.slice As00 lq.length cs00)) (fun _ hk => hk.1) (.slice As01 la.length cs01)
        clear B20 B23
        have B20 := Bn
        have B23 := Bm
        clear Bn Bm
        generalize ((w7.setCell ⟨g20, 0, none⟩ (.slice As00 lq.length cs00)).setCell ⟨g20, 1, none⟩ (.slice As01 la.length cs01)) = w8 at *
        have B5 := blk_below B5L.out HB
        have x5_0 := (blk_cell B5 0).trans rfl
        have x5_1 := (blk_cell B5 1).trans rfl
        go_wp2_with fail
        clear x5_0 x5_1
        clear B5
        have L20 := blk_lt B20
        have L23 := blk_lt B23
        refine (signatoryref06_Lose.calls k (fun k_ => k_ ≠ g20 ∧ k_ ≠ g23) An0 cn0 n0 (fun k_ => k_ ≠ g20 ∧ k_ ≠ g23) An1 cn1 n1 x lq la le w8 (Kd.V_below VO0 HB) (Kd.V_below VO1 HB) hL2).mono ?_
        rintro e w9 ⟨v0, v1, rfl, V0, V1, hb⟩
        have Vt00 := keepOut (Kd.N_V (base' := 0) V0) L20 L23
        have Vt01 := keepOut (Kd.V_mono V1 (fun _ h_ => h_.1)) L20 L23
        clear V0 V1 L20 L23
        obtain ⟨At00, ct00, rfl⟩ := Kd.V_slice Vt00
        obtain ⟨At01, ct01, rfl⟩ := Kd.V_slice Vt01
        replace HB := HB.trans (hb.mono HB.size)
        replace B20 := blk_below B20 hb
        replace B23 := blk_below B23 hb
        replace Vs00 := Kd.V_below Vs00 hb
        replace Vs01 := Kd.V_below Vs01 hb
        clear hb
        dsimp only
        have z0 := (blk_cell B23 0).trans rfl
        have y0 := blk_frozen B23 0
        have z1 := (blk_cell B23 1).trans rfl
        have y1 := blk_frozen B23 1
        go_upto_region 23 with fail
        clear z0 z1 y0 y1
        have HB2 : Below wc.heap.size wc ((w9.setCell ⟨g23, 0, none⟩ (.slice At00 lq.length ct00)).setCell ⟨g23, 1, none⟩ (.slice At01 la.length ct01)) := below_set (below_set HB G23) G23
        clear HB
        have HB := HB2
        clear HB2
        have Bn : ((w9.setCell ⟨g23, 0, none⟩ (.slice At00 lq.length ct00)).setCell ⟨g23, 1, none⟩ (.slice At01 la.length ct01)).heap[g23]? = some (.cells #[.slice At00 lq.length ct00, .slice At01 la.length ct01] 25 (0, 0)) := blk_put (blk_put B23 0 _ rfl) 1 _ rfl
        have Bm := blk_far (p := ⟨g23, 1, none⟩) (blk_far (p := ⟨g23, 0, none⟩) B20 N0 (.slice At00 lq.length ct00)) N0 (.slice At01 la.length ct01)
        replace Vs00 := Kd.V_far (p := ⟨g23, 1, none⟩) (Kd.V_far (p := ⟨g23, 0, none⟩) Vs00 (fun _ hk => hk.2) (.slice At00 lq.length ct00)) (fun _ hk => hk.2) (.slice At01 la.length ct01)
        replace Vs01 := Kd.V_far (p := ⟨g23, 1, none⟩) (Kd.V_far (p := ⟨g23, 0, none⟩) Vs01 (fun _ hk => hk.2) (.slice At00 lq.length ct00)) (fun _ hk => hk.2) (.slice At01 la.length ct01)
        replace Vt00 := Kd.V_far (p := ⟨g23, 1, none⟩) (Kd.V_far (p := ⟨g23, 0, none⟩) Vt00 (fun _ hk => hk.2) (.slice At00 lq.length ct00)) (fun _ hk => hk.2) (.slice At01 la.length ct01)
        replace Vt01 := Kd.V_far (p := ⟨g23, 1, none⟩) (Kd.V_far (p := ⟨g23, 0, none⟩) Vt01 (fun _ hk => hk.2) (.slice At00 lq.length ct00)) (fun _ hk => hk.2) (.slice At01 la.length ct01)
        clear B20 B23
        have B23 := Bn
        have B20 := Bm
        clear Bn Bm
        generalize ((w9.setCell ⟨g23, 0, none⟩ (.slice At00 lq.length ct00)).setCell ⟨g23, 1, none⟩ (.slice At01 la.length ct01)) = w10 at *
        have x20_0 := (blk_cell B20 0).trans rfl
        have x20_1 := (blk_cell B20 1).trans rfl
        have x23_0 := (blk_cell B23 0).trans rfl
        have x23_1 := (blk_cell B23 1).trans rfl
        go_wp2_with fail
        clear x20_0 x20_1
        clear x23_0 x23_1
        refine (signatoryref06_Same.calls k As00 cs00 lq As01 cs01 la At00 ct00 lq At01 ct01 la true w10 (Kd.V_reads' Vs00).2.2 (Kd.V_reads' Vs00).2.1 (Kd.V_reads' Vs01).2.2 (Kd.V_reads' Vs01).2.1 (Kd.V_reads' Vt00).2.2 (Kd.V_reads' Vt00).2.1 (Kd.V_reads' Vt01).2.2 (Kd.V_reads' Vt01).2.1 hSl).mono ?_
        rintro e w11 ⟨rfl, hb⟩
        replace HB := HB.trans (hb.mono HB.size)
        replace B20 := blk_below B20 hb
        replace B23 := blk_below B23 hb
        replace Vs00 := Kd.V_below Vs00 hb
        replace Vs01 := Kd.V_below Vs01 hb
        replace Vt00 := Kd.V_below Vt00 hb
        replace Vt01 := Kd.V_below Vt01 hb
        clear hb
        dsimp only
        clear Vs00 Vs01 Vt00 Vt01
        go_upto_region 25 with fail
        have B5 := blk_below B5L.out HB
        have x5_0 := (blk_cell B5 0).trans rfl
        have x5_1 := (blk_cell B5 1).trans rfl
        go_wp2_with fail
        clear x5_0 x5_1
        clear B5
        have L20 := blk_lt B20
        have L23 := blk_lt B23
        refine (network_Repeat.calls k (fun k_ => k_ ≠ g20 ∧ k_ ≠ g23) An0 cn0 n0 (fun k_ => k_ ≠ g20 ∧ k_ ≠ g23) An1 cn1 n1 x rq ra re w11 (Kd.V_below VO0 HB) (Kd.V_below VO1 HB) hR1).mono ?_
        rintro e w12 ⟨v0, v1, rfl, V0, V1, hb⟩
        have Vs10 := keepOut V0 L20 L23
        have Vs11 := keepOut V1 L20 L23
        clear V0 V1 L20 L23
        obtain ⟨As10, cs10, rfl⟩ := Kd.V_slice Vs10
        obtain ⟨As11, cs11, rfl⟩ := Kd.V_slice Vs11
        replace HB := HB.trans (hb.mono HB.size)
        replace B20 := blk_below B20 hb
        replace B23 := blk_below B23 hb
        clear hb
        dsimp only
        have z0 := (blk_cell B20 0).trans rfl
        have y0 := blk_frozen B20 0
        have z1 := (blk_cell B20 1).trans rfl
        have y1 := blk_frozen B20 1
        go_upto_region 26 with fail
        clear z0 z1 y0 y1
        have HB2 : Below wc.heap.size wc ((w12.setCell ⟨g20, 0, none⟩ (.slice As10 rq.length cs10)).setCell ⟨g20, 1, none⟩ (.slice As11 ra.length cs11)) := below_set (below_set HB G20) G20
        clear HB
        have HB := HB2
        clear HB2
        have Bn : ((w12.setCell ⟨g20, 0, none⟩ (.slice As10 rq.length cs10)).setCell ⟨g20, 1, none⟩ (.slice As11 ra.length cs11)).heap[g20]? = some (.cells #[.slice As10 rq.length cs10, .slice As11 ra.length cs11] 25 (0, 0)) := blk_put (blk_put B20 0 _ rfl) 1 _ rfl
        have Bm := blk_far (p := ⟨g20, 1, none⟩) (blk_far (p := ⟨g20, 0, none⟩) B23 N1 (.slice As10 rq.length cs10)) N1 (.slice As11 ra.length cs11)
        replace Vs10 := Kd.V_far (p := ⟨g20, 1, none⟩) (Kd.V_far (p := ⟨g20, 0, none⟩) Vs10 (fun _ hk => hk.1) (.slice As10 rq.length cs10)) (fun _ hk => hk.1) (.slice As11 ra.length cs11)
        replace Vs11 := Kd.V_far (p := ⟨g20, 1, none⟩) (Kd.V_far (p := ⟨g20, 0, none⟩) Vs11 (fun _ hk => hk.1) (.slice As10 rq.length cs10)) (fun _ hk => hk.1) (.slice As11 ra.length cs11)
        clear B20 B23
        have B20 := Bn
        have B23 := Bm
        clear Bn Bm
        generalize ((w12.setCell ⟨g20, 0, none⟩ (.slice As10 rq.length cs10)).setCell ⟨g20, 1, none⟩ (.slice As11 ra.length cs11)) = w13 at *
        have B5 := blk_below B5L.out HB
        have x5_0 := (blk_cell B5 0).trans rfl
        have x5_1 := (blk_cell B5 1).trans rfl
        go_wp2_with fail
        clear x5_0 x5_1
        clear B5
        have L20 := blk_lt B20
        have L23 := blk_lt B23
        refine (signatoryref06_Repeat.calls k (fun k_ => k_ ≠ g20 ∧ k_ ≠ g23) An0 cn0 n0 (fun k_ => k_ ≠ g20 ∧ k_ ≠ g23) An1 cn1 n1 x rq ra re w13 (Kd.V_below VO0 HB) (Kd.V_below VO1 HB) hR2).mono ?_
        rintro e w14 ⟨v0, v1, rfl, V0, V1, hb⟩
        have Vt10 := keepOut (Kd.N_V (base' := 0) V0) L20 L23
        have Vt11 := keepOut (Kd.V_mono V1 (fun _ h_ => h_.1)) L20 L23
        clear V0 V1 L20 L23
        obtain ⟨At10, ct10, rfl⟩ := Kd.V_slice Vt10
        obtain ⟨At11, ct11, rfl⟩ := Kd.V_slice Vt11
        replace HB := HB.trans (hb.mono HB.size)
        replace B20 := blk_below B20 hb
        replace B23 := blk_below B23 hb
        replace Vs10 := Kd.V_below Vs10 hb
        replace Vs11 := Kd.V_below Vs11 hb
        clear hb
        dsimp only
        have z0 := (blk_cell B23 0).trans rfl
        have y0 := blk_frozen B23 0
        have z1 := (blk_cell B23 1).trans rfl
        have y1 := blk_frozen B23 1
        go_upto_region 27 with fail
        clear z0 z1 y0 y1
        have HB2 : Below wc.heap.size wc ((w14.setCell ⟨g23, 0, none⟩ (.slice At10 rq.length ct10)).setCell ⟨g23, 1, none⟩ (.slice At11 ra.length ct11)) := below_set (below_set HB G23) G23
        clear HB
        have HB := HB2
        clear HB2
        have Bn : ((w14.setCell ⟨g23, 0, none⟩ (.slice At10 rq.length ct10)).setCell ⟨g23, 1, none⟩ (.slice At11 ra.length ct11)).heap[g23]? = some (.cells #[.slice At10 rq.length ct10, .slice At11 ra.length ct11] 25 (0, 0)) := blk_put (blk_put B23 0 _ rfl) 1 _ rfl
        have Bm := blk_far (p := ⟨g23, 1, none⟩) (blk_far (p := ⟨g23, 0, none⟩) B20 N0 (.slice At10 rq.length ct10)) N0 (.slice At11 ra.length ct11)
        replace Vs10 := Kd.V_far (p := ⟨g23, 1, none⟩) (Kd.V_far (p := ⟨g23, 0, none⟩) Vs10 (fun _ hk => hk.2) (.slice At10 rq.length ct10)) (fun _ hk => hk.2) (.slice At11 ra.length ct11)
        replace Vs11 := Kd.V_far (p := ⟨g23, 1, none⟩) (Kd.V_far (p := ⟨g23, 0, none⟩) Vs11 (fun _ hk => hk.2) (.slice At10 rq.length ct10)) (fun _ hk => hk.2) (.slice At11 ra.length ct11)
        replace Vt10 := Kd.V_far (p := ⟨g23, 1, none⟩) (Kd.V_far (p := ⟨g23, 0, none⟩) Vt10 (fun _ hk => hk.2) (.slice At10 rq.length ct10)) (fun _ hk => hk.2) (.slice At11 ra.length ct11)
        replace Vt11 := Kd.V_far (p := ⟨g23, 1, none⟩) (Kd.V_far (p := ⟨g23, 0, none⟩) Vt11 (fun _ hk => hk.2) (.slice At10 rq.length ct10)) (fun _ hk => hk.2) (.slice At11 ra.length ct11)
        clear B20 B23
        have B23 := Bn
        have B20 := Bm
        clear Bn Bm
        generalize ((w14.setCell ⟨g23, 0, none⟩ (.slice At10 rq.length ct10)).setCell ⟨g23, 1, none⟩ (.slice At11 ra.length ct11)) = w15 at *
        have x20_0 := (blk_cell B20 0).trans rfl
        have x20_1 := (blk_cell B20 1).trans rfl
        have x23_0 := (blk_cell B23 0).trans rfl
        have x23_1 := (blk_cell B23 1).trans rfl
        go_wp2_with fail
        clear x20_0 x20_1
        clear x23_0 x23_1
        refine (signatoryref06_Same.calls k As10 cs10 rq As11 cs11 ra At10 ct10 rq At11 ct11 ra true w15 (Kd.V_reads' Vs10).2.2 (Kd.V_reads' Vs10).2.1 (Kd.V_reads' Vs11).2.2 (Kd.V_reads' Vs11).2.1 (Kd.V_reads' Vt10).2.2 (Kd.V_reads' Vt10).2.1 (Kd.V_reads' Vt11).2.2 (Kd.V_reads' Vt11).2.1 hSr).mono ?_
        rintro e w16 ⟨rfl, hb⟩
        replace HB := HB.trans (hb.mono HB.size)
        replace B20 := blk_below B20 hb
        replace B23 := blk_below B23 hb
        replace Vs10 := Kd.V_below Vs10 hb
        replace Vs11 := Kd.V_below Vs11 hb
        replace Vt10 := Kd.V_below Vt10 hb
        replace Vt11 := Kd.V_below Vt11 hb
        clear hb
        dsimp only
        clear Vs10 Vs11 Vt10 Vt11
        go_wp2
        go_roundw
        case rel => exact ⟨jj + 1, by omega, by omega, rfl, HB⟩
        case measure => dsimp only [intOf]; omega
      · have k1 : decide (jj < (xs.length : Int)) = false := decide_eq_false c1
        clear c1
        go_wp2
        go_ret
        exact ⟨rfl, HBw.out.trans (HB.mono HBw.out.size)⟩
  · have hfew : signatoryref06_Few.f n0 n1 = some false := by
      unfold signatoryref06_Few.f
      by_cases h : (n0.length : Int) ≤ 40
      · rw [if_pos h, decide_eq_false (by omega)]
      · rw [if_neg h]
    clear hq
    go_enter Try.func6, Try.ntmps6
    have HB := Below.refl w.heap.size w
    have hba := (Below.refl _ w).alloc (Nat.le_refl _) (.cells #[.slice An0 n0.length cn0, .slice An1 n1.length cn1] 25)
    replace HB := below_step HB hba
    replace Vn0 := Kd.V_below Vn0 hba
    replace Vn1 := Kd.V_below Vn1 hba
    have B5 := World.alloc_heap_new w (.cells #[.slice An0 n0.length cn0, .slice An1 n1.length cn1] 25)
    clear hba
    go_wp2_with fail
    generalize w.alloc (.cells #[.slice An0 n0.length cn0, .slice An1 n1.length cn1] 25) = w1 at *
    refine (sane_ok w1).mono ?_
    rintro e w2 ⟨rfl, hb⟩
    replace HB := below_step HB hb
    replace Vn0 := Kd.V_below Vn0 hb
    replace Vn1 := Kd.V_below Vn1 hb
    replace B5 := blk_below B5 hb
    clear hb
    dsimp only
    have x5_0 := (blk_cell B5 0).trans rfl
    have x5_1 := (blk_cell B5 1).trans rfl
    go_wp2_with fail
    clear x5_0 x5_1
    refine (signatoryref06_Few.calls An0 cn0 n0 An1 cn1 n1 false w2 (Kd.V_reads' Vn0).2.2 (Kd.V_reads' Vn0).2.1 (Kd.V_reads' Vn1).2.2 (Kd.V_reads' Vn1).2.1 hfew).mono ?_
    rintro e w3 ⟨rfl, hb⟩
    replace HB := below_step HB hb
    replace Vn0 := Kd.V_below Vn0 hb
    replace Vn1 := Kd.V_below Vn1 hb
    replace B5 := blk_below B5 hb
    clear hb
    dsimp only
    have x5_0 := (blk_cell B5 0).trans rfl
    have x5_1 := (blk_cell B5 1).trans rfl
    go_wp2_with fail
    clear x5_0 x5_1
    go_ret
    exact ⟨rfl, HB⟩
end Go.Proofs.Ythlehlbokaeigaa.Q
