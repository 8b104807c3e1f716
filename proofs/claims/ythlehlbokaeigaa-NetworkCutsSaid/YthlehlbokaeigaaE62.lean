import Derived.Test.YthlehlbokaeigaaQ
import Derived.Test.YthlehlbokaeigaaE31
import Derived.Test.YthlehlbokaeigaaE43
import Derived.Test.YthlehlbokaeigaaE50
namespace Go.Proofs.Ythlehlbokaeigaa.Q
open Go.RowKit Go.Proofs.YthlehlbokaeigaaW.PrintWords Go.Proofs.YthlehlbokaeigaaW.PrintLast Go.Proofs.YthlehlbokaeigaaW.PrintMore
set_option linter.unusedVariables false
set_option linter.unusedSimpArgs false
set_option maxHeartbeats 8000000 in
set_option maxRecDepth 100000 in
theorem NetworkCuts.calls (n0 : List S28) (n1 : List S55) (An0 : Option Addr) (cn0 : Nat) (An1 : Option Addr) (cn1 : Nat) (a : Int) (ha : (Lit.int .i64 a).wf = true) (b : Int) (hb : (Lit.int .i64 b).wf = true) (at_ : Int) (hat : (Lit.int .u64 at_).wf = true) (w : World)
    (Vn0 : Kd.V k28 28 w 0 (fun _ => True) (.slice An0 n0.length cn0) n0) (Vn1 : Kd.V k55 55 w 0 (fun _ => True) (.slice An1 n1.length cn1) n1) :
    Calls Try.prog 5 #[.agg #[.slice An0 n0.length cn0, .slice An1 n1.length cn1], .int .i64 a, .int .i64 b, .int .u64 at_] w fun e w' => e = .returned (.bool true) ∧ Below w.heap.size w w' := by
  have hu25 := Try.underlying25
  have hu28 := Try.underlying28
  clear ha hb
  by_cases hq : n0.length ≤ 40 ∧ n1.length ≤ 40
  · have hfew : signatoryref06_Few.f n0 n1 = some true := by
      unfold signatoryref06_Few.f
      rw [if_pos (by omega), decide_eq_true (by omega)]
    obtain ⟨k, hk⟩ : ∃ k : Nat, k = 2000 := ⟨_, rfl⟩
    have hCk := netCheck_eq n0 n1 (by omega) k (by omega)
    cases hok : netOk n0 n1 with
    | false =>
      rw [hok] at hCk
      replace hCk : network_Check.f k n0 n1 = some 60 := hCk
      clear hq hk hok hat
      go_enter Try.func5, Try.ntmps5
      have HB := Below.refl w.heap.size w
      have hba := (Below.refl _ w).alloc (Nat.le_refl _) (.cells #[.slice An0 n0.length cn0, .slice An1 n1.length cn1] 25)
      replace HB := below_step HB hba
      replace Vn0 := Kd.V_below Vn0 hba
      replace Vn1 := Kd.V_below Vn1 hba
      have B4 := World.alloc_heap_new w (.cells #[.slice An0 n0.length cn0, .slice An1 n1.length cn1] 25)
      clear hba
      go_wp2_with fail
      generalize w.alloc (.cells #[.slice An0 n0.length cn0, .slice An1 n1.length cn1] 25) = w1 at *
      refine (sane_ok w1).mono ?_
      rintro e w2 ⟨rfl, hb⟩
      replace HB := below_step HB hb
      replace Vn0 := Kd.V_below Vn0 hb
      replace Vn1 := Kd.V_below Vn1 hb
      replace B4 := blk_below B4 hb
      clear hb
      dsimp only
      have x4_0 := (blk_cell B4 0).trans rfl
      have x4_1 := (blk_cell B4 1).trans rfl
      go_wp2_with fail
      clear x4_0 x4_1
      refine (signatoryref06_Few.calls An0 cn0 n0 An1 cn1 n1 true w2 (Kd.V_reads' Vn0).2.2 (Kd.V_reads' Vn0).2.1 (Kd.V_reads' Vn1).2.2 (Kd.V_reads' Vn1).2.1 hfew).mono ?_
      rintro e w3 ⟨rfl, hb⟩
      replace HB := below_step HB hb
      replace Vn0 := Kd.V_below Vn0 hb
      replace Vn1 := Kd.V_below Vn1 hb
      replace B4 := blk_below B4 hb
      clear hb
      dsimp only
      have x4_0 := (blk_cell B4 0).trans rfl
      have x4_1 := (blk_cell B4 1).trans rfl
      go_wp2_with fail
      clear x4_0 x4_1
      refine (network_Check.calls k An0 cn0 n0 An1 cn1 n1 60 w3 (Kd.V_reads' Vn0).2.2 (Kd.V_reads' Vn0).2.1 (Kd.V_reads' Vn1).2.2 (Kd.V_reads' Vn1).2.1 hCk).mono ?_
      rintro e w4 ⟨rfl, hb⟩
      replace HB := below_step HB hb
      replace Vn0 := Kd.V_below Vn0 hb
      replace Vn1 := Kd.V_below Vn1 hb
      replace B4 := blk_below B4 hb
      clear hb
      dsimp only
      have x4_0 := (blk_cell B4 0).trans rfl
      have x4_1 := (blk_cell B4 1).trans rfl
      go_wp2_with fail
      clear x4_0 x4_1
      go_ret
      exact ⟨rfl, HB⟩
    | true =>
      rw [hok] at hCk
      replace hCk : network_Check.f k n0 n1 = some 0 := hCk
      rcases cuts_plain n0 n1 hok a b with hx | ⟨x1, y1, g1, g2, g3, g4, g5, hlen, hlx, okx, oky, hab, hbt, hnb⟩
      · have hX := (netCut_eq n0 n1 (by omega) k (by omega) a b true).trans (congrArg some hx)
        clear hq hk hok hat hx
        go_enter Try.func5, Try.ntmps5
        have HB := Below.refl w.heap.size w
        have hba := (Below.refl _ w).alloc (Nat.le_refl _) (.cells #[.slice An0 n0.length cn0, .slice An1 n1.length cn1] 25)
        replace HB := below_step HB hba
        replace Vn0 := Kd.V_below Vn0 hba
        replace Vn1 := Kd.V_below Vn1 hba
        have B4 := World.alloc_heap_new w (.cells #[.slice An0 n0.length cn0, .slice An1 n1.length cn1] 25)
        clear hba
        go_wp2_with fail
        generalize w.alloc (.cells #[.slice An0 n0.length cn0, .slice An1 n1.length cn1] 25) = w1 at *
        refine (sane_ok w1).mono ?_
        rintro e w2 ⟨rfl, hb⟩
        replace HB := below_step HB hb
        replace Vn0 := Kd.V_below Vn0 hb
        replace Vn1 := Kd.V_below Vn1 hb
        replace B4 := blk_below B4 hb
        clear hb
        dsimp only
        have x4_0 := (blk_cell B4 0).trans rfl
        have x4_1 := (blk_cell B4 1).trans rfl
        go_wp2_with fail
        clear x4_0 x4_1
        refine (signatoryref06_Few.calls An0 cn0 n0 An1 cn1 n1 true w2 (Kd.V_reads' Vn0).2.2 (Kd.V_reads' Vn0).2.1 (Kd.V_reads' Vn1).2.2 (Kd.V_reads' Vn1).2.1 hfew).mono ?_
        rintro e w3 ⟨rfl, hb⟩
        replace HB := below_step HB hb
        replace Vn0 := Kd.V_below Vn0 hb
        replace Vn1 := Kd.V_below Vn1 hb
        replace B4 := blk_below B4 hb
        clear hb
        dsimp only
        have x4_0 := (blk_cell B4 0).trans rfl
        have x4_1 := (blk_cell B4 1).trans rfl
        go_wp2_with fail
        clear x4_0 x4_1
        refine (network_Check.calls k An0 cn0 n0 An1 cn1 n1 0 w3 (Kd.V_reads' Vn0).2.2 (Kd.V_reads' Vn0).2.1 (Kd.V_reads' Vn1).2.2 (Kd.V_reads' Vn1).2.1 hCk).mono ?_
        rintro e w4 ⟨rfl, hb⟩
        replace HB := below_step HB hb
        replace Vn0 := Kd.V_below Vn0 hb
        replace Vn1 := Kd.V_below Vn1 hb
        replace B4 := blk_below B4 hb
        clear hb
        dsimp only
        have x4_0 := (blk_cell B4 0).trans rfl
        have x4_1 := (blk_cell B4 1).trans rfl
        go_wp2_with fail
        clear x4_0 x4_1
        refine (network_Cut.calls k (fun _ => True) An0 cn0 n0 An1 cn1 n1 a b true [] [] 1 w4 Vn0 (Kd.V_reads' Vn1).2.2 (Kd.V_reads' Vn1).2.1 hX).mono ?_
        rintro e w5 ⟨v0, v1, rfl, Vx0, Vx1, hb⟩
        replace HB := below_step HB hb
        replace Vn0 := Kd.V_below Vn0 hb
        replace Vn1 := Kd.V_below Vn1 hb
        replace B4 := blk_below B4 hb
        replace Vx1 := Kd.R_V (base' := 0) Vx1
        clear hb
        replace Vx0 := Vt Vx0
        obtain ⟨Ax0, cx0, rfl⟩ := Kd.V_slice Vx0
        replace Vx1 := Vt Vx1
        obtain ⟨Ax1, cx1, rfl⟩ := Kd.V_slice Vx1
        dsimp only
        have hba := (Below.refl _ w5).alloc (Nat.le_refl _) (.cells #[.slice Ax0 ([] : List S28).length cx0, .slice Ax1 ([] : List S55).length cx1] 25)
        replace HB := below_step HB hba
        replace Vn0 := Kd.V_below Vn0 hba
        replace Vn1 := Kd.V_below Vn1 hba
        replace B4 := blk_below B4 hba
        replace Vx0 := Kd.V_below Vx0 hba
        replace Vx1 := Kd.V_below Vx1 hba
        have B9 := World.alloc_heap_new w5 (.cells #[.slice Ax0 ([] : List S28).length cx0, .slice Ax1 ([] : List S55).length cx1] 25)
        clear hba
        have x4_0 := (blk_cell B4 0).trans rfl
        have x4_1 := (blk_cell B4 1).trans rfl
        go_wp2_with fail
        clear x4_0 x4_1
        generalize w5.alloc (.cells #[.slice Ax0 ([] : List S28).length cx0, .slice Ax1 ([] : List S55).length cx1] 25) = w6 at *
        go_ret
        exact ⟨rfl, HB⟩
      · have hX := (netCut_eq n0 n1 (by omega) k (by omega) a b true).trans (congrArg some g1)
        have hY := (netCut_eq n0 n1 (by omega) k (by omega) b a true).trans (congrArg some g2)
        have hZ := (netCut_eq n0 x1 (by omega) k (by omega) a b true).trans (congrArg some g3)
        have hM := (netCut_eq n0 x1 (by omega) k (by omega) b a false).trans (congrArg some g4)
        have hK := (netCut_eq n0 n1 (by omega) k (by omega) a b false).trans (congrArg some g5)
        have hE1 : signatoryref06_Same.f k n0 x1 n0 x1 = some true := same_refl n0 x1 (by omega) (by omega) k (by omega)
        have hE2 : signatoryref06_Same.f k n0 y1 n0 y1 = some true := same_refl n0 y1 (by omega) (by omega) k (by omega)
        have hlast : Aside0 (((x1.length : Int) != (y1.length : Int) + 1) = false ∧ (y1.length : Int) ≤ 576) := ⟨by rw [hlen]; simp, by omega⟩
        clear g1 g2 g3 g4 g5
        by_cases h0 : n0 = []
        · have hl1 : ((n0.length : Int) == 0) = true := by rw [h0]; rfl
          clear hq hk hok hat h0 hlen hlx okx oky hab hbt hnb
          go_enter Try.func5, Try.ntmps5
          have HB := Below.refl w.heap.size w
          have hba := (Below.refl _ w).alloc (Nat.le_refl _) (.cells #[.slice An0 n0.length cn0, .slice An1 n1.length cn1] 25)
          replace HB := below_step HB hba
          replace Vn0 := Kd.V_below Vn0 hba
          replace Vn1 := Kd.V_below Vn1 hba
          have B4 := World.alloc_heap_new w (.cells #[.slice An0 n0.length cn0, .slice An1 n1.length cn1] 25)
          clear hba
          go_wp2_with fail
          generalize w.alloc (.cells #[.slice An0 n0.length cn0, .slice An1 n1.length cn1] 25) = w1 at *
          refine (sane_ok w1).mono ?_
          rintro e w2 ⟨rfl, hb⟩
          replace HB := below_step HB hb
          replace Vn0 := Kd.V_below Vn0 hb
          replace Vn1 := Kd.V_below Vn1 hb
          replace B4 := blk_below B4 hb
          clear hb
          dsimp only
          have x4_0 := (blk_cell B4 0).trans rfl
          have x4_1 := (blk_cell B4 1).trans rfl
          go_wp2_with fail
          clear x4_0 x4_1
          refine (signatoryref06_Few.calls An0 cn0 n0 An1 cn1 n1 true w2 (Kd.V_reads' Vn0).2.2 (Kd.V_reads' Vn0).2.1 (Kd.V_reads' Vn1).2.2 (Kd.V_reads' Vn1).2.1 hfew).mono ?_
          rintro e w3 ⟨rfl, hb⟩
          replace HB := below_step HB hb
          replace Vn0 := Kd.V_below Vn0 hb
          replace Vn1 := Kd.V_below Vn1 hb
          replace B4 := blk_below B4 hb
          clear hb
          dsimp only
          have x4_0 := (blk_cell B4 0).trans rfl
          have x4_1 := (blk_cell B4 1).trans rfl
          go_wp2_with fail
          clear x4_0 x4_1
          refine (network_Check.calls k An0 cn0 n0 An1 cn1 n1 0 w3 (Kd.V_reads' Vn0).2.2 (Kd.V_reads' Vn0).2.1 (Kd.V_reads' Vn1).2.2 (Kd.V_reads' Vn1).2.1 hCk).mono ?_
          rintro e w4 ⟨rfl, hb⟩
          replace HB := below_step HB hb
          replace Vn0 := Kd.V_below Vn0 hb
          replace Vn1 := Kd.V_below Vn1 hb
          replace B4 := blk_below B4 hb
          clear hb
          dsimp only
          have x4_0 := (blk_cell B4 0).trans rfl
          have x4_1 := (blk_cell B4 1).trans rfl
          go_wp2_with fail
          clear x4_0 x4_1
          refine (network_Cut.calls k (fun _ => True) An0 cn0 n0 An1 cn1 n1 a b true n0 x1 0 w4 Vn0 (Kd.V_reads' Vn1).2.2 (Kd.V_reads' Vn1).2.1 hX).mono ?_
          rintro e w5 ⟨v0, v1, rfl, Vx0, Vx1, hb⟩
          replace HB := below_step HB hb
          replace Vn0 := Kd.V_below Vn0 hb
          replace Vn1 := Kd.V_below Vn1 hb
          replace B4 := blk_below B4 hb
          replace Vx1 := Kd.R_V (base' := 0) Vx1
          clear hb
          replace Vx0 := Vt Vx0
          obtain ⟨Ax0, cx0, rfl⟩ := Kd.V_slice Vx0
          replace Vx1 := Vt Vx1
          obtain ⟨Ax1, cx1, rfl⟩ := Kd.V_slice Vx1
          dsimp only
          have hba := (Below.refl _ w5).alloc (Nat.le_refl _) (.cells #[.slice Ax0 n0.length cx0, .slice Ax1 x1.length cx1] 25)
          replace HB := below_step HB hba
          replace Vn0 := Kd.V_below Vn0 hba
          replace Vn1 := Kd.V_below Vn1 hba
          replace B4 := blk_below B4 hba
          replace Vx0 := Kd.V_below Vx0 hba
          replace Vx1 := Kd.V_below Vx1 hba
          have B9 := World.alloc_heap_new w5 (.cells #[.slice Ax0 n0.length cx0, .slice Ax1 x1.length cx1] 25)
          clear hba
          have x4_0 := (blk_cell B4 0).trans rfl
          have x4_1 := (blk_cell B4 1).trans rfl
          go_wp2_with fail
          clear x4_0 x4_1
          generalize w5.alloc (.cells #[.slice Ax0 n0.length cx0, .slice Ax1 x1.length cx1] 25) = w6 at *
          refine (network_Cut.calls k (fun _ => True) An0 cn0 n0 An1 cn1 n1 b a true n0 x1 0 w6 Vn0 (Kd.V_reads' Vn1).2.2 (Kd.V_reads' Vn1).2.1 hY).mono ?_
          rintro e w7 ⟨v0, v1, rfl, Vy0, Vy1, hb⟩
          replace HB := below_step HB hb
          replace Vn0 := Kd.V_below Vn0 hb
          replace Vn1 := Kd.V_below Vn1 hb
          replace B4 := blk_below B4 hb
          replace Vx0 := Kd.V_below Vx0 hb
          replace Vx1 := Kd.V_below Vx1 hb
          replace B9 := blk_below B9 hb
          replace Vy1 := Kd.R_V (base' := 0) Vy1
          clear hb
          replace Vy0 := Vt Vy0
          obtain ⟨Ay0, cy0, rfl⟩ := Kd.V_slice Vy0
          replace Vy1 := Vt Vy1
          obtain ⟨Ay1, cy1, rfl⟩ := Kd.V_slice Vy1
          dsimp only
          have hba := (Below.refl _ w7).alloc (Nat.le_refl _) (.cells #[.slice Ay0 n0.length cy0, .slice Ay1 x1.length cy1] 25)
          replace HB := below_step HB hba
          replace Vn0 := Kd.V_below Vn0 hba
          replace Vn1 := Kd.V_below Vn1 hba
          replace B4 := blk_below B4 hba
          replace Vx0 := Kd.V_below Vx0 hba
          replace Vx1 := Kd.V_below Vx1 hba
          replace B9 := blk_below B9 hba
          replace Vy0 := Kd.V_below Vy0 hba
          replace Vy1 := Kd.V_below Vy1 hba
          have B11 := World.alloc_heap_new w7 (.cells #[.slice Ay0 n0.length cy0, .slice Ay1 x1.length cy1] 25)
          clear hba
          have x9_0 := (blk_cell B9 0).trans rfl
          have x9_1 := (blk_cell B9 1).trans rfl
          go_wp2_with fail
          clear x9_0 x9_1
          generalize w7.alloc (.cells #[.slice Ay0 n0.length cy0, .slice Ay1 x1.length cy1] 25) = w8 at *
          refine (network_Cut.calls k (fun _ => True) Ax0 cx0 n0 Ax1 cx1 x1 a b true n0 x1 0 w8 Vx0 (Kd.V_reads' Vx1).2.2 (Kd.V_reads' Vx1).2.1 hZ).mono ?_
          rintro e w9 ⟨v0, v1, rfl, Vz0, Vz1, hb⟩
          replace HB := below_step HB hb
          replace Vn0 := Kd.V_below Vn0 hb
          replace Vn1 := Kd.V_below Vn1 hb
          replace B4 := blk_below B4 hb
          replace Vx0 := Kd.V_below Vx0 hb
          replace Vx1 := Kd.V_below Vx1 hb
          replace B9 := blk_below B9 hb
          replace Vy0 := Kd.V_below Vy0 hb
          replace Vy1 := Kd.V_below Vy1 hb
          replace B11 := blk_below B11 hb
          replace Vz1 := Kd.R_V (base' := 0) Vz1
          clear hb
          replace Vz0 := Vt Vz0
          obtain ⟨Az0, cz0, rfl⟩ := Kd.V_slice Vz0
          replace Vz1 := Vt Vz1
          obtain ⟨Az1, cz1, rfl⟩ := Kd.V_slice Vz1
          dsimp only
          have hba := (Below.refl _ w9).alloc (Nat.le_refl _) (.cells #[.slice Az0 n0.length cz0, .slice Az1 x1.length cz1] 25)
          replace HB := below_step HB hba
          replace Vn0 := Kd.V_below Vn0 hba
          replace Vn1 := Kd.V_below Vn1 hba
          replace B4 := blk_below B4 hba
          replace Vx0 := Kd.V_below Vx0 hba
          replace Vx1 := Kd.V_below Vx1 hba
          replace B9 := blk_below B9 hba
          replace Vy0 := Kd.V_below Vy0 hba
          replace Vy1 := Kd.V_below Vy1 hba
          replace B11 := blk_below B11 hba
          replace Vz0 := Kd.V_below Vz0 hba
          replace Vz1 := Kd.V_below Vz1 hba
          have B13 := World.alloc_heap_new w9 (.cells #[.slice Az0 n0.length cz0, .slice Az1 x1.length cz1] 25)
          clear hba
          have x9_0 := (blk_cell B9 0).trans rfl
          have x9_1 := (blk_cell B9 1).trans rfl
          go_wp2_with fail
          clear x9_0 x9_1
          generalize w9.alloc (.cells #[.slice Az0 n0.length cz0, .slice Az1 x1.length cz1] 25) = w10 at *
          refine (network_Cut.calls k (fun _ => True) Ax0 cx0 n0 Ax1 cx1 x1 b a false n0 y1 0 w10 Vx0 (Kd.V_reads' Vx1).2.2 (Kd.V_reads' Vx1).2.1 hM).mono ?_
          rintro e w11 ⟨v0, v1, rfl, Vm0, Vm1, hb⟩
          replace HB := below_step HB hb
          replace Vn0 := Kd.V_below Vn0 hb
          replace Vn1 := Kd.V_below Vn1 hb
          replace B4 := blk_below B4 hb
          replace Vx0 := Kd.V_below Vx0 hb
          replace Vx1 := Kd.V_below Vx1 hb
          replace B9 := blk_below B9 hb
          replace Vy0 := Kd.V_below Vy0 hb
          replace Vy1 := Kd.V_below Vy1 hb
          replace B11 := blk_below B11 hb
          replace Vz0 := Kd.V_below Vz0 hb
          replace Vz1 := Kd.V_below Vz1 hb
          replace B13 := blk_below B13 hb
          replace Vm1 := Kd.R_V (base' := 0) Vm1
          clear hb
          replace Vm0 := Vt Vm0
          obtain ⟨Am0, cm0, rfl⟩ := Kd.V_slice Vm0
          replace Vm1 := Vt Vm1
          obtain ⟨Am1, cm1, rfl⟩ := Kd.V_slice Vm1
          dsimp only
          have hba := (Below.refl _ w11).alloc (Nat.le_refl _) (.cells #[.slice Am0 n0.length cm0, .slice Am1 y1.length cm1] 25)
          replace HB := below_step HB hba
          replace Vn0 := Kd.V_below Vn0 hba
          replace Vn1 := Kd.V_below Vn1 hba
          replace B4 := blk_below B4 hba
          replace Vx0 := Kd.V_below Vx0 hba
          replace Vx1 := Kd.V_below Vx1 hba
          replace B9 := blk_below B9 hba
          replace Vy0 := Kd.V_below Vy0 hba
          replace Vy1 := Kd.V_below Vy1 hba
          replace B11 := blk_below B11 hba
          replace Vz0 := Kd.V_below Vz0 hba
          replace Vz1 := Kd.V_below Vz1 hba
          replace B13 := blk_below B13 hba
          replace Vm0 := Kd.V_below Vm0 hba
          replace Vm1 := Kd.V_below Vm1 hba
          have B15 := World.alloc_heap_new w11 (.cells #[.slice Am0 n0.length cm0, .slice Am1 y1.length cm1] 25)
          clear hba
          have x4_0 := (blk_cell B4 0).trans rfl
          have x4_1 := (blk_cell B4 1).trans rfl
          go_wp2_with fail
          clear x4_0 x4_1
          generalize w11.alloc (.cells #[.slice Am0 n0.length cm0, .slice Am1 y1.length cm1] 25) = w12 at *
          refine (network_Cut.calls k (fun _ => True) An0 cn0 n0 An1 cn1 n1 a b false n0 y1 0 w12 Vn0 (Kd.V_reads' Vn1).2.2 (Kd.V_reads' Vn1).2.1 hK).mono ?_
          rintro e w13 ⟨v0, v1, rfl, Vk0, Vk1, hb⟩
          replace HB := below_step HB hb
          replace Vn0 := Kd.V_below Vn0 hb
          replace Vn1 := Kd.V_below Vn1 hb
          replace B4 := blk_below B4 hb
          replace Vx0 := Kd.V_below Vx0 hb
          replace Vx1 := Kd.V_below Vx1 hb
          replace B9 := blk_below B9 hb
          replace Vy0 := Kd.V_below Vy0 hb
          replace Vy1 := Kd.V_below Vy1 hb
          replace B11 := blk_below B11 hb
          replace Vz0 := Kd.V_below Vz0 hb
          replace Vz1 := Kd.V_below Vz1 hb
          replace B13 := blk_below B13 hb
          replace Vm0 := Kd.V_below Vm0 hb
          replace Vm1 := Kd.V_below Vm1 hb
          replace B15 := blk_below B15 hb
          replace Vk1 := Kd.R_V (base' := 0) Vk1
          clear hb
          replace Vk0 := Vt Vk0
          obtain ⟨Ak0, ck0, rfl⟩ := Kd.V_slice Vk0
          replace Vk1 := Vt Vk1
          obtain ⟨Ak1, ck1, rfl⟩ := Kd.V_slice Vk1
          dsimp only
          have hba := (Below.refl _ w13).alloc (Nat.le_refl _) (.cells #[.slice Ak0 n0.length ck0, .slice Ak1 y1.length ck1] 25)
          replace HB := below_step HB hba
          replace Vn0 := Kd.V_below Vn0 hba
          replace Vn1 := Kd.V_below Vn1 hba
          replace B4 := blk_below B4 hba
          replace Vx0 := Kd.V_below Vx0 hba
          replace Vx1 := Kd.V_below Vx1 hba
          replace B9 := blk_below B9 hba
          replace Vy0 := Kd.V_below Vy0 hba
          replace Vy1 := Kd.V_below Vy1 hba
          replace B11 := blk_below B11 hba
          replace Vz0 := Kd.V_below Vz0 hba
          replace Vz1 := Kd.V_below Vz1 hba
          replace B13 := blk_below B13 hba
          replace Vm0 := Kd.V_below Vm0 hba
          replace Vm1 := Kd.V_below Vm1 hba
          replace B15 := blk_below B15 hba
          replace Vk0 := Kd.V_below Vk0 hba
          replace Vk1 := Kd.V_below Vk1 hba
          have B17 := World.alloc_heap_new w13 (.cells #[.slice Ak0 n0.length ck0, .slice Ak1 y1.length ck1] 25)
          clear hba
          have x9_0 := (blk_cell B9 0).trans rfl
          have x9_1 := (blk_cell B9 1).trans rfl
          have x11_0 := (blk_cell B11 0).trans rfl
          have x11_1 := (blk_cell B11 1).trans rfl
          go_wp2_with fail
          clear x9_0 x9_1
          clear x11_0 x11_1
          generalize w13.alloc (.cells #[.slice Ak0 n0.length ck0, .slice Ak1 y1.length ck1] 25) = w14 at *
          refine (signatoryref06_Same.calls k Ax0 cx0 n0 Ax1 cx1 x1 Ay0 cy0 n0 Ay1 cy1 x1 true w14 (Kd.V_reads' Vx0).2.2 (Kd.V_reads' Vx0).2.1 (Kd.V_reads' Vx1).2.2 (Kd.V_reads' Vx1).2.1 (Kd.V_reads' Vy0).2.2 (Kd.V_reads' Vy0).2.1 (Kd.V_reads' Vy1).2.2 (Kd.V_reads' Vy1).2.1 hE1).mono ?_
          rintro e w15 ⟨rfl, hb⟩
          replace HB := below_step HB hb
          replace Vn0 := Kd.V_below Vn0 hb
          replace Vn1 := Kd.V_below Vn1 hb
          replace B4 := blk_below B4 hb
          replace Vx0 := Kd.V_below Vx0 hb
          replace Vx1 := Kd.V_below Vx1 hb
          replace B9 := blk_below B9 hb
          replace Vy0 := Kd.V_below Vy0 hb
          replace Vy1 := Kd.V_below Vy1 hb
          replace B11 := blk_below B11 hb
          replace Vz0 := Kd.V_below Vz0 hb
          replace Vz1 := Kd.V_below Vz1 hb
          replace B13 := blk_below B13 hb
          replace Vm0 := Kd.V_below Vm0 hb
          replace Vm1 := Kd.V_below Vm1 hb
          replace B15 := blk_below B15 hb
          replace Vk0 := Kd.V_below Vk0 hb
          replace Vk1 := Kd.V_below Vk1 hb
          replace B17 := blk_below B17 hb
          clear hb
          dsimp only
          have x9_0 := (blk_cell B9 0).trans rfl
          have x9_1 := (blk_cell B9 1).trans rfl
          have x13_0 := (blk_cell B13 0).trans rfl
          have x13_1 := (blk_cell B13 1).trans rfl
          go_wp2_with fail
          clear x9_0 x9_1
          clear x13_0 x13_1
          clear Vy0 Vy1 B11
          refine (signatoryref06_Same.calls k Ax0 cx0 n0 Ax1 cx1 x1 Az0 cz0 n0 Az1 cz1 x1 true w15 (Kd.V_reads' Vx0).2.2 (Kd.V_reads' Vx0).2.1 (Kd.V_reads' Vx1).2.2 (Kd.V_reads' Vx1).2.1 (Kd.V_reads' Vz0).2.2 (Kd.V_reads' Vz0).2.1 (Kd.V_reads' Vz1).2.2 (Kd.V_reads' Vz1).2.1 hE1).mono ?_
          rintro e w16 ⟨rfl, hb⟩
          replace HB := below_step HB hb
          replace Vn0 := Kd.V_below Vn0 hb
          replace Vn1 := Kd.V_below Vn1 hb
          replace B4 := blk_below B4 hb
          replace Vx0 := Kd.V_below Vx0 hb
          replace Vx1 := Kd.V_below Vx1 hb
          replace B9 := blk_below B9 hb
          replace Vz0 := Kd.V_below Vz0 hb
          replace Vz1 := Kd.V_below Vz1 hb
          replace B13 := blk_below B13 hb
          replace Vm0 := Kd.V_below Vm0 hb
          replace Vm1 := Kd.V_below Vm1 hb
          replace B15 := blk_below B15 hb
          replace Vk0 := Kd.V_below Vk0 hb
          replace Vk1 := Kd.V_below Vk1 hb
          replace B17 := blk_below B17 hb
          clear hb
          dsimp only
          have x15_0 := (blk_cell B15 0).trans rfl
          have x15_1 := (blk_cell B15 1).trans rfl
          have x17_0 := (blk_cell B17 0).trans rfl
          have x17_1 := (blk_cell B17 1).trans rfl
          go_wp2_with fail
          clear x15_0 x15_1
          clear x17_0 x17_1
          clear Vz0 Vz1 B13
          refine (signatoryref06_Same.calls k Am0 cm0 n0 Am1 cm1 y1 Ak0 ck0 n0 Ak1 ck1 y1 true w16 (Kd.V_reads' Vm0).2.2 (Kd.V_reads' Vm0).2.1 (Kd.V_reads' Vm1).2.2 (Kd.V_reads' Vm1).2.1 (Kd.V_reads' Vk0).2.2 (Kd.V_reads' Vk0).2.1 (Kd.V_reads' Vk1).2.2 (Kd.V_reads' Vk1).2.1 hE2).mono ?_
          rintro e w17 ⟨rfl, hb⟩
          replace HB := below_step HB hb
          replace Vn0 := Kd.V_below Vn0 hb
          replace Vn1 := Kd.V_below Vn1 hb
          replace B4 := blk_below B4 hb
          replace Vx0 := Kd.V_below Vx0 hb
          replace Vx1 := Kd.V_below Vx1 hb
          replace B9 := blk_below B9 hb
          replace Vm0 := Kd.V_below Vm0 hb
          replace Vm1 := Kd.V_below Vm1 hb
          replace B15 := blk_below B15 hb
          replace Vk0 := Kd.V_below Vk0 hb
          replace Vk1 := Kd.V_below Vk1 hb
          replace B17 := blk_below B17 hb
          clear hb
          dsimp only
          obtain ⟨hlast2, hlast3⟩ := hlast.out
          clear Vm0 Vm1 B15
          have x9_0 := (blk_cell B9 0).trans rfl
          have x9_1 := (blk_cell B9 1).trans rfl
          have x17_0 := (blk_cell B17 0).trans rfl
          have x17_1 := (blk_cell B17 1).trans rfl
          have x4_0 := (blk_cell B4 0).trans rfl
          have x4_1 := (blk_cell B4 1).trans rfl
          go_wp2_with fail
          clear x9_0 x9_1
          clear x17_0 x17_1
          clear x4_0 x4_1
          go_ret
          exact ⟨rfl, HB⟩
        · have hlen0 : 0 < n0.length := List.length_pos_iff.2 h0
          have hl0 : ¬ (n0.length : Int) = 0 := by omega
          have hl1 : ((n0.length : Int) == 0) = false := by simpa using h0
          obtain ⟨i, hi, hil⟩ : ∃ i : Nat, wrap64 (at_.tmod n0.length) = (i : Int) ∧ i < n0.length := by
            have hw0 : 0 ≤ at_ := by
              have h1 := hat
              simp [Lit.wf] at h1
              have h2 : IntKind.u64.min = 0 := rfl
              omega
            have h1 := Int.tmod_nonneg (n0.length : Int) hw0
            have h2 := Int.tmod_lt_of_pos at_ (show (0 : Int) < n0.length by omega)
            exact ⟨(at_.tmod n0.length).toNat, by unfold wrap64; omega, by omega⟩
          obtain ⟨wo, hwo⟩ : ∃ wo, wo = woP n0 i := ⟨_, rfl⟩
          obtain ⟨p0, p1, p2, q0, q1, q2, d1, d2, hw⟩ := cuts_deliver n0 x1 y1 (by omega) okx oky a b hab hbt hnb i hil
          rw [← hwo] at d1 d2
          have hD1 := (netDeliver_eq n0 x1 (by omega) k (by omega) i).trans (congrArg some d1)
          have hD2 := (netDeliver_eq n0 y1 (by omega) k (by omega) i).trans (congrArg some d2)
          clear d1 d2 hk hok hat hlen hlx okx oky hab hbt hnb hwo
          have hil2 : (i : Int) < (n0.length : Int) := by omega
          go_enter Try.func5, Try.ntmps5
          have HB := Below.refl w.heap.size w
          have hba := (Below.refl _ w).alloc (Nat.le_refl _) (.cells #[.slice An0 n0.length cn0, .slice An1 n1.length cn1] 25)
          replace HB := below_step HB hba
          replace Vn0 := Kd.V_below Vn0 hba
          replace Vn1 := Kd.V_below Vn1 hba
          have B4 := World.alloc_heap_new w (.cells #[.slice An0 n0.length cn0, .slice An1 n1.length cn1] 25)
          clear hba
          go_wp2_with fail
          generalize w.alloc (.cells #[.slice An0 n0.length cn0, .slice An1 n1.length cn1] 25) = w1 at *
          refine (sane_ok w1).mono ?_
          rintro e w2 ⟨rfl, hb⟩
          replace HB := below_step HB hb
          replace Vn0 := Kd.V_below Vn0 hb
          replace Vn1 := Kd.V_below Vn1 hb
          replace B4 := blk_below B4 hb
          clear hb
          dsimp only
          have x4_0 := (blk_cell B4 0).trans rfl
          have x4_1 := (blk_cell B4 1).trans rfl
          go_wp2_with fail
          clear x4_0 x4_1
          refine (signatoryref06_Few.calls An0 cn0 n0 An1 cn1 n1 true w2 (Kd.V_reads' Vn0).2.2 (Kd.V_reads' Vn0).2.1 (Kd.V_reads' Vn1).2.2 (Kd.V_reads' Vn1).2.1 hfew).mono ?_
          rintro e w3 ⟨rfl, hb⟩
          replace HB := below_step HB hb
          replace Vn0 := Kd.V_below Vn0 hb
          replace Vn1 := Kd.V_below Vn1 hb
          replace B4 := blk_below B4 hb
          clear hb
          dsimp only
          have x4_0 := (blk_cell B4 0).trans rfl
          have x4_1 := (blk_cell B4 1).trans rfl
          go_wp2_with fail
          clear x4_0 x4_1
          refine (network_Check.calls k An0 cn0 n0 An1 cn1 n1 0 w3 (Kd.V_reads' Vn0).2.2 (Kd.V_reads' Vn0).2.1 (Kd.V_reads' Vn1).2.2 (Kd.V_reads' Vn1).2.1 hCk).mono ?_
          rintro e w4 ⟨rfl, hb⟩
          replace HB := below_step HB hb
          replace Vn0 := Kd.V_below Vn0 hb
          replace Vn1 := Kd.V_below Vn1 hb
          replace B4 := blk_below B4 hb
          clear hb
          dsimp only
          have x4_0 := (blk_cell B4 0).trans rfl
          have x4_1 := (blk_cell B4 1).trans rfl
          go_wp2_with fail
          clear x4_0 x4_1
          refine (network_Cut.calls k (fun _ => True) An0 cn0 n0 An1 cn1 n1 a b true n0 x1 0 w4 Vn0 (Kd.V_reads' Vn1).2.2 (Kd.V_reads' Vn1).2.1 hX).mono ?_
          rintro e w5 ⟨v0, v1, rfl, Vx0, Vx1, hb⟩
          replace HB := below_step HB hb
          replace Vn0 := Kd.V_below Vn0 hb
          replace Vn1 := Kd.V_below Vn1 hb
          replace B4 := blk_below B4 hb
          replace Vx1 := Kd.R_V (base' := 0) Vx1
          clear hb
          replace Vx0 := Vt Vx0
          obtain ⟨Ax0, cx0, rfl⟩ := Kd.V_slice Vx0
          replace Vx1 := Vt Vx1
          obtain ⟨Ax1, cx1, rfl⟩ := Kd.V_slice Vx1
          dsimp only
          have hba := (Below.refl _ w5).alloc (Nat.le_refl _) (.cells #[.slice Ax0 n0.length cx0, .slice Ax1 x1.length cx1] 25)
          replace HB := below_step HB hba
          replace Vn0 := Kd.V_below Vn0 hba
          replace Vn1 := Kd.V_below Vn1 hba
          replace B4 := blk_below B4 hba
          replace Vx0 := Kd.V_below Vx0 hba
          replace Vx1 := Kd.V_below Vx1 hba
          have B9 := World.alloc_heap_new w5 (.cells #[.slice Ax0 n0.length cx0, .slice Ax1 x1.length cx1] 25)
          clear hba
          have x4_0 := (blk_cell B4 0).trans rfl
          have x4_1 := (blk_cell B4 1).trans rfl
          go_wp2_with fail
          clear x4_0 x4_1
          generalize w5.alloc (.cells #[.slice Ax0 n0.length cx0, .slice Ax1 x1.length cx1] 25) = w6 at *
          refine (network_Cut.calls k (fun _ => True) An0 cn0 n0 An1 cn1 n1 b a true n0 x1 0 w6 Vn0 (Kd.V_reads' Vn1).2.2 (Kd.V_reads' Vn1).2.1 hY).mono ?_
          rintro e w7 ⟨v0, v1, rfl, Vy0, Vy1, hb⟩
          replace HB := below_step HB hb
          replace Vn0 := Kd.V_below Vn0 hb
          replace Vn1 := Kd.V_below Vn1 hb
          replace B4 := blk_below B4 hb
          replace Vx0 := Kd.V_below Vx0 hb
          replace Vx1 := Kd.V_below Vx1 hb
          replace B9 := blk_below B9 hb
          replace Vy1 := Kd.R_V (base' := 0) Vy1
          clear hb
          replace Vy0 := Vt Vy0
          obtain ⟨Ay0, cy0, rfl⟩ := Kd.V_slice Vy0
          replace Vy1 := Vt Vy1
          obtain ⟨Ay1, cy1, rfl⟩ := Kd.V_slice Vy1
          dsimp only
          have hba := (Below.refl _ w7).alloc (Nat.le_refl _) (.cells #[.slice Ay0 n0.length cy0, .slice Ay1 x1.length cy1] 25)
          replace HB := below_step HB hba
          replace Vn0 := Kd.V_below Vn0 hba
          replace Vn1 := Kd.V_below Vn1 hba
          replace B4 := blk_below B4 hba
          replace Vx0 := Kd.V_below Vx0 hba
          replace Vx1 := Kd.V_below Vx1 hba
          replace B9 := blk_below B9 hba
          replace Vy0 := Kd.V_below Vy0 hba
          replace Vy1 := Kd.V_below Vy1 hba
          have B11 := World.alloc_heap_new w7 (.cells #[.slice Ay0 n0.length cy0, .slice Ay1 x1.length cy1] 25)
          clear hba
          have x9_0 := (blk_cell B9 0).trans rfl
          have x9_1 := (blk_cell B9 1).trans rfl
          go_wp2_with fail
          clear x9_0 x9_1
          generalize w7.alloc (.cells #[.slice Ay0 n0.length cy0, .slice Ay1 x1.length cy1] 25) = w8 at *
          refine (network_Cut.calls k (fun _ => True) Ax0 cx0 n0 Ax1 cx1 x1 a b true n0 x1 0 w8 Vx0 (Kd.V_reads' Vx1).2.2 (Kd.V_reads' Vx1).2.1 hZ).mono ?_
          rintro e w9 ⟨v0, v1, rfl, Vz0, Vz1, hb⟩
          replace HB := below_step HB hb
          replace Vn0 := Kd.V_below Vn0 hb
          replace Vn1 := Kd.V_below Vn1 hb
          replace B4 := blk_below B4 hb
          replace Vx0 := Kd.V_below Vx0 hb
          replace Vx1 := Kd.V_below Vx1 hb
          replace B9 := blk_below B9 hb
          replace Vy0 := Kd.V_below Vy0 hb
          replace Vy1 := Kd.V_below Vy1 hb
          replace B11 := blk_below B11 hb
          replace Vz1 := Kd.R_V (base' := 0) Vz1
          clear hb
          replace Vz0 := Vt Vz0
          obtain ⟨Az0, cz0, rfl⟩ := Kd.V_slice Vz0
          replace Vz1 := Vt Vz1
          obtain ⟨Az1, cz1, rfl⟩ := Kd.V_slice Vz1
          dsimp only
          have hba := (Below.refl _ w9).alloc (Nat.le_refl _) (.cells #[.slice Az0 n0.length cz0, .slice Az1 x1.length cz1] 25)
          replace HB := below_step HB hba
          replace Vn0 := Kd.V_below Vn0 hba
          replace Vn1 := Kd.V_below Vn1 hba
          replace B4 := blk_below B4 hba
          replace Vx0 := Kd.V_below Vx0 hba
          replace Vx1 := Kd.V_below Vx1 hba
          replace B9 := blk_below B9 hba
          replace Vy0 := Kd.V_below Vy0 hba
          replace Vy1 := Kd.V_below Vy1 hba
          replace B11 := blk_below B11 hba
          replace Vz0 := Kd.V_below Vz0 hba
          replace Vz1 := Kd.V_below Vz1 hba
          have B13 := World.alloc_heap_new w9 (.cells #[.slice Az0 n0.length cz0, .slice Az1 x1.length cz1] 25)
          clear hba
          have x9_0 := (blk_cell B9 0).trans rfl
          have x9_1 := (blk_cell B9 1).trans rfl
          go_wp2_with fail
          clear x9_0 x9_1
          generalize w9.alloc (.cells #[.slice Az0 n0.length cz0, .slice Az1 x1.length cz1] 25) = w10 at *
          refine (network_Cut.calls k (fun _ => True) Ax0 cx0 n0 Ax1 cx1 x1 b a false n0 y1 0 w10 Vx0 (Kd.V_reads' Vx1).2.2 (Kd.V_reads' Vx1).2.1 hM).mono ?_
          rintro e w11 ⟨v0, v1, rfl, Vm0, Vm1, hb⟩
          replace HB := below_step HB hb
          replace Vn0 := Kd.V_below Vn0 hb
          replace Vn1 := Kd.V_below Vn1 hb
          replace B4 := blk_below B4 hb
          replace Vx0 := Kd.V_below Vx0 hb
          replace Vx1 := Kd.V_below Vx1 hb
          replace B9 := blk_below B9 hb
          replace Vy0 := Kd.V_below Vy0 hb
          replace Vy1 := Kd.V_below Vy1 hb
          replace B11 := blk_below B11 hb
          replace Vz0 := Kd.V_below Vz0 hb
          replace Vz1 := Kd.V_below Vz1 hb
          replace B13 := blk_below B13 hb
          replace Vm1 := Kd.R_V (base' := 0) Vm1
          clear hb
          replace Vm0 := Vt Vm0
          obtain ⟨Am0, cm0, rfl⟩ := Kd.V_slice Vm0
          replace Vm1 := Vt Vm1
          obtain ⟨Am1, cm1, rfl⟩ := Kd.V_slice Vm1
          dsimp only
          have hba := (Below.refl _ w11).alloc (Nat.le_refl _) (.cells #[.slice Am0 n0.length cm0, .slice Am1 y1.length cm1] 25)
          replace HB := below_step HB hba
          replace Vn0 := Kd.V_below Vn0 hba
          replace Vn1 := Kd.V_below Vn1 hba
          replace B4 := blk_below B4 hba
          replace Vx0 := Kd.V_below Vx0 hba
          replace Vx1 := Kd.V_below Vx1 hba
          replace B9 := blk_below B9 hba
          replace Vy0 := Kd.V_below Vy0 hba
          replace Vy1 := Kd.V_below Vy1 hba
          replace B11 := blk_below B11 hba
          replace Vz0 := Kd.V_below Vz0 hba
          replace Vz1 := Kd.V_below Vz1 hba
          replace B13 := blk_below B13 hba
          replace Vm0 := Kd.V_below Vm0 hba
          replace Vm1 := Kd.V_below Vm1 hba
          have B15 := World.alloc_heap_new w11 (.cells #[.slice Am0 n0.length cm0, .slice Am1 y1.length cm1] 25)
          clear hba
          have x4_0 := (blk_cell B4 0).trans rfl
          have x4_1 := (blk_cell B4 1).trans rfl
          go_wp2_with fail
          clear x4_0 x4_1
          generalize w11.alloc (.cells #[.slice Am0 n0.length cm0, .slice Am1 y1.length cm1] 25) = w12 at *
          refine (network_Cut.calls k (fun _ => True) An0 cn0 n0 An1 cn1 n1 a b false n0 y1 0 w12 Vn0 (Kd.V_reads' Vn1).2.2 (Kd.V_reads' Vn1).2.1 hK).mono ?_
          rintro e w13 ⟨v0, v1, rfl, Vk0, Vk1, hb⟩
          replace HB := below_step HB hb
          replace Vn0 := Kd.V_below Vn0 hb
          replace Vn1 := Kd.V_below Vn1 hb
          replace B4 := blk_below B4 hb
          replace Vx0 := Kd.V_below Vx0 hb
          replace Vx1 := Kd.V_below Vx1 hb
          replace B9 := blk_below B9 hb
          replace Vy0 := Kd.V_below Vy0 hb
          replace Vy1 := Kd.V_below Vy1 hb
          replace B11 := blk_below B11 hb
          replace Vz0 := Kd.V_below Vz0 hb
          replace Vz1 := Kd.V_below Vz1 hb
          replace B13 := blk_below B13 hb
          replace Vm0 := Kd.V_below Vm0 hb
          replace Vm1 := Kd.V_below Vm1 hb
          replace B15 := blk_below B15 hb
          replace Vk1 := Kd.R_V (base' := 0) Vk1
          clear hb
          replace Vk0 := Vt Vk0
          obtain ⟨Ak0, ck0, rfl⟩ := Kd.V_slice Vk0
          replace Vk1 := Vt Vk1
          obtain ⟨Ak1, ck1, rfl⟩ := Kd.V_slice Vk1
          dsimp only
          have hba := (Below.refl _ w13).alloc (Nat.le_refl _) (.cells #[.slice Ak0 n0.length ck0, .slice Ak1 y1.length ck1] 25)
          replace HB := below_step HB hba
          replace Vn0 := Kd.V_below Vn0 hba
          replace Vn1 := Kd.V_below Vn1 hba
          replace B4 := blk_below B4 hba
          replace Vx0 := Kd.V_below Vx0 hba
          replace Vx1 := Kd.V_below Vx1 hba
          replace B9 := blk_below B9 hba
          replace Vy0 := Kd.V_below Vy0 hba
          replace Vy1 := Kd.V_below Vy1 hba
          replace B11 := blk_below B11 hba
          replace Vz0 := Kd.V_below Vz0 hba
          replace Vz1 := Kd.V_below Vz1 hba
          replace B13 := blk_below B13 hba
          replace Vm0 := Kd.V_below Vm0 hba
          replace Vm1 := Kd.V_below Vm1 hba
          replace B15 := blk_below B15 hba
          replace Vk0 := Kd.V_below Vk0 hba
          replace Vk1 := Kd.V_below Vk1 hba
          have B17 := World.alloc_heap_new w13 (.cells #[.slice Ak0 n0.length ck0, .slice Ak1 y1.length ck1] 25)
          clear hba
          have x9_0 := (blk_cell B9 0).trans rfl
          have x9_1 := (blk_cell B9 1).trans rfl
          have x11_0 := (blk_cell B11 0).trans rfl
          have x11_1 := (blk_cell B11 1).trans rfl
          go_wp2_with fail
          clear x9_0 x9_1
          clear x11_0 x11_1
          generalize w13.alloc (.cells #[.slice Ak0 n0.length ck0, .slice Ak1 y1.length ck1] 25) = w14 at *
          refine (signatoryref06_Same.calls k Ax0 cx0 n0 Ax1 cx1 x1 Ay0 cy0 n0 Ay1 cy1 x1 true w14 (Kd.V_reads' Vx0).2.2 (Kd.V_reads' Vx0).2.1 (Kd.V_reads' Vx1).2.2 (Kd.V_reads' Vx1).2.1 (Kd.V_reads' Vy0).2.2 (Kd.V_reads' Vy0).2.1 (Kd.V_reads' Vy1).2.2 (Kd.V_reads' Vy1).2.1 hE1).mono ?_
          rintro e w15 ⟨rfl, hb⟩
          replace HB := below_step HB hb
          replace Vn0 := Kd.V_below Vn0 hb
          replace Vn1 := Kd.V_below Vn1 hb
          replace B4 := blk_below B4 hb
          replace Vx0 := Kd.V_below Vx0 hb
          replace Vx1 := Kd.V_below Vx1 hb
          replace B9 := blk_below B9 hb
          replace Vy0 := Kd.V_below Vy0 hb
          replace Vy1 := Kd.V_below Vy1 hb
          replace B11 := blk_below B11 hb
          replace Vz0 := Kd.V_below Vz0 hb
          replace Vz1 := Kd.V_below Vz1 hb
          replace B13 := blk_below B13 hb
          replace Vm0 := Kd.V_below Vm0 hb
          replace Vm1 := Kd.V_below Vm1 hb
          replace B15 := blk_below B15 hb
          replace Vk0 := Kd.V_below Vk0 hb
          replace Vk1 := Kd.V_below Vk1 hb
          replace B17 := blk_below B17 hb
          clear hb
          dsimp only
          have x9_0 := (blk_cell B9 0).trans rfl
          have x9_1 := (blk_cell B9 1).trans rfl
          have x13_0 := (blk_cell B13 0).trans rfl
          have x13_1 := (blk_cell B13 1).trans rfl
          go_wp2_with fail
          clear x9_0 x9_1
          clear x13_0 x13_1
          clear Vy0 Vy1 B11
          refine (signatoryref06_Same.calls k Ax0 cx0 n0 Ax1 cx1 x1 Az0 cz0 n0 Az1 cz1 x1 true w15 (Kd.V_reads' Vx0).2.2 (Kd.V_reads' Vx0).2.1 (Kd.V_reads' Vx1).2.2 (Kd.V_reads' Vx1).2.1 (Kd.V_reads' Vz0).2.2 (Kd.V_reads' Vz0).2.1 (Kd.V_reads' Vz1).2.2 (Kd.V_reads' Vz1).2.1 hE1).mono ?_
          rintro e w16 ⟨rfl, hb⟩
          replace HB := below_step HB hb
          replace Vn0 := Kd.V_below Vn0 hb
          replace Vn1 := Kd.V_below Vn1 hb
          replace B4 := blk_below B4 hb
          replace Vx0 := Kd.V_below Vx0 hb
          replace Vx1 := Kd.V_below Vx1 hb
          replace B9 := blk_below B9 hb
          replace Vz0 := Kd.V_below Vz0 hb
          replace Vz1 := Kd.V_below Vz1 hb
          replace B13 := blk_below B13 hb
          replace Vm0 := Kd.V_below Vm0 hb
          replace Vm1 := Kd.V_below Vm1 hb
          replace B15 := blk_below B15 hb
          replace Vk0 := Kd.V_below Vk0 hb
          replace Vk1 := Kd.V_below Vk1 hb
          replace B17 := blk_below B17 hb
          clear hb
          dsimp only
          have x15_0 := (blk_cell B15 0).trans rfl
          have x15_1 := (blk_cell B15 1).trans rfl
          have x17_0 := (blk_cell B17 0).trans rfl
          have x17_1 := (blk_cell B17 1).trans rfl
          go_wp2_with fail
          clear x15_0 x15_1
          clear x17_0 x17_1
          clear Vz0 Vz1 B13
          refine (signatoryref06_Same.calls k Am0 cm0 n0 Am1 cm1 y1 Ak0 ck0 n0 Ak1 ck1 y1 true w16 (Kd.V_reads' Vm0).2.2 (Kd.V_reads' Vm0).2.1 (Kd.V_reads' Vm1).2.2 (Kd.V_reads' Vm1).2.1 (Kd.V_reads' Vk0).2.2 (Kd.V_reads' Vk0).2.1 (Kd.V_reads' Vk1).2.2 (Kd.V_reads' Vk1).2.1 hE2).mono ?_
          rintro e w17 ⟨rfl, hb⟩
          replace HB := below_step HB hb
          replace Vn0 := Kd.V_below Vn0 hb
          replace Vn1 := Kd.V_below Vn1 hb
          replace B4 := blk_below B4 hb
          replace Vx0 := Kd.V_below Vx0 hb
          replace Vx1 := Kd.V_below Vx1 hb
          replace B9 := blk_below B9 hb
          replace Vm0 := Kd.V_below Vm0 hb
          replace Vm1 := Kd.V_below Vm1 hb
          replace B15 := blk_below B15 hb
          replace Vk0 := Kd.V_below Vk0 hb
          replace Vk1 := Kd.V_below Vk1 hb
          replace B17 := blk_below B17 hb
          clear hb
          dsimp only
          obtain ⟨hlast2, hlast3⟩ := hlast.out
          clear Vm0 Vm1 B15
          have x9_0 := (blk_cell B9 0).trans rfl
          have x9_1 := (blk_cell B9 1).trans rfl
          have x17_0 := (blk_cell B17 0).trans rfl
          have x17_1 := (blk_cell B17 1).trans rfl
          have x4_0 := (blk_cell B4 0).trans rfl
          have x4_1 := (blk_cell B4 1).trans rfl
          go_wp2_with fail
          clear x9_0 x9_1
          clear x17_0 x17_1
          clear x4_0 x4_1
          rw [hi]
          refine (network_Deliver.calls k (fun _ => True) Ax0 cx0 n0 (fun _ => True) Ax1 cx1 x1 i p0 p1 p2 wo x1 0 w17 Vx0 Vx1 hD1).mono ?_
          rintro e w18 ⟨v2, v3, v4, rfl, Vp2, Vp3, Vp4, hb⟩
          replace HB := below_step HB hb
          replace Vn0 := Kd.V_below Vn0 hb
          replace Vn1 := Kd.V_below Vn1 hb
          replace B4 := blk_below B4 hb
          replace Vx0 := Kd.V_below Vx0 hb
          replace Vx1 := Kd.V_below Vx1 hb
          replace B9 := blk_below B9 hb
          replace Vk0 := Kd.V_below Vk0 hb
          replace Vk1 := Kd.V_below Vk1 hb
          replace B17 := blk_below B17 hb
          clear hb
          replace Vp2 := Vt Vp2
          obtain ⟨Ap2, cp2, rfl⟩ := Kd.V_slice Vp2
          replace Vp3 := Vt Vp3
          obtain ⟨Ap3, cp3, rfl⟩ := Kd.V_slice Vp3
          replace Vp4 := Vt Vp4
          obtain ⟨Ap4, cp4, rfl⟩ := Kd.V_slice Vp4
          dsimp only
          have hba := (Below.refl _ w18).alloc (Nat.le_refl _) (.cells #[.int .i64 p0, .int .i64 p1, .slice Ap2 p2.length cp2] 28)
          replace HB := below_step HB hba
          replace Vn0 := Kd.V_below Vn0 hba
          replace Vn1 := Kd.V_below Vn1 hba
          replace B4 := blk_below B4 hba
          replace Vx0 := Kd.V_below Vx0 hba
          replace Vx1 := Kd.V_below Vx1 hba
          replace B9 := blk_below B9 hba
          replace Vk0 := Kd.V_below Vk0 hba
          replace Vk1 := Kd.V_below Vk1 hba
          replace B17 := blk_below B17 hba
          replace Vp2 := Kd.V_below Vp2 hba
          replace Vp3 := Kd.V_below Vp3 hba
          replace Vp4 := Kd.V_below Vp4 hba
          have B20 := World.alloc_heap_new w18 (.cells #[.int .i64 p0, .int .i64 p1, .slice Ap2 p2.length cp2] 28)
          clear hba
          have hba := (Below.refl _ (w18.alloc (.cells #[.int .i64 p0, .int .i64 p1, .slice Ap2 p2.length cp2] 28))).alloc (Nat.le_refl _) (.cells #[.slice Ap3 wo.length cp3, .slice Ap4 x1.length cp4] 25)
          replace HB := below_step HB hba
          replace Vn0 := Kd.V_below Vn0 hba
          replace Vn1 := Kd.V_below Vn1 hba
          replace B4 := blk_below B4 hba
          replace Vx0 := Kd.V_below Vx0 hba
          replace Vx1 := Kd.V_below Vx1 hba
          replace B9 := blk_below B9 hba
          replace Vk0 := Kd.V_below Vk0 hba
          replace Vk1 := Kd.V_below Vk1 hba
          replace B17 := blk_below B17 hba
          replace Vp2 := Kd.V_below Vp2 hba
          replace Vp3 := Kd.V_below Vp3 hba
          replace Vp4 := Kd.V_below Vp4 hba
          replace B20 := blk_below B20 hba
          have B21 := World.alloc_heap_new (w18.alloc (.cells #[.int .i64 p0, .int .i64 p1, .slice Ap2 p2.length cp2] 28)) (.cells #[.slice Ap3 wo.length cp3, .slice Ap4 x1.length cp4] 25)
          clear hba
          simp only [World.size_alloc] at B21
          clear Vp3 Vp4 B21
          have x17_0 := (blk_cell B17 0).trans rfl
          have x17_1 := (blk_cell B17 1).trans rfl
          go_wp2_with fail
          clear x17_0 x17_1
          generalize (w18.alloc (.cells #[.int .i64 p0, .int .i64 p1, .slice Ap2 p2.length cp2] 28)).alloc (.cells #[.slice Ap3 wo.length cp3, .slice Ap4 x1.length cp4] 25) = w19 at *
          rcases hw with ⟨hP, e1, e2⟩ | ⟨hP, e1, e3, e4⟩ | ⟨s, hP, hQ, hR, e1, e2, e3⟩ | ⟨s, hP, hQ, hR, e1, e3, e4⟩ | ⟨s, hP, hQ, hR, e1, e3⟩
          · skip
            refine (network_Deliver.calls k (fun _ => True) Ak0 ck0 n0 (fun _ => True) Ak1 ck1 y1 i q0 q1 q2 wo y1 0 w19 Vk0 Vk1 hD2).mono ?_
            rintro e w20 ⟨v2, v3, v4, rfl, Vq2, Vq3, Vq4, hb⟩
            replace HB := below_step HB hb
            replace Vn0 := Kd.V_below Vn0 hb
            replace Vn1 := Kd.V_below Vn1 hb
            replace B4 := blk_below B4 hb
            replace Vx0 := Kd.V_below Vx0 hb
            replace Vx1 := Kd.V_below Vx1 hb
            replace B9 := blk_below B9 hb
            replace Vk0 := Kd.V_below Vk0 hb
            replace Vk1 := Kd.V_below Vk1 hb
            replace B17 := blk_below B17 hb
            replace Vp2 := Kd.V_below Vp2 hb
            replace B20 := blk_below B20 hb
            clear hb
            replace Vq2 := Vt Vq2
            obtain ⟨Aq2, cq2, rfl⟩ := Kd.V_slice Vq2
            replace Vq3 := Vt Vq3
            obtain ⟨Aq3, cq3, rfl⟩ := Kd.V_slice Vq3
            replace Vq4 := Vt Vq4
            obtain ⟨Aq4, cq4, rfl⟩ := Kd.V_slice Vq4
            dsimp only
            have hba := (Below.refl _ w20).alloc (Nat.le_refl _) (.cells #[.int .i64 q0, .int .i64 q1, .slice Aq2 q2.length cq2] 28)
            replace HB := below_step HB hba
            replace Vn0 := Kd.V_below Vn0 hba
            replace Vn1 := Kd.V_below Vn1 hba
            replace B4 := blk_below B4 hba
            replace Vx0 := Kd.V_below Vx0 hba
            replace Vx1 := Kd.V_below Vx1 hba
            replace B9 := blk_below B9 hba
            replace Vk0 := Kd.V_below Vk0 hba
            replace Vk1 := Kd.V_below Vk1 hba
            replace B17 := blk_below B17 hba
            replace Vp2 := Kd.V_below Vp2 hba
            replace B20 := blk_below B20 hba
            replace Vq2 := Kd.V_below Vq2 hba
            replace Vq3 := Kd.V_below Vq3 hba
            replace Vq4 := Kd.V_below Vq4 hba
            have B23 := World.alloc_heap_new w20 (.cells #[.int .i64 q0, .int .i64 q1, .slice Aq2 q2.length cq2] 28)
            clear hba
            have hba := (Below.refl _ (w20.alloc (.cells #[.int .i64 q0, .int .i64 q1, .slice Aq2 q2.length cq2] 28))).alloc (Nat.le_refl _) (.cells #[.slice Aq3 wo.length cq3, .slice Aq4 y1.length cq4] 25)
            replace HB := below_step HB hba
            replace Vn0 := Kd.V_below Vn0 hba
            replace Vn1 := Kd.V_below Vn1 hba
            replace B4 := blk_below B4 hba
            replace Vx0 := Kd.V_below Vx0 hba
            replace Vx1 := Kd.V_below Vx1 hba
            replace B9 := blk_below B9 hba
            replace Vk0 := Kd.V_below Vk0 hba
            replace Vk1 := Kd.V_below Vk1 hba
            replace B17 := blk_below B17 hba
            replace Vp2 := Kd.V_below Vp2 hba
            replace B20 := blk_below B20 hba
            replace Vq2 := Kd.V_below Vq2 hba
            replace Vq3 := Kd.V_below Vq3 hba
            replace Vq4 := Kd.V_below Vq4 hba
            replace B23 := blk_below B23 hba
            have B24 := World.alloc_heap_new (w20.alloc (.cells #[.int .i64 q0, .int .i64 q1, .slice Aq2 q2.length cq2] 28)) (.cells #[.slice Aq3 wo.length cq3, .slice Aq4 y1.length cq4] 25)
            clear hba
            simp only [World.size_alloc] at B24
            clear Vq3 Vq4 B24
            have x20_0 := (blk_cell B20 0).trans rfl
            have x20_1 := (blk_cell B20 1).trans rfl
            have x20_2 := (blk_cell B20 2).trans rfl
            have x23_0 := (blk_cell B23 0).trans rfl
            have x23_1 := (blk_cell B23 1).trans rfl
            have x23_2 := (blk_cell B23 2).trans rfl
            go_wp2_with fail
            clear x20_0 x20_1 x20_2
            clear x23_0 x23_1 x23_2
            generalize (w20.alloc (.cells #[.int .i64 q0, .int .i64 q1, .slice Aq2 q2.length cq2] 28)).alloc (.cells #[.slice Aq3 wo.length cq3, .slice Aq4 y1.length cq4] 25) = w21 at *
            refine (signatoryref06_SamePacket.calls p0 p1 Ap2 cp2 p2 0 0 none 0 [] true w21 (Kd.V_reads' Vp2).2.2 (Kd.V_reads' Vp2).2.1 (Kd.C_nil _ _) (Nat.le_refl _) hP).mono ?_
            rintro e w22 ⟨rfl, hb⟩
            replace HB := below_step HB hb
            replace Vn0 := Kd.V_below Vn0 hb
            replace Vn1 := Kd.V_below Vn1 hb
            replace B4 := blk_below B4 hb
            replace Vx0 := Kd.V_below Vx0 hb
            replace Vx1 := Kd.V_below Vx1 hb
            replace B9 := blk_below B9 hb
            replace Vk0 := Kd.V_below Vk0 hb
            replace Vk1 := Kd.V_below Vk1 hb
            replace B17 := blk_below B17 hb
            replace Vp2 := Kd.V_below Vp2 hb
            replace B20 := blk_below B20 hb
            replace Vq2 := Kd.V_below Vq2 hb
            replace B23 := blk_below B23 hb
            clear hb
            dsimp only
            have x23_0 := (blk_cell B23 0).trans rfl
            have x23_1 := (blk_cell B23 1).trans rfl
            have x23_2 := (blk_cell B23 2).trans rfl
            have x20_0 := (blk_cell B20 0).trans rfl
            have x20_1 := (blk_cell B20 1).trans rfl
            have x20_2 := (blk_cell B20 2).trans rfl
            go_wp2_with fail
            clear x23_0 x23_1 x23_2
            clear x20_0 x20_1 x20_2
            go_ret
            exact ⟨rfl, HB⟩
          · skip
            refine (network_Deliver.calls k (fun _ => True) Ak0 ck0 n0 (fun _ => True) Ak1 ck1 y1 i q0 q1 q2 wo y1 0 w19 Vk0 Vk1 hD2).mono ?_
            rintro e w20 ⟨v2, v3, v4, rfl, Vq2, Vq3, Vq4, hb⟩
            replace HB := below_step HB hb
            replace Vn0 := Kd.V_below Vn0 hb
            replace Vn1 := Kd.V_below Vn1 hb
            replace B4 := blk_below B4 hb
            replace Vx0 := Kd.V_below Vx0 hb
            replace Vx1 := Kd.V_below Vx1 hb
            replace B9 := blk_below B9 hb
            replace Vk0 := Kd.V_below Vk0 hb
            replace Vk1 := Kd.V_below Vk1 hb
            replace B17 := blk_below B17 hb
            replace Vp2 := Kd.V_below Vp2 hb
            replace B20 := blk_below B20 hb
            clear hb
            replace Vq2 := Vt Vq2
            obtain ⟨Aq2, cq2, rfl⟩ := Kd.V_slice Vq2
            replace Vq3 := Vt Vq3
            obtain ⟨Aq3, cq3, rfl⟩ := Kd.V_slice Vq3
            replace Vq4 := Vt Vq4
            obtain ⟨Aq4, cq4, rfl⟩ := Kd.V_slice Vq4
            dsimp only
            have hba := (Below.refl _ w20).alloc (Nat.le_refl _) (.cells #[.int .i64 q0, .int .i64 q1, .slice Aq2 q2.length cq2] 28)
            replace HB := below_step HB hba
            replace Vn0 := Kd.V_below Vn0 hba
            replace Vn1 := Kd.V_below Vn1 hba
            replace B4 := blk_below B4 hba
            replace Vx0 := Kd.V_below Vx0 hba
            replace Vx1 := Kd.V_below Vx1 hba
            replace B9 := blk_below B9 hba
            replace Vk0 := Kd.V_below Vk0 hba
            replace Vk1 := Kd.V_below Vk1 hba
            replace B17 := blk_below B17 hba
            replace Vp2 := Kd.V_below Vp2 hba
            replace B20 := blk_below B20 hba
            replace Vq2 := Kd.V_below Vq2 hba
            replace Vq3 := Kd.V_below Vq3 hba
            replace Vq4 := Kd.V_below Vq4 hba
            have B23 := World.alloc_heap_new w20 (.cells #[.int .i64 q0, .int .i64 q1, .slice Aq2 q2.length cq2] 28)
            clear hba
            have hba := (Below.refl _ (w20.alloc (.cells #[.int .i64 q0, .int .i64 q1, .slice Aq2 q2.length cq2] 28))).alloc (Nat.le_refl _) (.cells #[.slice Aq3 wo.length cq3, .slice Aq4 y1.length cq4] 25)
            replace HB := below_step HB hba
            replace Vn0 := Kd.V_below Vn0 hba
            replace Vn1 := Kd.V_below Vn1 hba
            replace B4 := blk_below B4 hba
            replace Vx0 := Kd.V_below Vx0 hba
            replace Vx1 := Kd.V_below Vx1 hba
            replace B9 := blk_below B9 hba
            replace Vk0 := Kd.V_below Vk0 hba
            replace Vk1 := Kd.V_below Vk1 hba
            replace B17 := blk_below B17 hba
            replace Vp2 := Kd.V_below Vp2 hba
            replace B20 := blk_below B20 hba
            replace Vq2 := Kd.V_below Vq2 hba
            replace Vq3 := Kd.V_below Vq3 hba
            replace Vq4 := Kd.V_below Vq4 hba
            replace B23 := blk_below B23 hba
            have B24 := World.alloc_heap_new (w20.alloc (.cells #[.int .i64 q0, .int .i64 q1, .slice Aq2 q2.length cq2] 28)) (.cells #[.slice Aq3 wo.length cq3, .slice Aq4 y1.length cq4] 25)
            clear hba
            simp only [World.size_alloc] at B24
            clear Vq3 Vq4 B24
            have x20_0 := (blk_cell B20 0).trans rfl
            have x20_1 := (blk_cell B20 1).trans rfl
            have x20_2 := (blk_cell B20 2).trans rfl
            have x23_0 := (blk_cell B23 0).trans rfl
            have x23_1 := (blk_cell B23 1).trans rfl
            have x23_2 := (blk_cell B23 2).trans rfl
            go_wp2_with fail
            clear x20_0 x20_1 x20_2
            clear x23_0 x23_1 x23_2
            generalize (w20.alloc (.cells #[.int .i64 q0, .int .i64 q1, .slice Aq2 q2.length cq2] 28)).alloc (.cells #[.slice Aq3 wo.length cq3, .slice Aq4 y1.length cq4] 25) = w21 at *
            refine (signatoryref06_SamePacket.calls p0 p1 Ap2 cp2 p2 0 0 none 0 [] true w21 (Kd.V_reads' Vp2).2.2 (Kd.V_reads' Vp2).2.1 (Kd.C_nil _ _) (Nat.le_refl _) hP).mono ?_
            rintro e w22 ⟨rfl, hb⟩
            replace HB := below_step HB hb
            replace Vn0 := Kd.V_below Vn0 hb
            replace Vn1 := Kd.V_below Vn1 hb
            replace B4 := blk_below B4 hb
            replace Vx0 := Kd.V_below Vx0 hb
            replace Vx1 := Kd.V_below Vx1 hb
            replace B9 := blk_below B9 hb
            replace Vk0 := Kd.V_below Vk0 hb
            replace Vk1 := Kd.V_below Vk1 hb
            replace B17 := blk_below B17 hb
            replace Vp2 := Kd.V_below Vp2 hb
            replace B20 := blk_below B20 hb
            replace Vq2 := Kd.V_below Vq2 hb
            replace B23 := blk_below B23 hb
            clear hb
            dsimp only
            have x23_0 := (blk_cell B23 0).trans rfl
            have x23_1 := (blk_cell B23 1).trans rfl
            have x23_2 := (blk_cell B23 2).trans rfl
            have x20_0 := (blk_cell B20 0).trans rfl
            have x20_1 := (blk_cell B20 1).trans rfl
            have x20_2 := (blk_cell B20 2).trans rfl
            go_wp2_with fail
            clear x23_0 x23_1 x23_2
            clear x20_0 x20_1 x20_2
            go_ret
            exact ⟨rfl, HB⟩
          · skip
            refine (network_Deliver.calls k (fun _ => True) Ak0 ck0 n0 (fun _ => True) Ak1 ck1 y1 i q0 q1 q2 wo y1 0 w19 Vk0 Vk1 hD2).mono ?_
            rintro e w20 ⟨v2, v3, v4, rfl, Vq2, Vq3, Vq4, hb⟩
            replace HB := below_step HB hb
            replace Vn0 := Kd.V_below Vn0 hb
            replace Vn1 := Kd.V_below Vn1 hb
            replace B4 := blk_below B4 hb
            replace Vx0 := Kd.V_below Vx0 hb
            replace Vx1 := Kd.V_below Vx1 hb
            replace B9 := blk_below B9 hb
            replace Vk0 := Kd.V_below Vk0 hb
            replace Vk1 := Kd.V_below Vk1 hb
            replace B17 := blk_below B17 hb
            replace Vp2 := Kd.V_below Vp2 hb
            replace B20 := blk_below B20 hb
            clear hb
            replace Vq2 := Vt Vq2
            obtain ⟨Aq2, cq2, rfl⟩ := Kd.V_slice Vq2
            replace Vq3 := Vt Vq3
            obtain ⟨Aq3, cq3, rfl⟩ := Kd.V_slice Vq3
            replace Vq4 := Vt Vq4
            obtain ⟨Aq4, cq4, rfl⟩ := Kd.V_slice Vq4
            dsimp only
            have hba := (Below.refl _ w20).alloc (Nat.le_refl _) (.cells #[.int .i64 q0, .int .i64 q1, .slice Aq2 q2.length cq2] 28)
            replace HB := below_step HB hba
            replace Vn0 := Kd.V_below Vn0 hba
            replace Vn1 := Kd.V_below Vn1 hba
            replace B4 := blk_below B4 hba
            replace Vx0 := Kd.V_below Vx0 hba
            replace Vx1 := Kd.V_below Vx1 hba
            replace B9 := blk_below B9 hba
            replace Vk0 := Kd.V_below Vk0 hba
            replace Vk1 := Kd.V_below Vk1 hba
            replace B17 := blk_below B17 hba
            replace Vp2 := Kd.V_below Vp2 hba
            replace B20 := blk_below B20 hba
            replace Vq2 := Kd.V_below Vq2 hba
            replace Vq3 := Kd.V_below Vq3 hba
            replace Vq4 := Kd.V_below Vq4 hba
            have B23 := World.alloc_heap_new w20 (.cells #[.int .i64 q0, .int .i64 q1, .slice Aq2 q2.length cq2] 28)
            clear hba
            have hba := (Below.refl _ (w20.alloc (.cells #[.int .i64 q0, .int .i64 q1, .slice Aq2 q2.length cq2] 28))).alloc (Nat.le_refl _) (.cells #[.slice Aq3 wo.length cq3, .slice Aq4 y1.length cq4] 25)
            replace HB := below_step HB hba
            replace Vn0 := Kd.V_below Vn0 hba
            replace Vn1 := Kd.V_below Vn1 hba
            replace B4 := blk_below B4 hba
            replace Vx0 := Kd.V_below Vx0 hba
            replace Vx1 := Kd.V_below Vx1 hba
            replace B9 := blk_below B9 hba
            replace Vk0 := Kd.V_below Vk0 hba
            replace Vk1 := Kd.V_below Vk1 hba
            replace B17 := blk_below B17 hba
            replace Vp2 := Kd.V_below Vp2 hba
            replace B20 := blk_below B20 hba
            replace Vq2 := Kd.V_below Vq2 hba
            replace Vq3 := Kd.V_below Vq3 hba
            replace Vq4 := Kd.V_below Vq4 hba
            replace B23 := blk_below B23 hba
            have B24 := World.alloc_heap_new (w20.alloc (.cells #[.int .i64 q0, .int .i64 q1, .slice Aq2 q2.length cq2] 28)) (.cells #[.slice Aq3 wo.length cq3, .slice Aq4 y1.length cq4] 25)
            clear hba
            simp only [World.size_alloc] at B24
            clear Vq3 Vq4 B24
            have x20_0 := (blk_cell B20 0).trans rfl
            have x20_1 := (blk_cell B20 1).trans rfl
            have x20_2 := (blk_cell B20 2).trans rfl
            have x23_0 := (blk_cell B23 0).trans rfl
            have x23_1 := (blk_cell B23 1).trans rfl
            have x23_2 := (blk_cell B23 2).trans rfl
            go_wp2_with fail
            clear x20_0 x20_1 x20_2
            clear x23_0 x23_1 x23_2
            generalize (w20.alloc (.cells #[.int .i64 q0, .int .i64 q1, .slice Aq2 q2.length cq2] 28)).alloc (.cells #[.slice Aq3 wo.length cq3, .slice Aq4 y1.length cq4] 25) = w21 at *
            refine (signatoryref06_SamePacket.calls p0 p1 Ap2 cp2 p2 0 0 none 0 [] s w21 (Kd.V_reads' Vp2).2.2 (Kd.V_reads' Vp2).2.1 (Kd.C_nil _ _) (Nat.le_refl _) hP).mono ?_
            rintro e w22 ⟨rfl, hb⟩
            replace HB := below_step HB hb
            replace Vn0 := Kd.V_below Vn0 hb
            replace Vn1 := Kd.V_below Vn1 hb
            replace B4 := blk_below B4 hb
            replace Vx0 := Kd.V_below Vx0 hb
            replace Vx1 := Kd.V_below Vx1 hb
            replace B9 := blk_below B9 hb
            replace Vk0 := Kd.V_below Vk0 hb
            replace Vk1 := Kd.V_below Vk1 hb
            replace B17 := blk_below B17 hb
            replace Vp2 := Kd.V_below Vp2 hb
            replace B20 := blk_below B20 hb
            replace Vq2 := Kd.V_below Vq2 hb
            replace B23 := blk_below B23 hb
            clear hb
            dsimp only
            have x23_0 := (blk_cell B23 0).trans rfl
            have x23_1 := (blk_cell B23 1).trans rfl
            have x23_2 := (blk_cell B23 2).trans rfl
            have x20_0 := (blk_cell B20 0).trans rfl
            have x20_1 := (blk_cell B20 1).trans rfl
            have x20_2 := (blk_cell B20 2).trans rfl
            go_wp2_with fail
            clear x23_0 x23_1 x23_2
            clear x20_0 x20_1 x20_2
            refine (signatoryref06_SamePacket.calls q0 q1 Aq2 cq2 q2 0 0 none 0 [] s w22 (Kd.V_reads' Vq2).2.2 (Kd.V_reads' Vq2).2.1 (Kd.C_nil _ _) (Nat.le_refl _) hQ).mono ?_
            rintro e w23 ⟨rfl, hb⟩
            replace HB := below_step HB hb
            replace Vn0 := Kd.V_below Vn0 hb
            replace Vn1 := Kd.V_below Vn1 hb
            replace B4 := blk_below B4 hb
            replace Vx0 := Kd.V_below Vx0 hb
            replace Vx1 := Kd.V_below Vx1 hb
            replace B9 := blk_below B9 hb
            replace Vk0 := Kd.V_below Vk0 hb
            replace Vk1 := Kd.V_below Vk1 hb
            replace B17 := blk_below B17 hb
            replace Vp2 := Kd.V_below Vp2 hb
            replace B20 := blk_below B20 hb
            replace Vq2 := Kd.V_below Vq2 hb
            replace B23 := blk_below B23 hb
            clear hb
            dsimp only
            have x23_0 := (blk_cell B23 0).trans rfl
            have x23_1 := (blk_cell B23 1).trans rfl
            have x23_2 := (blk_cell B23 2).trans rfl
            have x20_0 := (blk_cell B20 0).trans rfl
            have x20_1 := (blk_cell B20 1).trans rfl
            have x20_2 := (blk_cell B20 2).trans rfl
            go_wp2_with fail
            clear x23_0 x23_1 x23_2
            clear x20_0 x20_1 x20_2
            refine (signatoryref06_SamePacket.calls p0 p1 Ap2 cp2 p2 q0 q1 Aq2 cq2 q2 true w23 (Kd.V_reads' Vp2).2.2 (Kd.V_reads' Vp2).2.1 (Kd.V_reads' Vq2).2.2 (Kd.V_reads' Vq2).2.1 hR).mono ?_
            rintro e w24 ⟨rfl, hb⟩
            replace HB := below_step HB hb
            replace Vn0 := Kd.V_below Vn0 hb
            replace Vn1 := Kd.V_below Vn1 hb
            replace B4 := blk_below B4 hb
            replace Vx0 := Kd.V_below Vx0 hb
            replace Vx1 := Kd.V_below Vx1 hb
            replace B9 := blk_below B9 hb
            replace Vk0 := Kd.V_below Vk0 hb
            replace Vk1 := Kd.V_below Vk1 hb
            replace B17 := blk_below B17 hb
            replace Vp2 := Kd.V_below Vp2 hb
            replace B20 := blk_below B20 hb
            replace Vq2 := Kd.V_below Vq2 hb
            replace B23 := blk_below B23 hb
            clear hb
            dsimp only
            go_wp2_with fail
            go_ret
            exact ⟨rfl, HB⟩
          · skip
            refine (network_Deliver.calls k (fun _ => True) Ak0 ck0 n0 (fun _ => True) Ak1 ck1 y1 i q0 q1 q2 wo y1 0 w19 Vk0 Vk1 hD2).mono ?_
            rintro e w20 ⟨v2, v3, v4, rfl, Vq2, Vq3, Vq4, hb⟩
            replace HB := below_step HB hb
            replace Vn0 := Kd.V_below Vn0 hb
            replace Vn1 := Kd.V_below Vn1 hb
            replace B4 := blk_below B4 hb
            replace Vx0 := Kd.V_below Vx0 hb
            replace Vx1 := Kd.V_below Vx1 hb
            replace B9 := blk_below B9 hb
            replace Vk0 := Kd.V_below Vk0 hb
            replace Vk1 := Kd.V_below Vk1 hb
            replace B17 := blk_below B17 hb
            replace Vp2 := Kd.V_below Vp2 hb
            replace B20 := blk_below B20 hb
            clear hb
            replace Vq2 := Vt Vq2
            obtain ⟨Aq2, cq2, rfl⟩ := Kd.V_slice Vq2
            replace Vq3 := Vt Vq3
            obtain ⟨Aq3, cq3, rfl⟩ := Kd.V_slice Vq3
            replace Vq4 := Vt Vq4
            obtain ⟨Aq4, cq4, rfl⟩ := Kd.V_slice Vq4
            dsimp only
            have hba := (Below.refl _ w20).alloc (Nat.le_refl _) (.cells #[.int .i64 q0, .int .i64 q1, .slice Aq2 q2.length cq2] 28)
            replace HB := below_step HB hba
            replace Vn0 := Kd.V_below Vn0 hba
            replace Vn1 := Kd.V_below Vn1 hba
            replace B4 := blk_below B4 hba
            replace Vx0 := Kd.V_below Vx0 hba
            replace Vx1 := Kd.V_below Vx1 hba
            replace B9 := blk_below B9 hba
            replace Vk0 := Kd.V_below Vk0 hba
            replace Vk1 := Kd.V_below Vk1 hba
            replace B17 := blk_below B17 hba
            replace Vp2 := Kd.V_below Vp2 hba
            replace B20 := blk_below B20 hba
            replace Vq2 := Kd.V_below Vq2 hba
            replace Vq3 := Kd.V_below Vq3 hba
            replace Vq4 := Kd.V_below Vq4 hba
            have B23 := World.alloc_heap_new w20 (.cells #[.int .i64 q0, .int .i64 q1, .slice Aq2 q2.length cq2] 28)
            clear hba
            have hba := (Below.refl _ (w20.alloc (.cells #[.int .i64 q0, .int .i64 q1, .slice Aq2 q2.length cq2] 28))).alloc (Nat.le_refl _) (.cells #[.slice Aq3 wo.length cq3, .slice Aq4 y1.length cq4] 25)
            replace HB := below_step HB hba
            replace Vn0 := Kd.V_below Vn0 hba
            replace Vn1 := Kd.V_below Vn1 hba
            replace B4 := blk_below B4 hba
            replace Vx0 := Kd.V_below Vx0 hba
            replace Vx1 := Kd.V_below Vx1 hba
            replace B9 := blk_below B9 hba
            replace Vk0 := Kd.V_below Vk0 hba
            replace Vk1 := Kd.V_below Vk1 hba
            replace B17 := blk_below B17 hba
            replace Vp2 := Kd.V_below Vp2 hba
            replace B20 := blk_below B20 hba
            replace Vq2 := Kd.V_below Vq2 hba
            replace Vq3 := Kd.V_below Vq3 hba
            replace Vq4 := Kd.V_below Vq4 hba
            replace B23 := blk_below B23 hba
            have B24 := World.alloc_heap_new (w20.alloc (.cells #[.int .i64 q0, .int .i64 q1, .slice Aq2 q2.length cq2] 28)) (.cells #[.slice Aq3 wo.length cq3, .slice Aq4 y1.length cq4] 25)
            clear hba
            simp only [World.size_alloc] at B24
            clear Vq3 Vq4 B24
            have x20_0 := (blk_cell B20 0).trans rfl
            have x20_1 := (blk_cell B20 1).trans rfl
            have x20_2 := (blk_cell B20 2).trans rfl
            have x23_0 := (blk_cell B23 0).trans rfl
            have x23_1 := (blk_cell B23 1).trans rfl
            have x23_2 := (blk_cell B23 2).trans rfl
            go_wp2_with fail
            clear x20_0 x20_1 x20_2
            clear x23_0 x23_1 x23_2
            generalize (w20.alloc (.cells #[.int .i64 q0, .int .i64 q1, .slice Aq2 q2.length cq2] 28)).alloc (.cells #[.slice Aq3 wo.length cq3, .slice Aq4 y1.length cq4] 25) = w21 at *
            refine (signatoryref06_SamePacket.calls p0 p1 Ap2 cp2 p2 0 0 none 0 [] s w21 (Kd.V_reads' Vp2).2.2 (Kd.V_reads' Vp2).2.1 (Kd.C_nil _ _) (Nat.le_refl _) hP).mono ?_
            rintro e w22 ⟨rfl, hb⟩
            replace HB := below_step HB hb
            replace Vn0 := Kd.V_below Vn0 hb
            replace Vn1 := Kd.V_below Vn1 hb
            replace B4 := blk_below B4 hb
            replace Vx0 := Kd.V_below Vx0 hb
            replace Vx1 := Kd.V_below Vx1 hb
            replace B9 := blk_below B9 hb
            replace Vk0 := Kd.V_below Vk0 hb
            replace Vk1 := Kd.V_below Vk1 hb
            replace B17 := blk_below B17 hb
            replace Vp2 := Kd.V_below Vp2 hb
            replace B20 := blk_below B20 hb
            replace Vq2 := Kd.V_below Vq2 hb
            replace B23 := blk_below B23 hb
            clear hb
            dsimp only
            have x23_0 := (blk_cell B23 0).trans rfl
            have x23_1 := (blk_cell B23 1).trans rfl
            have x23_2 := (blk_cell B23 2).trans rfl
            have x20_0 := (blk_cell B20 0).trans rfl
            have x20_1 := (blk_cell B20 1).trans rfl
            have x20_2 := (blk_cell B20 2).trans rfl
            go_wp2_with fail
            clear x23_0 x23_1 x23_2
            clear x20_0 x20_1 x20_2
            refine (signatoryref06_SamePacket.calls q0 q1 Aq2 cq2 q2 0 0 none 0 [] s w22 (Kd.V_reads' Vq2).2.2 (Kd.V_reads' Vq2).2.1 (Kd.C_nil _ _) (Nat.le_refl _) hQ).mono ?_
            rintro e w23 ⟨rfl, hb⟩
            replace HB := below_step HB hb
            replace Vn0 := Kd.V_below Vn0 hb
            replace Vn1 := Kd.V_below Vn1 hb
            replace B4 := blk_below B4 hb
            replace Vx0 := Kd.V_below Vx0 hb
            replace Vx1 := Kd.V_below Vx1 hb
            replace B9 := blk_below B9 hb
            replace Vk0 := Kd.V_below Vk0 hb
            replace Vk1 := Kd.V_below Vk1 hb
            replace B17 := blk_below B17 hb
            replace Vp2 := Kd.V_below Vp2 hb
            replace B20 := blk_below B20 hb
            replace Vq2 := Kd.V_below Vq2 hb
            replace B23 := blk_below B23 hb
            clear hb
            dsimp only
            have x23_0 := (blk_cell B23 0).trans rfl
            have x23_1 := (blk_cell B23 1).trans rfl
            have x23_2 := (blk_cell B23 2).trans rfl
            have x20_0 := (blk_cell B20 0).trans rfl
            have x20_1 := (blk_cell B20 1).trans rfl
            have x20_2 := (blk_cell B20 2).trans rfl
            go_wp2_with fail
            clear x23_0 x23_1 x23_2
            clear x20_0 x20_1 x20_2
            refine (signatoryref06_SamePacket.calls p0 p1 Ap2 cp2 p2 q0 q1 Aq2 cq2 q2 true w23 (Kd.V_reads' Vp2).2.2 (Kd.V_reads' Vp2).2.1 (Kd.V_reads' Vq2).2.2 (Kd.V_reads' Vq2).2.1 hR).mono ?_
            rintro e w24 ⟨rfl, hb⟩
            replace HB := below_step HB hb
            replace Vn0 := Kd.V_below Vn0 hb
            replace Vn1 := Kd.V_below Vn1 hb
            replace B4 := blk_below B4 hb
            replace Vx0 := Kd.V_below Vx0 hb
            replace Vx1 := Kd.V_below Vx1 hb
            replace B9 := blk_below B9 hb
            replace Vk0 := Kd.V_below Vk0 hb
            replace Vk1 := Kd.V_below Vk1 hb
            replace B17 := blk_below B17 hb
            replace Vp2 := Kd.V_below Vp2 hb
            replace B20 := blk_below B20 hb
            replace Vq2 := Kd.V_below Vq2 hb
            replace B23 := blk_below B23 hb
            clear hb
            dsimp only
            go_wp2_with fail
            go_ret
            exact ⟨rfl, HB⟩
          · skip
            refine (network_Deliver.calls k (fun _ => True) Ak0 ck0 n0 (fun _ => True) Ak1 ck1 y1 i q0 q1 q2 wo y1 0 w19 Vk0 Vk1 hD2).mono ?_
            rintro e w20 ⟨v2, v3, v4, rfl, Vq2, Vq3, Vq4, hb⟩
            replace HB := below_step HB hb
            replace Vn0 := Kd.V_below Vn0 hb
            replace Vn1 := Kd.V_below Vn1 hb
            replace B4 := blk_below B4 hb
            replace Vx0 := Kd.V_below Vx0 hb
            replace Vx1 := Kd.V_below Vx1 hb
            replace B9 := blk_below B9 hb
            replace Vk0 := Kd.V_below Vk0 hb
            replace Vk1 := Kd.V_below Vk1 hb
            replace B17 := blk_below B17 hb
            replace Vp2 := Kd.V_below Vp2 hb
            replace B20 := blk_below B20 hb
            clear hb
            replace Vq2 := Vt Vq2
            obtain ⟨Aq2, cq2, rfl⟩ := Kd.V_slice Vq2
            replace Vq3 := Vt Vq3
            obtain ⟨Aq3, cq3, rfl⟩ := Kd.V_slice Vq3
            replace Vq4 := Vt Vq4
            obtain ⟨Aq4, cq4, rfl⟩ := Kd.V_slice Vq4
            dsimp only
            have hba := (Below.refl _ w20).alloc (Nat.le_refl _) (.cells #[.int .i64 q0, .int .i64 q1, .slice Aq2 q2.length cq2] 28)
            replace HB := below_step HB hba
            replace Vn0 := Kd.V_below Vn0 hba
            replace Vn1 := Kd.V_below Vn1 hba
            replace B4 := blk_below B4 hba
            replace Vx0 := Kd.V_below Vx0 hba
            replace Vx1 := Kd.V_below Vx1 hba
            replace B9 := blk_below B9 hba
            replace Vk0 := Kd.V_below Vk0 hba
            replace Vk1 := Kd.V_below Vk1 hba
            replace B17 := blk_below B17 hba
            replace Vp2 := Kd.V_below Vp2 hba
            replace B20 := blk_below B20 hba
            replace Vq2 := Kd.V_below Vq2 hba
            replace Vq3 := Kd.V_below Vq3 hba
            replace Vq4 := Kd.V_below Vq4 hba
            have B23 := World.alloc_heap_new w20 (.cells #[.int .i64 q0, .int .i64 q1, .slice Aq2 q2.length cq2] 28)
            clear hba
            have hba := (Below.refl _ (w20.alloc (.cells #[.int .i64 q0, .int .i64 q1, .slice Aq2 q2.length cq2] 28))).alloc (Nat.le_refl _) (.cells #[.slice Aq3 wo.length cq3, .slice Aq4 y1.length cq4] 25)
            replace HB := below_step HB hba
            replace Vn0 := Kd.V_below Vn0 hba
            replace Vn1 := Kd.V_below Vn1 hba
            replace B4 := blk_below B4 hba
            replace Vx0 := Kd.V_below Vx0 hba
            replace Vx1 := Kd.V_below Vx1 hba
            replace B9 := blk_below B9 hba
            replace Vk0 := Kd.V_below Vk0 hba
            replace Vk1 := Kd.V_below Vk1 hba
            replace B17 := blk_below B17 hba
            replace Vp2 := Kd.V_below Vp2 hba
            replace B20 := blk_below B20 hba
            replace Vq2 := Kd.V_below Vq2 hba
            replace Vq3 := Kd.V_below Vq3 hba
            replace Vq4 := Kd.V_below Vq4 hba
            replace B23 := blk_below B23 hba
            have B24 := World.alloc_heap_new (w20.alloc (.cells #[.int .i64 q0, .int .i64 q1, .slice Aq2 q2.length cq2] 28)) (.cells #[.slice Aq3 wo.length cq3, .slice Aq4 y1.length cq4] 25)
            clear hba
            simp only [World.size_alloc] at B24
            clear Vq3 Vq4 B24
            have x20_0 := (blk_cell B20 0).trans rfl
            have x20_1 := (blk_cell B20 1).trans rfl
            have x20_2 := (blk_cell B20 2).trans rfl
            have x23_0 := (blk_cell B23 0).trans rfl
            have x23_1 := (blk_cell B23 1).trans rfl
            have x23_2 := (blk_cell B23 2).trans rfl
            go_wp2_with fail
            clear x20_0 x20_1 x20_2
            clear x23_0 x23_1 x23_2
            generalize (w20.alloc (.cells #[.int .i64 q0, .int .i64 q1, .slice Aq2 q2.length cq2] 28)).alloc (.cells #[.slice Aq3 wo.length cq3, .slice Aq4 y1.length cq4] 25) = w21 at *
            refine (signatoryref06_SamePacket.calls p0 p1 Ap2 cp2 p2 0 0 none 0 [] s w21 (Kd.V_reads' Vp2).2.2 (Kd.V_reads' Vp2).2.1 (Kd.C_nil _ _) (Nat.le_refl _) hP).mono ?_
            rintro e w22 ⟨rfl, hb⟩
            replace HB := below_step HB hb
            replace Vn0 := Kd.V_below Vn0 hb
            replace Vn1 := Kd.V_below Vn1 hb
            replace B4 := blk_below B4 hb
            replace Vx0 := Kd.V_below Vx0 hb
            replace Vx1 := Kd.V_below Vx1 hb
            replace B9 := blk_below B9 hb
            replace Vk0 := Kd.V_below Vk0 hb
            replace Vk1 := Kd.V_below Vk1 hb
            replace B17 := blk_below B17 hb
            replace Vp2 := Kd.V_below Vp2 hb
            replace B20 := blk_below B20 hb
            replace Vq2 := Kd.V_below Vq2 hb
            replace B23 := blk_below B23 hb
            clear hb
            dsimp only
            have x23_0 := (blk_cell B23 0).trans rfl
            have x23_1 := (blk_cell B23 1).trans rfl
            have x23_2 := (blk_cell B23 2).trans rfl
            have x20_0 := (blk_cell B20 0).trans rfl
            have x20_1 := (blk_cell B20 1).trans rfl
            have x20_2 := (blk_cell B20 2).trans rfl
            go_wp2_with fail
            clear x23_0 x23_1 x23_2
            clear x20_0 x20_1 x20_2
            refine (signatoryref06_SamePacket.calls q0 q1 Aq2 cq2 q2 0 0 none 0 [] s w22 (Kd.V_reads' Vq2).2.2 (Kd.V_reads' Vq2).2.1 (Kd.C_nil _ _) (Nat.le_refl _) hQ).mono ?_
            rintro e w23 ⟨rfl, hb⟩
            replace HB := below_step HB hb
            replace Vn0 := Kd.V_below Vn0 hb
            replace Vn1 := Kd.V_below Vn1 hb
            replace B4 := blk_below B4 hb
            replace Vx0 := Kd.V_below Vx0 hb
            replace Vx1 := Kd.V_below Vx1 hb
            replace B9 := blk_below B9 hb
            replace Vk0 := Kd.V_below Vk0 hb
            replace Vk1 := Kd.V_below Vk1 hb
            replace B17 := blk_below B17 hb
            replace Vp2 := Kd.V_below Vp2 hb
            replace B20 := blk_below B20 hb
            replace Vq2 := Kd.V_below Vq2 hb
            replace B23 := blk_below B23 hb
            clear hb
            dsimp only
            have x23_0 := (blk_cell B23 0).trans rfl
            have x23_1 := (blk_cell B23 1).trans rfl
            have x23_2 := (blk_cell B23 2).trans rfl
            have x20_0 := (blk_cell B20 0).trans rfl
            have x20_1 := (blk_cell B20 1).trans rfl
            have x20_2 := (blk_cell B20 2).trans rfl
            go_wp2_with fail
            clear x23_0 x23_1 x23_2
            clear x20_0 x20_1 x20_2
            refine (signatoryref06_SamePacket.calls p0 p1 Ap2 cp2 p2 q0 q1 Aq2 cq2 q2 true w23 (Kd.V_reads' Vp2).2.2 (Kd.V_reads' Vp2).2.1 (Kd.V_reads' Vq2).2.2 (Kd.V_reads' Vq2).2.1 hR).mono ?_
            rintro e w24 ⟨rfl, hb⟩
            replace HB := below_step HB hb
            replace Vn0 := Kd.V_below Vn0 hb
            replace Vn1 := Kd.V_below Vn1 hb
            replace B4 := blk_below B4 hb
            replace Vx0 := Kd.V_below Vx0 hb
            replace Vx1 := Kd.V_below Vx1 hb
            replace B9 := blk_below B9 hb
            replace Vk0 := Kd.V_below Vk0 hb
            replace Vk1 := Kd.V_below Vk1 hb
            replace B17 := blk_below B17 hb
            replace Vp2 := Kd.V_below Vp2 hb
            replace B20 := blk_below B20 hb
            replace Vq2 := Kd.V_below Vq2 hb
            replace B23 := blk_below B23 hb
            clear hb
            dsimp only
            go_wp2_with fail
            go_ret
            exact ⟨rfl, HB⟩
  · have hfew : signatoryref06_Few.f n0 n1 = some false := by
      unfold signatoryref06_Few.f
      by_cases h : (n0.length : Int) ≤ 40
      · rw [if_pos h, decide_eq_false (by omega)]
      · rw [if_neg h]
    clear hq hat
    go_enter Try.func5, Try.ntmps5
    have HB := Below.refl w.heap.size w
    have hba := (Below.refl _ w).alloc (Nat.le_refl _) (.cells #[.slice An0 n0.length cn0, .slice An1 n1.length cn1] 25)
    replace HB := below_step HB hba
    replace Vn0 := Kd.V_below Vn0 hba
    replace Vn1 := Kd.V_below Vn1 hba
    have B4 := World.alloc_heap_new w (.cells #[.slice An0 n0.length cn0, .slice An1 n1.length cn1] 25)
    clear hba
    go_wp2_with fail
    generalize w.alloc (.cells #[.slice An0 n0.length cn0, .slice An1 n1.length cn1] 25) = w1 at *
    refine (sane_ok w1).mono ?_
    rintro e w2 ⟨rfl, hb⟩
    replace HB := below_step HB hb
    replace Vn0 := Kd.V_below Vn0 hb
    replace Vn1 := Kd.V_below Vn1 hb
    replace B4 := blk_below B4 hb
    clear hb
    dsimp only
    have x4_0 := (blk_cell B4 0).trans rfl
    have x4_1 := (blk_cell B4 1).trans rfl
    go_wp2_with fail
    clear x4_0 x4_1
    refine (signatoryref06_Few.calls An0 cn0 n0 An1 cn1 n1 false w2 (Kd.V_reads' Vn0).2.2 (Kd.V_reads' Vn0).2.1 (Kd.V_reads' Vn1).2.2 (Kd.V_reads' Vn1).2.1 hfew).mono ?_
    rintro e w3 ⟨rfl, hb⟩
    replace HB := below_step HB hb
    replace Vn0 := Kd.V_below Vn0 hb
    replace Vn1 := Kd.V_below Vn1 hb
    replace B4 := blk_below B4 hb
    clear hb
    dsimp only
    have x4_0 := (blk_cell B4 0).trans rfl
    have x4_1 := (blk_cell B4 1).trans rfl
    go_wp2_with fail
    clear x4_0 x4_1
    go_ret
    exact ⟨rfl, HB⟩
end Go.Proofs.Ythlehlbokaeigaa.Q
