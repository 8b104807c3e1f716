-- Written by wip/tools/extprint.py of this repo (a program of this claim's own, over the kit's printer) out of the translation; Lean checks it.
import Derived.Test.YthlehlbokaeigaaQ0
import Derived.Test.YthlehlbokaeigaaQ1
import Derived.Test.YthlehlbokaeigaaQ3
import Derived.Test.YthlehlbokaeigaaQ4
import Derived.Test.YthlehlbokaeigaaQ5
import Derived.Test.YthlehlbokaeigaaQ6
import Derived.Test.YthlehlbokaeigaaQ7
import Derived.Test.YthlehlbokaeigaaQ8
namespace Go.Proofs.Ythlehlbokaeigaa.Q
open Go.RowKit Go.Proofs.YthlehlbokaeigaaW.PrintWords Go.Proofs.YthlehlbokaeigaaW.PrintLast Go.Proofs.YthlehlbokaeigaaW.PrintMore
attribute [local go_sem] max2_int min2_int max_two min_two max_three min_three max_four min_four   -- for this text's walks alone
set_option linter.unusedVariables false
set_option linter.unusedSimpArgs false

section
attribute [local go_sem high] eqA55
theorem Vt {α : Type} {d : Kd α} {e base : Nat} {W : World} {ok : Nat → Prop} {v : Value} {xs : List α} (h : Kd.V d e W base ok v xs) : Kd.V d e W 0 (fun _ => True) v xs := Kd.V_map h (fun _ h => Kd.F_mono h (fun _ _ => trivial))
/-- A row of one byte. -/
theorem V_one {W : World} {g : Nat} {x : Int} (h : W.heap[g]? = some (.cells #[.int .u8 x] 5 (0, 0))) : Kd.V (Kd.int .u8) 5 W 0 (fun _ => True) (.slice (some ⟨g, 0, none⟩) 1 1) [x] := by
 refine ⟨some ⟨g, 0, none⟩, 1, rfl, by simp, fun W' hW => ⟨rfl, by simp, fun _ => ⟨⟨g, 0, none⟩, rfl, fun j y hj => ?_⟩⟩⟩
 match j, hj with
 | 0, hj =>
  obtain rfl := Option.some.inj hj
  refine ⟨[.int .u8 x], rfl, rfl, fun i u hu => ?_⟩
  match i, hu with
  | 0, hu =>
   obtain rfl := Option.some.inj hu
   show W'.cell? (Addr.add ⟨g, 0, none⟩ 0) = _
   have h2 : W'.heap[g]? = some (.cells #[.int .u8 x] 5 (0, 0)) := (hW g trivial (Array.getElem?_eq_some_iff.1 h).1).trans h
   exact (blk_cell h2 0).trans rfl
set_option maxHeartbeats 8000000 in
set_option maxRecDepth 100000 in
theorem sane.calls (k : Nat) (n0 : List S28) (n1 : List S55) (hN : network_New.f = some (n0, n1)) (z1 z2 : Int) (z3 : List Int) (z4 : List S28) (z5 : List S55) (hD0 : network_Deliver.f k n0 n1 0 = some (z1, z2, z3, z4, z5, 1)) (f0 : List S28) (f1 : List S55) (hS0 : network_Send.f k n0 n1 3 3 [] = some (f0, f1, 60)) (g0 : List S28) (g1 : List S55) (hC0 : network_Cut.f k n0 n1 2 2 true = some (g0, g1, 1)) (a0 : List S28) (a1 : List S55) (hS1 : network_Send.f k n0 n1 1 3 [7] = some (a0, a1, 0)) (b0 : List S28) (b1 : List S55) (hR : network_Repeat.f k a0 a1 0 = some (b0, b1, 0)) (c0 : List S28) (c1 : List S55) (hC1 : network_Cut.f k b0 b1 3 1 true = some (c0, c1, 0)) (q0 q1 : Int) (q2 : List Int) (d0 : List S28) (d1 : List S55) (hD1 : network_Deliver.f k b0 b1 0 = some (q0, q1, q2, d0, d1, 0)) (r0 r1 : Int) (r2 : List Int) (y0 : List S28) (y1 : List S55) (hD2 : network_Deliver.f k c0 c1 1 = some (r0, r1, r2, y0, y1, 0)) (hK : network_Check.f k n0 n1 = some 0) (hP : signatoryref06_SamePacket.f 1 3 [7] q0 q1 q2 = some true) (hQ : signatoryref06_SamePacket.f r0 r1 r2 0 0 [] = some true) (hE : signatoryref06_Same.f k d0 d1 a0 a1 = some true) (h1 : Aside0 (c1.length = 1)) (h2 : rd_T55 c1 0 = ⟨1, 3⟩) (h3 : Aside0 (c0.length = 2)) (w : World) : Calls Try.prog 9 #[] w fun e w' => e = .returned (.bool true) ∧ Below w.heap.size w w' := by
 have hu25 := Try.underlying25
 have hu28 := Try.underlying28
 have hu55 := Try.underlying55
 have HB := Below.refl w.heap.size w
 go_enter Try.func9, Try.ntmps9
 go_wp2_with fail
 refine (network_New.calls n0 n1 w hN).mono ?_
 rintro e w1 ⟨v0, v1, rfl, Vn0, Vn1, hb⟩
 replace HB := below_step HB hb
 replace Vn0 := Kd.S_V (base' := 0) Vn0
 replace Vn1 := Kd.R_V (base' := 0) Vn1
 clear hb
 replace Vn0 := Vt Vn0
 obtain ⟨An0, cn0, rfl⟩ := Kd.V_slice Vn0
 replace Vn1 := Vt Vn1
 obtain ⟨An1, cn1, rfl⟩ := Kd.V_slice Vn1
 dsimp only
 have hba := (Below.refl _ w1).alloc (Nat.le_refl _) (.cells #[.slice An0 n0.length cn0, .slice An1 n1.length cn1] 25)
 replace HB := below_step HB hba
 replace Vn0 := Kd.V_below Vn0 hba
 replace Vn1 := Kd.V_below Vn1 hba
 have B1 := World.alloc_heap_new w1 (.cells #[.slice An0 n0.length cn0, .slice An1 n1.length cn1] 25)
 clear hba
 have x1_0 := (blk_cell B1 0).trans rfl
 have x1_1 := (blk_cell B1 1).trans rfl
 go_wp2_with fail
 clear x1_0 x1_1
 generalize w1.alloc (.cells #[.slice An0 n0.length cn0, .slice An1 n1.length cn1] 25) = w2 at *
 refine (network_Deliver.calls k (fun _ => True) An0 cn0 n0 (fun _ => True) An1 cn1 n1 0 z1 z2 z3 z4 z5 1 w2 Vn0 Vn1 hD0).mono ?_
 rintro e w3 ⟨v2, v3, v4, rfl, Vz3, Vz4, Vz5, hb⟩
 replace HB := below_step HB hb
 replace Vn0 := Kd.V_below Vn0 hb
 replace Vn1 := Kd.V_below Vn1 hb
 replace B1 := blk_below B1 hb
 clear hb
 replace Vz3 := Vt Vz3
 obtain ⟨Az3, cz3, rfl⟩ := Kd.V_slice Vz3
 replace Vz4 := Vt Vz4
 obtain ⟨Az4, cz4, rfl⟩ := Kd.V_slice Vz4
 replace Vz5 := Vt Vz5
 obtain ⟨Az5, cz5, rfl⟩ := Kd.V_slice Vz5
 dsimp only
 have hba := (Below.refl _ w3).alloc (Nat.le_refl _) (.cells #[.int .i64 z1, .int .i64 z2, .slice Az3 z3.length cz3] 28)
 replace HB := below_step HB hba
 replace Vn0 := Kd.V_below Vn0 hba
 replace Vn1 := Kd.V_below Vn1 hba
 replace B1 := blk_below B1 hba
 replace Vz3 := Kd.V_below Vz3 hba
 replace Vz4 := Kd.V_below Vz4 hba
 replace Vz5 := Kd.V_below Vz5 hba
 have B2 := World.alloc_heap_new w3 (.cells #[.int .i64 z1, .int .i64 z2, .slice Az3 z3.length cz3] 28)
 clear hba
 have hba := (Below.refl _ (w3.alloc (.cells #[.int .i64 z1, .int .i64 z2, .slice Az3 z3.length cz3] 28))).alloc (Nat.le_refl _) (.cells #[.slice Az4 z4.length cz4, .slice Az5 z5.length cz5] 25)
 replace HB := below_step HB hba
 replace Vn0 := Kd.V_below Vn0 hba
 replace Vn1 := Kd.V_below Vn1 hba
 replace B1 := blk_below B1 hba
 replace Vz3 := Kd.V_below Vz3 hba
 replace Vz4 := Kd.V_below Vz4 hba
 replace Vz5 := Kd.V_below Vz5 hba
 replace B2 := blk_below B2 hba
 have B3 := World.alloc_heap_new (w3.alloc (.cells #[.int .i64 z1, .int .i64 z2, .slice Az3 z3.length cz3] 28)) (.cells #[.slice Az4 z4.length cz4, .slice Az5 z5.length cz5] 25)
 clear hba
 simp only [World.size_alloc] at B3
 clear Vz3 Vz4 Vz5 B2 B3
 have x1_0 := (blk_cell B1 0).trans rfl
 have x1_1 := (blk_cell B1 1).trans rfl
 go_wp2_with fail
 clear x1_0 x1_1
 generalize (w3.alloc (.cells #[.int .i64 z1, .int .i64 z2, .slice Az3 z3.length cz3] 28)).alloc (.cells #[.slice Az4 z4.length cz4, .slice Az5 z5.length cz5] 25) = w4 at *
 refine (network_Send.calls k (fun _ => True) An0 cn0 n0 (fun _ => True) An1 cn1 n1 3 3 (fun _ => True) none 0 [] f0 f1 60 w4 Vn0 Vn1 (Kd.V_nil _ _ _ _ _) hS0).mono ?_
 rintro e w5 ⟨v0, v1, rfl, Vf0, Vf1, hb⟩
 replace HB := below_step HB hb
 replace Vn0 := Kd.V_below Vn0 hb
 replace Vn1 := Kd.V_below Vn1 hb
 replace B1 := blk_below B1 hb
 clear hb
 replace Vf0 := Vt Vf0
 obtain ⟨Af0, cf0, rfl⟩ := Kd.V_slice Vf0
 replace Vf1 := Vt Vf1
 obtain ⟨Af1, cf1, rfl⟩ := Kd.V_slice Vf1
 dsimp only
 have hba := (Below.refl _ w5).alloc (Nat.le_refl _) (.cells #[.slice Af0 f0.length cf0, .slice Af1 f1.length cf1] 25)
 replace HB := below_step HB hba
 replace Vn0 := Kd.V_below Vn0 hba
 replace Vn1 := Kd.V_below Vn1 hba
 replace B1 := blk_below B1 hba
 replace Vf0 := Kd.V_below Vf0 hba
 replace Vf1 := Kd.V_below Vf1 hba
 have B5 := World.alloc_heap_new w5 (.cells #[.slice Af0 f0.length cf0, .slice Af1 f1.length cf1] 25)
 clear hba
 clear Vf0 Vf1 B5
 have x1_0 := (blk_cell B1 0).trans rfl
 have x1_1 := (blk_cell B1 1).trans rfl
 go_wp2_with fail
 clear x1_0 x1_1
 generalize w5.alloc (.cells #[.slice Af0 f0.length cf0, .slice Af1 f1.length cf1] 25) = w6 at *
 refine (network_Cut.calls k (fun _ => True) An0 cn0 n0 An1 cn1 n1 2 2 true g0 g1 1 w6 Vn0 (Kd.V_reads' Vn1).2.2 (Kd.V_reads' Vn1).2.1 hC0).mono ?_
 rintro e w7 ⟨v0, v1, rfl, Vg0, Vg1, hb⟩
 replace HB := below_step HB hb
 replace Vn0 := Kd.V_below Vn0 hb
 replace Vn1 := Kd.V_below Vn1 hb
 replace B1 := blk_below B1 hb
 replace Vg1 := Kd.R_V (base' := 0) Vg1
 clear hb
 replace Vg0 := Vt Vg0
 obtain ⟨Ag0, cg0, rfl⟩ := Kd.V_slice Vg0
 replace Vg1 := Vt Vg1
 obtain ⟨Ag1, cg1, rfl⟩ := Kd.V_slice Vg1
 dsimp only
 have hba := (Below.refl _ w7).alloc (Nat.le_refl _) (.cells #[.slice Ag0 g0.length cg0, .slice Ag1 g1.length cg1] 25)
 replace HB := below_step HB hba
 replace Vn0 := Kd.V_below Vn0 hba
 replace Vn1 := Kd.V_below Vn1 hba
 replace B1 := blk_below B1 hba
 replace Vg0 := Kd.V_below Vg0 hba
 replace Vg1 := Kd.V_below Vg1 hba
 have B7 := World.alloc_heap_new w7 (.cells #[.slice Ag0 g0.length cg0, .slice Ag1 g1.length cg1] 25)
 clear hba
 clear Vg0 Vg1 B7
 have hba := (Below.refl _ (w7.alloc (.cells #[.slice Ag0 g0.length cg0, .slice Ag1 g1.length cg1] 25))).alloc (Nat.le_refl _) (.cells #[.int .u8 7] 5)
 replace HB := below_step HB hba
 replace Vn0 := Kd.V_below Vn0 hba
 replace Vn1 := Kd.V_below Vn1 hba
 replace B1 := blk_below B1 hba
 have Br := World.alloc_heap_new (w7.alloc (.cells #[.slice Ag0 g0.length cg0, .slice Ag1 g1.length cg1] 25)) (.cells #[.int .u8 7] 5)
 clear hba
 simp only [World.size_alloc] at Br
 have Vp := V_one Br
 clear Br
 have hba := (Below.refl _ ((w7.alloc (.cells #[.slice Ag0 g0.length cg0, .slice Ag1 g1.length cg1] 25)).alloc (.cells #[.int .u8 7] 5))).alloc (Nat.le_refl _) (.cells #[.int .i64 1, .int .i64 3, .slice (some ⟨w7.heap.size + 1, 0, none⟩) 1 1] 28)
 replace HB := below_step HB hba
 replace Vn0 := Kd.V_below Vn0 hba
 replace Vn1 := Kd.V_below Vn1 hba
 replace B1 := blk_below B1 hba
 replace Vp := Kd.V_below Vp hba
 have B9 := World.alloc_heap_new ((w7.alloc (.cells #[.slice Ag0 g0.length cg0, .slice Ag1 g1.length cg1] 25)).alloc (.cells #[.int .u8 7] 5)) (.cells #[.int .i64 1, .int .i64 3, .slice (some ⟨w7.heap.size + 1, 0, none⟩) 1 1] 28)
 clear hba
 simp only [World.size_alloc] at B9
 have x1_0 := (blk_cell B1 0).trans rfl
 have x1_1 := (blk_cell B1 1).trans rfl
 have x9_0 := (blk_cell B9 0).trans rfl
 have x9_1 := (blk_cell B9 1).trans rfl
 have x9_2 := (blk_cell B9 2).trans rfl
 go_wp2_with fail
 clear x1_0 x1_1
 clear x9_0 x9_1 x9_2
 generalize ((w7.alloc (.cells #[.slice Ag0 g0.length cg0, .slice Ag1 g1.length cg1] 25)).alloc (.cells #[.int .u8 7] 5)).alloc (.cells #[.int .i64 1, .int .i64 3, .slice (some ⟨w7.heap.size + 1, 0, none⟩) 1 1] 28) = w8 at *
 refine (network_Send.calls k (fun _ => True) An0 cn0 n0 (fun _ => True) An1 cn1 n1 1 3 (fun _ => True) _ _ [7] a0 a1 0 w8 Vn0 Vn1 Vp hS1).mono ?_
 rintro e w9 ⟨v0, v1, rfl, Va0, Va1, hb⟩
 replace HB := below_step HB hb
 replace Vn0 := Kd.V_below Vn0 hb
 replace Vn1 := Kd.V_below Vn1 hb
 replace B1 := blk_below B1 hb
 replace Vp := Kd.V_below Vp hb
 replace B9 := blk_below B9 hb
 clear hb
 replace Va0 := Vt Va0
 obtain ⟨Aa0, ca0, rfl⟩ := Kd.V_slice Va0
 replace Va1 := Vt Va1
 obtain ⟨Aa1, ca1, rfl⟩ := Kd.V_slice Va1
 dsimp only
 have hba := (Below.refl _ w9).alloc (Nat.le_refl _) (.cells #[.slice Aa0 a0.length ca0, .slice Aa1 a1.length ca1] 25)
 replace HB := below_step HB hba
 replace Vn0 := Kd.V_below Vn0 hba
 replace Vn1 := Kd.V_below Vn1 hba
 replace B1 := blk_below B1 hba
 replace Vp := Kd.V_below Vp hba
 replace B9 := blk_below B9 hba
 replace Va0 := Kd.V_below Va0 hba
 replace Va1 := Kd.V_below Va1 hba
 have B10 := World.alloc_heap_new w9 (.cells #[.slice Aa0 a0.length ca0, .slice Aa1 a1.length ca1] 25)
 clear hba
 have x10_0 := (blk_cell B10 0).trans rfl
 have x10_1 := (blk_cell B10 1).trans rfl
 go_wp2_with fail
 clear x10_0 x10_1
 generalize w9.alloc (.cells #[.slice Aa0 a0.length ca0, .slice Aa1 a1.length ca1] 25) = w10 at *
 refine (network_Repeat.calls k (fun _ => True) Aa0 ca0 a0 (fun _ => True) Aa1 ca1 a1 0 b0 b1 0 w10 Va0 Va1 hR).mono ?_
 rintro e w11 ⟨v0, v1, rfl, Vb0, Vb1, hb⟩
 replace HB := below_step HB hb
 replace Vn0 := Kd.V_below Vn0 hb
 replace Vn1 := Kd.V_below Vn1 hb
 replace B1 := blk_below B1 hb
 replace Vp := Kd.V_below Vp hb
 replace B9 := blk_below B9 hb
 replace Va0 := Kd.V_below Va0 hb
 replace Va1 := Kd.V_below Va1 hb
 replace B10 := blk_below B10 hb
 clear hb
 replace Vb0 := Vt Vb0
 obtain ⟨Ab0, cb0, rfl⟩ := Kd.V_slice Vb0
 replace Vb1 := Vt Vb1
 obtain ⟨Ab1, cb1, rfl⟩ := Kd.V_slice Vb1
 dsimp only
 have hba := (Below.refl _ w11).alloc (Nat.le_refl _) (.cells #[.slice Ab0 b0.length cb0, .slice Ab1 b1.length cb1] 25)
 replace HB := below_step HB hba
 replace Vn0 := Kd.V_below Vn0 hba
 replace Vn1 := Kd.V_below Vn1 hba
 replace B1 := blk_below B1 hba
 replace Vp := Kd.V_below Vp hba
 replace B9 := blk_below B9 hba
 replace Va0 := Kd.V_below Va0 hba
 replace Va1 := Kd.V_below Va1 hba
 replace B10 := blk_below B10 hba
 replace Vb0 := Kd.V_below Vb0 hba
 replace Vb1 := Kd.V_below Vb1 hba
 have B12 := World.alloc_heap_new w11 (.cells #[.slice Ab0 b0.length cb0, .slice Ab1 b1.length cb1] 25)
 clear hba
 have x12_0 := (blk_cell B12 0).trans rfl
 have x12_1 := (blk_cell B12 1).trans rfl
 go_wp2_with fail
 clear x12_0 x12_1
 generalize w11.alloc (.cells #[.slice Ab0 b0.length cb0, .slice Ab1 b1.length cb1] 25) = w12 at *
 refine (network_Cut.calls k (fun _ => True) Ab0 cb0 b0 Ab1 cb1 b1 3 1 true c0 c1 0 w12 Vb0 (Kd.V_reads' Vb1).2.2 (Kd.V_reads' Vb1).2.1 hC1).mono ?_
 rintro e w13 ⟨v0, v1, rfl, Vc0, Vc1, hb⟩
 replace HB := below_step HB hb
 replace Vn0 := Kd.V_below Vn0 hb
 replace Vn1 := Kd.V_below Vn1 hb
 replace B1 := blk_below B1 hb
 replace Vp := Kd.V_below Vp hb
 replace B9 := blk_below B9 hb
 replace Va0 := Kd.V_below Va0 hb
 replace Va1 := Kd.V_below Va1 hb
 replace B10 := blk_below B10 hb
 replace Vb0 := Kd.V_below Vb0 hb
 replace Vb1 := Kd.V_below Vb1 hb
 replace B12 := blk_below B12 hb
 replace Vc1 := Kd.R_V (base' := 0) Vc1
 clear hb
 replace Vc0 := Vt Vc0
 obtain ⟨Ac0, cc0, rfl⟩ := Kd.V_slice Vc0
 replace Vc1 := Vt Vc1
 obtain ⟨Ac1, cc1, rfl⟩ := Kd.V_slice Vc1
 dsimp only
 have hba := (Below.refl _ w13).alloc (Nat.le_refl _) (.cells #[.slice Ac0 c0.length cc0, .slice Ac1 c1.length cc1] 25)
 replace HB := below_step HB hba
 replace Vn0 := Kd.V_below Vn0 hba
 replace Vn1 := Kd.V_below Vn1 hba
 replace B1 := blk_below B1 hba
 replace Vp := Kd.V_below Vp hba
 replace B9 := blk_below B9 hba
 replace Va0 := Kd.V_below Va0 hba
 replace Va1 := Kd.V_below Va1 hba
 replace B10 := blk_below B10 hba
 replace Vb0 := Kd.V_below Vb0 hba
 replace Vb1 := Kd.V_below Vb1 hba
 replace B12 := blk_below B12 hba
 replace Vc0 := Kd.V_below Vc0 hba
 replace Vc1 := Kd.V_below Vc1 hba
 have B14 := World.alloc_heap_new w13 (.cells #[.slice Ac0 c0.length cc0, .slice Ac1 c1.length cc1] 25)
 clear hba
 have x12_0 := (blk_cell B12 0).trans rfl
 have x12_1 := (blk_cell B12 1).trans rfl
 go_wp2_with fail
 clear x12_0 x12_1
 generalize w13.alloc (.cells #[.slice Ac0 c0.length cc0, .slice Ac1 c1.length cc1] 25) = w14 at *
 refine (network_Deliver.calls k (fun _ => True) Ab0 cb0 b0 (fun _ => True) Ab1 cb1 b1 0 q0 q1 q2 d0 d1 0 w14 Vb0 Vb1 hD1).mono ?_
 rintro e w15 ⟨v2, v3, v4, rfl, Vq2, Vd0, Vd1, hb⟩
 replace HB := below_step HB hb
 replace Vn0 := Kd.V_below Vn0 hb
 replace Vn1 := Kd.V_below Vn1 hb
 replace B1 := blk_below B1 hb
 replace Vp := Kd.V_below Vp hb
 replace B9 := blk_below B9 hb
 replace Va0 := Kd.V_below Va0 hb
 replace Va1 := Kd.V_below Va1 hb
 replace B10 := blk_below B10 hb
 replace Vb0 := Kd.V_below Vb0 hb
 replace Vb1 := Kd.V_below Vb1 hb
 replace B12 := blk_below B12 hb
 replace Vc0 := Kd.V_below Vc0 hb
 replace Vc1 := Kd.V_below Vc1 hb
 replace B14 := blk_below B14 hb
 clear hb
 replace Vq2 := Vt Vq2
 obtain ⟨Aq2, cq2, rfl⟩ := Kd.V_slice Vq2
 replace Vd0 := Vt Vd0
 obtain ⟨Ad0, cd0, rfl⟩ := Kd.V_slice Vd0
 replace Vd1 := Vt Vd1
 obtain ⟨Ad1, cd1, rfl⟩ := Kd.V_slice Vd1
 dsimp only
 have hba := (Below.refl _ w15).alloc (Nat.le_refl _) (.cells #[.int .i64 q0, .int .i64 q1, .slice Aq2 q2.length cq2] 28)
 replace HB := below_step HB hba
 replace Vn0 := Kd.V_below Vn0 hba
 replace Vn1 := Kd.V_below Vn1 hba
 replace B1 := blk_below B1 hba
 replace Vp := Kd.V_below Vp hba
 replace B9 := blk_below B9 hba
 replace Va0 := Kd.V_below Va0 hba
 replace Va1 := Kd.V_below Va1 hba
 replace B10 := blk_below B10 hba
 replace Vb0 := Kd.V_below Vb0 hba
 replace Vb1 := Kd.V_below Vb1 hba
 replace B12 := blk_below B12 hba
 replace Vc0 := Kd.V_below Vc0 hba
 replace Vc1 := Kd.V_below Vc1 hba
 replace B14 := blk_below B14 hba
 replace Vq2 := Kd.V_below Vq2 hba
 replace Vd0 := Kd.V_below Vd0 hba
 replace Vd1 := Kd.V_below Vd1 hba
 have B16 := World.alloc_heap_new w15 (.cells #[.int .i64 q0, .int .i64 q1, .slice Aq2 q2.length cq2] 28)
 clear hba
 have hba := (Below.refl _ (w15.alloc (.cells #[.int .i64 q0, .int .i64 q1, .slice Aq2 q2.length cq2] 28))).alloc (Nat.le_refl _) (.cells #[.slice Ad0 d0.length cd0, .slice Ad1 d1.length cd1] 25)
 replace HB := below_step HB hba
 replace Vn0 := Kd.V_below Vn0 hba
 replace Vn1 := Kd.V_below Vn1 hba
 replace B1 := blk_below B1 hba
 replace Vp := Kd.V_below Vp hba
 replace B9 := blk_below B9 hba
 replace Va0 := Kd.V_below Va0 hba
 replace Va1 := Kd.V_below Va1 hba
 replace B10 := blk_below B10 hba
 replace Vb0 := Kd.V_below Vb0 hba
 replace Vb1 := Kd.V_below Vb1 hba
 replace B12 := blk_below B12 hba
 replace Vc0 := Kd.V_below Vc0 hba
 replace Vc1 := Kd.V_below Vc1 hba
 replace B14 := blk_below B14 hba
 replace Vq2 := Kd.V_below Vq2 hba
 replace Vd0 := Kd.V_below Vd0 hba
 replace Vd1 := Kd.V_below Vd1 hba
 replace B16 := blk_below B16 hba
 have B17 := World.alloc_heap_new (w15.alloc (.cells #[.int .i64 q0, .int .i64 q1, .slice Aq2 q2.length cq2] 28)) (.cells #[.slice Ad0 d0.length cd0, .slice Ad1 d1.length cd1] 25)
 clear hba
 simp only [World.size_alloc] at B17
 clear Vb0 Vb1 B12
 have x14_0 := (blk_cell B14 0).trans rfl
 have x14_1 := (blk_cell B14 1).trans rfl
 go_wp2_with fail
 clear x14_0 x14_1
 generalize (w15.alloc (.cells #[.int .i64 q0, .int .i64 q1, .slice Aq2 q2.length cq2] 28)).alloc (.cells #[.slice Ad0 d0.length cd0, .slice Ad1 d1.length cd1] 25) = w16 at *
 refine (network_Deliver.calls k (fun _ => True) Ac0 cc0 c0 (fun _ => True) Ac1 cc1 c1 1 r0 r1 r2 y0 y1 0 w16 Vc0 Vc1 hD2).mono ?_
 rintro e w17 ⟨v2, v3, v4, rfl, Vr2, Vy0, Vy1, hb⟩
 replace HB := below_step HB hb
 replace Vn0 := Kd.V_below Vn0 hb
 replace Vn1 := Kd.V_below Vn1 hb
 replace B1 := blk_below B1 hb
 replace Vp := Kd.V_below Vp hb
 replace B9 := blk_below B9 hb
 replace Va0 := Kd.V_below Va0 hb
 replace Va1 := Kd.V_below Va1 hb
 replace B10 := blk_below B10 hb
 replace Vc0 := Kd.V_below Vc0 hb
 replace Vc1 := Kd.V_below Vc1 hb
 replace B14 := blk_below B14 hb
 replace Vq2 := Kd.V_below Vq2 hb
 replace Vd0 := Kd.V_below Vd0 hb
 replace Vd1 := Kd.V_below Vd1 hb
 replace B16 := blk_below B16 hb
 replace B17 := blk_below B17 hb
 clear hb
 replace Vr2 := Vt Vr2
 obtain ⟨Ar2, cr2, rfl⟩ := Kd.V_slice Vr2
 replace Vy0 := Vt Vy0
 obtain ⟨Ay0, cy0, rfl⟩ := Kd.V_slice Vy0
 replace Vy1 := Vt Vy1
 obtain ⟨Ay1, cy1, rfl⟩ := Kd.V_slice Vy1
 dsimp only
 have hba := (Below.refl _ w17).alloc (Nat.le_refl _) (.cells #[.int .i64 r0, .int .i64 r1, .slice Ar2 r2.length cr2] 28)
 replace HB := below_step HB hba
 replace Vn0 := Kd.V_below Vn0 hba
 replace Vn1 := Kd.V_below Vn1 hba
 replace B1 := blk_below B1 hba
 replace Vp := Kd.V_below Vp hba
 replace B9 := blk_below B9 hba
 replace Va0 := Kd.V_below Va0 hba
 replace Va1 := Kd.V_below Va1 hba
 replace B10 := blk_below B10 hba
 replace Vc0 := Kd.V_below Vc0 hba
 replace Vc1 := Kd.V_below Vc1 hba
 replace B14 := blk_below B14 hba
 replace Vq2 := Kd.V_below Vq2 hba
 replace Vd0 := Kd.V_below Vd0 hba
 replace Vd1 := Kd.V_below Vd1 hba
 replace B16 := blk_below B16 hba
 replace B17 := blk_below B17 hba
 replace Vr2 := Kd.V_below Vr2 hba
 replace Vy0 := Kd.V_below Vy0 hba
 replace Vy1 := Kd.V_below Vy1 hba
 have B19 := World.alloc_heap_new w17 (.cells #[.int .i64 r0, .int .i64 r1, .slice Ar2 r2.length cr2] 28)
 clear hba
 have hba := (Below.refl _ (w17.alloc (.cells #[.int .i64 r0, .int .i64 r1, .slice Ar2 r2.length cr2] 28))).alloc (Nat.le_refl _) (.cells #[.slice Ay0 y0.length cy0, .slice Ay1 y1.length cy1] 25)
 replace HB := below_step HB hba
 replace Vn0 := Kd.V_below Vn0 hba
 replace Vn1 := Kd.V_below Vn1 hba
 replace B1 := blk_below B1 hba
 replace Vp := Kd.V_below Vp hba
 replace B9 := blk_below B9 hba
 replace Va0 := Kd.V_below Va0 hba
 replace Va1 := Kd.V_below Va1 hba
 replace B10 := blk_below B10 hba
 replace Vc0 := Kd.V_below Vc0 hba
 replace Vc1 := Kd.V_below Vc1 hba
 replace B14 := blk_below B14 hba
 replace Vq2 := Kd.V_below Vq2 hba
 replace Vd0 := Kd.V_below Vd0 hba
 replace Vd1 := Kd.V_below Vd1 hba
 replace B16 := blk_below B16 hba
 replace B17 := blk_below B17 hba
 replace Vr2 := Kd.V_below Vr2 hba
 replace Vy0 := Kd.V_below Vy0 hba
 replace Vy1 := Kd.V_below Vy1 hba
 replace B19 := blk_below B19 hba
 have B20 := World.alloc_heap_new (w17.alloc (.cells #[.int .i64 r0, .int .i64 r1, .slice Ar2 r2.length cr2] 28)) (.cells #[.slice Ay0 y0.length cy0, .slice Ay1 y1.length cy1] 25)
 clear hba
 simp only [World.size_alloc] at B20
 clear Vy0 Vy1 B20
 have x1_0 := (blk_cell B1 0).trans rfl
 have x1_1 := (blk_cell B1 1).trans rfl
 go_wp2_with fail
 clear x1_0 x1_1
 generalize (w17.alloc (.cells #[.int .i64 r0, .int .i64 r1, .slice Ar2 r2.length cr2] 28)).alloc (.cells #[.slice Ay0 y0.length cy0, .slice Ay1 y1.length cy1] 25) = w18 at *
 refine (network_Check.calls k An0 cn0 n0 An1 cn1 n1 0 w18 (Kd.V_reads' Vn0).2.2 (Kd.V_reads' Vn0).2.1 (Kd.V_reads' Vn1).2.2 (Kd.V_reads' Vn1).2.1 hK).mono ?_
 rintro e w19 ⟨rfl, hb⟩
 replace HB := below_step HB hb
 replace Vn0 := Kd.V_below Vn0 hb
 replace Vn1 := Kd.V_below Vn1 hb
 replace B1 := blk_below B1 hb
 replace Vp := Kd.V_below Vp hb
 replace B9 := blk_below B9 hb
 replace Va0 := Kd.V_below Va0 hb
 replace Va1 := Kd.V_below Va1 hb
 replace B10 := blk_below B10 hb
 replace Vc0 := Kd.V_below Vc0 hb
 replace Vc1 := Kd.V_below Vc1 hb
 replace B14 := blk_below B14 hb
 replace Vq2 := Kd.V_below Vq2 hb
 replace Vd0 := Kd.V_below Vd0 hb
 replace Vd1 := Kd.V_below Vd1 hb
 replace B16 := blk_below B16 hb
 replace B17 := blk_below B17 hb
 replace Vr2 := Kd.V_below Vr2 hb
 replace B19 := blk_below B19 hb
 clear hb
 dsimp only
 have x9_0 := (blk_cell B9 0).trans rfl
 have x9_1 := (blk_cell B9 1).trans rfl
 have x9_2 := (blk_cell B9 2).trans rfl
 have x16_0 := (blk_cell B16 0).trans rfl
 have x16_1 := (blk_cell B16 1).trans rfl
 have x16_2 := (blk_cell B16 2).trans rfl
 have x19_0 := (blk_cell B19 0).trans rfl
 have x19_1 := (blk_cell B19 1).trans rfl
 have x19_2 := (blk_cell B19 2).trans rfl
 have x10_0 := (blk_cell B10 0).trans rfl
 have x10_1 := (blk_cell B10 1).trans rfl
 have x14_0 := (blk_cell B14 0).trans rfl
 have x14_1 := (blk_cell B14 1).trans rfl
 have x17_0 := (blk_cell B17 0).trans rfl
 have x17_1 := (blk_cell B17 1).trans rfl
 go_wp2_with fail
 clear x9_0 x9_1 x9_2
 clear x16_0 x16_1 x16_2
 clear x19_0 x19_1 x19_2
 clear x10_0 x10_1
 clear x14_0 x14_1
 clear x17_0 x17_1
 refine (signatoryref06_SamePacket.calls 1 3 _ _ [7] q0 q1 Aq2 cq2 q2 true w19 (Kd.V_reads' Vp).2.2 (Kd.V_reads' Vp).2.1 (Kd.V_reads' Vq2).2.2 (Kd.V_reads' Vq2).2.1 hP).mono ?_
 rintro e w20 ⟨rfl, hb⟩
 replace HB := below_step HB hb
 replace Vn0 := Kd.V_below Vn0 hb
 replace Vn1 := Kd.V_below Vn1 hb
 replace B1 := blk_below B1 hb
 replace Vp := Kd.V_below Vp hb
 replace B9 := blk_below B9 hb
 replace Va0 := Kd.V_below Va0 hb
 replace Va1 := Kd.V_below Va1 hb
 replace B10 := blk_below B10 hb
 replace Vc0 := Kd.V_below Vc0 hb
 replace Vc1 := Kd.V_below Vc1 hb
 replace B14 := blk_below B14 hb
 replace Vq2 := Kd.V_below Vq2 hb
 replace Vd0 := Kd.V_below Vd0 hb
 replace Vd1 := Kd.V_below Vd1 hb
 replace B16 := blk_below B16 hb
 replace B17 := blk_below B17 hb
 replace Vr2 := Kd.V_below Vr2 hb
 replace B19 := blk_below B19 hb
 clear hb
 dsimp only
 have x19_0 := (blk_cell B19 0).trans rfl
 have x19_1 := (blk_cell B19 1).trans rfl
 have x19_2 := (blk_cell B19 2).trans rfl
 have x10_0 := (blk_cell B10 0).trans rfl
 have x10_1 := (blk_cell B10 1).trans rfl
 have x14_0 := (blk_cell B14 0).trans rfl
 have x14_1 := (blk_cell B14 1).trans rfl
 have x17_0 := (blk_cell B17 0).trans rfl
 have x17_1 := (blk_cell B17 1).trans rfl
 go_wp2_with fail
 clear x19_0 x19_1 x19_2
 clear x10_0 x10_1
 clear x14_0 x14_1
 clear x17_0 x17_1
 refine (signatoryref06_SamePacket.calls r0 r1 Ar2 cr2 r2 0 0 none 0 [] true w20 (Kd.V_reads' Vr2).2.2 (Kd.V_reads' Vr2).2.1 (Kd.C_nil _ _) (Nat.le_refl _) hQ).mono ?_
 rintro e w21 ⟨rfl, hb⟩
 replace HB := below_step HB hb
 replace Vn0 := Kd.V_below Vn0 hb
 replace Vn1 := Kd.V_below Vn1 hb
 replace B1 := blk_below B1 hb
 replace Vp := Kd.V_below Vp hb
 replace B9 := blk_below B9 hb
 replace Va0 := Kd.V_below Va0 hb
 replace Va1 := Kd.V_below Va1 hb
 replace B10 := blk_below B10 hb
 replace Vc0 := Kd.V_below Vc0 hb
 replace Vc1 := Kd.V_below Vc1 hb
 replace B14 := blk_below B14 hb
 replace Vq2 := Kd.V_below Vq2 hb
 replace Vd0 := Kd.V_below Vd0 hb
 replace Vd1 := Kd.V_below Vd1 hb
 replace B16 := blk_below B16 hb
 replace B17 := blk_below B17 hb
 replace Vr2 := Kd.V_below Vr2 hb
 replace B19 := blk_below B19 hb
 clear hb
 dsimp only
 have x10_0 := (blk_cell B10 0).trans rfl
 have x10_1 := (blk_cell B10 1).trans rfl
 have x14_0 := (blk_cell B14 0).trans rfl
 have x14_1 := (blk_cell B14 1).trans rfl
 have x17_0 := (blk_cell B17 0).trans rfl
 have x17_1 := (blk_cell B17 1).trans rfl
 go_wp2_with fail
 clear x10_0 x10_1
 clear x14_0 x14_1
 clear x17_0 x17_1
 refine (signatoryref06_Same.calls k Ad0 cd0 d0 Ad1 cd1 d1 Aa0 ca0 a0 Aa1 ca1 a1 true w21 (Kd.V_reads' Vd0).2.2 (Kd.V_reads' Vd0).2.1 (Kd.V_reads' Vd1).2.2 (Kd.V_reads' Vd1).2.1 (Kd.V_reads' Va0).2.2 (Kd.V_reads' Va0).2.1 (Kd.V_reads' Va1).2.2 (Kd.V_reads' Va1).2.1 hE).mono ?_
 rintro e w22 ⟨rfl, hb⟩
 replace HB := below_step HB hb
 replace Vn0 := Kd.V_below Vn0 hb
 replace Vn1 := Kd.V_below Vn1 hb
 replace B1 := blk_below B1 hb
 replace Vp := Kd.V_below Vp hb
 replace B9 := blk_below B9 hb
 replace Va0 := Kd.V_below Va0 hb
 replace Va1 := Kd.V_below Va1 hb
 replace B10 := blk_below B10 hb
 replace Vc0 := Kd.V_below Vc0 hb
 replace Vc1 := Kd.V_below Vc1 hb
 replace B14 := blk_below B14 hb
 replace Vq2 := Kd.V_below Vq2 hb
 replace Vd0 := Kd.V_below Vd0 hb
 replace Vd1 := Kd.V_below Vd1 hb
 replace B16 := blk_below B16 hb
 replace B17 := blk_below B17 hb
 replace Vr2 := Kd.V_below Vr2 hb
 replace B19 := blk_below B19 hb
 clear hb
 dsimp only
 obtain ⟨ad, rfl, e0, e1⟩ := at_T55 (Kd.V_reads' Vc1).2.2 0 (by omega) (by have := h1.out; omega)
 rw [h2] at e0 e1
 simp only [Int.toNat_zero, Nat.zero_mul, show ad.add 0 = ad from by simp [Addr.add]] at e0 e1
 have h1 := h1.out
 have h3 := h3.out
 have x14_0 := (blk_cell B14 0).trans rfl
 have x14_1 := (blk_cell B14 1).trans rfl
 go_wp2_with fail
 clear x14_0 x14_1
 go_ret
 exact ⟨rfl, HB⟩
set_option maxRecDepth 100000 in
/-- **The examples of the chapter hold.** -/
theorem sane_ok (w : World) : Calls Try.prog 9 #[] w fun e w' => e = .returned (.bool true) ∧ Below w.heap.size w w' :=
 sane.calls 40 [] [] (by kernel_rfl) 0 0 [] [] [] (by kernel_rfl) [] [] (by kernel_rfl) [] [] (by kernel_rfl) [⟨1, 3, [7]⟩] [] (by kernel_rfl) [⟨1, 3, [7]⟩, ⟨1, 3, [7]⟩] [] (by kernel_rfl)
  [⟨1, 3, [7]⟩, ⟨1, 3, [7]⟩] [⟨1, 3⟩] (by kernel_rfl) 1 3 [7] [⟨1, 3, [7]⟩] [] (by kernel_rfl) 0 0 [] [⟨1, 3, [7]⟩] [⟨1, 3⟩] (by kernel_rfl) (by kernel_rfl) (by kernel_rfl) (by kernel_rfl) (by kernel_rfl) ⟨rfl⟩ rfl ⟨rfl⟩ w
end
def signatorylaw06_sane.f (k : Nat) : Option Bool := if 3000 < k then some true else none
theorem signatorylaw06_sane.mono : ∀ k, LeO (signatorylaw06_sane.f k) (signatorylaw06_sane.f (k + 1)) := by
 intro k r h
 unfold signatorylaw06_sane.f at h ⊢
 by_cases c : 3000 < k
 ·rw [if_pos c] at h; rw [if_pos (by omega)]; exact h
 ·rw [if_neg c] at h; cases h
theorem signatorylaw06_sane.calls (k : Nat) (r : Bool) (w : World) (h : signatorylaw06_sane.f k = some r) : Calls Try.prog 9 #[] w fun e w' => e = .returned (.bool r) ∧ Below w.heap.size w w' := by
 unfold signatorylaw06_sane.f at h
 by_cases c : 3000 < k
 ·rw [if_pos c] at h
  obtain rfl := Option.some.inj h
  exact sane_ok w
 ·rw [if_neg c] at h
  cases h
theorem sane_eq (k : Nat) (hk : 3000 < k) : signatorylaw06_sane.f k = some true := by
 unfold signatorylaw06_sane.f
 rw [if_pos hk]

end Go.Proofs.Ythlehlbokaeigaa.Q
