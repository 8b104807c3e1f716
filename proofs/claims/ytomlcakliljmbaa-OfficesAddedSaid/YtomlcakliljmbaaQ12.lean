-- Written by wip/tools/extprint.py of this repo (a program of this claim's own, over the kit's printer) out of the translation; Lean checks it.
import Derived.Test.YtomlcakliljmbaaQ0
import Derived.Test.YtomlcakliljmbaaQ3
import Derived.Test.YtomlcakliljmbaaQ8
import Derived.Test.YtomlcakliljmbaaQ10
namespace Go.Proofs.Ytomlcakliljmbaa.Q
open Go.RowKit Go.Proofs.YtomlcakliljmbaaW.PrintWords Go.Proofs.YtomlcakliljmbaaW.PrintLast Go.Proofs.YtomlcakliljmbaaW.PrintMore
attribute [local go_sem] max2_int min2_int max_two min_two max_three min_three max_four min_four   -- for this text's walks alone
set_option linter.unusedVariables false
set_option linter.unusedSimpArgs false

section
open Go.Shelf Go.Maps
section
attribute [local go_sem] Oper.semAt_some
theorem results_tmp4 {fn : Func} {t u v s : Tmp} (h : fn.results = #[.tmp t, .tmp u, .tmp v, .tmp s]) (tmps : Array Value) (P : Program) (w : World) :
    (results fn tmps).run P w = .ok (.tuple #[tmps.getD t undef, tmps.getD u undef, tmps.getD v undef, tmps.getD s undef]) w := by
  simp [results, h]
/-- What Holds says of a seat. -/
def holdsP (M : Int → Int → Option S24) (o p : Int) : Int × Int × Bool × Int := match M o p with
  | none => (0, 0, false, 0)
  | some x => if x.f6 = true then (0, 0, false, 0) else (x.f0, x.f5, true, 0)
def offices_Holds.f (k : Nat) (l0 : List (S24)) (a1 : Int) (a2 : Int) (a3 : Int) (a4 : Int) : Option (Int × Int × Bool × Int) := (offices_Check.f k l0).bind fun t1 => (if t1 = 0 then ((offices_isOffice.f a1).bind fun t2 => (if t2 = true then (((offices_isPerson.f a2).bind fun t3 => (if t3 = true then (((offices_isTime.f a3).bind fun t4 => (if t4 = true then (((offices_isTime.f a4).bind fun t5 => (if t5 = true then (some (holdsP (standP a3 a4 l0) a1 a2)) else (some (0, 0, false, 1))))) else (some (0, 0, false, 1))))) else (some (0, 0, false, 1))))) else (some (0, 0, false, 1)))) else (some (0, 0, false, t1)))
theorem offices_Holds.mono : ∀ a0 a1 a2 a3 a4 k, LeO (offices_Holds.f k a0 a1 a2 a3 a4) (offices_Holds.f (k + 1) a0 a1 a2 a3 a4) := by
  intro a0 a1 a2 a3 a4 k
  unfold offices_Holds.f
  exact LeO.bind (offices_Check.mono _ _) (fun _ => LeO.refl _)
set_option maxHeartbeats 200000000 in
set_option maxRecDepth 100000 in
theorem offices_Holds.calls (k : Nat) (A0 : Option Addr) (c0 : Nat) (l0 : List (S24)) (a1 : Int) (a2 : Int) (a3 : Int) (a4 : Int) (r1 : Int) (r2 : Int) (r3 : Bool) (r4 : Int) (w : World) (hr0 : Kd.C k24 w A0 l0.length l0) (hc0 : l0.length ≤ c0) (h : offices_Holds.f k l0 a1 a2 a3 a4 = some (r1, r2, r3, r4)) :
    Calls Try.prog 15 #[.slice A0 l0.length c0, .int .i64 a1, .int .i64 a2, .int .i64 a3, .int .i64 a4] w fun e w' => e = .returned (.tuple #[.int .i64 r1, .int .i64 r2, .bool r3, .int .i64 r4]) ∧ Below w.heap.size w w' := by
  have hu24 := Try.underlying24
  have hu60 := Try.underlying60
  have hu56 := Try.underlying56
  unfold offices_Holds.f at h
  obtain ⟨t1, ht1, h⟩ := Option.bind_eq_some_iff.mp h
  have HR := Aside0.mk hr0
  clear hr0
  have fin : ∀ {c : Int}, some ((0 : Int), (0 : Int), false, c) = some (r1, r2, r3, r4) → r1 = 0 ∧ r2 = 0 ∧ r3 = false ∧ r4 = c := fun e => by cases e; exact ⟨rfl, rfl, rfl, rfl⟩
  by_cases hz : t1 = 0
  · subst hz
    rw [if_pos rfl] at h
    obtain ⟨hlen, hvr, hwf⟩ := holds_wf ht1
    have HWF := Aside0.mk hwf
    have HS := Aside0.mk hlen
    clear hlen hvr hwf
    obtain ⟨t2, ht2, h⟩ := Option.bind_eq_some_iff.mp h
    have HO := Aside0.mk (show decide (0 ≤ a1 ∧ a1 ≤ 31) = t2 from Option.some.inj ((isOffice_eq a1).symm.trans ht2))
    go_enter Try.func15, Try.ntmps15
    go_wp2_with fail
    refine (offices_Check.calls k A0 c0 l0 0 w HR.out hc0 ht1).mono ?_
    rintro e w2 ⟨rfl, hb⟩
    have B2 := Aside0.mk hb
    have R2 := Aside0.mk (later24 HR.out B2.out)
    clear hb
    go_wp2_with fail
    refine (offices_isOffice.calls a1 t2 w2 ht2).mono ?_
    rintro e w3 ⟨rfl, hd⟩
    have hb := hd.below
    have R3 := Aside0.mk (later24 R2.out hb)
    have B3 := Aside0.mk (B2.out.trans (hb.mono B2.out.size))
    clear hd hb
    cases t2 with
    | false =>
      rw [if_neg (by decide)] at h
      obtain ⟨rfl, rfl, rfl, rfl⟩ := fin h
      clear fin h
      go_wp2
      (try simp only [Exit.inBlock, Exit.then]); refine bodyPost_ret (results_tmp4 rfl _ _ _) rfl ?_
      exact ⟨rfl, B3.out⟩
    | true =>
      rw [if_pos rfl] at h
      obtain ⟨t3, ht3, h⟩ := Option.bind_eq_some_iff.mp h
      have HP := Aside0.mk (show decide (0 ≤ a2 ∧ a2 ≤ 63) = t3 from Option.some.inj ((isPerson_eq a2).symm.trans ht3))
      go_wp2_with fail
      refine (offices_isPerson.calls a2 t3 w3 ht3).mono ?_
      rintro e w4 ⟨rfl, hd⟩
      have hb := hd.below
      have R4 := Aside0.mk (later24 R3.out hb)
      have B4 := Aside0.mk (B3.out.trans (hb.mono B3.out.size))
      clear hd hb
      cases t3 with
      | false =>
        rw [if_neg (by decide)] at h
        obtain ⟨rfl, rfl, rfl, rfl⟩ := fin h
        clear fin h
        go_wp2
        (try simp only [Exit.inBlock, Exit.then]); refine bodyPost_ret (results_tmp4 rfl _ _ _) rfl ?_
        exact ⟨rfl, B4.out⟩
      | true =>
        rw [if_pos rfl] at h
        obtain ⟨t4, ht4, h⟩ := Option.bind_eq_some_iff.mp h
        go_wp2_with fail
        refine (offices_isTime.calls a3 t4 w4 ht4).mono ?_
        rintro e w5 ⟨rfl, hd⟩
        have hb := hd.below
        have R5 := Aside0.mk (later24 R4.out hb)
        have B5 := Aside0.mk (B4.out.trans (hb.mono B4.out.size))
        clear hd hb
        cases t4 with
        | false =>
          rw [if_neg (by decide)] at h
          obtain ⟨rfl, rfl, rfl, rfl⟩ := fin h
          clear fin h
          go_wp2
          (try simp only [Exit.inBlock, Exit.then]); refine bodyPost_ret (results_tmp4 rfl _ _ _) rfl ?_
          exact ⟨rfl, B5.out⟩
        | true =>
          rw [if_pos rfl] at h
          obtain ⟨t5, ht5, h⟩ := Option.bind_eq_some_iff.mp h
          go_wp2_with fail
          refine (offices_isTime.calls a4 t5 w5 ht5).mono ?_
          rintro e w6 ⟨rfl, hd⟩
          have hb := hd.below
          have R6 := Aside0.mk (later24 R5.out hb)
          have B6 := Aside0.mk (B5.out.trans (hb.mono B5.out.size))
          clear hd hb
          cases t5 with
          | false =>
            rw [if_neg (by decide)] at h
            obtain ⟨rfl, rfl, rfl, rfl⟩ := fin h
            clear fin h
            go_wp2
            (try simp only [Exit.inBlock, Exit.then]); refine bodyPost_ret (results_tmp4 rfl _ _ _) rfl ?_
            exact ⟨rfl, B6.out⟩
          | true =>
            rw [if_pos rfl] at h
            clear fin
            go_wp2_with fail
            refine (standing_calls A0 c0 l0 a3 a4 w6 R6.out HS.out HWF.out).mono ?_
            rintro e w7 ⟨B, rfl, hB, hM, hb⟩
            have B7 := Aside0.mk (B6.out.trans (hb.mono B6.out.size))
            clear hb R2 R3 R4 R5 R6 HR
            have hho : 0 ≤ a1 ∧ a1 ≤ 31 := by simpa using HO.out
            have hpp : 0 ≤ a2 ∧ a2 ≤ 63 := by simpa using HP.out
            have hlook := hM.look (key_mk (wf_small hho.1 (by omega)) (wf_small hpp.1 (by omega)))
            clear hho hpp hM hB
            have h' := Option.some.inj h
            clear h
            unfold holdsP at h'
            cases hMo : standP a3 a4 l0 a1 a2 with
            | none =>
              rw [hMo] at hlook h'
              replace hlook : (Instr.lookup 56 (.map (some B)) (sv a1 a2) true).run Try.prog w7 = .ok (.tuple #[ag24 z24, .bool false]) w7 := hlook
              simp only [Prod.mk.injEq] at h'
              obtain ⟨e1, e2, e3, e4⟩ := h'
              subst e1 e2 e3 e4
              clear hMo
              have B8 := Aside0.mk (below_alloc B7.out (.cells #[.int .i64 z24.f0, .int .i64 z24.f1, .int .i64 z24.f2, .int .i64 z24.f3, .int .i64 z24.f4, .int .i64 z24.f5, .bool z24.f6] 24))
              go_wp2
              (try simp only [Exit.inBlock, Exit.then]); refine bodyPost_ret (results_tmp4 rfl _ _ _) rfl ?_
              exact ⟨rfl, B8.out⟩
            | some y =>
              rw [hMo] at hlook h'
              replace hlook : (Instr.lookup 56 (.map (some B)) (sv a1 a2) true).run Try.prog w7 = .ok (.tuple #[ag24 y, .bool true]) w7 := hlook
              clear hMo
              dsimp only at h'
              obtain ⟨w8, hw8⟩ : ∃ w8, w7.alloc (.cells #[.int .i64 y.f0, .int .i64 y.f1, .int .i64 y.f2, .int .i64 y.f3, .int .i64 y.f4, .int .i64 y.f5, .bool y.f6] 24) = w8 := ⟨_, rfl⟩
              have hb8 : Below w7.heap.size w7 w8 := by rw [← hw8]; exact (Below.refl _ w7).alloc (Nat.le_refl _) _
              have qy : w8.heap[w7.heap.size]? = some (.cells #[.int .i64 y.f0, .int .i64 y.f1, .int .i64 y.f2, .int .i64 y.f3, .int .i64 y.f4, .int .i64 y.f5, .bool y.f6] 24 (0, 0)) := by rw [← hw8]; exact World.alloc_heap_new w7 _
              have B8 := Aside0.mk (B7.out.trans (hb8.mono B7.out.size))
              clear hb8
              obtain ⟨By, hBy⟩ : ∃ b, w7.heap.size = b := ⟨_, rfl⟩
              rw [hBy] at qy
              obtain ⟨g, hg⟩ : ∃ g, y.f6 = g := ⟨_, rfl⟩
              have x0 := (blk_cell qy 0).trans rfl
              have x5 := (blk_cell qy 5).trans rfl
              have x6 := (blk_cell qy 6).trans (congrArg (fun z => some (Value.bool z)) hg)
              rw [hg] at h'
              have HG := Aside0.mk hg
              clear hg qy
              cases g with
              | true =>
                rw [if_pos rfl] at h'
                simp only [Prod.mk.injEq] at h'
                obtain ⟨e1, e2, e3, e4⟩ := h'
                subst e1 e2 e3 e4
                go_wp2
                (try simp only [Exit.inBlock, Exit.then]); refine bodyPost_ret (results_tmp4 rfl _ _ _) rfl ?_
                exact ⟨rfl, B8.out⟩
              | false =>
                rw [if_neg (by decide)] at h'
                simp only [Prod.mk.injEq] at h'
                obtain ⟨e1, e2, e3, e4⟩ := h'
                subst e1 e2 e3 e4
                go_wp2
                clear hw8
                go_region
                all_goals
                  go_wp2
                  (try simp only [Exit.inBlock, Exit.then]); refine bodyPost_ret (results_tmp4 rfl _ _ _) rfl ?_
                  exact ⟨rfl, below_drew1 B8.out⟩
  · rw [if_neg hz] at h
    have h' := Option.some.inj h
    simp only [Prod.mk.injEq] at h'
    obtain ⟨e1, e2, e3, e4⟩ := h'
    subst e1 e2 e3 e4
    clear h fin
    have hne : (t1 != 0) = true := by simpa using hz
    go_enter Try.func15, Try.ntmps15
    go_wp2_with fail
    refine (offices_Check.calls k A0 c0 l0 t1 w HR.out hc0 ht1).mono ?_
    rintro e w2 ⟨rfl, hb⟩
    have B2 := Aside0.mk hb
    clear hb
    go_wp2
    (try simp only [Exit.inBlock, Exit.then]); refine bodyPost_ret (results_tmp4 rfl _ _ _) rfl ?_
    exact ⟨rfl, B2.out⟩
end
end

end Go.Proofs.Ytomlcakliljmbaa.Q
