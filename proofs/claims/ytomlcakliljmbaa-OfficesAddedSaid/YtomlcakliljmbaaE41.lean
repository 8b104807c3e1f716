import Derived.Test.YtomlcakliljmbaaE38
import Derived.Test.YtomlcakliljmbaaE40
namespace Go.Proofs.Ytomlcakliljmbaa.Q
open Go.RowKit Go.Proofs.YtomlcakliljmbaaW.PrintWords
set_option linter.unusedVariables false
theorem OfficesAdded.calls (l0 : List S24) (A0 : Option Addr) (c0 : Nat) (x1 : S24) (x2 : S24) (a3 : Int) (w3 : (Lit.int .i64 a3).wf = true) (a4 : Int) (w4 : (Lit.int .i64 a4).wf = true) (a5 : Int) (w5 : (Lit.int .i64 a5).wf = true) (W : World) (Hl0 : l0.length ≤ c0) (Hc0 : Kd.C k24 W A0 l0.length l0) :
    Calls Try.prog 3 #[.slice A0 l0.length c0, .agg #[.int .i64 x1.f0, .int .i64 x1.f1, .int .i64 x1.f2, .int .i64 x1.f3, .int .i64 x1.f4, .int .i64 x1.f5, .bool x1.f6], .agg #[.int .i64 x2.f0, .int .i64 x2.f1, .int .i64 x2.f2, .int .i64 x2.f3, .int .i64 x2.f4, .int .i64 x2.f5, .bool x2.f6], .int .i64 a3, .int .i64 a4, .int .i64 a5] W fun e w' => e = .returned (.bool true) ∧ Below W.heap.size W w' :=
  signatorylaw15_OfficesAdded.calls 10000 A0 c0 l0 x1.f0 x1.f1 x1.f2 x1.f3 x1.f4 x1.f5 x1.f6 x2.f0 x2.f1 x2.f2 x2.f3 x2.f4 x2.f5 x2.f6 a3 a4 a5 true W Hc0 Hl0 (added_plain l0 x1 x2 a3 a4 a5)
end Go.Proofs.Ytomlcakliljmbaa.Q
