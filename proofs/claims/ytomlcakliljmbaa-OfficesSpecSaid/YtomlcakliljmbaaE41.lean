import Derived.Test.YtomlcakliljmbaaE36
import Derived.Test.YtomlcakliljmbaaE40
namespace Go.Proofs.Ytomlcakliljmbaa.Q
open Go.RowKit Go.Proofs.YtomlcakliljmbaaW.PrintWords
set_option linter.unusedVariables false
theorem OfficesSpec.calls (l0 : List S24) (A0 : Option Addr) (c0 : Nat) (x1 : S24) (W : World) (Hl0 : l0.length ≤ c0) (Hc0 : Kd.C k24 W A0 l0.length l0) :
    Calls Try.prog 5 #[.slice A0 l0.length c0, .agg #[.int .i64 x1.f0, .int .i64 x1.f1, .int .i64 x1.f2, .int .i64 x1.f3, .int .i64 x1.f4, .int .i64 x1.f5, .bool x1.f6]] W fun e w' => e = .returned (.bool true) ∧ Below W.heap.size W w' :=
  signatorylaw15_OfficesSpec.calls 10000 A0 c0 l0 x1.f0 x1.f1 x1.f2 x1.f3 x1.f4 x1.f5 x1.f6 true W Hc0 Hl0 (spec_plain l0 x1)
end Go.Proofs.Ytomlcakliljmbaa.Q
