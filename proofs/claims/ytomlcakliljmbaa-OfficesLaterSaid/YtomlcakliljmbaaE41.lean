import Derived.Test.YtomlcakliljmbaaE36
import Derived.Test.YtomlcakliljmbaaE40
namespace Go.Proofs.Ytomlcakliljmbaa.Q
open Go.RowKit Go.Proofs.YtomlcakliljmbaaW.PrintWords
set_option linter.unusedVariables false
theorem OfficesLater.calls (l0 : List S24) (A0 : Option Addr) (c0 : Nat) (a1 : Int) (w1 : (Lit.int .i64 a1).wf = true) (a2 : Int) (w2 : (Lit.int .i64 a2).wf = true) (a3 : Int) (w3 : (Lit.int .i64 a3).wf = true) (W : World) (Hl0 : l0.length ≤ c0) (Hc0 : Kd.C k24 W A0 l0.length l0) :
    Calls Try.prog 8 #[.slice A0 l0.length c0, .int .i64 a1, .int .i64 a2, .int .i64 a3] W fun e w' => e = .returned (.bool true) ∧ Below W.heap.size W w' :=
  signatorylaw15_OfficesLater.calls 10000 A0 c0 l0 a1 a2 a3 true W Hc0 Hl0 (later_plain l0 a1 a2 a3)
end Go.Proofs.Ytomlcakliljmbaa.Q
