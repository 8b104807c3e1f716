import Derived.Test.YtomlcakliljmbaaE37
import Derived.Test.YtomlcakliljmbaaE40
namespace Go.Proofs.Ytomlcakliljmbaa.Q
open Go.RowKit Go.Proofs.YtomlcakliljmbaaW.PrintWords
set_option linter.unusedVariables false
theorem OfficesLast.calls (l0 : List S24) (A0 : Option Addr) (c0 : Nat) (a1 : Int) (w1 : (Lit.int .i64 a1).wf = true) (a2 : Int) (w2 : (Lit.int .i64 a2).wf = true) (a3 : Int) (w3 : (Lit.int .i64 a3).wf = true) (a4 : Int) (w4 : (Lit.int .i64 a4).wf = true) (W : World) (Hl0 : l0.length ≤ c0) (Hc0 : Kd.C k24 W A0 l0.length l0) :
    Calls Try.prog 7 #[.slice A0 l0.length c0, .int .i64 a1, .int .i64 a2, .int .i64 a3, .int .i64 a4] W fun e w' => e = .returned (.bool true) ∧ Below W.heap.size W w' :=
  signatorylaw15_OfficesLast.calls 30000000 A0 c0 l0 a1 a2 a3 a4 true W Hc0 Hl0 (last_plain l0 a1 a2 a3 a4)
end Go.Proofs.Ytomlcakliljmbaa.Q
