import Derived.Test.YtnahfhbnfidanaaE24
import Derived.Test.YtnahfhbnfidanaaE30
namespace Go.Proofs.Ytnahfhbnfidanaa.Q
open Go.RowKit Go.Proofs.YtnahfhbnfidanaaW.PrintWords
set_option linter.unusedVariables false
theorem VersionsOrder.calls (l0 : List S24) (A0 : Option Addr) (c0 : Nat) (l1 : List Int) (A1 : Option Addr) (c1 : Nat) (a2 : Int) (w2 : (Lit.int .i64 a2).wf = true) (a3 : Int) (w3 : (Lit.int .i64 a3).wf = true) (a4 : Int) (w4 : (Lit.int .i64 a4).wf = true) (W : World) (Hl0 : l0.length ≤ c0) (Hc0 : Kd.C k24 W A0 l0.length l0) (Hl1 : l1.length ≤ c1) (Hc1 : Kd.C (Kd.int .u8) W A1 l1.length l1) (Hm1 : l1.length ≤ maxLen) (Hb1 : ∀ x ∈ l1, 0 ≤ x ∧ x < 256) :
    Calls Try.prog 7 #[.slice A0 l0.length c0, .slice A1 l1.length c1, .int .i64 a2, .int .i64 a3, .int .i64 a4] W fun e w' => e = .returned (.bool true) ∧ Below W.heap.size W w' :=
  signatorylaw14_VersionsOrder.calls (l1.length + 10000) A0 c0 l0 A1 c1 l1 a2 a3 a4 true W Hc0 Hl0 Hc1 Hl1 (order_plain l0 l1 Hb1 (by unfold maxLen at Hm1; omega) a2 a3 a4)
end Go.Proofs.Ytnahfhbnfidanaa.Q
