import Derived.Test.YthlehlbokaeigaaE45
import Derived.Test.YthlehlbokaeigaaE51
namespace Go.Proofs.Ythlehlbokaeigaa.Q
open Go.RowKit Go.Proofs.YthlehlbokaeigaaW.PrintWords
set_option linter.unusedVariables false
theorem NetworkAll.calls (l0 : List S28) (A0 : Option Addr) (c0 : Nat) (l1 : List Int) (A1 : Option Addr) (c1 : Nat) (W : World) (V0 : Kd.V k28 28 W 0 (fun _ => True) (.slice A0 l0.length c0) l0)
    (Hl1 : l1.length ≤ c1) (Hc1 : Kd.C (Kd.int .u8) W A1 l1.length l1) (Hm1 : l1.length ≤ maxLen) (Hb1 : ∀ x ∈ l1, 0 ≤ x ∧ x < 256) :
    Calls Try.prog 4 #[.slice A0 l0.length c0, .slice A1 l1.length c1] W fun e w' => e = .returned (.bool true) ∧ Below W.heap.size W w' := by
  obtain ⟨k, hk⟩ : ∃ k : Nat, k = 4000 := ⟨_, rfl⟩
  exact signatorylaw06_NetworkAll.calls k (fun _ => True) A0 c0 l0 A1 c1 l1 true W V0 Hc1 Hl1 (all_plain k (by omega) l0 l1 Hb1)
end Go.Proofs.Ythlehlbokaeigaa.Q
