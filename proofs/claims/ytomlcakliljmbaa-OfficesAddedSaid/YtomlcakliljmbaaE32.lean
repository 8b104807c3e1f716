import Derived.Test.YtomlcakliljmbaaQ
namespace Go.Proofs.Ytomlcakliljmbaa.Q
open Go.RowKit Go.Proofs.YtomlcakliljmbaaW.PrintWords
set_option linter.unusedVariables false
set_option linter.unusedSimpArgs false
section
theorem vR_no {x : S24} (h : vR x = true) : 0 ≤ x.f0 := (vR_of h).1
/-- The number ahead of a place. -/
def lastAt (l : List S24) : Nat → Int
  | 0 => -1
  | i + 1 => (l.getD i z24).f0
theorem addP_len (l : List S24) (x : S24) : (addP l x).1.length ≤ l.length + 1 := by
  unfold addP
  have := pos_le l x.f0
  split
  · split
    · split
      · simp
      · split
        · simp
        · simp; omega
    · simp
  · simp
end
end Go.Proofs.Ytomlcakliljmbaa.Q
