import Derived.Test.YtnahfhbnfidanaaE23
namespace Go.Proofs.Ytnahfhbnfidanaa.Q
open Go.RowKit Go.Proofs.YtnahfhbnfidanaaW.PrintWords
set_option linter.unusedVariables false
set_option linter.unusedSimpArgs false
theorem has0_mem {l : List S24} {v : Int} (h : has0 l v = true) : ∃ y ∈ l, y.f0 = v := by
  unfold has0 at h
  split at h
  · rename_i y hy
    exact ⟨y, List.mem_of_getElem? hy, by simpa using h⟩
  · cases h
theorem addP_of {l : List S24} {x : S24} (h0 : chk l = 0) (h1 : vR x = true) (h2 : ∀ z ∈ l, z.f0 ≠ x.f0) (h3 : l.length < 4096) : addP l x = (l.take (pos l x.f0) ++ x :: l.drop (pos l x.f0), 0) := by
  unfold addP
  rw [if_pos h0, if_pos h1, if_neg (fun h => by obtain ⟨y, hy, e⟩ := has0_mem h; exact h2 y hy e), if_neg (by omega)]
theorem swap_perm (l : List S24) (i j : Nat) (hi : i < l.length) (hj : j < l.length) : ((l.set i l[j]).set j l[i]).Perm l := List.set_set_perm hi hj
end Go.Proofs.Ytnahfhbnfidanaa.Q
