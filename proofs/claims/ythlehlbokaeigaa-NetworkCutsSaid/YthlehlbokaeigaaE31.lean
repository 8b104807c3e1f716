import Derived.Test.YthlehlbokaeigaaE30
namespace Go.Proofs.Ythlehlbokaeigaa.Q
open Go.RowKit Go.Proofs.YthlehlbokaeigaaW.PrintWords
section
variable {α : Type} {d : Kd α} {e b g : Nat} {ok : Nat → Prop} {w W : World} {v : Value} {xs : List α} {o : Obj}
theorem Vne (h : Kd.V d e w 0 (fun _ => True) v xs) (hb : Below w.heap.size w W) : Kd.V d e W b (fun k => k ≠ w.heap.size) v xs :=
  Kd.V_below (W := w) (Kd.V_map (base' := 0) (w1 := w) h (fun _ hF => Kd.F_mono (Kd.F_bound hF) (fun _ hk => Nat.ne_of_lt hk.2))) hb
theorem Vnew (h : Kd.V d e w b ok v xs) : Kd.V d e (w.alloc o) 0 (fun k => k ≠ w.heap.size) v xs :=
  Kd.V_below (W := w) (Kd.V_map (base' := 0) (w1 := w) h (fun _ hF => Kd.F_mono (Kd.F_bound hF) (fun _ hk => Nat.ne_of_lt hk.2))) ((Below.refl _ w).alloc (Nat.le_refl _) _)
theorem Vold (h : Kd.V d e W b (fun k => (k ≠ w.heap.size ∨ k ≠ w.heap.size ∨ k ≠ w.heap.size) ∨ (w.alloc o).heap.size ≤ k) v xs) : Kd.V d e W 0 (fun k => k ≠ w.heap.size) v xs :=
  Kd.V_map h (fun _ hF => Kd.F_mono hF (fun k hk => by
    rcases hk with (h1 | h1 | h1) | h1
    · exact h1
    · exact h1
    · exact h1
    · rw [World.size_alloc] at h1; omega))
end
end Go.Proofs.Ythlehlbokaeigaa.Q
