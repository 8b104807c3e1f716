-- Written by wip/tools/extprint.py of this repo (a program of this claim's own, over the kit's printer) out of the translation; Lean checks it.
import Derived.Test.YthlehlbokaeigaaQ0
namespace Go.Proofs.Ythlehlbokaeigaa.Q
open Go.RowKit Go.Proofs.YthlehlbokaeigaaW.PrintWords Go.Proofs.YthlehlbokaeigaaW.PrintLast Go.Proofs.YthlehlbokaeigaaW.PrintMore
attribute [local go_sem] max2_int min2_int max_two min_two max_three min_three max_four min_four   -- for this text's walks alone
set_option linter.unusedVariables false
set_option linter.unusedSimpArgs false

/-- '==' of arrays of two elements of one cell. -/
theorem eqArr2 {P : Program} {d : Nat} {t e : TypeId} {x0 x1 y0 y1 : Value} {r s : Bool} (w : World) (hu : P.underlying t = some (.array 2 e))
  (hz : (sizeOf e).run P w = .ok 1 w) (p0 : (part e #[x0, x1] 0).run P w = .ok x0 w) (p1 : (part e #[x0, x1] 1).run P w = .ok x1 w) (q0 : (part e #[y0, y1] 0).run P w = .ok y0 w) (q1 : (part e #[y0, y1] 1).run P w = .ok y1 w)
  (h0 : (Op.equalIn d e x0 y0).run P w = .ok r w) (h1 : (Op.equalIn d e x1 y1).run P w = .ok s w) :
  (Op.equalIn (d + 1) t (.agg #[x0, x1]) (.agg #[y0, y1])).run P w = .ok (r && s) w := by
 rw [Op.equalIn]
 simp only [Sem.run_bind, run_underlying hu, hz, Result.andThen_ok]
 simp [Std.Legacy.Range.forIn_eq_forIn_range', List.range', p0, p1, q0, q1, h0, h1]
 cases r <;> cases s <;> rfl
theorem eqA55 (d : Nat) (w : World) (x0 y0 : Int) (x1 y1 : Int) :
  (Op.equalIn (d + 2) 55 (.agg #[.int .i64 x0, .int .i64 x1]) (.agg #[.int .i64 y0, .int .i64 y1])).run Try.prog w = .ok (x0 == y0 && (x1 == y1)) w :=
 eqArr2 w Try.underlying55 (by go_simp) (by go_simp) (by go_simp) (by go_simp) (by go_simp) (by go_simp) (by go_simp)
end Go.Proofs.Ythlehlbokaeigaa.Q
