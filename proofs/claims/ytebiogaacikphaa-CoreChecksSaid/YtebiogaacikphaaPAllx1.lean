-- Written by a program of this session's, out of the translation. Not trusted: Lean checks it.
import Derived.Test.YtebiogaacikphaaPAllx0
namespace Go.Proofs.Ytebiogaacikphaa.PAll
open Go.RowKit Go.Proofs.YtebiogaacikphaaW.PrintWords Go.Proofs.YtebiogaacikphaaW.PrintLast Go.Proofs.YtebiogaacikphaaW.PrintMore
attribute [local go_sem] max2_int min2_int max_two min_two max_three min_three max_four min_four   -- for this text's walks alone
set_option linter.unusedVariables false
set_option linter.unusedSimpArgs false

theorem eqA76 (d : Nat) (w : World) (x0 y0 : Int) (x1 y1 : Int) (x2 y2 : Int) (x3 y3 : Int) :
    (Op.equalIn (d + 2) 76 (.agg #[.int .u64 x0, .int .u64 x1, .int .u64 x2, .int .u64 x3]) (.agg #[.int .u64 y0, .int .u64 y1, .int .u64 y2, .int .u64 y3])).run Try.prog w = .ok (x0 == y0 && (x1 == y1 && (x2 == y2 && (x3 == y3)))) w := by
  exact eqArr4 Try.underlying76 Try.underlying74 (by kernel_rfl) d w x0 y0 x1 y1 x2 y2 x3 y3
end Go.Proofs.Ytebiogaacikphaa.PAll
