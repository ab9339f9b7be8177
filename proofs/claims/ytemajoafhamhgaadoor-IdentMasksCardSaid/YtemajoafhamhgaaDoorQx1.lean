/- Go functions as Lean functions, each with a proof that the machine's call comes to what its Lean function tells; no condition beside those that each theorem states. Written by this project's program drive.py. -/
import Derived.Test.YtemajoafhamhgaaDoorBase
import Derived.Test.YtemajoafhamhgaaDoorQx0
namespace Go.Proofs.YtemajoafhamhgaaDoor.Q
open Go.RowKit Go.Proofs.YtemajoafhamhgaaDoorW.PrintWords Go.Proofs.YtemajoafhamhgaaDoorW.PrintLast Go.Proofs.YtemajoafhamhgaaDoorW.PrintMore
attribute [local go_sem] Go.Proofs.YtemajoafhamhgaaDoor.Base.cell_there
attribute [local go_sem] max2_int min2_int max_two min_two max_three min_three max_four min_four   -- for this text's walks alone
set_option linter.unusedVariables false
set_option linter.unusedSimpArgs false

theorem eqA23 (d : Nat) (w : World) (x0 y0 : Bool) (x1 y1 : Int) :
    (Op.equalIn (d + 2) 23 (.agg #[.bool x0, .int .i64 x1]) (.agg #[.bool y0, .int .i64 y1])).run Tryd.prog w = .ok (x0 == y0 && (x1 == y1)) w := by
  refine eqA_of Tryd.underlying23 (by kernel_rfl) ?_
  refine eqf_cons (by rfl) (by go_simp; rfl) (by go_simp; rfl) (by go_simp) ?_
  exact eqf_last (by rfl) (by go_simp; rfl) (by go_simp; rfl) (by go_simp)
end Go.Proofs.YtemajoafhamhgaaDoor.Q
