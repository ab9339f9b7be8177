/- Go functions as Lean functions, each with a proof that the machine's call comes to what its Lean function tells; no condition beside those that each theorem states. Written by this project's program drive.py. -/
import Derived.Test.YtbndfdplcojjgaaProg
import Derived.Below
import Derived.Deep.Draws
import Derived.Deep.AppendLies
import Derived.Maps.AppendAt
import Derived.OwnWalk
import Derived.Laws.BytesArg
import Derived.Laws.MakeOwn
import Derived.Laws.OwnMore
import Derived.Deep.OwnRows
import Derived.Tactics
import Derived.Lib.ConvBytes
import Derived.Laws.Slices
import Derived.WalkKit
import Derived.KernelRfl
import Derived.RowKit3
import Derived.Deep.LoopGhost
import Derived.Deep.QuietTactic
import Derived.BigQuiet
import Derived.WideLaws
import Derived.Deep.DeepCutAuto
import Derived.Deep.CutBlock
import Derived.Deep.RegionHeld3
import Derived.Laws.Rows
import Derived.Lib.AppendStr
import Derived.ArgAppend
import Derived.Laws.IdiomCopy
import Derived.OrdersHeld
import Derived.Laws.BitsLemmas
import Derived.RowKit
import Derived.RangeFuncNested
import Derived.RangeFuncBound
import Derived.RangeFuncCalls
import Derived.RangeFuncLeaves
import Derived.Shelf.Abstract
import Derived.Shelf.RegionOpen
import Derived.OwnWalkIn
import Derived.TacticsInMore
import Derived.LoopNIn
import Derived.LoopIn
import Derived.Maps.AppendAt
import Derived.Test.YtbndfdplcojjgaaWWords
import Derived.Test.YtbndfdplcojjgaaWLast
import Derived.Test.YtbndfdplcojjgaaWTab
import Derived.Test.YtbndfdplcojjgaaWFour
import Derived.Test.YtbndfdplcojjgaaWQPut
import Derived.Test.YtbndfdplcojjgaaWApart
import Derived.Test.YtbndfdplcojjgaaWArr
import Derived.Test.YtbndfdplcojjgaaWZeros
import Derived.Test.YtbndfdplcojjgaaWFoot
import Derived.Test.YtbndfdplcojjgaaWKept
import Derived.Test.YtbndfdplcojjgaaWShare
import Derived.Test.YtbndfdplcojjgaaWN
import Derived.Test.YtbndfdplcojjgaaWFootNe
import Derived.Test.YtbndfdplcojjgaaWAt
import Derived.Test.YtbndfdplcojjgaaWEqStruct
import Derived.Test.YtbndfdplcojjgaaWRepsOne
import Derived.Test.YtbndfdplcojjgaaWInv
import Derived.Test.YtbndfdplcojjgaaWInvWords
import Derived.Test.YtbndfdplcojjgaaWGuard
import Derived.Test.YtbndfdplcojjgaaWNEv
import Derived.Test.YtbndfdplcojjgaaWMore
namespace Go.Proofs.Ytbndfdplcojjgaa.Q
open Go.RowKit Go.Proofs.YtbndfdplcojjgaaW.PrintWords Go.Proofs.YtbndfdplcojjgaaW.PrintLast Go.Proofs.YtbndfdplcojjgaaW.PrintMore
attribute [local go_sem] max2_int min2_int max_two min_two max_three min_three max_four min_four   -- for this text's walks alone
set_option linter.unusedVariables false
set_option linter.unusedSimpArgs false



def errW : Option Int → Value
  | none => .nilIface
  | some c => .iface 0 (.int .i64 c)
theorem errW_none : errW none = .nilIface := rfl
theorem errW_some (c : Int) : errW (some c) = .iface 0 (.int .i64 c) := rfl

theorem info3 : (Try.prog.info? 3).map (fun i => (i.zero, i.size, i.bytes)) = some (some (.int .i64 0), 1, 8) := by kernel_rfl
-- the values' own types

end Go.Proofs.Ytbndfdplcojjgaa.Q
