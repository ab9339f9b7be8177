/- Go functions as Lean functions, each with a proof that the machine's call comes to what its Lean function tells; no condition beside those that each theorem states. Written by this project's program drive.py. -/
import Derived.Test.YthnnnhbfhimkpaaProg
import Derived.Below
import Derived.Deep.Draws
import Derived.Deep.AppendLies
import Derived.Maps.AppendAt
import Derived.OwnWalk
import Derived.Laws.BytesArg
import Derived.Laws.MakeOwn
import Derived.Laws.OwnMore
import Derived.Deep.OwnRows
import Derived.Tactics
import Derived.Lib.ConvBytes
import Derived.Laws.Slices
import Derived.WalkKit
import Derived.KernelRfl
import Derived.RowKit3
import Derived.Deep.LoopGhost
import Derived.Deep.QuietTactic
import Derived.BigQuiet
import Derived.WideLaws
import Derived.Deep.DeepCutAuto
import Derived.Deep.CutBlock
import Derived.Deep.RegionHeld3
import Derived.Laws.Rows
import Derived.Lib.AppendStr
import Derived.ArgAppend
import Derived.Laws.IdiomCopy
import Derived.OrdersHeld
import Derived.Laws.BitsLemmas
import Derived.RowKit
import Derived.ScopeJumps
import Derived.WalkMore
import Derived.RegionTactic
import Derived.ChangeAlike
import Derived.Lib.SmallJoins
import Derived.StillTailTactics
import Derived.IntWalk
import Derived.Test.YthnnnhbfhimkpaaWWords
import Derived.Test.YthnnnhbfhimkpaaWLast
import Derived.Test.YthnnnhbfhimkpaaWTab
import Derived.Test.YthnnnhbfhimkpaaWFour
import Derived.Test.YthnnnhbfhimkpaaWQPut
import Derived.Test.YthnnnhbfhimkpaaWApart
import Derived.Test.YthnnnhbfhimkpaaWArr
import Derived.Test.YthnnnhbfhimkpaaWZeros
import Derived.Test.YthnnnhbfhimkpaaWFoot
import Derived.Test.YthnnnhbfhimkpaaWKept
import Derived.Test.YthnnnhbfhimkpaaWShare
import Derived.Test.YthnnnhbfhimkpaaWN
import Derived.Test.YthnnnhbfhimkpaaWFootNe
import Derived.Test.YthnnnhbfhimkpaaWAt
import Derived.Test.YthnnnhbfhimkpaaWEqStruct
import Derived.Test.YthnnnhbfhimkpaaWRepsOne
import Derived.Test.YthnnnhbfhimkpaaWInv
import Derived.Test.YthnnnhbfhimkpaaWInvWords
import Derived.Test.YthnnnhbfhimkpaaWGuard
import Derived.Test.YthnnnhbfhimkpaaWNEv
import Derived.Test.YthnnnhbfhimkpaaWMore
namespace Go.Proofs.Ythnnnhbfhimkpaa.S
open Go.RowKit Go.Proofs.YthnnnhbfhimkpaaW.PrintWords Go.Proofs.YthnnnhbfhimkpaaW.PrintLast Go.Proofs.YthnnnhbfhimkpaaW.PrintMore
attribute [local go_sem] max2_int min2_int max_two min_two max_three min_three max_four min_four   -- for this text's walks alone
set_option linter.unusedVariables false
set_option linter.unusedSimpArgs false



def errW : Option Int → Value
  | none => .nilIface
  | some c => .iface 0 (.int .i64 c)
theorem errW_none : errW none = .nilIface := rfl
theorem errW_some (c : Int) : errW (some c) = .iface 0 (.int .i64 c) := rfl

theorem info5 : (Try.prog.info? 5).map (fun i => (i.zero, i.size, i.bytes)) = some (some (.int .u8 0), 1, 1) := by kernel_rfl
-- the values' own types

end Go.Proofs.Ythnnnhbfhimkpaa.S
