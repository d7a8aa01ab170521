/- Functions that the law reaches, each as a Lean function with the proof that the Go code comes to its answers; laid by wip/hook.py, a program of this session, over the print of the kit. -/
import Derived.Test.YtealmnllljoolaaDoorProg
import Derived.Below
import Derived.Deep.Draws
import Derived.Deep.AppendLies
import Derived.Maps.AppendAt
import Derived.OwnWalk
import Derived.Laws.BytesArg
import Derived.Laws.MakeOwn
import Derived.Laws.OwnMore
import Derived.Deep.OwnRows
import Derived.Tactics
import Derived.Lib.ConvBytes
import Derived.Laws.Slices
import Derived.WalkKit
import Derived.KernelRfl
import Derived.RowKit3
import Derived.Deep.LoopGhost
import Derived.Deep.QuietTactic
import Derived.BigQuiet
import Derived.WideLaws
import Derived.Deep.DeepCutAuto
import Derived.Deep.CutBlock
import Derived.Deep.RegionHeld3
import Derived.Laws.Rows
import Derived.Lib.AppendStr
import Derived.ArgAppend
import Derived.Laws.IdiomCopy
import Derived.OrdersHeld
import Derived.Laws.BitsLemmas
import Derived.RowKit
import Derived.Test.YtealmnllljoolaaDoorWWords
import Derived.Test.YtealmnllljoolaaDoorWLast
import Derived.Test.YtealmnllljoolaaDoorWTab
import Derived.Test.YtealmnllljoolaaDoorWFour
import Derived.Test.YtealmnllljoolaaDoorWQPut
import Derived.Test.YtealmnllljoolaaDoorWApart
import Derived.Test.YtealmnllljoolaaDoorWArr
import Derived.Test.YtealmnllljoolaaDoorWZeros
import Derived.Test.YtealmnllljoolaaDoorWFoot
import Derived.Test.YtealmnllljoolaaDoorWKept
import Derived.Test.YtealmnllljoolaaDoorWShare
import Derived.Test.YtealmnllljoolaaDoorWN
import Derived.Test.YtealmnllljoolaaDoorWFootNe
import Derived.Test.YtealmnllljoolaaDoorWAt
import Derived.Test.YtealmnllljoolaaDoorWEqStruct
import Derived.Test.YtealmnllljoolaaDoorWRepsOne
import Derived.Test.YtealmnllljoolaaDoorWInv
import Derived.Test.YtealmnllljoolaaDoorWInvWords
import Derived.Test.YtealmnllljoolaaDoorWGuard
import Derived.Test.YtealmnllljoolaaDoorWNEv
import Derived.Test.YtealmnllljoolaaDoorWMore
import Derived.Test.YtealmnllljoolaaDoorWCopy
import Derived.Test.YtealmnllljoolaaDoorBytes
namespace Go.Proofs.YtealmnllljoolaaDoor.PChunkCutting
open Go.RowKit Go.Proofs.YtealmnllljoolaaDoorW.PrintWords Go.Proofs.YtealmnllljoolaaDoorW.PrintLast Go.Proofs.YtealmnllljoolaaDoorW.PrintMore
attribute [local go_sem] max2_int min2_int max_two min_two max_three min_three max_four min_four   -- for this text's walks alone
set_option linter.unusedVariables false
set_option linter.unusedSimpArgs false



def errW : Option Int → Value
  | none => .nilIface
  | some c => .iface 0 (.int .i64 c)
theorem errW_none : errW none = .nilIface := rfl
theorem errW_some (c : Int) : errW (some c) = .iface 0 (.int .i64 c) := rfl

theorem info5 : (Tryd.prog.info? 5).map (fun i => (i.zero, i.size, i.bytes)) = some (some (.int .u8 0), 1, 1) := by kernel_rfl
-- the values' own types

end Go.Proofs.YtealmnllljoolaaDoor.PChunkCutting
