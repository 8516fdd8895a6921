/- Lean functions for the Go functions that the law reaches, and proofs that the calls come to them: written by a program of this session. -/
import Derived.Test.YtgfgehhmnogbpaaProg
import Derived.Test.YtgfgehhmnogbpaaShelf
import Derived.Below
import Derived.Deep.Draws
import Derived.Deep.AppendLies
import Derived.Maps.AppendAt
import Derived.OwnWalk
import Derived.Laws.BytesArg
import Derived.Laws.MakeOwn
import Derived.Laws.OwnMore
import Derived.Deep.OwnRows
import Derived.Tactics
import Derived.Lib.ConvBytes
import Derived.Laws.Slices
import Derived.WalkKit
import Derived.KernelRfl
import Derived.RowKit3
import Derived.Deep.LoopGhost
import Derived.Deep.QuietTactic
import Derived.BigQuiet
import Derived.WideLaws
import Derived.Deep.DeepCutAuto
import Derived.Deep.CutBlock
import Derived.Deep.RegionHeld3
import Derived.Laws.Rows
import Derived.Lib.AppendStr
import Derived.ArgAppend
import Derived.Laws.IdiomCopy
import Derived.OrdersHeld
import Derived.Laws.BitsLemmas
import Derived.RowKit
import Derived.Test.YtgfgehhmnogbpaaWWords
import Derived.Test.YtgfgehhmnogbpaaWLast
import Derived.Test.YtgfgehhmnogbpaaWTab
import Derived.Test.YtgfgehhmnogbpaaWFour
import Derived.Test.YtgfgehhmnogbpaaWQPut
import Derived.Test.YtgfgehhmnogbpaaWApart
import Derived.Test.YtgfgehhmnogbpaaWArr
import Derived.Test.YtgfgehhmnogbpaaWZeros
import Derived.Test.YtgfgehhmnogbpaaWFoot
import Derived.Test.YtgfgehhmnogbpaaWKept
import Derived.Test.YtgfgehhmnogbpaaWShare
import Derived.Test.YtgfgehhmnogbpaaWN
import Derived.Test.YtgfgehhmnogbpaaWFootNe
import Derived.Test.YtgfgehhmnogbpaaWAt
import Derived.Test.YtgfgehhmnogbpaaWEqStruct
import Derived.Test.YtgfgehhmnogbpaaWRepsOne
import Derived.Test.YtgfgehhmnogbpaaWInv
import Derived.Test.YtgfgehhmnogbpaaWInvWords
import Derived.Test.YtgfgehhmnogbpaaWGuard
import Derived.Test.YtgfgehhmnogbpaaWNEv
import Derived.Test.YtgfgehhmnogbpaaWMore
namespace Go.Proofs.Ytgfgehhmnogbpaa.HFrameTurned
open Go.RowKit Go.Proofs.YtgfgehhmnogbpaaW.PrintWords Go.Proofs.YtgfgehhmnogbpaaW.PrintLast Go.Proofs.YtgfgehhmnogbpaaW.PrintMore
attribute [local go_sem] max2_int min2_int max_two min_two max_three min_three max_four min_four   -- for this text's walks alone
set_option linter.unusedVariables false
set_option linter.unusedSimpArgs false



def errW : Option Int → Value
  | none => .nilIface
  | some c => .iface 0 (.int .i64 c)
theorem errW_none : errW none = .nilIface := rfl
theorem errW_some (c : Int) : errW (some c) = .iface 0 (.int .i64 c) := rfl

theorem info3 : (Try.prog.info? 3).map (fun i => (i.zero, i.size, i.bytes)) = some (some (.int .i64 0), 1, 8) := by kernel_rfl
theorem info5 : (Try.prog.info? 5).map (fun i => (i.zero, i.size, i.bytes)) = some (some (.int .u8 0), 1, 1) := by kernel_rfl
-- the values' own types

end Go.Proofs.Ytgfgehhmnogbpaa.HFrameTurned
