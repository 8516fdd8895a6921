/- Lean functions for the Go functions that the law reaches, and proofs that the calls come to them: written by a program of this session. -/
import Derived.Test.YtfjkehpcgiolhabProg
import Derived.Below
import Derived.Deep.Draws
import Derived.Deep.AppendLies
import Derived.Maps.AppendAt
import Derived.OwnWalk
import Derived.Laws.BytesArg
import Derived.Laws.MakeOwn
import Derived.Laws.OwnMore
import Derived.Deep.OwnRows
import Derived.Tactics
import Derived.Lib.ConvBytes
import Derived.Laws.Slices
import Derived.WalkKit
import Derived.KernelRfl
import Derived.RowKit3
import Derived.Deep.LoopGhost
import Derived.Deep.QuietTactic
import Derived.BigQuiet
import Derived.WideLaws
import Derived.Deep.DeepCutAuto
import Derived.Deep.CutBlock
import Derived.Deep.RegionHeld3
import Derived.Laws.Rows
import Derived.Lib.AppendStr
import Derived.ArgAppend
import Derived.Laws.IdiomCopy
import Derived.OrdersHeld
import Derived.Laws.BitsLemmas
import Derived.RowKit
import Derived.Test.YtfjkehpcgiolhabWWords
import Derived.Test.YtfjkehpcgiolhabWLast
import Derived.Test.YtfjkehpcgiolhabWTab
import Derived.Test.YtfjkehpcgiolhabWFour
import Derived.Test.YtfjkehpcgiolhabWQPut
import Derived.Test.YtfjkehpcgiolhabWApart
import Derived.Test.YtfjkehpcgiolhabWArr
import Derived.Test.YtfjkehpcgiolhabWZeros
import Derived.Test.YtfjkehpcgiolhabWFoot
import Derived.Test.YtfjkehpcgiolhabWKept
import Derived.Test.YtfjkehpcgiolhabWShare
import Derived.Test.YtfjkehpcgiolhabWN
import Derived.Test.YtfjkehpcgiolhabWFootNe
import Derived.Test.YtfjkehpcgiolhabWAt
import Derived.Test.YtfjkehpcgiolhabWEqStruct
import Derived.Test.YtfjkehpcgiolhabWRepsOne
import Derived.Test.YtfjkehpcgiolhabWInv
import Derived.Test.YtfjkehpcgiolhabWInvWords
import Derived.Test.YtfjkehpcgiolhabWGuard
import Derived.Test.YtfjkehpcgiolhabWNEv
import Derived.Test.YtfjkehpcgiolhabWMore
namespace Go.Proofs.Ytfjkehpcgiolhab.HTreeShapes
open Go.RowKit Go.Proofs.YtfjkehpcgiolhabW.PrintWords Go.Proofs.YtfjkehpcgiolhabW.PrintLast Go.Proofs.YtfjkehpcgiolhabW.PrintMore
attribute [local go_sem] max2_int min2_int max_two min_two max_three min_three max_four min_four   -- for this text's walks alone
set_option linter.unusedVariables false
set_option linter.unusedSimpArgs false



def errW : Option Int → Value
  | none => .nilIface
  | some c => .iface 0 (.int .i64 c)
theorem errW_none : errW none = .nilIface := rfl
theorem errW_some (c : Int) : errW (some c) = .iface 0 (.int .i64 c) := rfl

theorem info3 : (Try.prog.info? 3).map (fun i => (i.zero, i.size, i.bytes)) = some (some (.int .i64 0), 1, 8) := by kernel_rfl
-- the values' own types

end Go.Proofs.Ytfjkehpcgiolhab.HTreeShapes
