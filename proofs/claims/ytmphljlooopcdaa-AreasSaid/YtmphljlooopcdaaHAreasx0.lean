/- Lean functions for the Go functions that the law reaches, and proofs that the calls come to them: written by a program of this session. -/
import Derived.Test.YtmphljlooopcdaaProg
import Derived.Test.YtmphljlooopcdaaShelf
import Derived.Below
import Derived.Deep.Draws
import Derived.Deep.AppendLies
import Derived.Maps.AppendAt
import Derived.OwnWalk
import Derived.Laws.BytesArg
import Derived.Laws.MakeOwn
import Derived.Laws.OwnMore
import Derived.Deep.OwnRows
import Derived.Tactics
import Derived.Lib.ConvBytes
import Derived.Laws.Slices
import Derived.WalkKit
import Derived.KernelRfl
import Derived.RowKit3
import Derived.Deep.LoopGhost
import Derived.Deep.QuietTactic
import Derived.BigQuiet
import Derived.WideLaws
import Derived.Deep.DeepCutAuto
import Derived.Deep.CutBlock
import Derived.Deep.RegionHeld3
import Derived.Laws.Rows
import Derived.Lib.AppendStr
import Derived.ArgAppend
import Derived.Laws.IdiomCopy
import Derived.OrdersHeld
import Derived.Laws.BitsLemmas
import Derived.RowKit
import Derived.Test.YtmphljlooopcdaaWWords
import Derived.Test.YtmphljlooopcdaaWLast
import Derived.Test.YtmphljlooopcdaaWTab
import Derived.Test.YtmphljlooopcdaaWFour
import Derived.Test.YtmphljlooopcdaaWQPut
import Derived.Test.YtmphljlooopcdaaWApart
import Derived.Test.YtmphljlooopcdaaWArr
import Derived.Test.YtmphljlooopcdaaWZeros
import Derived.Test.YtmphljlooopcdaaWFoot
import Derived.Test.YtmphljlooopcdaaWKept
import Derived.Test.YtmphljlooopcdaaWShare
import Derived.Test.YtmphljlooopcdaaWN
import Derived.Test.YtmphljlooopcdaaWFootNe
import Derived.Test.YtmphljlooopcdaaWAt
import Derived.Test.YtmphljlooopcdaaWEqStruct
import Derived.Test.YtmphljlooopcdaaWRepsOne
import Derived.Test.YtmphljlooopcdaaWInv
import Derived.Test.YtmphljlooopcdaaWInvWords
import Derived.Test.YtmphljlooopcdaaWGuard
import Derived.Test.YtmphljlooopcdaaWNEv
import Derived.Test.YtmphljlooopcdaaWMore
namespace Go.Proofs.Ytmphljlooopcdaa.HAreas
open Go.RowKit Go.Proofs.YtmphljlooopcdaaW.PrintWords Go.Proofs.YtmphljlooopcdaaW.PrintLast Go.Proofs.YtmphljlooopcdaaW.PrintMore
attribute [local go_sem] max2_int min2_int max_two min_two max_three min_three max_four min_four   -- for this text's walks alone
set_option linter.unusedVariables false
set_option linter.unusedSimpArgs false



def errW : Option Int → Value
  | none => .nilIface
  | some c => .iface 0 (.int .i64 c)
theorem errW_none : errW none = .nilIface := rfl
theorem errW_some (c : Int) : errW (some c) = .iface 0 (.int .i64 c) := rfl

theorem info5 : (Try.prog.info? 5).map (fun i => (i.zero, i.size, i.bytes)) = some (some (.int .u8 0), 1, 1) := by kernel_rfl
theorem info9 : (Try.prog.info? 9).map (fun i => (i.zero, i.size, i.bytes)) = some (some (.string ⟨#[]⟩), 1, 16) := by kernel_rfl
-- the values' own types

end Go.Proofs.Ytmphljlooopcdaa.HAreas
