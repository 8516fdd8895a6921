/- The law Areas over its function: the one pure statement. -/
import Derived.Test.YtmphljlooopcdaaHAreasx5
import Derived.Test.YtmphljlooopcdaaOpen
namespace Go.Proofs.Ytmphljlooopcdaa.RAreas
open Go.RowKit Go.ChangeShapes Go.WideShapes Go.Proofs.Ytmphljlooopcdaa.HAreas Go.Proofs.YtmphljlooopcdaaW.PrintWords Go.Proofs.YtmphljlooopcdaaOpen
set_option linter.unusedVariables false
/-- THE ONE PURE STATEMENT. -/
def Pure : Prop := ∀ (a0 : Int) (a1 : ByteArray) (l2 : List ByteArray), ((Lit.int .i64 a0).wf = true) → (a1.size ≤ 140737488351232) → (l2.length ≤ 9223372036854775807) → (l2.length * 16 ≤ 140737488351232) → (∀ x0 ∈ l2, x0.size ≤ 140737488351232) → ∃ k, ossuarylaw15_Areas.f k a0 a1 l2 = some true
end Go.Proofs.Ytmphljlooopcdaa.RAreas
