/- The law AuditMoved over its function: the one pure statement. -/
import Derived.Test.YtgolnkankkegdaaHAuditMovedx10
import Derived.Test.YtgolnkankkegdaaOpen
namespace Go.Proofs.Ytgolnkankkegdaa.RAuditMoved
open Go.RowKit Go.ChangeShapes Go.WideShapes Go.Proofs.Ytgolnkankkegdaa.HAuditMoved Go.Proofs.YtgolnkankkegdaaW.PrintWords Go.Proofs.YtgolnkankkegdaaOpen
set_option linter.unusedVariables false
/-- THE ONE PURE STATEMENT. -/
def Pure : Prop := ∀ (a0 : Int) (a1 : Int) (a2_0 : Int) (l2_1 : List Int), ((Lit.int .i64 a0).wf = true) → ((Lit.int .i64 a1).wf = true) → ((Lit.int .i64 a2_0).wf = true) → (l2_1.length ≤ 9223372036854775807) → (l2_1.length * 8 ≤ 140737488351232) → (∀ x0 ∈ l2_1, (Lit.int .i64 x0).wf = true) → ∃ k, ossuarylaw12_AuditMoved.f k a0 a1 a2_0 l2_1 = some true
end Go.Proofs.Ytgolnkankkegdaa.RAuditMoved
