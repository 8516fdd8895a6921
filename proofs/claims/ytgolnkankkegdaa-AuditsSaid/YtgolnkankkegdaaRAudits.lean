/- The law Audits: what its parameters read as. -/
import Derived.Test.YtgolnkankkegdaaHAuditMovedx0
import Derived.Test.YtgolnkankkegdaaOpen
namespace Go.Proofs.Ytgolnkankkegdaa.RAudits
open Go.RowKit Go.ChangeShapes Go.WideShapes Go.Proofs.Ytgolnkankkegdaa.HAuditMoved Go.Proofs.YtgolnkankkegdaaW.PrintWords Go.Proofs.YtgolnkankkegdaaOpen
set_option linter.unusedVariables false
def G49 (x : S49) : Prop := (x.f0.size ≤ 140737488351232) ∧ (x.f1.length ≤ 9223372036854775807 ∧ x.f1.length * 8 ≤ 140737488351232 ∧ ∀ x3 ∈ x.f1, (Lit.int .i64 x3).wf = true) ∧ ((Lit.int .i64 x.f2).wf = true)
set_option maxRecDepth 100000 in
theorem o49 : Opens Try.prog 49 k49 G49 :=
  Opens.struct Try.underlying49 (by kernel_rfl) (OpensF.iso (fun x : S49 => (x.f0, x.f1, x.f2)) (fun v => ⟨v.1, v.2.1, v.2.2⟩) (fun _ => rfl) (OpensF.cons rfl (Opens.string Try.underlying9 (by kernel_rfl)) (OpensF.cons rfl (Opens.slice 8 Try.underlying22 (by kernel_rfl) (by kernel_rfl) (Opens.int Try.underlying3 (by kernel_rfl))) (OpensF.one rfl (Opens.int Try.underlying3 (by kernel_rfl))))))
end Go.Proofs.Ytgolnkankkegdaa.RAudits
