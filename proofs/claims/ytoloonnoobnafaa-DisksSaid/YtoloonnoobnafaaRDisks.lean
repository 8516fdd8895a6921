/- The law Disks what its parameters read as. -/
import Derived.Test.YtoloonnoobnafaaHDisksx9
import Derived.Test.YtoloonnoobnafaaOpen
namespace Go.Proofs.Ytoloonnoobnafaa.RDisks
open Go.RowKit Go.ChangeShapes Go.WideShapes Go.Proofs.Ytoloonnoobnafaa.HDisks Go.Proofs.YtoloonnoobnafaaW.PrintWords Go.Proofs.YtoloonnoobnafaaOpen
set_option linter.unusedVariables false
def G62 (x : S62) : Prop := ((Lit.int .i64 x.f0).wf = true) ∧ (x.f1.size ≤ 140737488351232)
set_option maxRecDepth 100000 in
theorem o62 : Opens Try.prog 62 k62 G62 :=
  Opens.struct Try.underlying62 (by kernel_rfl) (OpensF.iso (fun x : S62 => (x.f0, x.f1)) (fun v => ⟨v.1, v.2⟩) (fun _ => rfl) (OpensF.cons rfl (Opens.int Try.underlying3 (by kernel_rfl)) (OpensF.one rfl (Opens.string Try.underlying9 (by kernel_rfl)))))
def G35 (x : S35) : Prop := ((Lit.int .i64 x.f0).wf = true) ∧ ((Lit.int .i64 x.f1).wf = true) ∧ (x.f2.size ≤ 140737488351232) ∧ ((Lit.int .i64 x.f3).wf = true) ∧ ((Lit.int .i64 x.f4).wf = true)
set_option maxRecDepth 100000 in
theorem o35 : Opens Try.prog 35 k35 G35 :=
  Opens.struct Try.underlying35 (by kernel_rfl) (OpensF.iso (fun x : S35 => (x.f0, x.f1, x.f2, x.f3, x.f4)) (fun v => ⟨v.1, v.2.1, v.2.2.1, v.2.2.2.1, v.2.2.2.2⟩) (fun _ => rfl) (OpensF.cons rfl (Opens.int Try.underlying3 (by kernel_rfl)) (OpensF.cons rfl (Opens.int Try.underlying3 (by kernel_rfl)) (OpensF.cons rfl (Opens.string Try.underlying9 (by kernel_rfl)) (OpensF.cons rfl (Opens.int Try.underlying3 (by kernel_rfl)) (OpensF.one rfl (Opens.int Try.underlying3 (by kernel_rfl))))))))
end Go.Proofs.Ytoloonnoobnafaa.RDisks
