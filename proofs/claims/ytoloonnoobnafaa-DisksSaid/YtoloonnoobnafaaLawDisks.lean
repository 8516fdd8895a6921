/- The row of the law Disks. -/
import Derived.Test.YtoloonnoobnafaaRows
import Derived.Test.YtoloonnoobnafaaRDisks
import Derived.Test.YtoloonnoobnafaaDiW
import Derived.Test.YtoloonnoobnafaaOpen
import Derived.WalkKit
import Derived.ProofKit
import Derived.OpenShut
import Derived.ShutString
import Derived.ChangeOld
import Derived.Below
import Derived.SizedLaws
import Derived.Carry
namespace Go.Proofs.Ytoloonnoobnafaa.disks
open Go.ChangeShapes Go.WideShapes Go.ChangeAt Go.RowKit
open Go.ChangeMaps (open_string shut_string)
open Go.Proofs.YtoloonnoobnafaaOpen Go.Proofs.YtoloonnoobnafaaW.PrintWords Go.Proofs.Ytoloonnoobnafaa.HDisks Go.Proofs.Ytoloonnoobnafaa.RDisks
set_option linter.unusedVariables false
theorem own : ownKnob Try.prog.godebug = none := by kernel_rfl
theorem laidOut : laidOutB Try.prog = true := by kernel_rfl
set_option maxRecDepth 100000 in
theorem lifted (os : Os) (started : os.Started) (H : Type) (enc : TypeId × Value → H) :
    ReturnsInHanded {} Try.checked os 3 .any (Rows.disksSpec.pre6 enc Try.prog Try.f3 Rows.disksRow.domain false) (Rows.disksSpec.post enc Try.prog Try.f3 false true false false) := by
  refine returnsInHanded_of_change_sized (C := Try.checked) own started (by kernel_rfl) Try.func3
    (ChangeSpec.witness6 (enc := enc) (C := Try.checked) false ⟨#[], #[.agg #[.bool false, .slice none 0 0, .slice none 0 0], .int .i64 0, .slice none 0 0], []⟩ 8 (by kernel_rfl) (by kernel_rfl) (by kernel_rfl) (by kernel_rfl)) ?_
  intro W base args ds gs before hval0 hW hcnd hsz0 _
  have hsz : (DataW.weightsEach Try.prog (Try.f3.params.toList ++ Rows.disksSpec.plain.varTypes Try.prog) (ds ++ gs)).all (· ≤ reachBytes) = true := hsz0
  have hval : ∀ (j : Nat) t v, Try.f3.params[j]? = some t → args[j]? = some v → Value.okWide Try.prog W .any base t v := hval0
  have hW' := hW
  obtain ⟨p, q, hA0, hV, rfl, hfz, hnd⟩ := hW
  have hA : DataW.TrodAll enc Try.prog W 0 (fun _ => true) true Try.f3.params.toList args.toList ds p := hA0
  rw [Try.params3] at hA hval hsz
  obtain ⟨v0, vs0, d0, ds0, p0, q0, hargs, rfl, rfl, h0, r0⟩ := trodAll_cons hA
  obtain ⟨v1, vs1, d1, ds1, p1, q1, rfl, rfl, rfl, h1, r1⟩ := trodAll_cons r0
  obtain ⟨v2, vs2, d2, ds2, p2, q2, rfl, rfl, rfl, h2, r2⟩ := trodAll_cons r1
  obtain ⟨rfl, rfl, rfl⟩ := trodAll_nil r2
  obtain rfl : args = #[v0, v1, v2] := by cases args; simp_all
  obtain ⟨rfl, rfl⟩ := trodVars_none hV
  have k0 := h0
  have lt0 : ∀ x ∈ p0, x.block < W.heap.size := by obtain ⟨m, hm⟩ := k0; exact DataW.trod_lt m _ _ _ hm
  have wt0 := weigh hsz (j := 0) (t := 25) rfl rfl
  obtain ⟨cs0, y0, rfl, hK0, hG0⟩ := open_param_struct Try.underlying25 (Opens.struct Try.underlying25 (by kernel_rfl) (OpensF.cons rfl (Opens.bool Try.underlying4 (by kernel_rfl)) (OpensF.cons rfl (Opens.slice 16 Try.underlying22 (by kernel_rfl) (by kernel_rfl) (Opens.string Try.underlying9 (by kernel_rfl))) (OpensF.one rfl (Opens.slice 24 Try.underlying23 (by kernel_rfl) (by kernel_rfl) o62))))) (hval 0 25 v0 rfl rfl) h0 wt0
  obtain ⟨_, _, rfl, rfl, ⟨_, _, rfl, ⟨A0_1, c0_1, rfl, hc0_1, hr0_1⟩, ⟨A0_2, c0_2, rfl, hc0_2, hr0_2⟩⟩⟩ := hK0
  obtain ⟨g0_0, ⟨⟨g0_1_0, g0_1_1, g0_1_2⟩, ⟨g0_2_0, g0_2_1, g0_2_2⟩⟩⟩ := hG0
  obtain ⟨a1, rfl, rfl, rfl, w1⟩ := open_int Try.underlying3 (hval 1 3 v1 rfl rfl) h1
  have k2 := h2
  have lt2 : ∀ x ∈ p2, x.block < W.heap.size := by obtain ⟨m, hm⟩ := k2; exact DataW.trod_lt m _ _ _ hm
  have wt2 := weigh hsz (j := 2) (t := 26) rfl rfl
  obtain ⟨A2, c2, l2, rfl, hr2, hc2, g2_0, g2_1, g2_2⟩ := open_param_slice Try.underlying26 (Opens.slice 48 Try.underlying26 (by kernel_rfl) (by kernel_rfl) o35) (hval 2 26 v2 rfl rfl) h2 wt2
  clear hA0 hval0 hsz0 hsz
  refine (Go.Proofs.Ytoloonnoobnafaa.DiW.disks_walk ⟨y0.1, y0.2.1, y0.2.2⟩ A0_1 A0_2 A2 c0_1 c0_2 l2.length c2 l2 a1 W hr0_1 hc0_1 hr0_2 hc0_2 ⟨by have := g0_1_1; show y0.2.1.length ≤ _; omega, by have := g0_2_1; show y0.2.2.length ≤ _; omega⟩ hr2).mono fun e W' ⟨he, bel⟩ => ?_
  subst he
  exact ⟨_, rfl, _, _, _, [], _, [], hW', trodAll_mk1 (shut_bool Try.underlying4 _), (trodAll_cons_mk (Below.trod laidOut (by kernel_rfl) (of_decide_eq_true (by kernel_rfl)) k0 bel lt0) (trodAll_cons_mk (shut_int Try.underlying3 w1) (trodAll_cons_mk (Below.trod laidOut (by kernel_rfl) (of_decide_eq_true (by kernel_rfl)) k2 bel lt2) trodAll_mk0))), rfl, bel.frame _, fun h => by cases h⟩
theorem over : Rows.disksRow.holds Try.pinned (OpenSpec.ofChange Rows.disksSpec) :=
  OpenClaim.holds_of_wide 3 Try.f3 rfl rfl rfl rfl rfl rfl rfl ⟨rfl, rfl, rfl, rfl, rfl⟩ rfl rfl rfl rfl rfl (by kernel_rfl) Try.func3 (by kernel_rfl)
    (of_decide_eq_true (by kernel_rfl)) (by unfold Func.isWrapper; first | (rw [if_pos (by decide +kernel)]; kernel_rfl) | (rw [if_neg (by decide +kernel)]; exact ⟨rfl, rfl⟩))
    (fun os started H enc _ => lifted os started H enc)
theorem proved : Rows.DisksSaid := over
#print axioms proved
end Go.Proofs.Ytoloonnoobnafaa.disks
namespace Go.Proofs.Ytoloonnoobnafaa
/-- The row, under a short name, for the claim. -/
theorem disks_holds : Rows.DisksSaid := disks.proved
end Go.Proofs.Ytoloonnoobnafaa
