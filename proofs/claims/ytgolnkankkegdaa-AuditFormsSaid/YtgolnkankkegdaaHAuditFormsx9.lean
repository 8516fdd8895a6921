/- Lean functions for the Go functions that the law reaches, and proofs that the calls come to them: written by a program of this session. -/
import Derived.Test.YtgolnkankkegdaaHAuditFormsx0
namespace Go.Proofs.Ytgolnkankkegdaa.HAuditForms
open Go.RowKit Go.Proofs.YtgolnkankkegdaaW.PrintWords Go.Proofs.YtgolnkankkegdaaW.PrintLast Go.Proofs.YtgolnkankkegdaaW.PrintMore
attribute [local go_sem] max2_int min2_int max_two min_two max_three min_three max_four min_four   -- for this text's walks alone
set_option linter.unusedVariables false
set_option linter.unusedSimpArgs false

/-! ### audit_pick: function 9903 (by hand) -/
/-- one question of many -/
def audit_pick.f (l0 : List (S24)) (a1 : Int) : Option (Int × List Int) := if 0 ≤ a1 then (if a1 < (l0.length : Int) then some ((rd_T24 l0 a1).f0, (rd_T24 l0 a1).f1) else none) else none
theorem audit_pick.of {w : World} {base : Nat} {ok : Nat → Prop} {A : Option Addr} {n c : Nat} {l : List S24} {i a : Int} {b : List Int} (h : Kd.R k24 24 w base ok (.slice A n c) l) (hf : audit_pick.f l i = some (a, b)) :
    0 ≤ i ∧ i < (l.length : Int) ∧ ∃ ad v, A = some ad ∧ w.cell? (ad.add (i.toNat * 2)) = some (.int .i64 a) ∧ w.cell? ⟨(ad.add (i.toNat * 2)).block, (ad.add (i.toNat * 2)).off + 1, none⟩ = some v ∧ Kd.R (Kd.int .i64) 3 w base (fun k => ok k ∧ some k ≠ (Value.slice A n c).ownBlock) v b := by
  unfold audit_pick.f at hf
  split at hf
  · rename_i h0
    split at hf
    · rename_i h1
      obtain ⟨rfl, rfl⟩ := Prod.mk.inj (Option.some.inj hf)
      obtain ⟨hn, hnc, hC⟩ := Kd.R_reads' h
      obtain ⟨ad, _, _, rfl, _, _, _, _⟩ := at_T24 hC i h0 h1
      obtain ⟨cs, _, hM, hcell⟩ := Kd.R_getA h z24 i h0 (by omega)
      obtain ⟨v, rfl, hR⟩ := k24_openM hM
      have hc : ∀ j u, ([.int .i64 (rd_T24 l i).f0, v] : List Value)[j]? = some u → w.cell? (ad.add (i.toNat * 2 + j)) = some u := hcell
      exact ⟨h0, h1, ad, v, rfl, hc 0 _ rfl, by rw [← add_field _ _ 1 (by omega)]; exact hc 1 _ rfl, hR⟩
    · cases hf
  · cases hf


end Go.Proofs.Ytgolnkankkegdaa.HAuditForms
