/- Lean functions for the Go functions that the law reaches, and proofs that the calls come to them: written by a program of this session. -/
import Derived.Test.YtgolnkankkegdaaHAuditMovedx0
import Derived.Test.YtgolnkankkegdaaHAuditMovedy0
import Derived.Test.YtgolnkankkegdaaHAuditMovedy1
import Derived.Test.YtgolnkankkegdaaHAuditMovedy3
namespace Go.Proofs.Ytgolnkankkegdaa.HAuditMoved
open Go.RowKit Go.Proofs.YtgolnkankkegdaaW.PrintWords Go.Proofs.YtgolnkankkegdaaW.PrintLast Go.Proofs.YtgolnkankkegdaaW.PrintMore
attribute [local go_sem] max2_int min2_int max_two min_two max_three min_three max_four min_four   -- for this text's walks alone
set_option linter.unusedVariables false
set_option linter.unusedSimpArgs false

/-! ### ossuarylaw0_SpoilInts: function 40 -/
def ossuarylaw0_SpoilInts.l0 : Nat → List Int → Int → Option (List Int)
  | 0, _, _ => none
  | k + 1, x0, x2 => if x2 < (x0.length : Int) then (if 0 ≤ x2 then (ossuarylaw0_SpoilInts.l0 k (x0.set (x2 : Int).toNat (wrap64 ((-9) - (rd x0 x2)))) (wrap64 (x2 + 1))) else (none)) else (some x0)
def ossuarylaw0_SpoilInts.f (k : Nat) (l0 : List Int) : Option (List Int) := ossuarylaw0_SpoilInts.l0 k l0 0
theorem ossuarylaw0_SpoilInts.mono_l : ∀ k, (∀ y0 y1, LeO (ossuarylaw0_SpoilInts.l0 k y0 y1) (ossuarylaw0_SpoilInts.l0 (k + 1) y0 y1))
 | 0 => fun _ _ r h => by simp [ossuarylaw0_SpoilInts.l0] at h
 | k + 1 => by
  have ih0 := ossuarylaw0_SpoilInts.mono_l k
  ·
   intro y0 y1
   unfold ossuarylaw0_SpoilInts.l0
   repeat' first
   | (with_reducible exact ih0 _ _)
   | (with_reducible exact LeO.refl _)
   | (with_reducible exact LeO.none _)
   | (with_reducible refine LeO.ite ?_ ?_)
   | (with_reducible refine LeO.bind ?_ (fun _ => ?_))
   | exact ih0 _ _
   | exact LeO.none _
   | refine LeO.ite ?_ ?_
   | refine LeO.bind ?_ (fun _ => ?_)
theorem ossuarylaw0_SpoilInts.mono : ∀ a0 k, LeO (ossuarylaw0_SpoilInts.f k a0) (ossuarylaw0_SpoilInts.f (k + 1) a0) := by
 intro a0 k
 have ih0 := ossuarylaw0_SpoilInts.mono_l k
 unfold ossuarylaw0_SpoilInts.f
 repeat' first
   | (with_reducible exact ih0 _ _)
   | (with_reducible exact LeO.refl _)
   | (with_reducible exact LeO.none _)
   | (with_reducible refine LeO.ite ?_ ?_)
   | (with_reducible refine LeO.bind ?_ (fun _ => ?_))
   | exact ih0 _ _
   | exact LeO.none _
   | refine LeO.ite ?_ ?_
   | refine LeO.bind ?_ (fun _ => ?_)
set_option maxHeartbeats 8000000 in
set_option maxRecDepth 100000 in
theorem ossuarylaw0_SpoilInts.calls (k : Nat) (P0_ : Nat → Prop) (u9000_ : Value) (l0 : List Int) (r : List Int) (w0 w : World) (hB : Below w0.heap.size w0 w) (ho0 : Kd.R (Kd.int .i64) 3 w w0.heap.size P0_ u9000_ l0) (h : ossuarylaw0_SpoilInts.f k l0 = some r) :
  Calls Try.prog 40 #[u9000_] w fun e w' => e = .returned (.tuple #[]) ∧ Kd.R (Kd.int .i64) 3 w' w0.heap.size (fun k_ => (P0_ k_ ∨ w.heap.size ≤ k_)) u9000_ r ∧ Below w0.heap.size w0 w' ∧ Kept w w' (fun k_ => P0_ k_) := by
 have HO0 := Aside0.mk (show Kd.R (Kd.int .i64) 3 w w0.heap.size (fun k_ => (P0_ k_ ∨ w.heap.size ≤ k_)) u9000_ l0 from Kd.R_mono ho0 (fun k_ hk => (.inl hk)))
 have HK := Aside0.mk (Kept.refl w (fun k_ => P0_ k_))
 have HW0 := Aside0.mk hB.size
 have HB := Aside0.mk hB; clear hB
 have H : (ossuarylaw0_SpoilInts.l0 k l0 0) = some r := h
 clear h
 have H' := Aside0.mk H
 clear H
 go_enter Try.func40, Try.ntmps40
 go_wp2
 go_loopg [2] k (fun kq v2 w' => ∃ (x0_1 : List Int) (x2_1 : Int), v2 = .int .i64 x2_1 ∧ Aside0 (ossuarylaw0_SpoilInts.l0 kq x0_1 x2_1 = some r) ∧ Aside0 (kq ≤ k) ∧ Aside0 (Kd.R (Kd.int .i64) 3 w' w0.heap.size (fun k_ => (P0_ k_ ∨ w.heap.size ≤ k_)) u9000_ x0_1) ∧ Aside0 (Kept w w' (fun k_ => P0_ k_)) ∧ Aside0 (Below w0.heap.size w0 w'))
 case atStart => exact ⟨(l0), (0), (by first | rfl | (simp; done) | (simp [*]; done)), H', ⟨Nat.le_refl _⟩, ⟨by (with_reducible repeat (first | apply Kd.R_alloc | apply Kd.R_drewN | apply Kd.R_drew)); exact HO0.out⟩, ⟨by repeat (first | (with_reducible first | exact HK.out | apply Kept.alloc | apply Kept.drewN | apply Kept.drew) | exact HK.out)⟩, ⟨by repeat (first | (with_reducible first | exact HB.out | apply below_alloc | apply pw_below_drewN | apply below_drew1) | exact HB.out)⟩⟩
 case round =>
  clear H'
  obtain ⟨x0_1, x2_1, rfl, HA, HK1, HO_0, HK, HB⟩ := hrel
  cases gk with
  | zero => exact absurd HA.out (by simp [ossuarylaw0_SpoilInts.l0])
  | succ k1 =>
   have H := HA.out; clear HA
   simp only [ossuarylaw0_SpoilInts.l0] at H
   by_cases c2 : x2_1 < (x0_1.length : Int)
   ·
    rw [if_pos c2] at H
    have c2b0 : decide (x2_1 < (x0_1.length : Int)) = true := decide_eq_true c2; clear c2
    by_cases c3 : 0 ≤ x2_1
    ·
     rw [if_pos c3] at H
     have c3b0 : decide (0 ≤ x2_1) = true := decide_eq_true c3; clear c3
     obtain ⟨y319, hy319⟩ : ∃ y_ : List Int, y_ = (x0_1.set (x2_1 : Int).toNat (wrap64 ((-9) - (rd x0_1 x2_1)))) := ⟨_, rfl⟩
     replace H : (ossuarylaw0_SpoilInts.l0 k1 y319 (wrap64 (x2_1 + 1))) = some r := by first | (rw [hy319]; with_reducible exact H) | (have H2_ := (Option.bind_some _ _).symm.trans H; rw [hy319]; with_reducible exact H2_) | (have H2_ := (Option.bind_some _ _).symm.trans H; with_reducible exact H2_) | with_reducible exact H | (rw [hy319]; exact H) | exact H
     have Ny319 := Aside0.mk hy319; clear hy319
     have H' := Aside0.mk H
     clear H; obtain ⟨Ao5, co5, eo5⟩ := Kd.R_slice HO_0.out; subst eo5
     have p318 : 0 ≤ (x2_1 : Int) := of_decide_eq_true (by first | (with_reducible assumption) | assumption)
     have q318 : x2_1 < (x0_1.length : Int) := of_decide_eq_true (by first | (with_reducible assumption) | assumption)
     obtain ⟨ad318, e318, hx318_0⟩ := Kd.at_int (Kd.R_reads' HO_0.out).2.2 x2_1 p318 q318
     cases e318
     replace p318 := eq_true p318
     replace q318 := eq_true q318
     have p4 : 0 ≤ (x2_1 : Int) := of_decide_eq_true (by first | (with_reducible assumption) | assumption)
     have q4 : (x2_1 : Int) < ((x0_1.length : Int) : Int) := of_decide_eq_true (by first | (with_reducible assumption) | assumption)
     obtain ⟨go4, co4, eo4, gb4, gl4, cl4, HG4⟩ := Kd.R_form HO_0.out (by omega)
     (first | cases eo4 | (injection eo4 with ea_ en_ ec_; (first | subst ea_ | (injection ea_ with ea_; subst ea_)); subst ec_; clear en_))
     have GB4 := Aside0.mk gb4; have GG4 := Aside0.mk HG4; clear gb4 gl4 HG4
     have HMgo4 := Aside0.mk (show (P0_ go4 ∨ w.heap.size ≤ go4) from (HO_0.out.1 _ rfl))
     (first | simp only [add_plain] at hx318_0 | skip)
     obtain ⟨hx4_0, hf4_0⟩ := Kd.R_celln 0 HO_0.out (x2_1 : Int) p4 q4
     replace p4 := eq_true p4
     replace q4 := eq_true q4
     have HP6 := Kd.R_putg HO_0.out (x2_1 : Int) (wrap64 ((-9) - (rd x0_1 x2_1)))
     go_wp2_with (first | ((with_reducible refine gate_store (t := 3) (p := 16) rfl ?_); refine store_event (t := 3) (p := 16) (v := ?vo_w7) (w1 := (wr.setCell ⟨go4, (x2_1 : Int).toNat, none⟩ (.int .i64 (wrap64 ((-9) - (rd x0_1 x2_1)))))) ?hg ?ho ?hn ?hr ?_; (case ho => rfl); (case hg => rfl); (case hn => rfl); (case hr => first | (go_simp; done) | (go_simp; rfl)); intro w7 hw; have hg : wr.grownBy w7 (some go4) := (by rw [hw]; exact HP6.2); have hp_ : Kd.R (Kd.int .i64) 3 w7 w0.heap.size (fun k_ => (P0_ k_ ∨ w.heap.size ≤ k_)) (.slice (some ⟨go4, 0, none⟩) x0_1.length co5) y319 := (by rw [hw, Ny319.out]; exact HP6.1); clear HP6; have n0_ := Aside0.mk (hp_); have n1_ := Aside0.mk ((by rw [hw]; exact below_set (HB.out) GB4.out : Below w0.heap.size w0 w7)); have n2_ := Aside0.mk (Kept.of_grown (S := (fun k_ => P0_ k_)) hg (by repeat (first | (with_reducible first | exact HK.out | apply Kept.alloc | apply Kept.drewN | apply Kept.drew) | exact HK.out)) (fun k_ e_ => (HO_0.out.1 k_ e_))); clear HO_0 HB HK; have HO_0 := n0_; have HB := n1_; have HK := n2_; clear n0_ n1_ n2_; clear hg hw hp_))
     go_roundg k1
     case measure => have := HK1.out; omega
     case rel => exact ⟨(y319), (wrap64 (x2_1 + 1)), (by first | rfl | (simp; done) | (simp [*]; done)), H', ⟨by have := HK1.out; omega⟩, ⟨by (with_reducible repeat (first | apply Kd.R_alloc | apply Kd.R_drewN | apply Kd.R_drew)); exact HO_0.out⟩, ⟨by repeat (first | (with_reducible first | exact HK.out | apply Kept.alloc | apply Kept.drewN | apply Kept.drew) | exact HK.out)⟩, ⟨by repeat (first | (with_reducible first | exact HB.out | apply below_alloc | apply pw_below_drewN | apply below_drew1) | exact HB.out)⟩⟩
    ·
     rw [if_neg c3] at H
     exact absurd H (by simp)
   ·
    rw [if_neg c2] at H
    have c2b0 : decide (x2_1 < (x0_1.length : Int)) = false := decide_eq_false c2; clear c2
    obtain rfl := Option.some.inj H
    obtain ⟨Ao8, co8, eo8⟩ := Kd.R_slice HO_0.out; subst eo8
    go_wp2
    first | go_end0 | ((try simp only [Exit.inBlock, Exit.then]); refine bodyPost_ret (results_none rfl _ _ _) rfl ?_)
    exact ⟨by first | rfl | (simp [errW_none, errW_some] <;> rfl) | (simp [*, errW_none, errW_some] <;> rfl), by (with_reducible repeat (first | apply Kd.R_alloc | apply Kd.R_drewN | apply Kd.R_drew)); exact HO_0.out, by repeat (first | (with_reducible first | exact HB.out | apply below_alloc | apply pw_below_drewN | apply below_drew1) | exact HB.out), by repeat (first | (with_reducible first | exact HK.out | apply Kept.alloc | apply Kept.drewN | apply Kept.drew) | exact HK.out)⟩
/-! ### ossuarylaw0_KeptInts: function 16 (by hand) -/
def ossuarylaw0_KeptInts.f (k : Nat) (l0 : List Int) (l1 : List Int) : Option (Bool) := ossuarylaw0_SameInts.f k l0 l1
theorem ossuarylaw0_KeptInts.mono : ∀ a0 a1 k, LeO (ossuarylaw0_KeptInts.f k a0 a1) (ossuarylaw0_KeptInts.f (k + 1) a0 a1) := fun a0 a1 k => ossuarylaw0_SameInts.mono a0 a1 k
theorem same_len_ {k : Nat} {l0 l1 : List Int} (h : ossuarylaw0_SameInts.f k l0 l1 = some true) : l1.length = l0.length := by
 unfold ossuarylaw0_SameInts.f at h
 split at h
 ·
  omega
 ·
  cases h
set_option maxHeartbeats 8000000 in
set_option maxRecDepth 100000 in
theorem ossuarylaw0_KeptInts.calls (k : Nat) (A0 : Option Addr) (c0 : Nat) (l0 : List Int) (A1 : Option Addr) (c1 : Nat) (l1 : List Int) (r : Bool) (w : World) (hr0 : CL w A0 c0 l0) (hc0 : l0.length ≤ c0) (hr1 : Kd.C (Kd.int .i64) w A1 l1.length l1) (hc1 : l1.length ≤ c1) (h : ossuarylaw0_KeptInts.f k l0 l1 = some r) :
  Calls Try.prog 16 #[.slice A0 l0.length c0, .slice A1 l1.length c1] w fun e w' => e = .returned (.bool r) ∧ Drawn0 w w' := by
 have HR0 := Aside0.mk hr0
 have HR0c := Aside0.mk (CL.short hr0)
 have HC0 := Aside0.mk hc0; have HR1 := Aside0.mk hr1; have HC1 := Aside0.mk hc1
 have hl : l0.length + 2 ≤ 9223372036854775807 := by have := hr0.1.2.1; rw [marks_len] at this; omega
 have A_ := Aside0.mk (show ossuarylaw0_SameInts.f k l0 l1 = some r from h)
 have hm := hr0.2
 rw [marks_len] at hm
 clear hr0 hc0 hr1 hc1 h
 obtain ⟨ji3, hji3⟩ : ∃ j_ : Int, (wrap64 ((l0.length : Int) + 2)) = j_ := ⟨_, rfl⟩
 have hji3w : (IntKind.i64.wrap ((l0.length : Int) + 2)) = ji3 := (i64_w _).trans hji3
 have e3 : ji3 = (l0.length : Int) + 2 := by rw [← hji3]; unfold wrap64; omega
 have hcut : ∀ W : World, (Instr.slice 22 (.slice A0 l0.length c0) none (some (.int .i64 ji3)) none).run Try.prog W = .ok (.slice A0 (marks_ l0).length c0) W := by
  intro W
  obtain ⟨i0, hi0, _, hsz0, _⟩ := info_parts info3
  have hel : Try.prog.elem 22 = 3 := by simp [Program.elem, Try.underlying22]
  have hu : Try.prog.underlying 22 = some (.slice (Try.prog.elem 22)) := by rw [hel]; exact Try.underlying22
  have ha : (A0.map fun x => x.add 0) = A0 := by cases A0 <;> simp [Addr.add]
  rw [run_slice_h W 22 A0 l0.length c0 hu .i64 ji3 (by omega) (by omega), hel, marks_len, e3]
  simp [sizeOf, typeInfo, hi0, sliced, Result.andThen, ha]
  omega
 cases r with
 | true =>
  have e1 := same_len_ A_.out
  obtain ⟨ji11, hji11⟩ : ∃ j_ : Int, (wrap64 ((l1.length : Int) + 1)) = j_ := ⟨_, rfl⟩
  have hji11w : (IntKind.i64.wrap ((l1.length : Int) + 1)) = ji11 := (i64_w _).trans hji11
  have e4 : ji11 = (l0.length : Int) + 1 := by rw [← hji11, e1]; unfold wrap64; omega
  have q1 : 0 ≤ (l1.length : Int) := by omega
  have q2 : (l1.length : Int) < (marks_ l0).length := by rw [marks_len]; omega
  have q3 : 0 ≤ ji11 := by omega
  have q4 : ji11 < (marks_ l0).length := by rw [marks_len]; omega
  have f1 : rd (marks_ l0) (l1.length : Int) = -7777 := by rw [e1]; simp [rd, marks_]
  have f2 : rd (marks_ l0) ji11 = -8888 := by rw [e4]; exact rd_mark2 l0
  have q5b := eq_true (show 0 ≤ ji3 by omega)
  clear e1 e3 e4 hl hm
  go_enter Try.func16, Try.ntmps16
  go_wp2_with (first | ((with_reducible refine gate_callee (f := 35) rfl ?_); refine goesL_ (some 13) rfl rfl Try.func35 (by kernel_rfl) rfl #[.slice A0 l0.length c0, .slice A1 l1.length c1] rfl (by (try simp only [List.map_toArray, List.map_cons, List.map_nil]); first | done | rfl | (simp only [List.length_drop, List.length_take]; rfl)) ?_; (with_reducible refine (ossuarylaw0_SameInts.calls k _ _ l0 _ _ l1 true _ ?side1 ?side2 ?side3 ?side4 A_.out).mono ?_); (case side1 => repeat (first | exact HR0c.out | (with_reducible refine Kd.C_alloc ?_ _) | (with_reducible refine Kd.C_drewN ?_ _) | (with_reducible refine Kd.C_drew ?_))); (case side2 => exact HC0.out); (case side3 => repeat (first | exact HR1.out | (with_reducible refine Kd.C_alloc ?_ _) | (with_reducible refine Kd.C_drewN ?_ _) | (with_reducible refine Kd.C_drew ?_))); (case side4 => exact HC1.out); rintro e w' ⟨rfl, ⟨nd, rfl⟩⟩; refine ⟨_, rfl, ?_⟩; obtain ⟨ad, e228, hx1⟩ := Kd.at_int HR0.out.1 (l1.length : Int) q1 q2; cases e228; obtain ⟨ad2_, e229, hx2⟩ := Kd.at_int HR0.out.1 ji11 q3 q4; obtain rfl : ad = ad2_ := (by injection e229); rw [f1] at hx1; rw [f2] at hx2; (try simp only [Go.IntWalk.toNatUp] at hx1); replace q1 := eq_true q1; replace q2 := eq_true q2; replace q3 := eq_true q3; replace q4 := eq_true q4))
  go_ret
  exact ⟨by first | rfl | (simp; done) | (simp [*]; done), by repeat (first | exact Drawn0.refl _ | apply Drawn0.step)⟩
 | false =>
  have q5b := eq_true (show 0 ≤ ji3 by omega)
  clear e3 hl hm
  go_enter Try.func16, Try.ntmps16
  go_wp2_with (first | ((with_reducible refine gate_callee (f := 35) rfl ?_); refine goesL_ (some 13) rfl rfl Try.func35 (by kernel_rfl) rfl #[.slice A0 l0.length c0, .slice A1 l1.length c1] rfl (by (try simp only [List.map_toArray, List.map_cons, List.map_nil]); first | done | rfl | (simp only [List.length_drop, List.length_take]; rfl)) ?_; (with_reducible refine (ossuarylaw0_SameInts.calls k _ _ l0 _ _ l1 false _ ?side1 ?side2 ?side3 ?side4 A_.out).mono ?_); (case side1 => repeat (first | exact HR0c.out | (with_reducible refine Kd.C_alloc ?_ _) | (with_reducible refine Kd.C_drewN ?_ _) | (with_reducible refine Kd.C_drew ?_))); (case side2 => exact HC0.out); (case side3 => repeat (first | exact HR1.out | (with_reducible refine Kd.C_alloc ?_ _) | (with_reducible refine Kd.C_drewN ?_ _) | (with_reducible refine Kd.C_drew ?_))); (case side4 => exact HC1.out); rintro e w' ⟨rfl, ⟨nd, rfl⟩⟩; refine ⟨_, rfl, ?_⟩))
  go_ret
  exact ⟨by first | rfl | (simp; done) | (simp [*]; done), by repeat (first | exact Drawn0.refl _ | apply Drawn0.step)⟩
end Go.Proofs.Ytgolnkankkegdaa.HAuditMoved
