/- Lean functions for the Go functions that the law reaches, and proofs that the calls come to them: written by a program of this session. -/
import Derived.Test.YtgolnkankkegdaaHAuditMovedx0
import Derived.Test.YtgolnkankkegdaaHAuditMovedy0
import Derived.Test.YtgolnkankkegdaaHAuditMovedx7
import Derived.Test.YtgolnkankkegdaaHAuditMovedx9
import Derived.Test.YtgolnkankkegdaaVAuditsFour
import Derived.Test.YtgolnkankkegdaaVAuditsFootNe
import Derived.Test.YtgolnkankkegdaaVAuditsAt
import Derived.Test.YtgolnkankkegdaaVAuditsInv
import Derived.Test.YtgolnkankkegdaaVAuditsInvWords
namespace Go.Proofs.Ytgolnkankkegdaa.HAuditMoved
open Go.RowKit Go.Proofs.YtgolnkankkegdaaW.PrintWords Go.Proofs.YtgolnkankkegdaaW.PrintLast Go.Proofs.YtgolnkankkegdaaW.PrintMore
attribute [local go_sem] max2_int min2_int max_two min_two max_three min_three max_four min_four   -- for this text's walks alone
set_option linter.unusedVariables false
set_option linter.unusedSimpArgs false

/-! ### ossuaryref1_AskMay: function 33 -/
mutual
def ossuaryref1_AskMay.j0 : Nat → Bool → Int → List Int → Option (Bool)
  | 0, _, _, _ => none
  | k + 1, x19, x200000, x200001 => if x19 = true then (some false) else (ossuaryref1_AskMay.l0 k 0 x200000 x200001)
def ossuaryref1_AskMay.l0 : Nat → Int → Int → List Int → Option (Bool)
  | 0, _, _, _ => none
  | k + 1, x3, x200000, x200001 => if x3 < (x200001.length : Int) then (if 0 ≤ x3 then (if (rd x200001 x3) < 0 then (some false) else (if (rd x200001 x3) ≥ 4 then (some false) else (ossuaryref1_AskMay.l0 k (wrap64 (x3 + 1)) x200000 x200001))) else (none)) else (some true)
end
def ossuaryref1_AskMay.f (k : Nat) (a0_0 : Int) (l0_1 : List Int) : Option (Bool) := (ossuaryref1_SealNum.f a0_0).bind fun t200 => (if t200 = true then (if (l0_1.length : Int) < 1 then (ossuaryref1_AskMay.j0 k true a0_0 l0_1) else (ossuaryref1_AskMay.j0 k (decide ((l0_1.length : Int) > 64)) a0_0 l0_1)) else (ossuaryref1_AskMay.j0 k true a0_0 l0_1))
theorem ossuaryref1_AskMay.mono_l : ∀ k, (∀ y0 y1 y2, LeO (ossuaryref1_AskMay.j0 k y0 y1 y2) (ossuaryref1_AskMay.j0 (k + 1) y0 y1 y2)) ∧ (∀ y0 y1 y2, LeO (ossuaryref1_AskMay.l0 k y0 y1 y2) (ossuaryref1_AskMay.l0 (k + 1) y0 y1 y2))
 | 0 => ⟨fun _ _ _ r h => by simp [ossuaryref1_AskMay.j0] at h, fun _ _ _ r h => by simp [ossuaryref1_AskMay.l0] at h⟩
 | k + 1 => by
  obtain ⟨ih0, ih1⟩ := ossuaryref1_AskMay.mono_l k
  refine ⟨?_, ?_⟩
  ·
   intro y0 y1 y2
   unfold ossuaryref1_AskMay.j0
   repeat' first
   | (with_reducible exact ih0 _ _ _)
   | (with_reducible exact ih1 _ _ _)
   | (with_reducible exact LeO.refl _)
   | (with_reducible exact LeO.none _)
   | (with_reducible refine LeO.ite ?_ ?_)
   | (with_reducible refine LeO.bind ?_ (fun _ => ?_))
   | exact ih0 _ _ _
   | exact ih1 _ _ _
   | exact LeO.none _
   | refine LeO.ite ?_ ?_
   | refine LeO.bind ?_ (fun _ => ?_)
  ·
   intro y0 y1 y2
   unfold ossuaryref1_AskMay.l0
   repeat' first
   | (with_reducible exact ih0 _ _ _)
   | (with_reducible exact ih1 _ _ _)
   | (with_reducible exact LeO.refl _)
   | (with_reducible exact LeO.none _)
   | (with_reducible refine LeO.ite ?_ ?_)
   | (with_reducible refine LeO.bind ?_ (fun _ => ?_))
   | exact ih0 _ _ _
   | exact ih1 _ _ _
   | exact LeO.none _
   | refine LeO.ite ?_ ?_
   | refine LeO.bind ?_ (fun _ => ?_)
theorem ossuaryref1_AskMay.mono : ∀ a0 a1 k, LeO (ossuaryref1_AskMay.f k a0 a1) (ossuaryref1_AskMay.f (k + 1) a0 a1) := by
 intro a0 a1 k
 obtain ⟨ih0, ih1⟩ := ossuaryref1_AskMay.mono_l k
 unfold ossuaryref1_AskMay.f
 repeat' first
   | (with_reducible exact ih0 _ _ _)
   | (with_reducible exact ih1 _ _ _)
   | (with_reducible exact LeO.refl _)
   | (with_reducible exact LeO.none _)
   | (with_reducible refine LeO.ite ?_ ?_)
   | (with_reducible refine LeO.bind ?_ (fun _ => ?_))
   | exact ih0 _ _ _
   | exact ih1 _ _ _
   | exact LeO.none _
   | refine LeO.ite ?_ ?_
   | refine LeO.bind ?_ (fun _ => ?_)
set_option maxHeartbeats 8000000 in
set_option maxRecDepth 100000 in
theorem ossuaryref1_AskMay.calls (k : Nat) (a0_0 : Int) (A0_1 : Option Addr) (c0_1 : Nat) (l0_1 : List Int) (r : Bool) (w : World) (hr0_1 : Kd.C (Kd.int .i64) w A0_1 l0_1.length l0_1) (hc0_1 : l0_1.length ≤ c0_1) (h : ossuaryref1_AskMay.f k a0_0 l0_1 = some r) :
  Calls Try.prog 33 #[.agg #[.int .i64 a0_0, .slice A0_1 l0_1.length c0_1]] w fun e w' => e = .returned (.bool r) ∧ Below w.heap.size w w' := by
 have hu24 := Try.underlying24
 have HR0_1 := Aside0.mk hr0_1; have HC0_1 := Aside0.mk hc0_1; clear hr0_1 hc0_1
 have HB := Aside0.mk (Below.refl w.heap.size w)
 have H : ((ossuaryref1_SealNum.f a0_0).bind fun t200 => (if t200 = true then (if (l0_1.length : Int) < 1 then (ossuaryref1_AskMay.j0 k true a0_0 l0_1) else (ossuaryref1_AskMay.j0 k (decide ((l0_1.length : Int) > 64)) a0_0 l0_1)) else (ossuaryref1_AskMay.j0 k true a0_0 l0_1))) = some r := h
 clear h; have HC2 := Aside0.mk H; clear H
 go_enter Try.func33, Try.ntmps33
 go_upto_region 1 with (first | ((with_reducible refine gate_dst (N := 1) rfl ?_); (try (refine gate_guard (by rfl) ?_; dsimp only)); refine box_event ?hg (N := 1) ?hd (cs := #[.int .i64 a0_0, .slice A0_1 l0_1.length c0_1]) (t := 24) ?hr ?_; (case hd => rfl); (case hg => rfl); (case hr => first | (go_simp; done) | (go_simp; rfl)); intro gb199 hg w3 hbox hb; have n0_ := Aside0.mk (below_step (by repeat (first | (with_reducible first | exact HB.out | apply below_alloc | apply pw_below_drewN | apply below_drew1) | exact HB.out)) hb); have n1_ := Aside0.mk (hbox); have n2_ := Aside0.mk ((by rw [hg]; exact (below_size (by repeat (first | (with_reducible first | exact HB.out | apply below_alloc | apply pw_below_drewN | apply below_drew1) | exact HB.out))) : w.heap.size ≤ gb199)); have n3_ := Aside0.mk ((by rw [hg]; exact (below_size (by repeat (first | (with_reducible first | exact HB.out | apply below_alloc | apply pw_below_drewN | apply below_drew1) | exact HB.out))) : w.heap.size ≤ gb199)); clear HB; have HB := n0_; have BK199 := n1_; have GW199 := n2_; have GE199 := n3_; clear n0_ n1_ n2_ n3_; clear hb hbox hg))
 (try simp only [Act.put, List.setIfInBounds_toArray, List.set_cons_zero, List.set_cons_succ])
 go_cut [19] (fun v19 wc => ∃ (kq : Nat) (x19_1 : Bool), v19 = .bool x19_1 ∧ Aside0 (ossuaryref1_AskMay.j0 kq x19_1 a0_0 l0_1 = some r) ∧ Aside0 (kq ≤ k) ∧ Aside0 (wc.heap[gb199]? = some (.cells #[.int .i64 a0_0, (.slice A0_1 l0_1.length c0_1)] 24 (0, 0))) ∧ Aside0 (Below w.heap.size w wc))
 case first =>
  have H := HC2.out; clear HC2; replace H := Option.bind_eq_some_iff.mp H; obtain ⟨t200, A40, H⟩ := H
  replace H : (if t200 = true then (if (l0_1.length : Int) < 1 then (ossuaryref1_AskMay.j0 k true a0_0 l0_1) else (ossuaryref1_AskMay.j0 k (decide ((l0_1.length : Int) > 64)) a0_0 l0_1)) else (ossuaryref1_AskMay.j0 k true a0_0 l0_1)) = some r := H
  have A4 := Aside0.mk A40; clear A40
  by_cases c5 : t200 = true
  ·
   subst c5
   have H1 : (if (l0_1.length : Int) < 1 then (ossuaryref1_AskMay.j0 k true a0_0 l0_1) else (ossuaryref1_AskMay.j0 k (decide ((l0_1.length : Int) > 64)) a0_0 l0_1)) = some r := by rw [if_pos rfl] at H; exact H
   clear H
   have H := H1
   clear H1
   by_cases c6 : (l0_1.length : Int) < 1
   ·
    rw [if_pos c6] at H
    have c6b0 : decide ((l0_1.length : Int) < 1) = true := decide_eq_true c6
    have c6b1 : decide (l0_1.length < 1) = true := decide_eq_true (by omega)
    clear c6
    (first | rw [c6b0] | (simp only [i64_w, i32_w]; rw [c6b0]) | skip)
    have H' := Aside0.mk H
    clear H; have hcz7_0 := sq_d0 BK199; have hcz7_1 := sq_d1 BK199; have hfz7_0 := blk_frozen BK199.out 0; have hfz7_1 := blk_frozen BK199.out 1
    go_wp2_with (first | ((with_reducible refine gate_callee (f := 53) rfl ?_); refine goesL_ (some 6) rfl rfl Try.func53 (by kernel_rfl) rfl #[.int .i64 a0_0] rfl (by (try simp only [List.map_toArray, List.map_cons, List.map_nil]); first | done | rfl | (simp only [List.length_drop, List.length_take]; rfl)) ?_; (with_reducible refine (ossuaryref1_SealNum.calls a0_0 true _ A4.out).mono ?_); rintro e w' ⟨rfl, ⟨nd, rfl⟩⟩; refine ⟨_, rfl, ?_⟩))
    go_meet
    case rel => exact ⟨_, (true), (by first | rfl | (simp; done) | (simp [*]; done)), H', ⟨by first | omega | exact Nat.le_refl _⟩, ⟨by (with_reducible repeat (first | refine blk_drewN ?_ _ | refine blk_drew ?_ | refine blk_alloc ?_ _)); exact BK199.out⟩, ⟨by repeat (first | (with_reducible first | exact HB.out | apply below_alloc | apply pw_below_drewN | apply below_drew1 | refine below_set ?_ GE199.out) | exact HB.out)⟩⟩
   ·
    rw [if_neg c6] at H
    have c6b0 : decide ((l0_1.length : Int) < 1) = false := decide_eq_false c6
    have c6b1 : decide (l0_1.length < 1) = false := decide_eq_false (by omega)
    clear c6
    (first | rw [c6b0] | (simp only [i64_w, i32_w]; rw [c6b0]) | skip)
    have H' := Aside0.mk H
    clear H; have hcz8_0 := sq_d0 BK199; have hcz8_1 := sq_d1 BK199; have hfz8_0 := blk_frozen BK199.out 0; have hfz8_1 := blk_frozen BK199.out 1
    go_wp2_with (first | ((with_reducible refine gate_callee (f := 53) rfl ?_); refine goesL_ (some 6) rfl rfl Try.func53 (by kernel_rfl) rfl #[.int .i64 a0_0] rfl (by (try simp only [List.map_toArray, List.map_cons, List.map_nil]); first | done | rfl | (simp only [List.length_drop, List.length_take]; rfl)) ?_; (with_reducible refine (ossuaryref1_SealNum.calls a0_0 true _ A4.out).mono ?_); rintro e w' ⟨rfl, ⟨nd, rfl⟩⟩; refine ⟨_, rfl, ?_⟩))
    go_meet
    case rel => exact ⟨_, (decide ((l0_1.length : Int) > 64)), (by first | rfl | (simp; done) | (simp [*]; done)), H', ⟨by first | omega | exact Nat.le_refl _⟩, ⟨by (with_reducible repeat (first | refine blk_drewN ?_ _ | refine blk_drew ?_ | refine blk_alloc ?_ _)); exact BK199.out⟩, ⟨by repeat (first | (with_reducible first | exact HB.out | apply below_alloc | apply pw_below_drewN | apply below_drew1 | refine below_set ?_ GE199.out) | exact HB.out)⟩⟩
  ·
   replace c5 := Bool.eq_false_iff.mpr c5
   subst c5
   have H1 : (ossuaryref1_AskMay.j0 k true a0_0 l0_1) = some r := by rw [if_neg (show ¬ (false = true) by decide)] at H; exact H
   clear H
   have H := H1
   clear H1
   have H' := Aside0.mk H
   clear H; have hcz9_0 := sq_d0 BK199; have hcz9_1 := sq_d1 BK199; have hfz9_0 := blk_frozen BK199.out 0; have hfz9_1 := blk_frozen BK199.out 1
   go_wp2_with (first | ((with_reducible refine gate_callee (f := 53) rfl ?_); refine goesL_ (some 6) rfl rfl Try.func53 (by kernel_rfl) rfl #[.int .i64 a0_0] rfl (by (try simp only [List.map_toArray, List.map_cons, List.map_nil]); first | done | rfl | (simp only [List.length_drop, List.length_take]; rfl)) ?_; (with_reducible refine (ossuaryref1_SealNum.calls a0_0 false _ A4.out).mono ?_); rintro e w' ⟨rfl, ⟨nd, rfl⟩⟩; refine ⟨_, rfl, ?_⟩))
   go_meet
   case rel => exact ⟨_, (true), (by first | rfl | (simp; done) | (simp [*]; done)), H', ⟨by first | omega | exact Nat.le_refl _⟩, ⟨by (with_reducible repeat (first | refine blk_drewN ?_ _ | refine blk_drew ?_ | refine blk_alloc ?_ _)); exact BK199.out⟩, ⟨by repeat (first | (with_reducible first | exact HB.out | apply below_alloc | apply pw_below_drewN | apply below_drew1 | refine below_set ?_ GE199.out) | exact HB.out)⟩⟩
 case rest =>
  clear HC2; (try clear p2); (try clear c3); (try clear c5); (try clear c6); (try clear c6b0); (try clear c6b1); (try clear hcz7_0); (try clear hcz7_1); (try clear hcz8_0); (try clear hcz8_1); (try clear hcz9_0); (try clear hcz9_1); (try clear hfz7_0); (try clear hfz7_1); (try clear hfz8_0); (try clear hfz8_1); (try clear hfz9_0); (try clear hfz9_1); obtain ⟨kq, x19_1, rfl, HA, HJ1, BK199, HB⟩ := hcut
  cases kq with
  | zero => exact absurd HA.out (by simp [ossuaryref1_AskMay.j0])
  | succ kj1 =>
   have H := HA.out; clear HA
   simp only [ossuaryref1_AskMay.j0] at H
   by_cases c10 : x19_1 = true
   ·
    subst c10
    have H1 : (some false) = some r := by rw [if_pos rfl] at H; exact H
    clear H
    have H := H1
    clear H1
    obtain rfl := Option.some.inj H
    go_wp2
    go_ret
    exact ⟨by first | rfl | (simp [errW_none, errW_some] <;> rfl) | (simp [*, errW_none, errW_some] <;> rfl), by repeat (first | (with_reducible first | exact HB.out | apply below_alloc | apply pw_below_drewN | apply below_drew1 | refine below_set ?_ GE199.out) | exact HB.out)⟩
   ·
    replace c10 := Bool.eq_false_iff.mpr c10
    subst c10
    have H1 : (ossuaryref1_AskMay.l0 kj1 0 a0_0 l0_1) = some r := by rw [if_neg (show ¬ (false = true) by decide)] at H; exact H
    clear H
    have H := H1
    clear H1
    have H' := Aside0.mk H
    clear H
    go_wp2
    go_loopg [3] kj1 (fun kq v3 w' => ∃ (x3_2 : Int), v3 = .int .i64 x3_2 ∧ Aside0 (ossuaryref1_AskMay.l0 kq x3_2 a0_0 l0_1 = some r) ∧ Aside0 (kq ≤ kj1) ∧ Aside0 (w'.heap[gb199]? = some (.cells #[.int .i64 a0_0, (.slice A0_1 l0_1.length c0_1)] 24 (0, 0))) ∧ Aside0 (Below w.heap.size w w'))
    case atStart => exact ⟨(0), (by first | rfl | (simp; done) | (simp [*]; done)), H', ⟨Nat.le_refl _⟩, ⟨by (with_reducible repeat (first | refine blk_drewN ?_ _ | refine blk_drew ?_ | refine blk_alloc ?_ _)); exact BK199.out⟩, ⟨by repeat (first | (with_reducible first | exact HB.out | apply below_alloc | apply pw_below_drewN | apply below_drew1 | refine below_set ?_ GE199.out) | exact HB.out)⟩⟩
    case round =>
     clear H'
     (try clear c1); (try clear p2); (try clear c3); (try clear c5); (try clear c6); (try clear c6b0); (try clear c6b1); (try clear c10); (try clear hcz7_0); (try clear hcz7_1); (try clear hcz8_0); (try clear hcz8_1); (try clear hcz9_0); (try clear hcz9_1); (try clear hfz7_0); (try clear hfz7_1); (try clear hfz8_0); (try clear hfz8_1); (try clear hfz9_0); (try clear hfz9_1); (try clear p2); obtain ⟨x3_2, rfl, HA, HK2, BK199, HB⟩ := hrel
     cases gk with
     | zero => exact absurd HA.out (by simp [ossuaryref1_AskMay.l0])
     | succ k2 =>
      have H := HA.out; clear HA
      simp only [ossuaryref1_AskMay.l0] at H
      by_cases c11 : x3_2 < (l0_1.length : Int)
      ·
       rw [if_pos c11] at H
       have c11b0 : decide (x3_2 < (l0_1.length : Int)) = true := decide_eq_true c11; clear c11
       by_cases c12 : 0 ≤ x3_2
       ·
        rw [if_pos c12] at H
        have c12b0 : decide (0 ≤ x3_2) = true := decide_eq_true c12; clear c12
        by_cases c13 : (rd l0_1 x3_2) < 0
        ·
         rw [if_pos c13] at H
         have c13b0 : decide ((rd l0_1 x3_2) < 0) = true := decide_eq_true c13; clear c13
         obtain rfl := Option.some.inj H
         have hcz14_0 := sq_d0 BK199; have hcz14_1 := sq_d1 BK199; have hfz14_0 := blk_frozen BK199.out 0; have hfz14_1 := blk_frozen BK199.out 1
         have p201 : 0 ≤ (x3_2 : Int) := of_decide_eq_true (by first | (with_reducible assumption) | assumption)
         have q201 : x3_2 < (l0_1.length : Int) := of_decide_eq_true (by first | (with_reducible assumption) | assumption)
         obtain ⟨ad201, e201, hx201_0⟩ := Kd.at_int HR0_1.out x3_2 p201 q201
         cases e201
         replace hx201_0 := (HB.out.cell (World.block_lt_of_cell? w _ hx201_0)).trans hx201_0
         replace p201 := eq_true p201
         replace q201 := eq_true q201
         go_wp2
         go_ret
         exact ⟨by first | rfl | (simp [errW_none, errW_some] <;> rfl) | (simp [*, errW_none, errW_some] <;> rfl), by repeat (first | (with_reducible first | exact HB.out | apply below_alloc | apply pw_below_drewN | apply below_drew1 | refine below_set ?_ GE199.out) | exact HB.out)⟩
        ·
         rw [if_neg c13] at H
         have c13b0 : decide ((rd l0_1 x3_2) < 0) = false := decide_eq_false c13; clear c13
         by_cases c15 : (rd l0_1 x3_2) ≥ 4
         ·
          rw [if_pos c15] at H
          have c15b0 : decide (4 ≤ (rd l0_1 x3_2)) = true := decide_eq_true c15; clear c15
          obtain rfl := Option.some.inj H
          have hcz16_0 := sq_d0 BK199; have hcz16_1 := sq_d1 BK199; have hfz16_0 := blk_frozen BK199.out 0; have hfz16_1 := blk_frozen BK199.out 1
          have p201 : 0 ≤ (x3_2 : Int) := of_decide_eq_true (by first | (with_reducible assumption) | assumption)
          have q201 : x3_2 < (l0_1.length : Int) := of_decide_eq_true (by first | (with_reducible assumption) | assumption)
          obtain ⟨ad201, e201, hx201_0⟩ := Kd.at_int HR0_1.out x3_2 p201 q201
          cases e201
          replace hx201_0 := (HB.out.cell (World.block_lt_of_cell? w _ hx201_0)).trans hx201_0
          replace p201 := eq_true p201
          replace q201 := eq_true q201
          have p202 : 0 ≤ (x3_2 : Int) := of_decide_eq_true (by first | (with_reducible assumption) | assumption)
          have q202 : x3_2 < (l0_1.length : Int) := of_decide_eq_true (by first | (with_reducible assumption) | assumption)
          obtain ⟨ad202, e202, hx202_0⟩ := Kd.at_int HR0_1.out x3_2 p202 q202
          obtain rfl : ad201 = ad202 := (by injection e202)
          replace hx202_0 := (HB.out.cell (World.block_lt_of_cell? w _ hx202_0)).trans hx202_0
          replace p202 := eq_true p202
          replace q202 := eq_true q202
          go_wp2
          go_ret
          exact ⟨by first | rfl | (simp [errW_none, errW_some] <;> rfl) | (simp [*, errW_none, errW_some] <;> rfl), by repeat (first | (with_reducible first | exact HB.out | apply below_alloc | apply pw_below_drewN | apply below_drew1 | refine below_set ?_ GE199.out) | exact HB.out)⟩
         ·
          rw [if_neg c15] at H
          have c15b0 : decide (4 ≤ (rd l0_1 x3_2)) = false := decide_eq_false c15; clear c15
          have H' := Aside0.mk H
          clear H; have hcz17_0 := sq_d0 BK199; have hcz17_1 := sq_d1 BK199; have hfz17_0 := blk_frozen BK199.out 0; have hfz17_1 := blk_frozen BK199.out 1
          have p201 : 0 ≤ (x3_2 : Int) := of_decide_eq_true (by first | (with_reducible assumption) | assumption)
          have q201 : x3_2 < (l0_1.length : Int) := of_decide_eq_true (by first | (with_reducible assumption) | assumption)
          obtain ⟨ad201, e201, hx201_0⟩ := Kd.at_int HR0_1.out x3_2 p201 q201
          cases e201
          replace hx201_0 := (HB.out.cell (World.block_lt_of_cell? w _ hx201_0)).trans hx201_0
          replace p201 := eq_true p201
          replace q201 := eq_true q201
          have p202 : 0 ≤ (x3_2 : Int) := of_decide_eq_true (by first | (with_reducible assumption) | assumption)
          have q202 : x3_2 < (l0_1.length : Int) := of_decide_eq_true (by first | (with_reducible assumption) | assumption)
          obtain ⟨ad202, e202, hx202_0⟩ := Kd.at_int HR0_1.out x3_2 p202 q202
          obtain rfl : ad201 = ad202 := (by injection e202)
          replace hx202_0 := (HB.out.cell (World.block_lt_of_cell? w _ hx202_0)).trans hx202_0
          replace p202 := eq_true p202
          replace q202 := eq_true q202
          go_wp2
          go_roundg k2
          case measure => have := HJ1.out; have := HK2.out; omega
          case rel => exact ⟨(wrap64 (x3_2 + 1)), (by first | rfl | (simp; done) | (simp [*]; done)), H', ⟨by have := HJ1.out; have := HK2.out; omega⟩, ⟨by (with_reducible repeat (first | refine blk_drewN ?_ _ | refine blk_drew ?_ | refine blk_alloc ?_ _)); exact BK199.out⟩, ⟨by repeat (first | (with_reducible first | exact HB.out | apply below_alloc | apply pw_below_drewN | apply below_drew1 | refine below_set ?_ GE199.out) | exact HB.out)⟩⟩
       ·
        rw [if_neg c12] at H
        exact absurd H (by simp)
      ·
       rw [if_neg c11] at H
       have c11b0 : decide (x3_2 < (l0_1.length : Int)) = false := decide_eq_false c11; clear c11
       obtain rfl := Option.some.inj H
       have hcz18_0 := sq_d0 BK199; have hcz18_1 := sq_d1 BK199; have hfz18_0 := blk_frozen BK199.out 0; have hfz18_1 := blk_frozen BK199.out 1
       go_wp2
       go_ret
       exact ⟨by first | rfl | (simp [errW_none, errW_some] <;> rfl) | (simp [*, errW_none, errW_some] <;> rfl), by repeat (first | (with_reducible first | exact HB.out | apply below_alloc | apply pw_below_drewN | apply below_drew1 | refine below_set ?_ GE199.out) | exact HB.out)⟩
/-! ### ossuaryref1_Respond: function 10 -/
mutual
def ossuaryref1_Respond.j0 : Nat → ByteArray → List Int → Bool → Int → List Int → Option ((List (S49)) × Int)
  | 0, _, _, _, _, _ => none
  | k + 1, x0, x1, x25, x230000, x230001 => if x25 = true then (some (([] : List (S49)), 1200)) else ((ossuaryref1_Leaves.f k x0).bind fun t232 => (ossuaryref1_Respond.l0 k x0 x1 t232 ([] : List (S49)) 0 x230000 x230001))
def ossuaryref1_Respond.l0 : Nat → ByteArray → List Int → List Int → List (S49) → Int → Int → List Int → Option ((List (S49)) × Int)
  | 0, _, _, _, _, _, _, _ => none
  | k + 1, x0, x1, x8, x9, x10, x230000, x230001 => if x10 < (x230001.length : Int) then (if 0 ≤ x10 then ((ossuaryref1_path.f k x8 (rd x230001 x10)).bind fun t236 => (if t236.length + x1.length < 17592186044416 then (if 0 ≤ (wrap64 (8 * (rd x230001 x10))) then (if (wrap64 (8 * (rd x230001 x10))) ≤ (wrap64 ((wrap64 (8 * (rd x230001 x10))) + 8)) then (if (wrap64 ((wrap64 (8 * (rd x230001 x10))) + 8)) ≤ (x0.size : Int) then (if 0 ≤ (rd x230001 x10) then (if (rd x230001 x10) < (x8.length : Int) then ((ossuaryref1_Pair.f x230000 (rd x8 (rd x230001 x10))).bind fun t243 => (if x9.length < 2932031007402 then (ossuaryref1_Respond.l0 k x0 x1 x8 (x9 ++ [(⟨x0.extract ((wrap64 (8 * (rd x230001 x10))) : Int).toNat ((wrap64 ((wrap64 (8 * (rd x230001 x10))) + 8)) : Int).toNat, (t236 ++ x1), t243⟩ : S49)]) (wrap64 (x10 + 1)) x230000 x230001) else (none))) else (none)) else (none)) else (none)) else (none)) else (none)) else (none))) else (none)) else (some (x9, 0))
end
def ossuaryref1_Respond.f (k : Nat) (a0 : ByteArray) (l1 : List Int) (a2_0 : Int) (l2_1 : List Int) : Option ((List (S49)) × Int) := if (a0.size : Int) = 32 then ((ossuaryref1_SealNums.f k l1 3).bind fun t230 => (if t230 = true then ((ossuaryref1_AskMay.f k a2_0 l2_1).bind fun t231 => (ossuaryref1_Respond.j0 k a0 l1 (!t231) a2_0 l2_1)) else (ossuaryref1_Respond.j0 k a0 l1 true a2_0 l2_1))) else (ossuaryref1_Respond.j0 k a0 l1 true a2_0 l2_1)
theorem ossuaryref1_Respond.mono_l : ∀ k, (∀ y0 y1 y2 y3 y4, LeO (ossuaryref1_Respond.j0 k y0 y1 y2 y3 y4) (ossuaryref1_Respond.j0 (k + 1) y0 y1 y2 y3 y4)) ∧ (∀ y0 y1 y2 y3 y4 y5 y6, LeO (ossuaryref1_Respond.l0 k y0 y1 y2 y3 y4 y5 y6) (ossuaryref1_Respond.l0 (k + 1) y0 y1 y2 y3 y4 y5 y6))
 | 0 => ⟨fun _ _ _ _ _ r h => by simp [ossuaryref1_Respond.j0] at h, fun _ _ _ _ _ _ _ r h => by simp [ossuaryref1_Respond.l0] at h⟩
 | k + 1 => by
  obtain ⟨ih0, ih1⟩ := ossuaryref1_Respond.mono_l k
  refine ⟨?_, ?_⟩
  ·
   intro y0 y1 y2 y3 y4
   unfold ossuaryref1_Respond.j0
   repeat' first
   | (with_reducible exact ih0 _ _ _ _ _)
   | (with_reducible exact ih1 _ _ _ _ _ _ _)
   | (with_reducible exact ossuaryref1_AskMay.mono _ _ _)
   | (with_reducible exact ossuaryref1_Leaves.mono _ _)
   | (with_reducible exact ossuaryref1_SealNums.mono _ _ _)
   | (with_reducible exact ossuaryref1_path.mono _ _ _)
   | (with_reducible exact LeO.refl _)
   | (with_reducible exact LeO.none _)
   | (with_reducible refine LeO.ite ?_ ?_)
   | (with_reducible refine LeO.bind ?_ (fun _ => ?_))
   | exact ih0 _ _ _ _ _
   | exact ih1 _ _ _ _ _ _ _
   | exact ossuaryref1_AskMay.mono _ _ _
   | exact ossuaryref1_Leaves.mono _ _
   | exact ossuaryref1_SealNums.mono _ _ _
   | exact ossuaryref1_path.mono _ _ _
   | exact LeO.none _
   | refine LeO.ite ?_ ?_
   | refine LeO.bind ?_ (fun _ => ?_)
  ·
   intro y0 y1 y2 y3 y4 y5 y6
   unfold ossuaryref1_Respond.l0
   repeat' first
   | (with_reducible exact ih0 _ _ _ _ _)
   | (with_reducible exact ih1 _ _ _ _ _ _ _)
   | (with_reducible exact ossuaryref1_AskMay.mono _ _ _)
   | (with_reducible exact ossuaryref1_Leaves.mono _ _)
   | (with_reducible exact ossuaryref1_SealNums.mono _ _ _)
   | (with_reducible exact ossuaryref1_path.mono _ _ _)
   | (with_reducible exact LeO.refl _)
   | (with_reducible exact LeO.none _)
   | (with_reducible refine LeO.ite ?_ ?_)
   | (with_reducible refine LeO.bind ?_ (fun _ => ?_))
   | exact ih0 _ _ _ _ _
   | exact ih1 _ _ _ _ _ _ _
   | exact ossuaryref1_AskMay.mono _ _ _
   | exact ossuaryref1_Leaves.mono _ _
   | exact ossuaryref1_SealNums.mono _ _ _
   | exact ossuaryref1_path.mono _ _ _
   | exact LeO.none _
   | refine LeO.ite ?_ ?_
   | refine LeO.bind ?_ (fun _ => ?_)
theorem ossuaryref1_Respond.mono : ∀ a0 a1 a2 a3 k, LeO (ossuaryref1_Respond.f k a0 a1 a2 a3) (ossuaryref1_Respond.f (k + 1) a0 a1 a2 a3) := by
 intro a0 a1 a2 a3 k
 obtain ⟨ih0, ih1⟩ := ossuaryref1_Respond.mono_l k
 unfold ossuaryref1_Respond.f
 repeat' first
   | (with_reducible exact ih0 _ _ _ _ _)
   | (with_reducible exact ih1 _ _ _ _ _ _ _)
   | (with_reducible exact ossuaryref1_AskMay.mono _ _ _)
   | (with_reducible exact ossuaryref1_Leaves.mono _ _)
   | (with_reducible exact ossuaryref1_SealNums.mono _ _ _)
   | (with_reducible exact ossuaryref1_path.mono _ _ _)
   | (with_reducible exact LeO.refl _)
   | (with_reducible exact LeO.none _)
   | (with_reducible refine LeO.ite ?_ ?_)
   | (with_reducible refine LeO.bind ?_ (fun _ => ?_))
   | exact ih0 _ _ _ _ _
   | exact ih1 _ _ _ _ _ _ _
   | exact ossuaryref1_AskMay.mono _ _ _
   | exact ossuaryref1_Leaves.mono _ _
   | exact ossuaryref1_SealNums.mono _ _ _
   | exact ossuaryref1_path.mono _ _ _
   | exact LeO.none _
   | refine LeO.ite ?_ ?_
   | refine LeO.bind ?_ (fun _ => ?_)
def ossuaryref1_Respond.T11 : Bool × List (List Nat × List Nat) := (true, [([], []), ([], []), ([], []), ([2], [2]), ([], []), ([4], [4]), ([5], [5]), ([1, 3, 6], [1, 3, 6]), ([], []), ([], []), ([9], [9]), ([], []), ([], []), ([11, 12], [11, 12]), ([13], [13]), ([10, 14], [10, 14]), ([7, 8, 15], [7, 8, 15]), ([16], [16]), ([0, 17, 15], [0, 17]), ([18, 18, 0, 1, 2, 3, 4, 5, 6, 7, 8, 9, 10, 11, 12, 13, 14, 15, 16, 17, 18], [0, 18])])
def ossuaryref1_Respond.B11 : List Nat := [0, 0, 0, 4, 0, 16, 48, 126, 0, 0, 512, 0, 0, 6144, 14336, 32256, 65534, 131070, 262143, 524287]
theorem ossuaryref1_Respond.tab11 : rtab .any (opsOf Try.f10 11) = ossuaryref1_Respond.T11 := by kernel_rfl
theorem ossuaryref1_Respond.bits11 : waitsOk ossuaryref1_Respond.T11.2 ossuaryref1_Respond.B11 = true := by kernel_rfl
set_option maxHeartbeats 8000000 in
set_option maxRecDepth 100000 in
theorem ossuaryref1_Respond.calls (k : Nat) (a0 : ByteArray) (A1 : Option Addr) (c1 : Nat) (l1 : List Int) (a2_0 : Int) (A2_1 : Option Addr) (c2_1 : Nat) (l2_1 : List Int) (r1 : List (S49)) (r2 : Int) (w : World) (hr1 : Kd.C (Kd.int .i64) w A1 l1.length l1) (hc1 : l1.length ≤ c1) (hr2_1 : Kd.C (Kd.int .i64) w A2_1 l2_1.length l2_1) (hc2_1 : l2_1.length ≤ c2_1) (h : ossuaryref1_Respond.f k a0 l1 a2_0 l2_1 = some (r1, r2)) :
  Calls Try.prog 10 #[.string a0, .slice A1 l1.length c1, .agg #[.int .i64 a2_0, .slice A2_1 l2_1.length c2_1]] w fun e w' => ∃ v0_ : Value, e = .returned (.tuple #[v0_, .int .i64 r2]) ∧ Kd.S k49 49 w' w.heap.size (fun _ => True) v0_ r1 ∧ Below w.heap.size w w' := by
 have hu24 := Try.underlying24
 have hu49 := Try.underlying49
 have HR1 := Aside0.mk hr1; have HC1 := Aside0.mk hc1; clear hr1 hc1; have HR2_1 := Aside0.mk hr2_1; have HC2_1 := Aside0.mk hc2_1; clear hr2_1 hc2_1
 have HB := Aside0.mk (Below.refl w.heap.size w)
 have H : (if (a0.size : Int) = 32 then ((ossuaryref1_SealNums.f k l1 3).bind fun t230 => (if t230 = true then ((ossuaryref1_AskMay.f k a2_0 l2_1).bind fun t231 => (ossuaryref1_Respond.j0 k a0 l1 (!t231) a2_0 l2_1)) else (ossuaryref1_Respond.j0 k a0 l1 true a2_0 l2_1))) else (ossuaryref1_Respond.j0 k a0 l1 true a2_0 l2_1)) = some (r1, r2) := h
 clear h; have HC4 := Aside0.mk H; clear H
 go_enter Try.func10, Try.ntmps10
 go_upto_region 1 with (first | ((with_reducible refine gate_dst (N := 5) rfl ?_); refine box_event ?hg (N := 5) ?hd (cs := #[.int .i64 a2_0, .slice A2_1 l2_1.length c2_1]) (t := 24) ?hr ?_; (case hd => rfl); (case hg => rfl); (case hr => first | (go_simp; done) | (go_simp; rfl)); intro gb229 hg w5 hbox hb; have n0_ := Aside0.mk (below_step (by repeat (first | (with_reducible first | exact HB.out | apply below_alloc | apply pw_below_drewN | apply below_drew1) | exact HB.out)) hb); have n1_ := Aside0.mk (hbox); have n2_ := Aside0.mk ((by rw [hg]; exact (below_size (by repeat (first | (with_reducible first | exact HB.out | apply below_alloc | apply pw_below_drewN | apply below_drew1) | exact HB.out))) : w.heap.size ≤ gb229)); have n3_ := Aside0.mk ((by rw [hg]; exact (below_size (by repeat (first | (with_reducible first | exact HB.out | apply below_alloc | apply pw_below_drewN | apply below_drew1) | exact HB.out))) : w.heap.size ≤ gb229)); clear HB; have HB := n0_; have BK229 := n1_; have GW229 := n2_; have GE229 := n3_; clear n0_ n1_ n2_ n3_; clear hb hbox hg))
 (try simp only [Act.put, List.setIfInBounds_toArray, List.set_cons_zero, List.set_cons_succ])
 go_cut [25] (fun v25 wc => ∃ (kq : Nat) (x25_3 : Bool), v25 = .bool x25_3 ∧ Aside0 (ossuaryref1_Respond.j0 kq a0 l1 x25_3 a2_0 l2_1 = some (r1, r2)) ∧ Aside0 (kq ≤ k) ∧ Aside0 (wc.heap[gb229]? = some (.cells #[.int .i64 a2_0, (.slice A2_1 l2_1.length c2_1)] 24 (0, 0))) ∧ Aside0 (Below w.heap.size w wc))
 case first =>
  have H := HC4.out; clear HC4
  by_cases c6 : (a0.size : Int) = 32
  ·
   rw [if_pos c6] at H
   have c6b0 : ((a0.size : Int) == 32) = true := beq_iff_eq.mpr c6; have c6b1 : ((a0.size : Int) != 32) = false := bne_eq_false_iff_eq.mpr c6; clear c6
   (first | rw [c6b0] | (simp only [i64_w, i32_w]; rw [c6b0]) | skip)
   replace H := Option.bind_eq_some_iff.mp H; obtain ⟨t230, A70, H⟩ := H
   replace H : (if t230 = true then ((ossuaryref1_AskMay.f k a2_0 l2_1).bind fun t231 => (ossuaryref1_Respond.j0 k a0 l1 (!t231) a2_0 l2_1)) else (ossuaryref1_Respond.j0 k a0 l1 true a2_0 l2_1)) = some (r1, r2) := H
   have A7 := Aside0.mk A70; clear A70
   by_cases c8 : t230 = true
   ·
    subst c8
    have H1 : ((ossuaryref1_AskMay.f k a2_0 l2_1).bind fun t231 => (ossuaryref1_Respond.j0 k a0 l1 (!t231) a2_0 l2_1)) = some (r1, r2) := by rw [if_pos rfl] at H; exact H
    clear H
    have H := H1
    clear H1; replace H := Option.bind_eq_some_iff.mp H; obtain ⟨t231, A90, H⟩ := H
    replace H : (ossuaryref1_Respond.j0 k a0 l1 (!t231) a2_0 l2_1) = some (r1, r2) := H
    have A9 := Aside0.mk A90; clear A90
    have H' := Aside0.mk H
    clear H
    go_wp2_with (first | (go_at_call 32; (with_reducible refine (ossuaryref1_SealNums.calls k _ _ l1 3 true _ ?side1 ?side2 A7.out).mono ?_); (case side1 => repeat (first | exact (Kd.C_below HR1.out HB.out) | (with_reducible refine Kd.C_alloc ?_ _) | (with_reducible refine Kd.C_drewN ?_ _) | (with_reducible refine Kd.C_drew ?_))); (case side2 => exact HC1.out); rintro e w' ⟨rfl, ⟨nd, rfl⟩⟩; have hcz10_0 := sq_d0 BK229; have hcz10_1 := sq_d1 BK229; have hfz10_0 := blk_frozen BK229.out 0; have hfz10_1 := blk_frozen BK229.out 1) | (go_at_call 33; (with_reducible refine (ossuaryref1_AskMay.calls k a2_0 _ _ l2_1 t231 _ ?side1 ?side2 A9.out).mono ?_); (case side1 => repeat (first | exact (Kd.C_below HR2_1.out (by repeat (first | (with_reducible first | exact HB.out | apply below_alloc | apply pw_below_drewN | apply below_drew1 | refine below_set ?_ GE229.out) | exact HB.out))) | (with_reducible refine Kd.C_alloc ?_ _) | (with_reducible refine Kd.C_drewN ?_ _) | (with_reducible refine Kd.C_drew ?_))); (case side2 => exact HC2_1.out); rintro e w11 ⟨rfl, hb⟩; (repeat replace hb := sq_un hb); have n0_ := sq_bk hb BK229; have n1_ := sq_st hb HB; clear BK229 HB; have BK229 := n0_; have HB := n1_; clear n0_ n1_; (try clear hb); (try clear hb2); (try clear hk); (try clear hi)))
    go_meet
    case rel => exact ⟨_, (!t231), (by first | rfl | (simp; done) | (simp [*]; done)), H', ⟨by first | omega | exact Nat.le_refl _⟩, ⟨by (with_reducible repeat (first | refine blk_drewN ?_ _ | refine blk_drew ?_ | refine blk_alloc ?_ _)); exact BK229.out⟩, ⟨by repeat (first | (with_reducible first | exact HB.out | apply below_alloc | apply pw_below_drewN | apply below_drew1 | refine below_set ?_ GE229.out) | exact HB.out)⟩⟩
   ·
    replace c8 := Bool.eq_false_iff.mpr c8
    subst c8
    have H1 : (ossuaryref1_Respond.j0 k a0 l1 true a2_0 l2_1) = some (r1, r2) := by rw [if_neg (show ¬ (false = true) by decide)] at H; exact H
    clear H
    have H := H1
    clear H1
    have H' := Aside0.mk H
    clear H
    go_wp2_with (first | (go_at_call 32; (with_reducible refine (ossuaryref1_SealNums.calls k _ _ l1 3 false _ ?side1 ?side2 A7.out).mono ?_); (case side1 => repeat (first | exact (Kd.C_below HR1.out HB.out) | (with_reducible refine Kd.C_alloc ?_ _) | (with_reducible refine Kd.C_drewN ?_ _) | (with_reducible refine Kd.C_drew ?_))); (case side2 => exact HC1.out); rintro e w' ⟨rfl, ⟨nd, rfl⟩⟩))
    go_meet
    case rel => exact ⟨_, (true), (by first | rfl | (simp; done) | (simp [*]; done)), H', ⟨by first | omega | exact Nat.le_refl _⟩, ⟨by (with_reducible repeat (first | refine blk_drewN ?_ _ | refine blk_drew ?_ | refine blk_alloc ?_ _)); exact BK229.out⟩, ⟨by repeat (first | (with_reducible first | exact HB.out | apply below_alloc | apply pw_below_drewN | apply below_drew1 | refine below_set ?_ GE229.out) | exact HB.out)⟩⟩
  ·
   rw [if_neg c6] at H
   have c6b0 : ((a0.size : Int) == 32) = false := beq_eq_false_iff_ne.mpr c6; have c6b1 : ((a0.size : Int) != 32) = true := bne_iff_ne.mpr c6
   (first | rw [c6b0] | (simp only [i64_w, i32_w]; rw [c6b0]) | skip)
   have H' := Aside0.mk H
   clear H
   go_wp2
   go_meet
   case rel => exact ⟨_, (true), (by first | rfl | (simp; done) | (simp [*]; done)), H', ⟨by first | omega | exact Nat.le_refl _⟩, ⟨by (with_reducible repeat (first | refine blk_drewN ?_ _ | refine blk_drew ?_ | refine blk_alloc ?_ _)); exact BK229.out⟩, ⟨by repeat (first | (with_reducible first | exact HB.out | apply below_alloc | apply pw_below_drewN | apply below_drew1 | refine below_set ?_ GE229.out) | exact HB.out)⟩⟩
 case rest =>
  clear HC4; (try clear c1); (try clear c2); (try clear p2); (try clear c6); (try clear c6b0); (try clear c6b1); (try clear c8); (try clear c10); (try clear hcz10_0); (try clear hcz10_1); (try clear hfz10_0); (try clear hfz10_1); obtain ⟨kq, x25_3, rfl, HA, HJ3, BK229, HB⟩ := hcut
  cases kq with
  | zero => exact absurd HA.out (by simp [ossuaryref1_Respond.j0])
  | succ kj3 =>
   have H := HA.out; clear HA
   simp only [ossuaryref1_Respond.j0] at H
   by_cases c12 : x25_3 = true
   ·
    subst c12
    have H1 : (some (([] : List (S49)), 1200)) = some (r1, r2) := by rw [if_pos rfl] at H; exact H
    clear H
    have H := H1
    clear H1
    simp only [Option.some.injEq, Prod.mk.injEq] at H
    obtain ⟨rfl, rfl⟩ := H
    go_wp2
    go_ret2
    exact ⟨_, by first | rfl | (simp [errW_none, errW_some] <;> rfl) | (simp [*, errW_none, errW_some] <;> rfl), by first | exact Kd.S_nil _ _ _ _ _ | exact Kd.N_nil _ _ _ _ _ | exact Kd.V_nil _ _ _ _ _ | exact Kd.Q_nil _ _ _ _ _ | exact Kd.R_nil _ _ _ _ _, by repeat (first | (with_reducible first | exact HB.out | apply below_alloc | apply pw_below_drewN | apply below_drew1 | refine below_set ?_ GE229.out) | exact HB.out)⟩
   ·
    replace c12 := Bool.eq_false_iff.mpr c12
    subst c12
    have H1 : ((ossuaryref1_Leaves.f kj3 a0).bind fun t232 => (ossuaryref1_Respond.l0 kj3 a0 l1 t232 ([] : List (S49)) 0 a2_0 l2_1)) = some (r1, r2) := by rw [if_neg (show ¬ (false = true) by decide)] at H; exact H
    clear H
    have H := H1
    clear H1; replace H := Option.bind_eq_some_iff.mp H; obtain ⟨t232, A130, H⟩ := H
    replace H : (ossuaryref1_Respond.l0 kj3 a0 l1 t232 ([] : List (S49)) 0 a2_0 l2_1) = some (r1, r2) := H
    have A13 := Aside0.mk A130; clear A130
    have H' := Aside0.mk H
    clear H
    go_wp2_with (first | ((with_reducible refine gate_callee (f := 20) rfl ?_); refine goesL_ (some 27) rfl rfl Try.func20 (by kernel_rfl) rfl #[.string a0] rfl (by (try simp only [List.map_toArray, List.map_cons, List.map_nil]); first | done | rfl | (simp only [List.length_drop, List.length_take]; rfl)) ?_; (with_reducible refine (ossuaryref1_Leaves.calls kj3 a0 t232 _ A13.out).mono ?_); rintro e w14 ⟨v233, rfl, ho0, hb⟩; refine ⟨_, rfl, ?_⟩; (repeat replace hb := sq_un hb); have n0_ := Aside0.mk (Kd.R_lower ho0 (below_size (by repeat (first | (with_reducible first | exact HB.out | apply below_alloc | apply pw_below_drewN | apply below_drew1 | refine below_set ?_ GE229.out) | exact HB.out)))); have n1_ := sq_bk hb BK229; have n2_ := sq_st hb HB; clear BK229 HB; have HO234 := n0_; have BK229 := n1_; have HB := n2_; clear n0_ n1_ n2_; (try clear hb); (try clear hb2); (try clear hk); (try clear hi); (try clear ho0)))
    go_loopg [9, 10] kj3 (fun kq v9 v10 w' => ∃ (x9_2 : List (S49)) (x10_2 : Int), v10 = .int .i64 x10_2 ∧ Aside0 (ossuaryref1_Respond.l0 kq a0 l1 t232 x9_2 x10_2 a2_0 l2_1 = some (r1, r2)) ∧ Aside0 (kq ≤ kj3) ∧ Aside0 (Kd.R (Kd.int .i64) 3 w' w.heap.size (fun _ => True) v233 t232) ∧ Aside0 (Kd.S k49 49 w' w.heap.size (fun k_ => some k_ ≠ (v233 : Value).ownBlock) v9 x9_2) ∧ Aside0 (w'.heap[gb229]? = some (.cells #[.int .i64 a2_0, (.slice A2_1 l2_1.length c2_1)] 24 (0, 0))) ∧ Aside0 (Below w.heap.size w w'))
    case atStart => exact ⟨(([] : List (S49))), (0), (by first | rfl | (simp; done) | (simp [*]; done)), H', ⟨Nat.le_refl _⟩, ⟨by (with_reducible repeat (first | apply Kd.R_alloc | apply Kd.R_drewN | apply Kd.R_drew)); exact HO234.out⟩, ⟨by first | exact Kd.S_nil _ _ _ _ _ | exact Kd.N_nil _ _ _ _ _ | exact Kd.V_nil _ _ _ _ _ | exact Kd.Q_nil _ _ _ _ _ | exact Kd.R_nil _ _ _ _ _⟩, ⟨by (with_reducible repeat (first | refine blk_drewN ?_ _ | refine blk_drew ?_ | refine blk_alloc ?_ _)); exact BK229.out⟩, ⟨by repeat (first | (with_reducible first | exact HB.out | apply below_alloc | apply pw_below_drewN | apply below_drew1 | refine below_set ?_ GE229.out) | exact HB.out)⟩⟩
    case round =>
     clear H'
     (try clear c1); (try clear c2); (try clear p2); (try clear c6); (try clear c6b0); (try clear c6b1); (try clear c8); (try clear c10); (try clear c12); (try clear hcz10_0); (try clear hcz10_1); (try clear hfz10_0); (try clear hfz10_1); (try clear p2); obtain ⟨x9_2, x10_2, rfl, HA, HK2, HO_8, HO_9, BK229, HB⟩ := hrel
     cases gk with
     | zero => exact absurd HA.out (by simp [ossuaryref1_Respond.l0])
     | succ k2 =>
      have H := HA.out; clear HA
      simp only [ossuaryref1_Respond.l0] at H
      by_cases c15 : x10_2 < (l2_1.length : Int)
      ·
       rw [if_pos c15] at H
       have c15b0 : decide (x10_2 < (l2_1.length : Int)) = true := decide_eq_true c15; clear c15
       by_cases c16 : 0 ≤ x10_2
       ·
        rw [if_pos c16] at H
        have c16b0 : decide (0 ≤ x10_2) = true := decide_eq_true c16; clear c16; replace H := Option.bind_eq_some_iff.mp H; obtain ⟨t236, A170, H⟩ := H; (try dsimp only at H); have A17 := Aside0.mk A170; clear A170
        by_cases c18 : t236.length + l1.length < 17592186044416
        ·
         rw [if_pos c18] at H
         have LMc18 := Aside0.mk c18; clear c18
         obtain ⟨y239, hy239⟩ : ∃ y_ : List Int, y_ = (t236 ++ l1) := ⟨_, rfl⟩
         replace H : (if 0 ≤ (wrap64 (8 * (rd l2_1 x10_2))) then (if (wrap64 (8 * (rd l2_1 x10_2))) ≤ (wrap64 ((wrap64 (8 * (rd l2_1 x10_2))) + 8)) then (if (wrap64 ((wrap64 (8 * (rd l2_1 x10_2))) + 8)) ≤ (a0.size : Int) then (if 0 ≤ (rd l2_1 x10_2) then (if (rd l2_1 x10_2) < (t232.length : Int) then ((ossuaryref1_Pair.f a2_0 (rd t232 (rd l2_1 x10_2))).bind fun t243 => (if x9_2.length < 2932031007402 then (ossuaryref1_Respond.l0 k2 a0 l1 t232 (x9_2 ++ [(⟨a0.extract ((wrap64 (8 * (rd l2_1 x10_2))) : Int).toNat ((wrap64 ((wrap64 (8 * (rd l2_1 x10_2))) + 8)) : Int).toNat, y239, t243⟩ : S49)]) (wrap64 (x10_2 + 1)) a2_0 l2_1) else (none))) else (none)) else (none)) else (none)) else (none)) else (none)) = some (r1, r2) := by first | (rw [hy239]; with_reducible exact H) | (have H2_ := (Option.bind_some _ _).symm.trans H; rw [hy239]; with_reducible exact H2_) | (have H2_ := (Option.bind_some _ _).symm.trans H; with_reducible exact H2_) | with_reducible exact H | (rw [hy239]; exact H) | exact H
         have Ny239 := Aside0.mk hy239; clear hy239
         obtain ⟨ji19, hji19⟩ : ∃ j_ : Int, (wrap64 (8 * (rd l2_1 x10_2))) = j_ := ⟨_, rfl⟩
         replace H : (if 0 ≤ (ji19) then (if (ji19) ≤ (wrap64 ((ji19) + 8)) then (if (wrap64 ((ji19) + 8)) ≤ (a0.size : Int) then (if 0 ≤ (rd l2_1 x10_2) then (if (rd l2_1 x10_2) < (t232.length : Int) then ((ossuaryref1_Pair.f a2_0 (rd t232 (rd l2_1 x10_2))).bind fun t243 => (if x9_2.length < 2932031007402 then (ossuaryref1_Respond.l0 k2 a0 l1 t232 (x9_2 ++ [(⟨a0.extract ((ji19) : Int).toNat ((wrap64 ((ji19) + 8)) : Int).toNat, y239, t243⟩ : S49)]) (wrap64 (x10_2 + 1)) a2_0 l2_1) else (none))) else (none)) else (none)) else (none)) else (none)) else (none)) = some (r1, r2) := by first | (rw [hji19] at H; exact H) | (simp only [hji19] at H ⊢; exact H)
         (try rw [hji19] at A17)
         have hji19w : (IntKind.i64.wrap (8 * (rd l2_1 x10_2))) = ji19 := (i64_w _).trans hji19
         by_cases c20 : 0 ≤ (ji19)
         ·
          rw [if_pos c20] at H
          have c20b0 := eq_true c20; have c20b1 : decide (0 ≤ (ji19)) = true := decide_eq_true c20; clear c20
          by_cases c21 : (ji19) ≤ (wrap64 ((ji19) + 8))
          ·
           rw [if_pos c21] at H
           have c21b0 := eq_true c21; have c21b1 : decide ((ji19) ≤ (wrap64 ((ji19) + 8))) = true := decide_eq_true c21
           by_cases c22 : (wrap64 ((ji19) + 8)) ≤ (a0.size : Int)
           ·
            rw [if_pos c22] at H
            have c22b0 := eq_true c22; have c22b1 : decide ((wrap64 ((ji19) + 8)) ≤ (a0.size : Int)) = true := decide_eq_true c22
            by_cases c23 : 0 ≤ (rd l2_1 x10_2)
            ·
             rw [if_pos c23] at H
             have c23b0 : decide (0 ≤ (rd l2_1 x10_2)) = true := decide_eq_true c23; clear c23
             by_cases c24 : (rd l2_1 x10_2) < (t232.length : Int)
             ·
              rw [if_pos c24] at H
              have c24b0 : decide ((rd l2_1 x10_2) < (t232.length : Int)) = true := decide_eq_true c24; clear c24; replace H := Option.bind_eq_some_iff.mp H; obtain ⟨t243, A250, H⟩ := H
              replace H : (if x9_2.length < 2932031007402 then (ossuaryref1_Respond.l0 k2 a0 l1 t232 (x9_2 ++ [(⟨a0.extract ((ji19) : Int).toNat ((wrap64 ((ji19) + 8)) : Int).toNat, y239, t243⟩ : S49)]) (wrap64 (x10_2 + 1)) a2_0 l2_1) else (none)) = some (r1, r2) := H
              have A25 := Aside0.mk A250; clear A250
              by_cases c26 : x9_2.length < 2932031007402
              ·
               rw [if_pos c26] at H
               have LMc26 := Aside0.mk c26; clear c26
               obtain ⟨y244, hy244⟩ : ∃ y_ : List (S49), y_ = (x9_2 ++ [(⟨a0.extract ((ji19) : Int).toNat ((wrap64 ((ji19) + 8)) : Int).toNat, y239, t243⟩ : S49)]) := ⟨_, rfl⟩
               replace H : (ossuaryref1_Respond.l0 k2 a0 l1 t232 y244 (wrap64 (x10_2 + 1)) a2_0 l2_1) = some (r1, r2) := by first | (rw [hy244]; with_reducible exact H) | (have H2_ := (Option.bind_some _ _).symm.trans H; rw [hy244]; with_reducible exact H2_) | (have H2_ := (Option.bind_some _ _).symm.trans H; with_reducible exact H2_) | with_reducible exact H | (rw [hy244]; exact H) | exact H
               have Ny244 := Aside0.mk hy244; clear hy244
               have H' := Aside0.mk H
               clear H; have hcz27_0 := sq_d0 BK229; have hcz27_1 := sq_d1 BK229; have hfz27_0 := blk_frozen BK229.out 0; have hfz27_1 := blk_frozen BK229.out 1
               have p235 : 0 ≤ (x10_2 : Int) := of_decide_eq_true (by first | (with_reducible assumption) | assumption)
               have q235 : x10_2 < (l2_1.length : Int) := of_decide_eq_true (by first | (with_reducible assumption) | assumption)
               obtain ⟨ad235, e235, hx235_0⟩ := Kd.at_int HR2_1.out x10_2 p235 q235
               cases e235
               replace hx235_0 := (HB.out.cell (World.block_lt_of_cell? w _ hx235_0)).trans hx235_0
               replace p235 := eq_true p235
               replace q235 := eq_true q235
               obtain ⟨Ao28, co28, eo28⟩ := Kd.R_slice HO_8.out; subst eo28
               try go_wp2_with (first | ((with_reducible refine gate_callee (f := 34) rfl ?_); refine goesL_ (some 42) rfl rfl Try.func34 (by kernel_rfl) rfl #[.slice Ao28 t232.length co28, .int .i64 (rd l2_1 x10_2)] rfl (by (try simp only [List.map_toArray, List.map_cons, List.map_nil]); first | done | rfl | (simp only [List.length_drop, List.length_take]; rfl)) ?_; (with_reducible refine (ossuaryref1_path.calls k2 _ _ t232 (rd l2_1 x10_2) t236 _ ?side1 ?side2 A17.out).mono ?_); (case side1 => repeat (first | exact (Kd.R_reads' HO_8.out).2.2 | (with_reducible refine Kd.C_alloc ?_ _) | (with_reducible refine Kd.C_drewN ?_ _) | (with_reducible refine Kd.C_drew ?_))); (case side2 => exact (Kd.R_reads' HO_8.out).2.1); rintro e w29 ⟨v237, rfl, ho0, hb⟩; refine ⟨_, rfl, ?_⟩; (repeat replace hb := sq_un hb); have n0_ := Aside0.mk (Kd.R_elder' (by (with_reducible repeat (first | apply Kd.R_alloc | apply Kd.R_drewN | apply Kd.R_drew)); exact HO_8.out) (Kd.R_base ho0) hb); have n1_ := Aside0.mk (Kd.S_elder' (by (with_reducible repeat (first | apply Kd.S_alloc | apply Kd.S_drewN | apply Kd.S_drew)); exact HO_9.out) (Kd.R_base ho0) hb); have n2_ := Aside0.mk (Kd.R_lower (Kd.R_new' ho0 (Kd.R_lt (by (with_reducible repeat (first | apply Kd.R_alloc | apply Kd.R_drewN | apply Kd.R_drew)); exact HO_8.out))) (below_size (by repeat (first | (with_reducible first | exact HB.out | apply below_alloc | apply pw_below_drewN | apply below_drew1 | refine below_set ?_ GE229.out) | exact HB.out)))); have n3_ := sq_bk hb BK229; have n4_ := sq_st hb HB; clear HO_8 HO_9 BK229 HB; have HO_8 := n0_; have HO_9 := n1_; have HO238 := n2_; have BK229 := n3_; have HB := n4_; clear n0_ n1_ n2_ n3_ n4_; (try clear hb); (try clear hb2); (try clear hk); (try clear hi); (try clear ho0)) | ((with_reducible refine gate_builtin (b := .append) (xs := #[.tmp 43, .tmp 44]) rfl ?_); at_builtin; refine Kd.R_append_rows (Kd.int .i64) (w0 := w) w.heap.size rfl (.tmp 43) (.tmp 44) 22 3 (.int .i64 0) 8 rfl Try.underlying22 info3 rfl (by decide) (by omega) v237 t236 l1 _ _ _ (fun k_ => some k_ ≠ (.slice Ao28 t232.length co28 : Value).ownBlock) (fun _ => False) rfl rfl ?aO ?aR (fun _ _ h => h) (fun _ h => h.elim) ?aF ?aB ?aS ?aL ?_; (case aR => repeat (first | exact (Kd.C_below HR1.out HB.out) | (with_reducible refine Kd.C_alloc ?_ _) | (with_reducible refine Kd.C_drewN ?_ _) | (with_reducible refine Kd.C_drew ?_))); (case aB => exact (by repeat (first | (with_reducible first | exact HB.out | apply below_alloc | apply pw_below_drewN | apply below_drew1 | refine below_set ?_ GE229.out) | exact HB.out))); (case aF => exact (fun k_ hk => Kd.fresh' (Kd.R_lt (by (with_reducible repeat (first | apply Kd.R_alloc | apply Kd.R_drewN | apply Kd.R_drew)); exact HO_8.out)) k_ hk)); (case aO => exact (by (with_reducible repeat (first | apply Kd.R_alloc | apply Kd.R_drewN | apply Kd.R_drew)); exact Kd.R_mono HO238.out (fun _ hk => hk.2))); (case aS => exact (below_size (by repeat (first | (with_reducible first | exact HB.out | apply below_alloc | apply pw_below_drewN | apply below_drew1 | refine below_set ?_ GE229.out) | exact HB.out)))); (case aL => have := LMc18.out; omega); intro v240 w30 ho hb hg hat; rw [← Ny239.out] at ho; have n0_ := Aside0.mk (Kd.R_after (ok := (fun _ => True)) (by (with_reducible repeat (first | apply Kd.R_alloc | apply Kd.R_drewN | apply Kd.R_drew)); exact HO_8.out) hg hat); have n1_ := Aside0.mk (Kd.S_after (ok := (fun k_ => some k_ ≠ (.slice Ao28 t232.length co28 : Value).ownBlock)) (by (with_reducible repeat (first | apply Kd.S_alloc | apply Kd.S_drewN | apply Kd.S_drew)); exact HO_9.out) hg hat); have n2_ := Aside0.mk (blk_grown (g := gb229) (o := .cells #[.int .i64 a2_0, .slice (some ad235) l2_1.length c2_1] 24 (0, 0)) (by (with_reducible repeat (first | refine blk_drewN ?_ _ | refine blk_drew ?_ | refine blk_alloc ?_ _)); exact BK229.out) hg (Kd.R_ne HO238.out BK229.out (by decide))); have n3_ := Aside0.mk (hb); have n4_ := Aside0.mk (ho); clear HO_8 HO_9 BK229 HB HO238; have HO_8 := n0_; have HO_9 := n1_; have BK229 := n2_; have HB := n3_; have HO241 := n4_; clear n0_ n1_ n2_ n3_ n4_; clear ho hb hg hat))
               have n0_ := Aside0.mk (Kd.R_drew HO_8.out); have n1_ := Aside0.mk (Kd.S_drew HO_9.out); have n2_ := Aside0.mk (Kd.R_drew HO241.out); have n3_ := Aside0.mk (blk_drew BK229.out); have n4_ := Aside0.mk (below_drew1 HB.out); clear HO_8; clear HO_9; clear HO241; clear BK229; clear HB; have HO_8 := n0_; have HO_9 := n1_; have HO241 := n2_; have BK229 := n3_; have HB := n4_; clear n0_ n1_ n2_ n3_ n4_
               have p242 : 0 ≤ ((rd l2_1 x10_2) : Int) := of_decide_eq_true (by first | (with_reducible assumption) | assumption)
               have q242 : (rd l2_1 x10_2) < (t232.length : Int) := of_decide_eq_true (by first | (with_reducible assumption) | assumption)
               obtain ⟨ad242, e242, hx242_0⟩ := Kd.at_int (Kd.R_reads' HO_8.out).2.2 (rd l2_1 x10_2) p242 q242
               cases e242
               replace p242 := eq_true p242
               replace q242 := eq_true q242
               refine start_ (n := 20) (S := fun w' => w'.cell? ⟨gb229, 0, none⟩ = some (.int .i64 a2_0) ∧ w'.cell? ⟨gb229, 1, none⟩ = some (.slice (some ad235) l2_1.length c2_1) ∧ w'.cell? (ad242.add ((rd l2_1 x10_2)).toNat) = some (.int .i64 (rd t232 (rd l2_1 x10_2)))) (ds := [17, 18]) #[false, false, false, false, false, false, false, false, false, false, false, false, false, false, false, false, false, false, false, false] (by kernel_rfl) rfl rfl ⟨(blk_cell BK229.out 0).trans rfl, (blk_cell BK229.out 1).trans rfl, hx242_0⟩ (fun hHeld => ?_); refine with_tabW ossuaryref1_Respond.tab11 ossuaryref1_Respond.bits11 (fun HT_ HW_ => ?_)
               generalize w30.drew = w31 at HO_8 HO_9 HO241 BK229 HB hx242_0 hHeld ⊢
               refine sq_p (i := 0) (N := some 46) (v := ?_) (a' := ?_) HT_ rfl rfl (by kernel_rfl) (fun _ _ _ h => h) (Or.inl ⟨by rfl, ?_⟩) ?_ ?_
               rotate_left; (intro w'; go_simp; with_reducible rfl); rotate_left; (simp only [Act.put, sq_sl, i64_w, i32_w]; rfl)
               refine sq_p (i := 1) (N := some 47) (v := ?_) (a' := ?_) HT_ rfl rfl (by kernel_rfl) (fun _ _ _ h => h) (Or.inl ⟨by rfl, ?_⟩) ?_ ?_
               rotate_left; (intro w'; go_simp; with_reducible rfl); rotate_left; (simp only [Act.put, sq_sl, i64_w, i32_w]; rfl)
               refine sq_p (i := 2) (N := some 48) (v := ?_) (a' := ?_) HT_ rfl rfl (by kernel_rfl) (fun _ _ _ h => h) (Or.inl ⟨by rfl, ?_⟩) ?_ ?_
               rotate_left; (intro w'; go_simp; with_reducible rfl); rotate_left; (simp only [Act.put, sq_sl, i64_w, i32_w]; rfl)
               refine sq_p (i := 3) (N := some 49) (v := ?_) (a' := ?_) HT_ rfl rfl (by kernel_rfl) (fun _ _ _ h => h) (Or.inl ⟨by rfl, ?_⟩) ?_ ?_
               rotate_left; (intro w'; go_simp; with_reducible rfl); rotate_left; (simp only [Act.put, sq_sl, i64_w, i32_w]; rfl)
               refine sq_p (i := 4) (N := some 50) (v := ?_) (a' := ?_) HT_ rfl rfl (by kernel_rfl) (fun _ _ _ h => h) (Or.inl ⟨by rfl, ?_⟩) ?_ ?_
               rotate_left; (intro w'; go_simp; with_reducible rfl); rotate_left; (simp only [Act.put, sq_sl, i64_w, i32_w]; rfl)
               refine sq_p (i := 5) (N := some 51) (v := ?_) (a' := ?_) HT_ rfl rfl (by kernel_rfl) (fun _ _ _ h => h) (Or.inl ⟨by rfl, ?_⟩) ?_ ?_
               rotate_left; (intro w'; go_simp; with_reducible rfl); rotate_left; (simp only [Act.put, sq_sl, i64_w, i32_w]; rfl)
               refine sq_p (i := 6) (N := some 52) (v := ?_) (a' := ?_) HT_ rfl rfl (by kernel_rfl) (fun _ _ _ h => h) (Or.inl ⟨by rfl, ?_⟩) ?_ ?_
               rotate_left; (intro w'; go_simp; with_reducible rfl); rotate_left; (simp only [Act.put, sq_sl, i64_w, i32_w]; rfl)
               refine sq_p (i := 7) (N := some 53) (v := ?_) (a' := ?_) HT_ rfl rfl (by kernel_rfl) (fun _ _ _ h => h) (Or.inl ⟨by rfl, ?_⟩) ?_ ?_
               rotate_left; (intro w'; go_simp; with_reducible rfl); rotate_left; (simp only [Act.put, sq_sl, i64_w, i32_w]; rfl)
               refine sq_p (i := 8) (N := some 54) (v := ?_) (a' := ?_) HT_ rfl rfl (by kernel_rfl) (fun _ _ _ h => h) (Or.inl ⟨by rfl, ?_⟩) ?_ ?_
               rotate_left; (intro w'; go_simp; with_reducible rfl); rotate_left; (simp only [Act.put, sq_sl, i64_w, i32_w]; rfl)
               refine sq_p (i := 9) (N := some 55) (v := ?_) (a' := ?_) HT_ rfl rfl (by kernel_rfl) (fun _ _ _ h => h) (Or.inl ⟨by rfl, ?_⟩) ?_ ?_
               rotate_left; (intro w'; go_simp; with_reducible rfl); rotate_left; (simp only [Act.put, sq_sl, i64_w, i32_w]; rfl)
               refine sq_p (i := 11) (N := some 57) (v := ?_) (a' := ?_) HT_ rfl rfl (by kernel_rfl) (fun _ _ _ h => h) (Or.inl ⟨by rfl, ?_⟩) ?_ ?_
               rotate_left; (intro w'; go_simp; with_reducible rfl); rotate_left; (simp only [Act.put, sq_sl, i64_w, i32_w]; rfl)
               refine sq_p (i := 12) (N := some 58) (v := ?_) (a' := ?_) HT_ rfl rfl (by kernel_rfl) (fun _ _ _ h => h) (Or.inl ⟨by rfl, ?_⟩) ?_ ?_
               rotate_left; (intro w'; go_simp; with_reducible rfl); rotate_left; (simp only [Act.put, sq_sl, i64_w, i32_w]; rfl)
               refine sq_p (i := 13) (N := some 59) (v := ?_) (a' := ?_) HT_ rfl rfl (by kernel_rfl) (fun _ _ _ h => h) (Or.inl ⟨by rfl, ?_⟩) ?_ ?_
               rotate_left; (intro w'; go_simp; with_reducible rfl); rotate_left; (simp only [Act.put, sq_sl, i64_w, i32_w]; rfl)
               refine sq_t (i := 10) (N := some 56) (v := ?_) (a' := ?_) HT_ HW_ rfl rfl (by kernel_rfl) (fun _ _ _ h => h) (Or.inl ⟨by rfl, ?_⟩) hHeld ?_ ?_
               rotate_left; (rintro w' ⟨s0, s1, s2⟩; go_simp; with_reducible rfl); rotate_left; (simp only [Act.put, sq_sl, i64_w, i32_w]; rfl)
               refine sq_t (i := 14) (N := some 60) (v := ?_) (a' := ?_) HT_ HW_ rfl rfl (by kernel_rfl) (fun _ _ _ h => h) (Or.inl ⟨by rfl, ?_⟩) hHeld ?_ ?_
               rotate_left; (rintro w' ⟨s0, s1, s2⟩; go_simp; with_reducible rfl); rotate_left; (simp only [Act.put, sq_sl, i64_w, i32_w]; rfl)
               refine one_ (i := 15) (N := some 61) #[true, true, true, true, true, true, true, true, true, true, true, true, true, true, true, true, false, false, false, false] rfl rfl (one_of HT_.out (by kernel_rfl)) (by decide) (fun K hK => ?_)
               refine goes_ Try.func22 (by kernel_rfl) rfl #[.int .i64 a2_0, .int .i64 (rd t232 (rd l2_1 x10_2))] (by rfl) rfl rfl (by (try simp only [List.map_toArray, List.map_cons, List.map_nil]); first | done | rfl | (simp only [List.length_drop, List.length_take]; rfl)) ?_
               with_reducible refine (ossuaryref1_Pair.calls a2_0 (rd t232 (rd l2_1 x10_2)) t243 _ A25.out).mono ?_
               rintro e w' ⟨rfl, ⟨nd, rfl⟩⟩
               refine ⟨_, rfl, ?_⟩
               obtain ⟨Ao32, co32, eo32⟩ := Kd.R_slice HO241.out
               (first | subst eo32 | (injection eo32 with f1_ f2_ f3_; have f4_ := f1_.symm; have f5_ := f3_.symm; clear f1_ f2_ f3_; subst f4_; subst f5_))
               refine hK.out _ _ ⟨(blk_cell BK229.out 0).trans rfl, (blk_cell BK229.out 1).trans rfl, hHeld.2.2⟩ (fun hHeld => ?_)
               clear hK K
               refine norm_ (a' := ?_) ?_ ?_
               rotate_left
               ·
                show Act.put _ (some 61) _ = _
                simp only [Act.put, List.setIfInBounds_toArray, List.set_cons_zero, List.set_cons_succ, i64_w, i32_w]
                rfl
               refine sq_p (i := 16) (N := some 62) (v := ?_) (a' := ?_) HT_ rfl rfl (by kernel_rfl) (fun _ _ _ h => h) (Or.inl ⟨by rfl, ?_⟩) ?_ ?_
               rotate_left; (intro w'; go_simp; with_reducible rfl); rotate_left; (simp only [Act.put, sq_sl, i64_w, i32_w]; rfl)
               refine last_ (i := 17) (N := some 63) #[true, true, true, true, true, true, true, true, true, true, true, true, true, true, true, true, true, true, false, false] rfl rfl (one_of HT_.out (by kernel_rfl)) (by decide) (fun K hK => ?_)
               refine value_ (w1 := ?_) (v := ?_) (by rfl) rfl ?_ ?_
               rotate_left 2
               ·
                go_simp
                constructor
                ·
                 rfl
                ·
                 rfl
               refine hK.out _ _ ?_
               clear hK K
               refine norm_ (a' := ?_) ?_ ?_
               rotate_left
               ·
                show Act.put _ (some 63) _ = _
                simp only [Act.put, List.setIfInBounds_toArray, List.set_cons_zero, List.set_cons_succ, i64_w, i32_w]
                rfl
               refine last_ (i := 18) (N := some 64) #[true, true, true, true, true, true, true, true, true, true, true, true, true, true, true, true, true, true, true, false] rfl rfl (one_of HT_.out (by kernel_rfl)) (by decide) (fun K hK => ?_)
               refine Kd.S_append_step k49 (w0 := w) w.heap.size (by rfl) (.tmp 46) (.tmp 63) 25 49 (.agg #[(.string ⟨#[]⟩), (.slice none 0 0), (.int .i64 0)]) 48 rfl Try.underlying25 info49 rfl (by decide) (by omega) u9 x9_2 (⟨a0.extract ((ji19) : Int).toNat ((wrap64 ((ji19) + 8)) : Int).toNat, y239, t243⟩ : S49) [.string (a0.extract ((ji19) : Int).toNat ((wrap64 ((ji19) + 8)) : Int).toNat), .slice Ao32 y239.length co32, .int .i64 t243] (fun k_ => some k_ ≠ (.slice (some ad242) t232.length co28 : Value).ownBlock) (fun k_ => some k_ = (.slice Ao32 y239.length co32 : Value).ownBlock) rfl rfl ?aP (fun k_ hk_ => ((Kd.R_mono (ok' := fun k_ => ((fun k_ => some k_ ≠ (.slice (some ad242) t232.length co28 : Value).ownBlock)) k_ ∧ some k_ ≠ (u9 : Value).ownBlock) (Kd.R_apart' (HO241.out) (Kd.S_typed HO_9.out) (by decide)) (fun k_ hk => ⟨hk.1, hk.2⟩))).1 k_ hk_.symm) ?aF ?aO ?aB ?aS ?aL ?_
               (case aP => exact k49_mkM _ _ _ (⟨a0.extract ((ji19) : Int).toNat ((wrap64 ((ji19) + 8)) : Int).toNat, y239, t243⟩ : S49) (Kd.R_mono (Kd.R_tight rfl (Kd.R_mono (ok' := fun k_ => ((fun k_ => some k_ ≠ (.slice (some ad242) t232.length co28 : Value).ownBlock)) k_ ∧ some k_ ≠ (u9 : Value).ownBlock) (Kd.R_apart' (HO241.out) (Kd.S_typed HO_9.out) (by decide)) (fun k_ hk => ⟨hk.1, hk.2⟩))) (fun _ h_ => h_)))
               (case aB => exact (by repeat (first | (with_reducible first | exact HB.out | apply below_alloc | apply pw_below_drewN | apply below_drew1 | refine below_set ?_ GE229.out) | exact HB.out)))
               (case aF => exact (fun k_ hk => Kd.fresh' (Kd.R_lt (by (with_reducible repeat (first | apply Kd.R_alloc | apply Kd.R_drewN | apply Kd.R_drew)); exact HO_8.out)) k_ hk))
               (case aO => exact (by (with_reducible repeat (first | apply Kd.S_alloc | apply Kd.S_drewN | apply Kd.S_drew)); exact Kd.S_mono HO_9.out (fun k_ hk => ⟨hk.1, fun e_ => hk.2 e_⟩)))
               (case aS => exact (below_size (by repeat (first | (with_reducible first | exact HB.out | apply below_alloc | apply pw_below_drewN | apply below_drew1 | refine below_set ?_ GE229.out) | exact HB.out))))
               (case aL => have := LMc26.out; omega)
               intro v245 w33 ho hb hg hat
               rw [← Ny244.out] at ho
               have n0_ := Aside0.mk (Kd.R_over' (by (with_reducible repeat (first | apply Kd.R_alloc | apply Kd.R_drewN | apply Kd.R_drew)); exact HO_8.out) (Kd.S_typed (by (with_reducible repeat (first | apply Kd.S_alloc | apply Kd.S_drewN | apply Kd.S_drew)); exact HO_9.out)) (by decide) hg)
               have n1_ := Aside0.mk (blk_grown (g := gb229) (o := .cells #[.int .i64 a2_0, .slice (some ad235) l2_1.length c2_1] 24 (0, 0)) (by (with_reducible repeat (first | refine blk_drewN ?_ _ | refine blk_drew ?_ | refine blk_alloc ?_ _)); exact BK229.out) hg (Kd.S_ne HO_9.out BK229.out (by decide)))
               have n2_ := Aside0.mk (hb); have n3_ := Aside0.mk (ho); clear HO_8; clear BK229; clear HB; clear HO_9; clear HO241; have HO_8 := n0_; have BK229 := n1_; have HB := n2_; have HO246 := n3_; clear n0_ n1_ n2_ n3_; clear ho hb hg hat
               refine hK.out _ _ ?_
               clear hK K
               refine norm_ (a' := ?_) ?_ ?_
               rotate_left
               ·
                show Act.put _ (some 64) _ = _
                simp only [Act.put, List.setIfInBounds_toArray, List.set_cons_zero, List.set_cons_succ, i64_w, i32_w]
                rfl
               refine sq_p (i := 19) (N := some 9) (v := ?_) (a' := ?_) HT_ rfl rfl (by kernel_rfl) (fun _ _ _ h => h) (Or.inl ⟨by rfl, ?_⟩) ?_ ?_
               rotate_left; (intro w'; go_simp; with_reducible rfl); rotate_left; (simp only [Act.put, sq_sl, i64_w, i32_w]; rfl)
               refine done_ (done_of HT_.out (by kernel_rfl)) ?_
               try go_wp2
               (first | go_roundg k2 | (simp only [← hji19]; go_roundg k2))
               case measure => have := HJ3.out; have := HK2.out; omega
               case rel => exact ⟨(y244), (wrap64 (x10_2 + 1)), (by first | rfl | (simp; done) | (simp [*]; done)), (by first | exact H' | (have h_ := H'; simp only [← hji19] at h_ ⊢; exact h_)), ⟨by have := HJ3.out; have := HK2.out; omega⟩, ⟨by (with_reducible repeat (first | apply Kd.R_alloc | apply Kd.R_drewN | apply Kd.R_drew)); exact Kd.R_mono HO_8.out (fun _ hk => trivial)⟩, ⟨by (with_reducible repeat (first | apply Kd.S_alloc | apply Kd.S_drewN | apply Kd.S_drew)); exact HO246.out⟩, ⟨by (with_reducible repeat (first | refine blk_drewN ?_ _ | refine blk_drew ?_ | refine blk_alloc ?_ _)); exact BK229.out⟩, ⟨by repeat (first | (with_reducible first | exact HB.out | apply below_alloc | apply pw_below_drewN | apply below_drew1 | refine below_set ?_ GE229.out) | exact HB.out)⟩⟩
              ·
               rw [if_neg c26] at H
               exact absurd H (by simp)
             ·
              rw [if_neg c24] at H
              exact absurd H (by simp)
            ·
             rw [if_neg c23] at H
             exact absurd H (by simp)
           ·
            rw [if_neg c22] at H
            exact absurd H (by simp)
          ·
           rw [if_neg c21] at H
           exact absurd H (by simp)
         ·
          rw [if_neg c20] at H
          exact absurd H (by simp)
        ·
         rw [if_neg c18] at H
         exact absurd H (by simp)
       ·
        rw [if_neg c16] at H
        exact absurd H (by simp)
      ·
       rw [if_neg c15] at H
       have c15b0 : decide (x10_2 < (l2_1.length : Int)) = false := decide_eq_false c15; clear c15
       simp only [Option.some.injEq, Prod.mk.injEq] at H
       obtain ⟨rfl, rfl⟩ := H; have hcz34_0 := sq_d0 BK229; have hcz34_1 := sq_d1 BK229; have hfz34_0 := blk_frozen BK229.out 0; have hfz34_1 := blk_frozen BK229.out 1
       go_wp2
       go_ret2
       exact ⟨_, by first | rfl | (simp [errW_none, errW_some] <;> rfl) | (simp [*, errW_none, errW_some] <;> rfl), by (with_reducible repeat (first | apply Kd.S_alloc | apply Kd.S_drewN | apply Kd.S_drew)); exact Kd.S_mono HO_9.out (fun _ hk => trivial), by repeat (first | (with_reducible first | exact HB.out | apply below_alloc | apply pw_below_drewN | apply below_drew1 | refine below_set ?_ GE229.out) | exact HB.out)⟩
end Go.Proofs.Ytgolnkankkegdaa.HAuditMoved
