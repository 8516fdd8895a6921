/- Lean functions for the Go functions that the law reaches, and proofs that the calls come to them: written by a program of this session. -/
import Derived.Test.YtfjkehpcgiolhaaHTreesx0
import Derived.Test.YtfjkehpcgiolhaaHTreesx1
import Derived.Test.YtfjkehpcgiolhaaHTreesx2
namespace Go.Proofs.Ytfjkehpcgiolhaa.HTrees
open Go.RowKit Go.Proofs.YtfjkehpcgiolhaaW.PrintWords Go.Proofs.YtfjkehpcgiolhaaW.PrintLast Go.Proofs.YtfjkehpcgiolhaaW.PrintMore
attribute [local go_sem] max2_int min2_int max_two min_two max_three min_three max_four min_four   -- for this text's walks alone
set_option linter.unusedVariables false
set_option linter.unusedSimpArgs false

/-! ### ossuarylaw0_SameInts: function 20 -/
def ossuarylaw0_SameInts.l0 : Nat → List Int → List Int → Int → Option (Bool)
  | 0, _, _, _ => none
  | k + 1, x0, x1, x5 => if x5 < (x0.length : Int) then (if 0 ≤ x5 then (if x5 < (x1.length : Int) then (if (rd x0 x5) = (rd x1 x5) then (ossuarylaw0_SameInts.l0 k x0 x1 (wrap64 (x5 + 1))) else (some false)) else (none)) else (none)) else (some true)
def ossuarylaw0_SameInts.f (k : Nat) (l0 : List Int) (l1 : List Int) : Option (Bool) := if (l0.length : Int) = (l1.length : Int) then (ossuarylaw0_SameInts.l0 k l0 l1 0) else (some false)
theorem ossuarylaw0_SameInts.mono_l : ∀ k, (∀ y0 y1 y2, LeO (ossuarylaw0_SameInts.l0 k y0 y1 y2) (ossuarylaw0_SameInts.l0 (k + 1) y0 y1 y2))
  | 0 => fun _ _ _ r h => by simp [ossuarylaw0_SameInts.l0] at h
  | k + 1 => by
    have ih0 := ossuarylaw0_SameInts.mono_l k
    · intro y0 y1 y2
      unfold ossuarylaw0_SameInts.l0
      repeat' first
      | (with_reducible exact ih0 _ _ _)
      | (with_reducible exact LeO.refl _)
      | (with_reducible exact LeO.none _)
      | (with_reducible refine LeO.ite ?_ ?_)
      | (with_reducible refine LeO.bind ?_ (fun _ => ?_))
      | exact ih0 _ _ _
      | exact LeO.none _
      | refine LeO.ite ?_ ?_
      | refine LeO.bind ?_ (fun _ => ?_)
theorem ossuarylaw0_SameInts.mono : ∀ a0 a1 k, LeO (ossuarylaw0_SameInts.f k a0 a1) (ossuarylaw0_SameInts.f (k + 1) a0 a1) := by
  intro a0 a1 k
  have ih0 := ossuarylaw0_SameInts.mono_l k
  unfold ossuarylaw0_SameInts.f
  repeat' first
      | (with_reducible exact ih0 _ _ _)
      | (with_reducible exact LeO.refl _)
      | (with_reducible exact LeO.none _)
      | (with_reducible refine LeO.ite ?_ ?_)
      | (with_reducible refine LeO.bind ?_ (fun _ => ?_))
      | exact ih0 _ _ _
      | exact LeO.none _
      | refine LeO.ite ?_ ?_
      | refine LeO.bind ?_ (fun _ => ?_)
set_option maxHeartbeats 8000000 in
set_option maxRecDepth 100000 in
theorem ossuarylaw0_SameInts.calls (k : Nat) (A0 : Option Addr) (c0 : Nat) (l0 : List Int) (A1 : Option Addr) (c1 : Nat) (l1 : List Int) (r : Bool) (w : World) (hr0 : Kd.C (Kd.int .i64) w A0 l0.length l0) (hc0 : l0.length ≤ c0) (hr1 : Kd.C (Kd.int .i64) w A1 l1.length l1) (hc1 : l1.length ≤ c1) (h : ossuarylaw0_SameInts.f k l0 l1 = some r) :
    Calls Try.prog 20 #[.slice A0 l0.length c0, .slice A1 l1.length c1] w fun e w' => e = .returned (.bool r) ∧ Drawn0 w w' := by
  have HR0 := Aside0.mk hr0
  have HC0 := Aside0.mk hc0
  clear hr0 hc0
  have HR1 := Aside0.mk hr1
  have HC1 := Aside0.mk hc1
  clear hr1 hc1
  have H : (if (l0.length : Int) = (l1.length : Int) then (ossuarylaw0_SameInts.l0 k l0 l1 0) else (some false)) = some r := h
  clear h
  by_cases c3 : (l0.length : Int) = (l1.length : Int)
  · rw [if_pos c3] at H
    have c3b0 : ((l0.length : Int) == (l1.length : Int)) = true := beq_iff_eq.mpr c3
    have c3b1 : ((l0.length : Int) != (l1.length : Int)) = false := bne_eq_false_iff_eq.mpr c3
    have c3b2 : (l0.length == l1.length) = true := by first | simpa using c3 | (simp at c3 ⊢; omega)
    clear c3
    have H' := Aside0.mk H
    clear H
    go_enter Try.func20, Try.ntmps20
    go_wp2
    repeat (go_quiet (fail); try go_wp2)
    go_loopg [5] k (fun kq v5 w' => ∃ (x5_1 : Int), v5 = .int .i64 x5_1 ∧ Aside0 (ossuarylaw0_SameInts.l0 kq l0 l1 x5_1 = some r) ∧ Aside0 (kq ≤ k) ∧ Drawn0 w w')
    case atStart => exact ⟨(0), (by first | rfl | (simp; done) | (simp [*]; done)), H', ⟨Nat.le_refl _⟩, by repeat (first | exact Drawn0.refl _ | apply Drawn0.step)⟩
    case round =>
      clear H'
      try clear c1
      try clear c2
      try clear p2
      try clear c3
      try clear c3b0
      try clear c3b1
      try clear c3b2
      obtain ⟨x5_1, rfl, HA, HK1, ⟨m1, rfl⟩⟩ := hrel
      cases gk with
      | zero => exact absurd HA.out (by simp [ossuarylaw0_SameInts.l0])
      | succ k1 =>
        have H := HA.out
        clear HA
        simp only [ossuarylaw0_SameInts.l0] at H
        by_cases c4 : x5_1 < (l0.length : Int)
        · rw [if_pos c4] at H
          have c4b0 : decide (x5_1 < (l0.length : Int)) = true := decide_eq_true c4
          clear c4
          by_cases c5 : 0 ≤ x5_1
          · rw [if_pos c5] at H
            have c5b0 : decide (0 ≤ x5_1) = true := decide_eq_true c5
            clear c5
            by_cases c6 : x5_1 < (l1.length : Int)
            · rw [if_pos c6] at H
              have c6b0 : decide (x5_1 < (l1.length : Int)) = true := decide_eq_true c6
              clear c6
              by_cases c7 : (rd l0 x5_1) = (rd l1 x5_1)
              · rw [if_pos c7] at H
                have c7b0 : ((rd l0 x5_1) == (rd l1 x5_1)) = true := beq_iff_eq.mpr c7
                have c7b1 : ((rd l0 x5_1) != (rd l1 x5_1)) = false := bne_eq_false_iff_eq.mpr c7
                clear c7
                have H' := Aside0.mk H
                clear H
                have p154 : 0 ≤ (x5_1 : Int) := of_decide_eq_true (by first | (with_reducible assumption) | assumption)
                have q154 : x5_1 < (l0.length : Int) := of_decide_eq_true (by first | (with_reducible assumption) | assumption)
                obtain ⟨ad154, e154, hx154_0⟩ := Kd.at_int HR0.out x5_1 p154 q154
                cases e154
                replace p154 := eq_true p154
                replace q154 := eq_true q154
                have p155 : 0 ≤ (x5_1 : Int) := of_decide_eq_true (by first | (with_reducible assumption) | assumption)
                have q155 : x5_1 < (l1.length : Int) := of_decide_eq_true (by first | (with_reducible assumption) | assumption)
                obtain ⟨ad155, e155, hx155_0⟩ := Kd.at_int HR1.out x5_1 p155 q155
                cases e155
                replace p155 := eq_true p155
                replace q155 := eq_true q155
                go_wp2
                repeat (go_quiet (fail); try go_wp2)
                go_roundg k1
                case measure => have := HK1.out; omega
                case rel => exact ⟨(wrap64 (x5_1 + 1)), (by first | rfl | (simp; done) | (simp [*]; done)), H', ⟨by have := HK1.out; omega⟩, by repeat (first | exact Drawn0.refl _ | apply Drawn0.step)⟩
              · rw [if_neg c7] at H
                have c7b0 : ((rd l0 x5_1) == (rd l1 x5_1)) = false := beq_eq_false_iff_ne.mpr c7
                have c7b1 : ((rd l0 x5_1) != (rd l1 x5_1)) = true := bne_iff_ne.mpr c7
                obtain rfl := Option.some.inj H
                have p154 : 0 ≤ (x5_1 : Int) := of_decide_eq_true (by first | (with_reducible assumption) | assumption)
                have q154 : x5_1 < (l0.length : Int) := of_decide_eq_true (by first | (with_reducible assumption) | assumption)
                obtain ⟨ad154, e154, hx154_0⟩ := Kd.at_int HR0.out x5_1 p154 q154
                cases e154
                replace p154 := eq_true p154
                replace q154 := eq_true q154
                have p155 : 0 ≤ (x5_1 : Int) := of_decide_eq_true (by first | (with_reducible assumption) | assumption)
                have q155 : x5_1 < (l1.length : Int) := of_decide_eq_true (by first | (with_reducible assumption) | assumption)
                obtain ⟨ad155, e155, hx155_0⟩ := Kd.at_int HR1.out x5_1 p155 q155
                cases e155
                replace p155 := eq_true p155
                replace q155 := eq_true q155
                go_wp2
                repeat (go_quiet (fail); try go_wp2)
                go_ret
                exact ⟨by first | rfl | (simp; done) | (simp [*]; done), by repeat (first | exact Drawn0.refl _ | apply Drawn0.step)⟩
            · rw [if_neg c6] at H
              exact absurd H (by simp)
          · rw [if_neg c5] at H
            exact absurd H (by simp)
        · rw [if_neg c4] at H
          have c4b0 : decide (x5_1 < (l0.length : Int)) = false := decide_eq_false c4
          clear c4
          obtain rfl := Option.some.inj H
          go_wp2
          repeat (go_quiet (fail); try go_wp2)
          go_ret
          exact ⟨by first | rfl | (simp; done) | (simp [*]; done), by repeat (first | exact Drawn0.refl _ | apply Drawn0.step)⟩
  · rw [if_neg c3] at H
    have c3b0 : ((l0.length : Int) == (l1.length : Int)) = false := beq_eq_false_iff_ne.mpr c3
    have c3b1 : ((l0.length : Int) != (l1.length : Int)) = true := bne_iff_ne.mpr c3
    have c3b2 : (l0.length == l1.length) = false := by first | simpa using c3 | (simp at c3 ⊢; omega)
    obtain rfl := Option.some.inj H
    go_enter Try.func20, Try.ntmps20
    go_wp2
    repeat (go_quiet (fail); try go_wp2)
    go_ret
    exact ⟨by first | rfl | (simp; done) | (simp [*]; done), by repeat (first | exact Drawn0.refl _ | apply Drawn0.step)⟩

/-! ### ossuarylaw0_SpoilInts: function 21 -/
def ossuarylaw0_SpoilInts.l0 : Nat → List Int → Int → Option (List Int)
  | 0, _, _ => none
  | k + 1, x0, x2 => if x2 < (x0.length : Int) then (if 0 ≤ x2 then (ossuarylaw0_SpoilInts.l0 k (x0.set (x2 : Int).toNat (wrap64 ((-9) - (rd x0 x2)))) (wrap64 (x2 + 1))) else (none)) else (some x0)
def ossuarylaw0_SpoilInts.f (k : Nat) (l0 : List Int) : Option (List Int) := ossuarylaw0_SpoilInts.l0 k l0 0
theorem ossuarylaw0_SpoilInts.mono_l : ∀ k, (∀ y0 y1, LeO (ossuarylaw0_SpoilInts.l0 k y0 y1) (ossuarylaw0_SpoilInts.l0 (k + 1) y0 y1))
  | 0 => fun _ _ r h => by simp [ossuarylaw0_SpoilInts.l0] at h
  | k + 1 => by
    have ih0 := ossuarylaw0_SpoilInts.mono_l k
    · intro y0 y1
      unfold ossuarylaw0_SpoilInts.l0
      repeat' first
      | (with_reducible exact ih0 _ _)
      | (with_reducible exact LeO.refl _)
      | (with_reducible exact LeO.none _)
      | (with_reducible refine LeO.ite ?_ ?_)
      | (with_reducible refine LeO.bind ?_ (fun _ => ?_))
      | exact ih0 _ _
      | exact LeO.none _
      | refine LeO.ite ?_ ?_
      | refine LeO.bind ?_ (fun _ => ?_)
theorem ossuarylaw0_SpoilInts.mono : ∀ a0 k, LeO (ossuarylaw0_SpoilInts.f k a0) (ossuarylaw0_SpoilInts.f (k + 1) a0) := by
  intro a0 k
  have ih0 := ossuarylaw0_SpoilInts.mono_l k
  unfold ossuarylaw0_SpoilInts.f
  repeat' first
      | (with_reducible exact ih0 _ _)
      | (with_reducible exact LeO.refl _)
      | (with_reducible exact LeO.none _)
      | (with_reducible refine LeO.ite ?_ ?_)
      | (with_reducible refine LeO.bind ?_ (fun _ => ?_))
      | exact ih0 _ _
      | exact LeO.none _
      | refine LeO.ite ?_ ?_
      | refine LeO.bind ?_ (fun _ => ?_)
set_option maxHeartbeats 8000000 in
set_option maxRecDepth 100000 in
theorem ossuarylaw0_SpoilInts.calls (k : Nat) (P0_ : Nat → Prop) (u9000_ : Value) (l0 : List Int) (r : List Int) (w0 w : World) (hB : Below w0.heap.size w0 w) (ho0 : Kd.R (Kd.int .i64) 3 w w0.heap.size P0_ u9000_ l0) (h : ossuarylaw0_SpoilInts.f k l0 = some r) :
    Calls Try.prog 21 #[u9000_] w fun e w' => e = .returned (.tuple #[]) ∧ Kd.R (Kd.int .i64) 3 w' w0.heap.size (fun k_ => (P0_ k_ ∨ w.heap.size ≤ k_)) u9000_ r ∧ Below w0.heap.size w0 w' ∧ Kept w w' (fun k_ => P0_ k_) := by
  have HO0 := Aside0.mk (show Kd.R (Kd.int .i64) 3 w w0.heap.size (fun k_ => (P0_ k_ ∨ w.heap.size ≤ k_)) u9000_ l0 from Kd.R_mono ho0 (fun k_ hk => (.inl hk)))
  have HK := Aside0.mk (Kept.refl w (fun k_ => P0_ k_))
  have HW0 := Aside0.mk hB.size
  have HB := Aside0.mk hB
  clear hB
  have H : (ossuarylaw0_SpoilInts.l0 k l0 0) = some r := h
  clear h
  have H' := Aside0.mk H
  clear H
  go_enter Try.func21, Try.ntmps21
  go_wp2
  go_loopg [2] k (fun kq v2 w' => ∃ (x0_1 : List Int) (x2_1 : Int), v2 = .int .i64 x2_1 ∧ Aside0 (ossuarylaw0_SpoilInts.l0 kq x0_1 x2_1 = some r) ∧ Aside0 (kq ≤ k) ∧ Aside0 (Kd.R (Kd.int .i64) 3 w' w0.heap.size (fun k_ => (P0_ k_ ∨ w.heap.size ≤ k_)) u9000_ x0_1) ∧ Aside0 (Kept w w' (fun k_ => P0_ k_)) ∧ Aside0 (Below w0.heap.size w0 w'))
  case atStart => exact ⟨(l0), (0), (by first | rfl | (simp; done) | (simp [*]; done)), H', ⟨Nat.le_refl _⟩, ⟨by (with_reducible repeat (first | apply Kd.R_alloc | apply Kd.R_drewN | apply Kd.R_drew)); exact HO0.out⟩, ⟨by repeat (first | (with_reducible first | exact HK.out | apply Kept.alloc | apply Kept.drewN | apply Kept.drew) | exact HK.out)⟩, ⟨by repeat (first | (with_reducible first | exact HB.out | apply below_alloc | apply pw_below_drewN | apply below_drew1) | exact HB.out)⟩⟩
  case round =>
    clear H'
    obtain ⟨x0_1, x2_1, rfl, HA, HK1, HO_0, HK, HB⟩ := hrel
    cases gk with
    | zero => exact absurd HA.out (by simp [ossuarylaw0_SpoilInts.l0])
    | succ k1 =>
      have H := HA.out
      clear HA
      simp only [ossuarylaw0_SpoilInts.l0] at H
      by_cases c2 : x2_1 < (x0_1.length : Int)
      · rw [if_pos c2] at H
        have c2b0 : decide (x2_1 < (x0_1.length : Int)) = true := decide_eq_true c2
        clear c2
        by_cases c3 : 0 ≤ x2_1
        · rw [if_pos c3] at H
          have c3b0 : decide (0 ≤ x2_1) = true := decide_eq_true c3
          clear c3
          obtain ⟨y157, hy157⟩ : ∃ y_ : List Int, y_ = (x0_1.set (x2_1 : Int).toNat (wrap64 ((-9) - (rd x0_1 x2_1)))) := ⟨_, rfl⟩
          replace H : (ossuarylaw0_SpoilInts.l0 k1 y157 (wrap64 (x2_1 + 1))) = some r := by first | (rw [hy157]; with_reducible exact H) | (have H2_ := (Option.bind_some _ _).symm.trans H; rw [hy157]; with_reducible exact H2_) | (have H2_ := (Option.bind_some _ _).symm.trans H; with_reducible exact H2_) | with_reducible exact H | (rw [hy157]; exact H) | exact H
          have Ny157 := Aside0.mk hy157
          clear hy157
          have H' := Aside0.mk H
          clear H
          obtain ⟨Ao5, co5, eo5⟩ := Kd.R_slice HO_0.out
          subst eo5
          have p156 : 0 ≤ (x2_1 : Int) := of_decide_eq_true (by first | (with_reducible assumption) | assumption)
          have q156 : x2_1 < (x0_1.length : Int) := of_decide_eq_true (by first | (with_reducible assumption) | assumption)
          obtain ⟨ad156, e156, hx156_0⟩ := Kd.at_int (Kd.R_reads' HO_0.out).2.2 x2_1 p156 q156
          cases e156
          replace p156 := eq_true p156
          replace q156 := eq_true q156
          have p4 : 0 ≤ (x2_1 : Int) := of_decide_eq_true (by first | (with_reducible assumption) | assumption)
          have q4 : (x2_1 : Int) < ((x0_1.length : Int) : Int) := of_decide_eq_true (by first | (with_reducible assumption) | assumption)
          obtain ⟨go4, co4, eo4, gb4, gl4, cl4, HG4⟩ := Kd.R_form HO_0.out (by omega)
          (first | cases eo4 | (injection eo4 with ea_ en_ ec_; (first | subst ea_ | (injection ea_ with ea_; subst ea_)); subst ec_; clear en_))
          have GB4 := Aside0.mk gb4
          have GG4 := Aside0.mk HG4
          clear gb4 gl4 HG4
          have HMgo4 := Aside0.mk (show (P0_ go4 ∨ w.heap.size ≤ go4) from (HO_0.out.1 _ rfl))
          (first | simp only [add_plain] at hx156_0 | skip)
          obtain ⟨hx4_0, hf4_0⟩ := Kd.R_celln 0 HO_0.out (x2_1 : Int) p4 q4
          replace p4 := eq_true p4
          replace q4 := eq_true q4
          have HP6 := Kd.R_putg HO_0.out (x2_1 : Int) (wrap64 ((-9) - (rd x0_1 x2_1)))
          go_wp2_with (first | ((with_reducible refine gate_store (t := 3) (p := 16) rfl ?_); refine store_event (t := 3) (p := 16) (v := ?vo_w7) (w1 := (wr.setCell ⟨go4, (x2_1 : Int).toNat, none⟩ (.int .i64 (wrap64 ((-9) - (rd x0_1 x2_1)))))) ?hg ?ho ?hn ?hr ?_; (case ho => rfl); (case hg => rfl); (case hn => rfl); (case hr => first | (go_simp; done) | (go_simp; rfl)); intro w7 hw; have hg : wr.grownBy w7 (some go4) := (by rw [hw]; exact HP6.2); have hp_ : Kd.R (Kd.int .i64) 3 w7 w0.heap.size (fun k_ => (P0_ k_ ∨ w.heap.size ≤ k_)) (.slice (some ⟨go4, 0, none⟩) x0_1.length co5) y157 := (by rw [hw, Ny157.out]; exact HP6.1); clear HP6; have n0_ := Aside0.mk (hp_); have n1_ := Aside0.mk ((by rw [hw]; exact below_set (HB.out) GB4.out : Below w0.heap.size w0 w7)); have n2_ := Aside0.mk (Kept.of_grown (S := (fun k_ => P0_ k_)) hg (by repeat (first | (with_reducible first | exact HK.out | apply Kept.alloc | apply Kept.drewN | apply Kept.drew) | exact HK.out)) (fun k_ e_ => (HO_0.out.1 k_ e_))); clear HO_0; clear HB; clear HK; have HO_0 := n0_; have HB := n1_; have HK := n2_; clear n0_ n1_ n2_; clear hg hw hp_))
          go_roundg k1
          case measure => have := HK1.out; omega
          case rel => exact ⟨(y157), (wrap64 (x2_1 + 1)), (by first | rfl | (simp; done) | (simp [*]; done)), H', ⟨by have := HK1.out; omega⟩, ⟨by (with_reducible repeat (first | apply Kd.R_alloc | apply Kd.R_drewN | apply Kd.R_drew)); exact HO_0.out⟩, ⟨by repeat (first | (with_reducible first | exact HK.out | apply Kept.alloc | apply Kept.drewN | apply Kept.drew) | exact HK.out)⟩, ⟨by repeat (first | (with_reducible first | exact HB.out | apply below_alloc | apply pw_below_drewN | apply below_drew1) | exact HB.out)⟩⟩
        · rw [if_neg c3] at H
          exact absurd H (by simp)
      · rw [if_neg c2] at H
        have c2b0 : decide (x2_1 < (x0_1.length : Int)) = false := decide_eq_false c2
        clear c2
        obtain rfl := Option.some.inj H
        obtain ⟨Ao8, co8, eo8⟩ := Kd.R_slice HO_0.out
        subst eo8
        go_wp2
        first | go_end0 | ((try simp only [Exit.inBlock, Exit.then]); refine bodyPost_ret (results_none rfl _ _ _) rfl ?_)
        exact ⟨by first | rfl | (simp [errW_none, errW_some] <;> rfl) | (simp [*, errW_none, errW_some] <;> rfl), by (with_reducible repeat (first | apply Kd.R_alloc | apply Kd.R_drewN | apply Kd.R_drew)); exact HO_0.out, by repeat (first | (with_reducible first | exact HB.out | apply below_alloc | apply pw_below_drewN | apply below_drew1) | exact HB.out), by repeat (first | (with_reducible first | exact HK.out | apply Kept.alloc | apply Kept.drewN | apply Kept.drew) | exact HK.out)⟩

/-! ### ossuarylaw0_KeptInts: function 22 (by hand) -/
def ossuarylaw0_KeptInts.f (k : Nat) (l0 : List Int) (l1 : List Int) : Option (Bool) := ossuarylaw0_SameInts.f k l0 l1
theorem ossuarylaw0_KeptInts.mono : ∀ a0 a1 k, LeO (ossuarylaw0_KeptInts.f k a0 a1) (ossuarylaw0_KeptInts.f (k + 1) a0 a1) := fun a0 a1 k => ossuarylaw0_SameInts.mono a0 a1 k
theorem same_len_ {k : Nat} {l0 l1 : List Int} (h : ossuarylaw0_SameInts.f k l0 l1 = some true) : l1.length = l0.length := by
  unfold ossuarylaw0_SameInts.f at h
  split at h
  · omega
  · cases h
set_option maxHeartbeats 8000000 in
set_option maxRecDepth 100000 in
theorem ossuarylaw0_KeptInts.calls (k : Nat) (A0 : Option Addr) (c0 : Nat) (l0 : List Int) (A1 : Option Addr) (c1 : Nat) (l1 : List Int) (r : Bool) (w : World) (hr0 : CL w A0 c0 l0) (hc0 : l0.length ≤ c0) (hr1 : Kd.C (Kd.int .i64) w A1 l1.length l1) (hc1 : l1.length ≤ c1) (h : ossuarylaw0_KeptInts.f k l0 l1 = some r) :
    Calls Try.prog 22 #[.slice A0 l0.length c0, .slice A1 l1.length c1] w fun e w' => e = .returned (.bool r) ∧ Drawn0 w w' := by
  have HR0 := Aside0.mk hr0
  have HR0c := Aside0.mk (CL.short hr0)
  have HC0 := Aside0.mk hc0
  have HR1 := Aside0.mk hr1
  have HC1 := Aside0.mk hc1
  have hl : l0.length + 2 ≤ 9223372036854775807 := by have := hr0.1.2.1; rw [marks_len] at this; omega
  have A_ := Aside0.mk (show ossuarylaw0_SameInts.f k l0 l1 = some r from h)
  have hm := hr0.2
  rw [marks_len] at hm
  clear hr0 hc0 hr1 hc1 h
  obtain ⟨ji3, hji3⟩ : ∃ j_ : Int, (wrap64 ((l0.length : Int) + 2)) = j_ := ⟨_, rfl⟩
  have hji3w : (IntKind.i64.wrap ((l0.length : Int) + 2)) = ji3 := (i64_w _).trans hji3
  have e3 : ji3 = (l0.length : Int) + 2 := by rw [← hji3]; unfold wrap64; omega
  have hcut : ∀ W : World, (Instr.slice 35 (.slice A0 l0.length c0) none (some (.int .i64 ji3)) none).run Try.prog W = .ok (.slice A0 (marks_ l0).length c0) W := by
    intro W
    obtain ⟨i0, hi0, _, hsz0, _⟩ := info_parts info3
    have hel : Try.prog.elem 35 = 3 := by simp [Program.elem, Try.underlying35]
    have hu : Try.prog.underlying 35 = some (.slice (Try.prog.elem 35)) := by rw [hel]; exact Try.underlying35
    have ha : (A0.map fun x => x.add 0) = A0 := by cases A0 <;> simp [Addr.add]
    rw [run_slice_h W 35 A0 l0.length c0 hu .i64 ji3 (by omega) (by omega), hel, marks_len, e3]
    simp [sizeOf, typeInfo, hi0, sliced, Result.andThen, ha]
    omega
  cases r with
  | true =>
    have e1 := same_len_ A_.out
    obtain ⟨ji11, hji11⟩ : ∃ j_ : Int, (wrap64 ((l1.length : Int) + 1)) = j_ := ⟨_, rfl⟩
    have hji11w : (IntKind.i64.wrap ((l1.length : Int) + 1)) = ji11 := (i64_w _).trans hji11
    have e4 : ji11 = (l0.length : Int) + 1 := by rw [← hji11, e1]; unfold wrap64; omega
    have q1 : 0 ≤ (l1.length : Int) := by omega
    have q2 : (l1.length : Int) < (marks_ l0).length := by rw [marks_len]; omega
    have q3 : 0 ≤ ji11 := by omega
    have q4 : ji11 < (marks_ l0).length := by rw [marks_len]; omega
    have f1 : rd (marks_ l0) (l1.length : Int) = -7777 := by rw [e1]; simp [rd, marks_]
    have f2 : rd (marks_ l0) ji11 = -8888 := by rw [e4]; exact rd_mark2 l0
    have q5b := eq_true (show 0 ≤ ji3 by omega)
    clear e1 e3 e4 hl hm
    go_enter Try.func22, Try.ntmps22
    go_wp2_with (first | ((with_reducible refine gate_callee (f := 20) rfl ?_); refine goesL_ (some 13) rfl rfl Try.func20 (by kernel_rfl) rfl #[.slice A0 l0.length c0, .slice A1 l1.length c1] rfl (by (try simp only [List.map_toArray, List.map_cons, List.map_nil]); first | done | rfl | (simp only [List.length_drop, List.length_take]; rfl)) ?_; (with_reducible refine (ossuarylaw0_SameInts.calls k _ _ l0 _ _ l1 true _ ?side1 ?side2 ?side3 ?side4 A_.out).mono ?_); (case side1 => repeat (first | exact HR0c.out | (with_reducible refine Kd.C_alloc ?_ _) | (with_reducible refine Kd.C_drewN ?_ _) | (with_reducible refine Kd.C_drew ?_))); (case side2 => exact HC0.out); (case side3 => repeat (first | exact HR1.out | (with_reducible refine Kd.C_alloc ?_ _) | (with_reducible refine Kd.C_drewN ?_ _) | (with_reducible refine Kd.C_drew ?_))); (case side4 => exact HC1.out); rintro e w' ⟨rfl, ⟨nd, rfl⟩⟩; refine ⟨_, rfl, ?_⟩; obtain ⟨ad, e228, hx1⟩ := Kd.at_int HR0.out.1 (l1.length : Int) q1 q2; cases e228; obtain ⟨ad2_, e229, hx2⟩ := Kd.at_int HR0.out.1 ji11 q3 q4; obtain rfl : ad = ad2_ := (by injection e229); rw [f1] at hx1; rw [f2] at hx2; (try simp only [Go.IntWalk.toNatUp] at hx1); replace q1 := eq_true q1; replace q2 := eq_true q2; replace q3 := eq_true q3; replace q4 := eq_true q4))
    go_ret
    exact ⟨by first | rfl | (simp; done) | (simp [*]; done), by repeat (first | exact Drawn0.refl _ | apply Drawn0.step)⟩
  | false =>
    have q5b := eq_true (show 0 ≤ ji3 by omega)
    clear e3 hl hm
    go_enter Try.func22, Try.ntmps22
    go_wp2_with (first | ((with_reducible refine gate_callee (f := 20) rfl ?_); refine goesL_ (some 13) rfl rfl Try.func20 (by kernel_rfl) rfl #[.slice A0 l0.length c0, .slice A1 l1.length c1] rfl (by (try simp only [List.map_toArray, List.map_cons, List.map_nil]); first | done | rfl | (simp only [List.length_drop, List.length_take]; rfl)) ?_; (with_reducible refine (ossuarylaw0_SameInts.calls k _ _ l0 _ _ l1 false _ ?side1 ?side2 ?side3 ?side4 A_.out).mono ?_); (case side1 => repeat (first | exact HR0c.out | (with_reducible refine Kd.C_alloc ?_ _) | (with_reducible refine Kd.C_drewN ?_ _) | (with_reducible refine Kd.C_drew ?_))); (case side2 => exact HC0.out); (case side3 => repeat (first | exact HR1.out | (with_reducible refine Kd.C_alloc ?_ _) | (with_reducible refine Kd.C_drewN ?_ _) | (with_reducible refine Kd.C_drew ?_))); (case side4 => exact HC1.out); rintro e w' ⟨rfl, ⟨nd, rfl⟩⟩; refine ⟨_, rfl, ?_⟩))
    go_ret
    exact ⟨by first | rfl | (simp; done) | (simp [*]; done), by repeat (first | exact Drawn0.refl _ | apply Drawn0.step)⟩

/-! ### ossuarylaw10_awake: function 23 -/
def ossuarylaw10_awake.f (k : Nat)  : Option (Bool) := (tree_Root.f k (([5] : List Int))).bind fun bt165 => ((tree_Root.f k (([1, 2, 3] : List Int))).bind fun bt170 => ((tree_Root.f k ([] : List Int)).bind fun bt172 => ((tree_Root.f k (([(-1)] : List Int))).bind fun bt177 => ((tree_Leaves.f k (⟨#[97, 98, 99, 100, 101, 102, 103, 104, 105]⟩ : ByteArray)).bind fun t179 => (if bt165.1 = 5 then ((ossuarylaw0_Num.f bt165.2).bind fun t182 => (if t182 = 0 then ((seal_Pair.f 1 2).bind fun t183 => ((seal_Pair.f t183 3).bind fun t184 => (if bt170.1 = t184 then ((ossuarylaw0_Num.f bt170.2).bind fun t185 => (if t185 = 0 then ((ossuarylaw0_Num.f bt172.2).bind fun t186 => (if t186 = 1000 then ((ossuarylaw0_Num.f bt177.2).bind fun t187 => (if t187 = 1000 then ((seal_Of.f k (⟨#[97, 98, 99, 100, 101, 102, 103, 104]⟩ : ByteArray)).bind fun t188 => ((seal_Of.f k (⟨#[105]⟩ : ByteArray)).bind fun t189 => ((ossuarylaw0_SameInts.f k t179 (([t188, t189] : List Int))).bind fun t193 => (some t193)))) else (some false))) else (some false))) else (some false))) else (some false)))) else (some false))) else (some false))))))
theorem ossuarylaw10_awake.mono : ∀ k, LeO (ossuarylaw10_awake.f k ) (ossuarylaw10_awake.f (k + 1) ) := by
  intro  k
  unfold ossuarylaw10_awake.f
  repeat' first
      | (with_reducible exact ossuarylaw0_SameInts.mono _ _ _)
      | (with_reducible exact seal_Of.mono _ _)
      | (with_reducible exact tree_Leaves.mono _ _)
      | (with_reducible exact tree_Root.mono _ _)
      | (with_reducible exact LeO.refl _)
      | (with_reducible exact LeO.none _)
      | (with_reducible refine LeO.ite ?_ ?_)
      | (with_reducible refine LeO.bind ?_ (fun _ => ?_))
      | exact ossuarylaw0_SameInts.mono _ _ _
      | exact seal_Of.mono _ _
      | exact tree_Leaves.mono _ _
      | exact tree_Root.mono _ _
      | exact LeO.none _
      | refine LeO.ite ?_ ?_
      | refine LeO.bind ?_ (fun _ => ?_)
set_option maxHeartbeats 8000000 in
set_option maxRecDepth 100000 in
theorem ossuarylaw10_awake.calls (k : Nat)  (r : Bool) (w : World) (h : ossuarylaw10_awake.f k  = some r) (hr_ : r = true := by rfl) :
    Calls Try.prog 23 #[] w fun e w' => e = .returned (.bool r) ∧ Below w.heap.size w w' := by
  have HRT := Aside0.mk hr_
  clear hr_
  have HB := Aside0.mk (Below.refl w.heap.size w)
  have H : ((tree_Root.f k (([5] : List Int))).bind fun bt165 => ((tree_Root.f k (([1, 2, 3] : List Int))).bind fun bt170 => ((tree_Root.f k ([] : List Int)).bind fun bt172 => ((tree_Root.f k (([(-1)] : List Int))).bind fun bt177 => ((tree_Leaves.f k (⟨#[97, 98, 99, 100, 101, 102, 103, 104, 105]⟩ : ByteArray)).bind fun t179 => (if bt165.1 = 5 then ((ossuarylaw0_Num.f bt165.2).bind fun t182 => (if t182 = 0 then ((seal_Pair.f 1 2).bind fun t183 => ((seal_Pair.f t183 3).bind fun t184 => (if bt170.1 = t184 then ((ossuarylaw0_Num.f bt170.2).bind fun t185 => (if t185 = 0 then ((ossuarylaw0_Num.f bt172.2).bind fun t186 => (if t186 = 1000 then ((ossuarylaw0_Num.f bt177.2).bind fun t187 => (if t187 = 1000 then ((seal_Of.f k (⟨#[97, 98, 99, 100, 101, 102, 103, 104]⟩ : ByteArray)).bind fun t188 => ((seal_Of.f k (⟨#[105]⟩ : ByteArray)).bind fun t189 => ((ossuarylaw0_SameInts.f k t179 (([t188, t189] : List Int))).bind fun t193 => (some t193)))) else (some false))) else (some false))) else (some false))) else (some false)))) else (some false))) else (some false))))))) = some r := h
  clear h
  obtain ⟨y162, hy162⟩ : ∃ y_ : List Int, y_ = (([5] : List Int)) := ⟨_, rfl⟩
  replace H : ((tree_Root.f k y162).bind fun bt165 => ((tree_Root.f k (([1, 2, 3] : List Int))).bind fun bt170 => ((tree_Root.f k ([] : List Int)).bind fun bt172 => ((tree_Root.f k (([(-1)] : List Int))).bind fun bt177 => ((tree_Leaves.f k (⟨#[97, 98, 99, 100, 101, 102, 103, 104, 105]⟩ : ByteArray)).bind fun t179 => (if bt165.1 = 5 then ((ossuarylaw0_Num.f bt165.2).bind fun t182 => (if t182 = 0 then ((seal_Pair.f 1 2).bind fun t183 => ((seal_Pair.f t183 3).bind fun t184 => (if bt170.1 = t184 then ((ossuarylaw0_Num.f bt170.2).bind fun t185 => (if t185 = 0 then ((ossuarylaw0_Num.f bt172.2).bind fun t186 => (if t186 = 1000 then ((ossuarylaw0_Num.f bt177.2).bind fun t187 => (if t187 = 1000 then ((seal_Of.f k (⟨#[97, 98, 99, 100, 101, 102, 103, 104]⟩ : ByteArray)).bind fun t188 => ((seal_Of.f k (⟨#[105]⟩ : ByteArray)).bind fun t189 => ((ossuarylaw0_SameInts.f k t179 (([t188, t189] : List Int))).bind fun t193 => (some t193)))) else (some false))) else (some false))) else (some false))) else (some false)))) else (some false))) else (some false))))))) = some r := by first | (rw [hy162]; with_reducible exact H) | (have H2_ := (Option.bind_some _ _).symm.trans H; rw [hy162]; with_reducible exact H2_) | (have H2_ := (Option.bind_some _ _).symm.trans H; with_reducible exact H2_) | with_reducible exact H | (rw [hy162]; exact H) | exact H
  have Ny162 := Aside0.mk hy162
  clear hy162
  replace H := Option.bind_eq_some_iff.mp H
  obtain ⟨⟨t165, t166⟩, A10, H⟩ := H
  replace H : ((tree_Root.f k (([1, 2, 3] : List Int))).bind fun bt170 => ((tree_Root.f k ([] : List Int)).bind fun bt172 => ((tree_Root.f k (([(-1)] : List Int))).bind fun bt177 => ((tree_Leaves.f k (⟨#[97, 98, 99, 100, 101, 102, 103, 104, 105]⟩ : ByteArray)).bind fun t179 => (if t165 = 5 then ((ossuarylaw0_Num.f t166).bind fun t182 => (if t182 = 0 then ((seal_Pair.f 1 2).bind fun t183 => ((seal_Pair.f t183 3).bind fun t184 => (if bt170.1 = t184 then ((ossuarylaw0_Num.f bt170.2).bind fun t185 => (if t185 = 0 then ((ossuarylaw0_Num.f bt172.2).bind fun t186 => (if t186 = 1000 then ((ossuarylaw0_Num.f bt177.2).bind fun t187 => (if t187 = 1000 then ((seal_Of.f k (⟨#[97, 98, 99, 100, 101, 102, 103, 104]⟩ : ByteArray)).bind fun t188 => ((seal_Of.f k (⟨#[105]⟩ : ByteArray)).bind fun t189 => ((ossuarylaw0_SameInts.f k t179 (([t188, t189] : List Int))).bind fun t193 => (some t193)))) else (some false))) else (some false))) else (some false))) else (some false)))) else (some false))) else (some false)))))) = some r := H
  have A1 := Aside0.mk A10
  clear A10
  obtain ⟨y167, hy167⟩ : ∃ y_ : List Int, y_ = (([1, 2, 3] : List Int)) := ⟨_, rfl⟩
  replace H : ((tree_Root.f k y167).bind fun bt170 => ((tree_Root.f k ([] : List Int)).bind fun bt172 => ((tree_Root.f k (([(-1)] : List Int))).bind fun bt177 => ((tree_Leaves.f k (⟨#[97, 98, 99, 100, 101, 102, 103, 104, 105]⟩ : ByteArray)).bind fun t179 => (if t165 = 5 then ((ossuarylaw0_Num.f t166).bind fun t182 => (if t182 = 0 then ((seal_Pair.f 1 2).bind fun t183 => ((seal_Pair.f t183 3).bind fun t184 => (if bt170.1 = t184 then ((ossuarylaw0_Num.f bt170.2).bind fun t185 => (if t185 = 0 then ((ossuarylaw0_Num.f bt172.2).bind fun t186 => (if t186 = 1000 then ((ossuarylaw0_Num.f bt177.2).bind fun t187 => (if t187 = 1000 then ((seal_Of.f k (⟨#[97, 98, 99, 100, 101, 102, 103, 104]⟩ : ByteArray)).bind fun t188 => ((seal_Of.f k (⟨#[105]⟩ : ByteArray)).bind fun t189 => ((ossuarylaw0_SameInts.f k t179 (([t188, t189] : List Int))).bind fun t193 => (some t193)))) else (some false))) else (some false))) else (some false))) else (some false)))) else (some false))) else (some false)))))) = some r := by first | (rw [hy167]; with_reducible exact H) | (have H2_ := (Option.bind_some _ _).symm.trans H; rw [hy167]; with_reducible exact H2_) | (have H2_ := (Option.bind_some _ _).symm.trans H; with_reducible exact H2_) | with_reducible exact H | (rw [hy167]; exact H) | exact H
  have Ny167 := Aside0.mk hy167
  clear hy167
  replace H := Option.bind_eq_some_iff.mp H
  obtain ⟨⟨t170, t171⟩, A20, H⟩ := H
  replace H : ((tree_Root.f k ([] : List Int)).bind fun bt172 => ((tree_Root.f k (([(-1)] : List Int))).bind fun bt177 => ((tree_Leaves.f k (⟨#[97, 98, 99, 100, 101, 102, 103, 104, 105]⟩ : ByteArray)).bind fun t179 => (if t165 = 5 then ((ossuarylaw0_Num.f t166).bind fun t182 => (if t182 = 0 then ((seal_Pair.f 1 2).bind fun t183 => ((seal_Pair.f t183 3).bind fun t184 => (if t170 = t184 then ((ossuarylaw0_Num.f t171).bind fun t185 => (if t185 = 0 then ((ossuarylaw0_Num.f bt172.2).bind fun t186 => (if t186 = 1000 then ((ossuarylaw0_Num.f bt177.2).bind fun t187 => (if t187 = 1000 then ((seal_Of.f k (⟨#[97, 98, 99, 100, 101, 102, 103, 104]⟩ : ByteArray)).bind fun t188 => ((seal_Of.f k (⟨#[105]⟩ : ByteArray)).bind fun t189 => ((ossuarylaw0_SameInts.f k t179 (([t188, t189] : List Int))).bind fun t193 => (some t193)))) else (some false))) else (some false))) else (some false))) else (some false)))) else (some false))) else (some false))))) = some r := H
  have A2 := Aside0.mk A20
  clear A20
  replace H := Option.bind_eq_some_iff.mp H
  obtain ⟨⟨t172, t173⟩, A30, H⟩ := H
  replace H : ((tree_Root.f k (([(-1)] : List Int))).bind fun bt177 => ((tree_Leaves.f k (⟨#[97, 98, 99, 100, 101, 102, 103, 104, 105]⟩ : ByteArray)).bind fun t179 => (if t165 = 5 then ((ossuarylaw0_Num.f t166).bind fun t182 => (if t182 = 0 then ((seal_Pair.f 1 2).bind fun t183 => ((seal_Pair.f t183 3).bind fun t184 => (if t170 = t184 then ((ossuarylaw0_Num.f t171).bind fun t185 => (if t185 = 0 then ((ossuarylaw0_Num.f t173).bind fun t186 => (if t186 = 1000 then ((ossuarylaw0_Num.f bt177.2).bind fun t187 => (if t187 = 1000 then ((seal_Of.f k (⟨#[97, 98, 99, 100, 101, 102, 103, 104]⟩ : ByteArray)).bind fun t188 => ((seal_Of.f k (⟨#[105]⟩ : ByteArray)).bind fun t189 => ((ossuarylaw0_SameInts.f k t179 (([t188, t189] : List Int))).bind fun t193 => (some t193)))) else (some false))) else (some false))) else (some false))) else (some false)))) else (some false))) else (some false)))) = some r := H
  have A3 := Aside0.mk A30
  clear A30
  obtain ⟨y174, hy174⟩ : ∃ y_ : List Int, y_ = (([(-1)] : List Int)) := ⟨_, rfl⟩
  replace H : ((tree_Root.f k y174).bind fun bt177 => ((tree_Leaves.f k (⟨#[97, 98, 99, 100, 101, 102, 103, 104, 105]⟩ : ByteArray)).bind fun t179 => (if t165 = 5 then ((ossuarylaw0_Num.f t166).bind fun t182 => (if t182 = 0 then ((seal_Pair.f 1 2).bind fun t183 => ((seal_Pair.f t183 3).bind fun t184 => (if t170 = t184 then ((ossuarylaw0_Num.f t171).bind fun t185 => (if t185 = 0 then ((ossuarylaw0_Num.f t173).bind fun t186 => (if t186 = 1000 then ((ossuarylaw0_Num.f bt177.2).bind fun t187 => (if t187 = 1000 then ((seal_Of.f k (⟨#[97, 98, 99, 100, 101, 102, 103, 104]⟩ : ByteArray)).bind fun t188 => ((seal_Of.f k (⟨#[105]⟩ : ByteArray)).bind fun t189 => ((ossuarylaw0_SameInts.f k t179 (([t188, t189] : List Int))).bind fun t193 => (some t193)))) else (some false))) else (some false))) else (some false))) else (some false)))) else (some false))) else (some false)))) = some r := by first | (rw [hy174]; with_reducible exact H) | (have H2_ := (Option.bind_some _ _).symm.trans H; rw [hy174]; with_reducible exact H2_) | (have H2_ := (Option.bind_some _ _).symm.trans H; with_reducible exact H2_) | with_reducible exact H | (rw [hy174]; exact H) | exact H
  have Ny174 := Aside0.mk hy174
  clear hy174
  replace H := Option.bind_eq_some_iff.mp H
  obtain ⟨⟨t177, t178⟩, A40, H⟩ := H
  replace H : ((tree_Leaves.f k (⟨#[97, 98, 99, 100, 101, 102, 103, 104, 105]⟩ : ByteArray)).bind fun t179 => (if t165 = 5 then ((ossuarylaw0_Num.f t166).bind fun t182 => (if t182 = 0 then ((seal_Pair.f 1 2).bind fun t183 => ((seal_Pair.f t183 3).bind fun t184 => (if t170 = t184 then ((ossuarylaw0_Num.f t171).bind fun t185 => (if t185 = 0 then ((ossuarylaw0_Num.f t173).bind fun t186 => (if t186 = 1000 then ((ossuarylaw0_Num.f t178).bind fun t187 => (if t187 = 1000 then ((seal_Of.f k (⟨#[97, 98, 99, 100, 101, 102, 103, 104]⟩ : ByteArray)).bind fun t188 => ((seal_Of.f k (⟨#[105]⟩ : ByteArray)).bind fun t189 => ((ossuarylaw0_SameInts.f k t179 (([t188, t189] : List Int))).bind fun t193 => (some t193)))) else (some false))) else (some false))) else (some false))) else (some false)))) else (some false))) else (some false))) = some r := H
  have A4 := Aside0.mk A40
  clear A40
  replace H := Option.bind_eq_some_iff.mp H
  obtain ⟨t179, A50, H⟩ := H
  replace H : (if t165 = 5 then ((ossuarylaw0_Num.f t166).bind fun t182 => (if t182 = 0 then ((seal_Pair.f 1 2).bind fun t183 => ((seal_Pair.f t183 3).bind fun t184 => (if t170 = t184 then ((ossuarylaw0_Num.f t171).bind fun t185 => (if t185 = 0 then ((ossuarylaw0_Num.f t173).bind fun t186 => (if t186 = 1000 then ((ossuarylaw0_Num.f t178).bind fun t187 => (if t187 = 1000 then ((seal_Of.f k (⟨#[97, 98, 99, 100, 101, 102, 103, 104]⟩ : ByteArray)).bind fun t188 => ((seal_Of.f k (⟨#[105]⟩ : ByteArray)).bind fun t189 => ((ossuarylaw0_SameInts.f k t179 (([t188, t189] : List Int))).bind fun t193 => (some t193)))) else (some false))) else (some false))) else (some false))) else (some false)))) else (some false))) else (some false)) = some r := H
  have A5 := Aside0.mk A50
  clear A50
  by_cases c6 : t165 = 5
  · rw [if_pos c6] at H
    have c6b0 : (t165 == 5) = true := beq_iff_eq.mpr c6
    have c6b1 : (t165 != 5) = false := bne_eq_false_iff_eq.mpr c6
    clear c6
    replace H := Option.bind_eq_some_iff.mp H
    obtain ⟨t182, A70, H⟩ := H
    replace H : (if t182 = 0 then ((seal_Pair.f 1 2).bind fun t183 => ((seal_Pair.f t183 3).bind fun t184 => (if t170 = t184 then ((ossuarylaw0_Num.f t171).bind fun t185 => (if t185 = 0 then ((ossuarylaw0_Num.f t173).bind fun t186 => (if t186 = 1000 then ((ossuarylaw0_Num.f t178).bind fun t187 => (if t187 = 1000 then ((seal_Of.f k (⟨#[97, 98, 99, 100, 101, 102, 103, 104]⟩ : ByteArray)).bind fun t188 => ((seal_Of.f k (⟨#[105]⟩ : ByteArray)).bind fun t189 => ((ossuarylaw0_SameInts.f k t179 (([t188, t189] : List Int))).bind fun t193 => (some t193)))) else (some false))) else (some false))) else (some false))) else (some false)))) else (some false)) = some r := H
    have A7 := Aside0.mk A70
    clear A70
    by_cases c8 : t182 = 0
    · rw [if_pos c8] at H
      have c8b0 : (t182 == 0) = true := beq_iff_eq.mpr c8
      have c8b1 : (t182 != 0) = false := bne_eq_false_iff_eq.mpr c8
      clear c8
      replace H := Option.bind_eq_some_iff.mp H
      obtain ⟨t183, A90, H⟩ := H
      replace H : ((seal_Pair.f t183 3).bind fun t184 => (if t170 = t184 then ((ossuarylaw0_Num.f t171).bind fun t185 => (if t185 = 0 then ((ossuarylaw0_Num.f t173).bind fun t186 => (if t186 = 1000 then ((ossuarylaw0_Num.f t178).bind fun t187 => (if t187 = 1000 then ((seal_Of.f k (⟨#[97, 98, 99, 100, 101, 102, 103, 104]⟩ : ByteArray)).bind fun t188 => ((seal_Of.f k (⟨#[105]⟩ : ByteArray)).bind fun t189 => ((ossuarylaw0_SameInts.f k t179 (([t188, t189] : List Int))).bind fun t193 => (some t193)))) else (some false))) else (some false))) else (some false))) else (some false))) = some r := H
      have A9 := Aside0.mk A90
      clear A90
      replace H := Option.bind_eq_some_iff.mp H
      obtain ⟨t184, A100, H⟩ := H
      replace H : (if t170 = t184 then ((ossuarylaw0_Num.f t171).bind fun t185 => (if t185 = 0 then ((ossuarylaw0_Num.f t173).bind fun t186 => (if t186 = 1000 then ((ossuarylaw0_Num.f t178).bind fun t187 => (if t187 = 1000 then ((seal_Of.f k (⟨#[97, 98, 99, 100, 101, 102, 103, 104]⟩ : ByteArray)).bind fun t188 => ((seal_Of.f k (⟨#[105]⟩ : ByteArray)).bind fun t189 => ((ossuarylaw0_SameInts.f k t179 (([t188, t189] : List Int))).bind fun t193 => (some t193)))) else (some false))) else (some false))) else (some false))) else (some false)) = some r := H
      have A10 := Aside0.mk A100
      clear A100
      by_cases c11 : t170 = t184
      · rw [if_pos c11] at H
        have c11b0 : (t170 == t184) = true := beq_iff_eq.mpr c11
        have c11b1 : (t170 != t184) = false := bne_eq_false_iff_eq.mpr c11
        clear c11
        replace H := Option.bind_eq_some_iff.mp H
        obtain ⟨t185, A120, H⟩ := H
        replace H : (if t185 = 0 then ((ossuarylaw0_Num.f t173).bind fun t186 => (if t186 = 1000 then ((ossuarylaw0_Num.f t178).bind fun t187 => (if t187 = 1000 then ((seal_Of.f k (⟨#[97, 98, 99, 100, 101, 102, 103, 104]⟩ : ByteArray)).bind fun t188 => ((seal_Of.f k (⟨#[105]⟩ : ByteArray)).bind fun t189 => ((ossuarylaw0_SameInts.f k t179 (([t188, t189] : List Int))).bind fun t193 => (some t193)))) else (some false))) else (some false))) else (some false)) = some r := H
        have A12 := Aside0.mk A120
        clear A120
        by_cases c13 : t185 = 0
        · rw [if_pos c13] at H
          have c13b0 : (t185 == 0) = true := beq_iff_eq.mpr c13
          have c13b1 : (t185 != 0) = false := bne_eq_false_iff_eq.mpr c13
          clear c13
          replace H := Option.bind_eq_some_iff.mp H
          obtain ⟨t186, A140, H⟩ := H
          replace H : (if t186 = 1000 then ((ossuarylaw0_Num.f t178).bind fun t187 => (if t187 = 1000 then ((seal_Of.f k (⟨#[97, 98, 99, 100, 101, 102, 103, 104]⟩ : ByteArray)).bind fun t188 => ((seal_Of.f k (⟨#[105]⟩ : ByteArray)).bind fun t189 => ((ossuarylaw0_SameInts.f k t179 (([t188, t189] : List Int))).bind fun t193 => (some t193)))) else (some false))) else (some false)) = some r := H
          have A14 := Aside0.mk A140
          clear A140
          by_cases c15 : t186 = 1000
          · rw [if_pos c15] at H
            have c15b0 : (t186 == 1000) = true := beq_iff_eq.mpr c15
            have c15b1 : (t186 != 1000) = false := bne_eq_false_iff_eq.mpr c15
            clear c15
            replace H := Option.bind_eq_some_iff.mp H
            obtain ⟨t187, A160, H⟩ := H
            replace H : (if t187 = 1000 then ((seal_Of.f k (⟨#[97, 98, 99, 100, 101, 102, 103, 104]⟩ : ByteArray)).bind fun t188 => ((seal_Of.f k (⟨#[105]⟩ : ByteArray)).bind fun t189 => ((ossuarylaw0_SameInts.f k t179 (([t188, t189] : List Int))).bind fun t193 => (some t193)))) else (some false)) = some r := H
            have A16 := Aside0.mk A160
            clear A160
            by_cases c17 : t187 = 1000
            · rw [if_pos c17] at H
              have c17b0 : (t187 == 1000) = true := beq_iff_eq.mpr c17
              have c17b1 : (t187 != 1000) = false := bne_eq_false_iff_eq.mpr c17
              clear c17
              replace H := Option.bind_eq_some_iff.mp H
              obtain ⟨t188, A180, H⟩ := H
              replace H : ((seal_Of.f k (⟨#[105]⟩ : ByteArray)).bind fun t189 => ((ossuarylaw0_SameInts.f k t179 (([t188, t189] : List Int))).bind fun t193 => (some t193))) = some r := H
              have A18 := Aside0.mk A180
              clear A180
              replace H := Option.bind_eq_some_iff.mp H
              obtain ⟨t189, A190, H⟩ := H
              replace H : ((ossuarylaw0_SameInts.f k t179 (([t188, t189] : List Int))).bind fun t193 => (some t193)) = some r := H
              have A19 := Aside0.mk A190
              clear A190
              obtain ⟨y190, hy190⟩ : ∃ y_ : List Int, y_ = (([t188, t189] : List Int)) := ⟨_, rfl⟩
              replace H : ((ossuarylaw0_SameInts.f k t179 y190).bind fun t193 => (some t193)) = some r := by first | (rw [hy190]; with_reducible exact H) | (have H2_ := (Option.bind_some _ _).symm.trans H; rw [hy190]; with_reducible exact H2_) | (have H2_ := (Option.bind_some _ _).symm.trans H; with_reducible exact H2_) | with_reducible exact H | (rw [hy190]; exact H) | exact H
              have Ny190 := Aside0.mk hy190
              clear hy190
              replace H := Option.bind_eq_some_iff.mp H
              obtain ⟨t193, A200, H⟩ := H
              replace H : (some t193) = some r := H
              have A20 := Aside0.mk A200
              clear A200
              obtain rfl := Option.some.inj H
              go_enter Try.func23, Try.ntmps23
              go_wp2_with (first | ((with_reducible refine gate_dst (N := 11) rfl ?_); (try (refine gate_guard (by rfl) ?_; dsimp only)); refine Kd.R_lit (Kd.int .i64) _ 3 ?hg (N := 11) ?hd (xs := ([5] : List Int)) (inner := [.int .i64 5]) (ok := fun _ => True) (okp := fun _ => True) ?hr ?hp (fun _ hk => hk) trivial (Below.refl _ _) (Nat.le_refl _) (by simp) ?_; (case hd => rfl); (case hg => rfl); (case hr => first | (go_simp; done) | (go_simp; rfl)); (case hp => exact (Reps.one (show Kd.M (Kd.int .i64) _ _ _ 5 [.int .i64 5] from rfl) (Reps.none _ _))); intro v163 w21 ho22 hb hg_ hnew_; clear hg_ hnew_; (first | rw [← Ny162.out] at ho22 | (simp only [Int.reduceToNat] at ho22; rw [← Ny162.out] at ho22)); have n0_ := Aside0.mk (Kd.R_lower ho22 (below_size (by repeat (first | (with_reducible first | exact HB.out | apply below_alloc | apply pw_below_drewN | apply below_drew1) | exact HB.out)))); have n1_ := Aside0.mk (below_step (by repeat (first | (with_reducible first | exact HB.out | apply below_alloc | apply pw_below_drewN | apply below_drew1) | exact HB.out)) hb); clear HB; have HO164 := n0_; have HB := n1_; clear n0_ n1_; clear hb ho22; obtain ⟨Ao23, co23, eo23⟩ := Kd.R_slice HO164.out; subst eo23) | ((with_reducible refine gate_callee (f := 16) rfl ?_); refine goesL_ (some 12) rfl rfl Try.func16 (by kernel_rfl) rfl #[.slice Ao23 y162.length co23] rfl (by (try simp only [List.map_toArray, List.map_cons, List.map_nil]); first | done | rfl | (simp only [List.length_drop, List.length_take]; rfl)) ?_; (with_reducible refine (tree_Root.calls k _ _ y162 t165 t166 _ ?side1 ?side2 A1.out).mono ?_); (case side1 => repeat (first | exact (Kd.R_reads' HO164.out).2.2 | (with_reducible refine Kd.C_alloc ?_ _) | (with_reducible refine Kd.C_drewN ?_ _) | (with_reducible refine Kd.C_drew ?_))); (case side2 => exact (Kd.R_reads' HO164.out).2.1); rintro e w24 ⟨rfl, hb⟩; refine ⟨_, rfl, ?_⟩; have n0_ := Aside0.mk (Kd.R_below (by (with_reducible repeat (first | apply Kd.R_alloc | apply Kd.R_drewN | apply Kd.R_drew)); exact HO164.out) hb); have n1_ := Aside0.mk (below_step (by repeat (first | (with_reducible first | exact HB.out | apply below_alloc | apply pw_below_drewN | apply below_drew1) | exact HB.out)) hb); clear HO164; clear HB; have HO164 := n0_; have HB := n1_; clear n0_ n1_; (try clear hb); (try clear hb2); (try clear hk); (try clear hi)) | ((with_reducible refine gate_dst (N := 16) rfl ?_); (try (refine gate_guard (by rfl) ?_; dsimp only)); refine Kd.R_lit (Kd.int .i64) _ 3 ?hg (N := 16) ?hd (xs := ([1, 2, 3] : List Int)) (inner := [.int .i64 1, .int .i64 2, .int .i64 3]) (ok := fun _ => True) (okp := fun _ => True) ?hr ?hp (fun _ hk => hk) trivial (Below.refl _ _) (Nat.le_refl _) (by simp) ?_; (case hd => rfl); (case hg => rfl); (case hr => first | (go_simp; done) | (go_simp; rfl)); (case hp => exact (Reps.one (show Kd.M (Kd.int .i64) _ _ _ 1 [.int .i64 1] from rfl) (Reps.one (show Kd.M (Kd.int .i64) _ _ _ 2 [.int .i64 2] from rfl) (Reps.one (show Kd.M (Kd.int .i64) _ _ _ 3 [.int .i64 3] from rfl) (Reps.none _ _))))); intro v168 w25 ho26 hb hg_ hnew_; clear hg_ hnew_; (first | rw [← Ny167.out] at ho26 | (simp only [Int.reduceToNat] at ho26; rw [← Ny167.out] at ho26)); have n0_ := Aside0.mk (Kd.R_elder' (by (with_reducible repeat (first | apply Kd.R_alloc | apply Kd.R_drewN | apply Kd.R_drew)); exact HO164.out) (Kd.R_base ho26) hb); have n1_ := Aside0.mk (Kd.R_lower (Kd.R_new' ho26 (Kd.R_lt (by (with_reducible repeat (first | apply Kd.R_alloc | apply Kd.R_drewN | apply Kd.R_drew)); exact HO164.out))) (below_size (by repeat (first | (with_reducible first | exact HB.out | apply below_alloc | apply pw_below_drewN | apply below_drew1) | exact HB.out)))); have n2_ := Aside0.mk (below_step (by repeat (first | (with_reducible first | exact HB.out | apply below_alloc | apply pw_below_drewN | apply below_drew1) | exact HB.out)) hb); clear HO164; clear HB; have HO164 := n0_; have HO169 := n1_; have HB := n2_; clear n0_ n1_ n2_; clear hb ho26; obtain ⟨Ao27, co27, eo27⟩ := Kd.R_slice HO169.out; subst eo27) | ((with_reducible refine gate_callee (f := 16) rfl ?_); refine goesL_ (some 17) rfl rfl Try.func16 (by kernel_rfl) rfl #[.slice Ao27 y167.length co27] rfl (by (try simp only [List.map_toArray, List.map_cons, List.map_nil]); first | done | rfl | (simp only [List.length_drop, List.length_take]; rfl)) ?_; (with_reducible refine (tree_Root.calls k _ _ y167 t170 t171 _ ?side1 ?side2 A2.out).mono ?_); (case side1 => repeat (first | exact (Kd.R_reads' HO169.out).2.2 | (with_reducible refine Kd.C_alloc ?_ _) | (with_reducible refine Kd.C_drewN ?_ _) | (with_reducible refine Kd.C_drew ?_))); (case side2 => exact (Kd.R_reads' HO169.out).2.1); rintro e w28 ⟨rfl, hb⟩; refine ⟨_, rfl, ?_⟩; have n0_ := Aside0.mk (Kd.R_below (by (with_reducible repeat (first | apply Kd.R_alloc | apply Kd.R_drewN | apply Kd.R_drew)); exact HO164.out) hb); have n1_ := Aside0.mk (Kd.R_below (by (with_reducible repeat (first | apply Kd.R_alloc | apply Kd.R_drewN | apply Kd.R_drew)); exact HO169.out) hb); have n2_ := Aside0.mk (below_step (by repeat (first | (with_reducible first | exact HB.out | apply below_alloc | apply pw_below_drewN | apply below_drew1) | exact HB.out)) hb); clear HO164; clear HO169; clear HB; have HO164 := n0_; have HO169 := n1_; have HB := n2_; clear n0_ n1_ n2_; (try clear hb); (try clear hb2); (try clear hk); (try clear hi)) | ((with_reducible refine gate_callee (f := 16) rfl ?_); refine goesL_ (some 21) rfl rfl Try.func16 (by kernel_rfl) rfl #[.slice none 0 0] rfl (by (try simp only [List.map_toArray, List.map_cons, List.map_nil]); first | done | rfl | (simp only [List.length_drop, List.length_take]; rfl)) ?_; (refine (tree_Root.calls k _ _ ([] : List Int) t172 t173 _ ?side1 ?side2 A3.out).mono ?_); (case side1 => exact Kd.C_nil _ _); (case side2 => exact Nat.le_refl _); rintro e w29 ⟨rfl, hb⟩; refine ⟨_, rfl, ?_⟩; have n0_ := Aside0.mk (Kd.R_below (by (with_reducible repeat (first | apply Kd.R_alloc | apply Kd.R_drewN | apply Kd.R_drew)); exact HO164.out) hb); have n1_ := Aside0.mk (Kd.R_below (by (with_reducible repeat (first | apply Kd.R_alloc | apply Kd.R_drewN | apply Kd.R_drew)); exact HO169.out) hb); have n2_ := Aside0.mk (below_step (by repeat (first | (with_reducible first | exact HB.out | apply below_alloc | apply pw_below_drewN | apply below_drew1) | exact HB.out)) hb); clear HO164; clear HO169; clear HB; have HO164 := n0_; have HO169 := n1_; have HB := n2_; clear n0_ n1_ n2_; (try clear hb); (try clear hb2); (try clear hk); (try clear hi)) | ((with_reducible refine gate_dst (N := 25) rfl ?_); (try (refine gate_guard (by rfl) ?_; dsimp only)); refine Kd.R_lit (Kd.int .i64) _ 3 ?hg (N := 25) ?hd (xs := ([(-1)] : List Int)) (inner := [.int .i64 (-1)]) (ok := fun _ => True) (okp := fun _ => True) ?hr ?hp (fun _ hk => hk) trivial (Below.refl _ _) (Nat.le_refl _) (by simp) ?_; (case hd => rfl); (case hg => rfl); (case hr => first | (go_simp; done) | (go_simp; rfl)); (case hp => exact (Reps.one (show Kd.M (Kd.int .i64) _ _ _ (-1) [.int .i64 (-1)] from rfl) (Reps.none _ _))); intro v175 w30 ho31 hb hg_ hnew_; clear hg_ hnew_; (first | rw [← Ny174.out] at ho31 | (simp only [Int.reduceToNat] at ho31; rw [← Ny174.out] at ho31)); have n0_ := Aside0.mk (Kd.R_elder' (by (with_reducible repeat (first | apply Kd.R_alloc | apply Kd.R_drewN | apply Kd.R_drew)); exact HO164.out) (Kd.R_base ho31) hb); have n1_ := Aside0.mk (Kd.R_elder' (by (with_reducible repeat (first | apply Kd.R_alloc | apply Kd.R_drewN | apply Kd.R_drew)); exact HO169.out) (Kd.R_base ho31) hb); have n2_ := Aside0.mk (Kd.R_lower (Kd.R_new' (Kd.R_new' ho31 (Kd.R_lt (by (with_reducible repeat (first | apply Kd.R_alloc | apply Kd.R_drewN | apply Kd.R_drew)); exact HO164.out))) (Kd.R_lt (by (with_reducible repeat (first | apply Kd.R_alloc | apply Kd.R_drewN | apply Kd.R_drew)); exact HO169.out))) (below_size (by repeat (first | (with_reducible first | exact HB.out | apply below_alloc | apply pw_below_drewN | apply below_drew1) | exact HB.out)))); have n3_ := Aside0.mk (below_step (by repeat (first | (with_reducible first | exact HB.out | apply below_alloc | apply pw_below_drewN | apply below_drew1) | exact HB.out)) hb); clear HO164; clear HO169; clear HB; have HO164 := n0_; have HO169 := n1_; have HO176 := n2_; have HB := n3_; clear n0_ n1_ n2_ n3_; clear hb ho31; obtain ⟨Ao32, co32, eo32⟩ := Kd.R_slice HO176.out; subst eo32) | ((with_reducible refine gate_callee (f := 16) rfl ?_); refine goesL_ (some 26) rfl rfl Try.func16 (by kernel_rfl) rfl #[.slice Ao32 y174.length co32] rfl (by (try simp only [List.map_toArray, List.map_cons, List.map_nil]); first | done | rfl | (simp only [List.length_drop, List.length_take]; rfl)) ?_; (with_reducible refine (tree_Root.calls k _ _ y174 t177 t178 _ ?side1 ?side2 A4.out).mono ?_); (case side1 => repeat (first | exact (Kd.R_reads' HO176.out).2.2 | (with_reducible refine Kd.C_alloc ?_ _) | (with_reducible refine Kd.C_drewN ?_ _) | (with_reducible refine Kd.C_drew ?_))); (case side2 => exact (Kd.R_reads' HO176.out).2.1); rintro e w33 ⟨rfl, hb⟩; refine ⟨_, rfl, ?_⟩; have n0_ := Aside0.mk (Kd.R_below (by (with_reducible repeat (first | apply Kd.R_alloc | apply Kd.R_drewN | apply Kd.R_drew)); exact HO164.out) hb); have n1_ := Aside0.mk (Kd.R_below (by (with_reducible repeat (first | apply Kd.R_alloc | apply Kd.R_drewN | apply Kd.R_drew)); exact HO169.out) hb); have n2_ := Aside0.mk (Kd.R_below (by (with_reducible repeat (first | apply Kd.R_alloc | apply Kd.R_drewN | apply Kd.R_drew)); exact HO176.out) hb); have n3_ := Aside0.mk (below_step (by repeat (first | (with_reducible first | exact HB.out | apply below_alloc | apply pw_below_drewN | apply below_drew1) | exact HB.out)) hb); clear HO164; clear HO169; clear HO176; clear HB; have HO164 := n0_; have HO169 := n1_; have HO176 := n2_; have HB := n3_; clear n0_ n1_ n2_ n3_; (try clear hb); (try clear hb2); (try clear hk); (try clear hi)) | ((with_reducible refine gate_callee (f := 18) rfl ?_); refine goesL_ (some 29) rfl rfl Try.func18 (by kernel_rfl) rfl #[.string (⟨#[97, 98, 99, 100, 101, 102, 103, 104, 105]⟩ : ByteArray)] rfl (by (try simp only [List.map_toArray, List.map_cons, List.map_nil]); first | done | rfl | (simp only [List.length_drop, List.length_take]; rfl)) ?_; (with_reducible refine (tree_Leaves.calls k (⟨#[97, 98, 99, 100, 101, 102, 103, 104, 105]⟩ : ByteArray) t179 _ A5.out).mono ?_); rintro e w34 ⟨v180, rfl, ho0, hb⟩; refine ⟨_, rfl, ?_⟩; have n0_ := Aside0.mk (Kd.R_elder' (by (with_reducible repeat (first | apply Kd.R_alloc | apply Kd.R_drewN | apply Kd.R_drew)); exact HO164.out) (Kd.R_base ho0) hb); have n1_ := Aside0.mk (Kd.R_elder' (by (with_reducible repeat (first | apply Kd.R_alloc | apply Kd.R_drewN | apply Kd.R_drew)); exact HO169.out) (Kd.R_base ho0) hb); have n2_ := Aside0.mk (Kd.R_elder' (by (with_reducible repeat (first | apply Kd.R_alloc | apply Kd.R_drewN | apply Kd.R_drew)); exact HO176.out) (Kd.R_base ho0) hb); have n3_ := Aside0.mk (Kd.R_lower (Kd.R_new' (Kd.R_new' (Kd.R_new' ho0 (Kd.R_lt (by (with_reducible repeat (first | apply Kd.R_alloc | apply Kd.R_drewN | apply Kd.R_drew)); exact HO164.out))) (Kd.R_lt (by (with_reducible repeat (first | apply Kd.R_alloc | apply Kd.R_drewN | apply Kd.R_drew)); exact HO169.out))) (Kd.R_lt (by (with_reducible repeat (first | apply Kd.R_alloc | apply Kd.R_drewN | apply Kd.R_drew)); exact HO176.out))) (below_size (by repeat (first | (with_reducible first | exact HB.out | apply below_alloc | apply pw_below_drewN | apply below_drew1) | exact HB.out)))); have n4_ := Aside0.mk (below_step (by repeat (first | (with_reducible first | exact HB.out | apply below_alloc | apply pw_below_drewN | apply below_drew1) | exact HB.out)) hb); clear HO164; clear HO169; clear HO176; clear HB; have HO164 := n0_; have HO169 := n1_; have HO176 := n2_; have HO181 := n3_; have HB := n4_; clear n0_ n1_ n2_ n3_ n4_; (try clear hb); (try clear hb2); (try clear hk); (try clear hi); (try clear ho0)) | (go_at_call 14; (with_reducible refine (ossuarylaw0_Num.calls t166 t182 _ A7.out).mono ?_); rintro e w' ⟨rfl, ⟨nd, rfl⟩⟩) | (go_at_call 11; (with_reducible refine (seal_Pair.calls 1 2 t183 _ A9.out).mono ?_); rintro e w' ⟨rfl, ⟨nd, rfl⟩⟩) | (go_at_call 11; (with_reducible refine (seal_Pair.calls t183 3 t184 _ A10.out).mono ?_); rintro e w' ⟨rfl, ⟨nd, rfl⟩⟩) | (go_at_call 14; (with_reducible refine (ossuarylaw0_Num.calls t171 t185 _ A12.out).mono ?_); rintro e w' ⟨rfl, ⟨nd, rfl⟩⟩) | (go_at_call 14; (with_reducible refine (ossuarylaw0_Num.calls t173 t186 _ A14.out).mono ?_); rintro e w' ⟨rfl, ⟨nd, rfl⟩⟩) | (go_at_call 14; (with_reducible refine (ossuarylaw0_Num.calls t178 t187 _ A16.out).mono ?_); rintro e w' ⟨rfl, ⟨nd, rfl⟩⟩) | (go_at_call 9; (with_reducible refine (seal_Of.calls k (⟨#[97, 98, 99, 100, 101, 102, 103, 104]⟩ : ByteArray) t188 _ A18.out).mono ?_); rintro e w' ⟨rfl, ⟨nd, rfl⟩⟩) | (go_at_call 9; (with_reducible refine (seal_Of.calls k (⟨#[105]⟩ : ByteArray) t189 _ A19.out).mono ?_); rintro e w' ⟨rfl, ⟨nd, rfl⟩⟩) | ((with_reducible refine gate_dst (N := 62) rfl ?_); (try (refine gate_guard (by rfl) ?_; dsimp only)); refine Kd.R_lit (Kd.int .i64) _ 3 ?hg (N := 62) ?hd (xs := ([t188, t189] : List Int)) (inner := [.int .i64 t188, .int .i64 t189]) (ok := fun _ => True) (okp := fun _ => True) ?hr ?hp (fun _ hk => hk) trivial (Below.refl _ _) (Nat.le_refl _) (by simp) ?_; (case hd => rfl); (case hg => rfl); (case hr => first | (go_simp; done) | (go_simp; rfl)); (case hp => exact (Reps.one (show Kd.M (Kd.int .i64) _ _ _ t188 [.int .i64 t188] from rfl) (Reps.one (show Kd.M (Kd.int .i64) _ _ _ t189 [.int .i64 t189] from rfl) (Reps.none _ _)))); intro v191 w35 ho36 hb hg_ hnew_; clear hg_ hnew_; (first | rw [← Ny190.out] at ho36 | (simp only [Int.reduceToNat] at ho36; rw [← Ny190.out] at ho36)); have n0_ := Aside0.mk (Kd.R_elder' (by (with_reducible repeat (first | apply Kd.R_alloc | apply Kd.R_drewN | apply Kd.R_drew)); exact HO164.out) (Kd.R_base ho36) hb); have n1_ := Aside0.mk (Kd.R_elder' (by (with_reducible repeat (first | apply Kd.R_alloc | apply Kd.R_drewN | apply Kd.R_drew)); exact HO169.out) (Kd.R_base ho36) hb); have n2_ := Aside0.mk (Kd.R_elder' (by (with_reducible repeat (first | apply Kd.R_alloc | apply Kd.R_drewN | apply Kd.R_drew)); exact HO176.out) (Kd.R_base ho36) hb); have n3_ := Aside0.mk (Kd.R_elder' (by (with_reducible repeat (first | apply Kd.R_alloc | apply Kd.R_drewN | apply Kd.R_drew)); exact HO181.out) (Kd.R_base ho36) hb); have n4_ := Aside0.mk (Kd.R_lower (Kd.R_new' (Kd.R_new' (Kd.R_new' (Kd.R_new' ho36 (Kd.R_lt (by (with_reducible repeat (first | apply Kd.R_alloc | apply Kd.R_drewN | apply Kd.R_drew)); exact HO164.out))) (Kd.R_lt (by (with_reducible repeat (first | apply Kd.R_alloc | apply Kd.R_drewN | apply Kd.R_drew)); exact HO169.out))) (Kd.R_lt (by (with_reducible repeat (first | apply Kd.R_alloc | apply Kd.R_drewN | apply Kd.R_drew)); exact HO176.out))) (Kd.R_lt (by (with_reducible repeat (first | apply Kd.R_alloc | apply Kd.R_drewN | apply Kd.R_drew)); exact HO181.out))) (below_size (by repeat (first | (with_reducible first | exact HB.out | apply below_alloc | apply pw_below_drewN | apply below_drew1) | exact HB.out)))); have n5_ := Aside0.mk (below_step (by repeat (first | (with_reducible first | exact HB.out | apply below_alloc | apply pw_below_drewN | apply below_drew1) | exact HB.out)) hb); clear HO164; clear HO169; clear HO176; clear HO181; clear HB; have HO164 := n0_; have HO169 := n1_; have HO176 := n2_; have HO181 := n3_; have HO192 := n4_; have HB := n5_; clear n0_ n1_ n2_ n3_ n4_ n5_; clear hb ho36; obtain ⟨Ao37, co37, eo37⟩ := Kd.R_slice HO181.out; subst eo37; obtain ⟨Ao38, co38, eo38⟩ := Kd.R_slice HO192.out; subst eo38) | (go_at_call 20; (with_reducible refine (ossuarylaw0_SameInts.calls k _ _ t179 _ _ y190 t193 _ ?side1 ?side2 ?side3 ?side4 A20.out).mono ?_); (case side1 => repeat (first | exact (Kd.R_reads' HO181.out).2.2 | (with_reducible refine Kd.C_alloc ?_ _) | (with_reducible refine Kd.C_drewN ?_ _) | (with_reducible refine Kd.C_drew ?_))); (case side2 => exact (Kd.R_reads' HO181.out).2.1); (case side3 => repeat (first | exact (Kd.R_reads' HO192.out).2.2 | (with_reducible refine Kd.C_alloc ?_ _) | (with_reducible refine Kd.C_drewN ?_ _) | (with_reducible refine Kd.C_drew ?_))); (case side4 => exact (Kd.R_reads' HO192.out).2.1); rintro e w' ⟨rfl, ⟨nd, rfl⟩⟩))
              go_ret
              exact ⟨by first | rfl | (simp [errW_none, errW_some] <;> rfl) | (simp [*, errW_none, errW_some] <;> rfl), by repeat (first | (with_reducible first | exact HB.out | apply below_alloc | apply pw_below_drewN | apply below_drew1) | exact HB.out)⟩
            · rw [if_neg c17] at H
              have c17b0 : (t187 == 1000) = false := beq_eq_false_iff_ne.mpr c17
              have c17b1 : (t187 != 1000) = true := bne_iff_ne.mpr c17
              exact absurd (Option.some.inj H) (by rw [HRT.out]; decide)
          · rw [if_neg c15] at H
            have c15b0 : (t186 == 1000) = false := beq_eq_false_iff_ne.mpr c15
            have c15b1 : (t186 != 1000) = true := bne_iff_ne.mpr c15
            exact absurd (Option.some.inj H) (by rw [HRT.out]; decide)
        · rw [if_neg c13] at H
          have c13b0 : (t185 == 0) = false := beq_eq_false_iff_ne.mpr c13
          have c13b1 : (t185 != 0) = true := bne_iff_ne.mpr c13
          exact absurd (Option.some.inj H) (by rw [HRT.out]; decide)
      · rw [if_neg c11] at H
        have c11b0 : (t170 == t184) = false := beq_eq_false_iff_ne.mpr c11
        have c11b1 : (t170 != t184) = true := bne_iff_ne.mpr c11
        exact absurd (Option.some.inj H) (by rw [HRT.out]; decide)
    · rw [if_neg c8] at H
      have c8b0 : (t182 == 0) = false := beq_eq_false_iff_ne.mpr c8
      have c8b1 : (t182 != 0) = true := bne_iff_ne.mpr c8
      exact absurd (Option.some.inj H) (by rw [HRT.out]; decide)
  · rw [if_neg c6] at H
    have c6b0 : (t165 == 5) = false := beq_eq_false_iff_ne.mpr c6
    have c6b1 : (t165 != 5) = true := bne_iff_ne.mpr c6
    exact absurd (Option.some.inj H) (by rw [HRT.out]; decide)

/-! ### ossuarylaw10_Trees: function 8 -/
def ossuarylaw10_Trees.j0 : Nat → List Int → List Int → List Int → Bool → Option (Bool)
  | 0, _, _, _, _ => none
  | k + 1, x1, x5, x10, x42 => if x42 = true then (some false) else ((ossuarylaw0_SpoilInts.f k x10).bind fun t209 => ((ossuarylaw0_KeptInts.f k x5 x1).bind fun t210 => (if t210 = true then ((ossuarylaw10_awake.f k).bind fun t211 => (some t211)) else (some false))))
def ossuarylaw10_Trees.f (k : Nat) (a0 : ByteArray) (l1 : List Int) : Option (Bool) := (ossuarylaw0_LendInts.f l1).bind fun t194 => ((tree_Root.f k t194).bind fun bt197 => ((ossuaryref1_Root.f k l1).bind fun bt199 => ((tree_Leaves.f k a0).bind fun t201 => ((ossuaryref1_Leaves.f k a0).bind fun t204 => (if bt197.1 = bt199.1 then ((ossuarylaw0_Num.f bt197.2).bind fun t207 => (if t207 = bt199.2 then ((ossuarylaw0_SameInts.f k t201 t204).bind fun t208 => (ossuarylaw10_Trees.j0 k l1 t194 t201 (!t208))) else (ossuarylaw10_Trees.j0 k l1 t194 t201 true))) else (ossuarylaw10_Trees.j0 k l1 t194 t201 true))))))
theorem ossuarylaw10_Trees.mono_l : ∀ k, (∀ y0 y1 y2 y3, LeO (ossuarylaw10_Trees.j0 k y0 y1 y2 y3) (ossuarylaw10_Trees.j0 (k + 1) y0 y1 y2 y3))
  | 0 => fun _ _ _ _ r h => by simp [ossuarylaw10_Trees.j0] at h
  | k + 1 => by
    have ih0 := ossuarylaw10_Trees.mono_l k
    · intro y0 y1 y2 y3
      unfold ossuarylaw10_Trees.j0
      repeat' first
      | (with_reducible exact ih0 _ _ _ _)
      | (with_reducible exact ossuarylaw0_KeptInts.mono _ _ _)
      | (with_reducible exact ossuarylaw0_SameInts.mono _ _ _)
      | (with_reducible exact ossuarylaw0_SpoilInts.mono _ _)
      | (with_reducible exact ossuarylaw10_awake.mono _)
      | (with_reducible exact ossuaryref1_Leaves.mono _ _)
      | (with_reducible exact ossuaryref1_Root.mono _ _)
      | (with_reducible exact tree_Leaves.mono _ _)
      | (with_reducible exact tree_Root.mono _ _)
      | (with_reducible exact LeO.refl _)
      | (with_reducible exact LeO.none _)
      | (with_reducible refine LeO.ite ?_ ?_)
      | (with_reducible refine LeO.bind ?_ (fun _ => ?_))
      | exact ih0 _ _ _ _
      | exact ossuarylaw0_KeptInts.mono _ _ _
      | exact ossuarylaw0_SameInts.mono _ _ _
      | exact ossuarylaw0_SpoilInts.mono _ _
      | exact ossuarylaw10_awake.mono _
      | exact ossuaryref1_Leaves.mono _ _
      | exact ossuaryref1_Root.mono _ _
      | exact tree_Leaves.mono _ _
      | exact tree_Root.mono _ _
      | exact LeO.none _
      | refine LeO.ite ?_ ?_
      | refine LeO.bind ?_ (fun _ => ?_)
theorem ossuarylaw10_Trees.mono : ∀ a0 a1 k, LeO (ossuarylaw10_Trees.f k a0 a1) (ossuarylaw10_Trees.f (k + 1) a0 a1) := by
  intro a0 a1 k
  have ih0 := ossuarylaw10_Trees.mono_l k
  unfold ossuarylaw10_Trees.f
  repeat' first
      | (with_reducible exact ih0 _ _ _ _)
      | (with_reducible exact ossuarylaw0_KeptInts.mono _ _ _)
      | (with_reducible exact ossuarylaw0_SameInts.mono _ _ _)
      | (with_reducible exact ossuarylaw0_SpoilInts.mono _ _)
      | (with_reducible exact ossuarylaw10_awake.mono _)
      | (with_reducible exact ossuaryref1_Leaves.mono _ _)
      | (with_reducible exact ossuaryref1_Root.mono _ _)
      | (with_reducible exact tree_Leaves.mono _ _)
      | (with_reducible exact tree_Root.mono _ _)
      | (with_reducible exact LeO.refl _)
      | (with_reducible exact LeO.none _)
      | (with_reducible refine LeO.ite ?_ ?_)
      | (with_reducible refine LeO.bind ?_ (fun _ => ?_))
      | exact ih0 _ _ _ _
      | exact ossuarylaw0_KeptInts.mono _ _ _
      | exact ossuarylaw0_SameInts.mono _ _ _
      | exact ossuarylaw0_SpoilInts.mono _ _
      | exact ossuarylaw10_awake.mono _
      | exact ossuaryref1_Leaves.mono _ _
      | exact ossuaryref1_Root.mono _ _
      | exact tree_Leaves.mono _ _
      | exact tree_Root.mono _ _
      | exact LeO.none _
      | refine LeO.ite ?_ ?_
      | refine LeO.bind ?_ (fun _ => ?_)
set_option maxHeartbeats 8000000 in
set_option maxRecDepth 100000 in
theorem ossuarylaw10_Trees.calls (k : Nat) (a0 : ByteArray) (A1 : Option Addr) (c1 : Nat) (l1 : List Int) (r : Bool) (w : World) (hr1 : Kd.C (Kd.int .i64) w A1 l1.length l1) (hc1 : l1.length ≤ c1) (h : ossuarylaw10_Trees.f k a0 l1 = some r) (hr_ : r = true := by rfl) :
    Calls Try.prog 8 #[.string a0, .slice A1 l1.length c1] w fun e w' => e = .returned (.bool r) ∧ Below w.heap.size w w' := by
  have HRT := Aside0.mk hr_
  clear hr_
  have HR1 := Aside0.mk hr1
  have HC1 := Aside0.mk hc1
  clear hr1 hc1
  have HB := Aside0.mk (Below.refl w.heap.size w)
  have H : ((ossuarylaw0_LendInts.f l1).bind fun t194 => ((tree_Root.f k t194).bind fun bt197 => ((ossuaryref1_Root.f k l1).bind fun bt199 => ((tree_Leaves.f k a0).bind fun t201 => ((ossuaryref1_Leaves.f k a0).bind fun t204 => (if bt197.1 = bt199.1 then ((ossuarylaw0_Num.f bt197.2).bind fun t207 => (if t207 = bt199.2 then ((ossuarylaw0_SameInts.f k t201 t204).bind fun t208 => (ossuarylaw10_Trees.j0 k l1 t194 t201 (!t208))) else (ossuarylaw10_Trees.j0 k l1 t194 t201 true))) else (ossuarylaw10_Trees.j0 k l1 t194 t201 true))))))) = some r := h
  clear h
  replace H := Option.bind_eq_some_iff.mp H
  obtain ⟨t194, A30, H⟩ := H
  replace H : ((tree_Root.f k t194).bind fun bt197 => ((ossuaryref1_Root.f k l1).bind fun bt199 => ((tree_Leaves.f k a0).bind fun t201 => ((ossuaryref1_Leaves.f k a0).bind fun t204 => (if bt197.1 = bt199.1 then ((ossuarylaw0_Num.f bt197.2).bind fun t207 => (if t207 = bt199.2 then ((ossuarylaw0_SameInts.f k t201 t204).bind fun t208 => (ossuarylaw10_Trees.j0 k l1 t194 t201 (!t208))) else (ossuarylaw10_Trees.j0 k l1 t194 t201 true))) else (ossuarylaw10_Trees.j0 k l1 t194 t201 true)))))) = some r := H
  have A3 := Aside0.mk A30
  clear A30
  replace H := Option.bind_eq_some_iff.mp H
  obtain ⟨⟨t197, t198⟩, A40, H⟩ := H
  replace H : ((ossuaryref1_Root.f k l1).bind fun bt199 => ((tree_Leaves.f k a0).bind fun t201 => ((ossuaryref1_Leaves.f k a0).bind fun t204 => (if t197 = bt199.1 then ((ossuarylaw0_Num.f t198).bind fun t207 => (if t207 = bt199.2 then ((ossuarylaw0_SameInts.f k t201 t204).bind fun t208 => (ossuarylaw10_Trees.j0 k l1 t194 t201 (!t208))) else (ossuarylaw10_Trees.j0 k l1 t194 t201 true))) else (ossuarylaw10_Trees.j0 k l1 t194 t201 true))))) = some r := H
  have A4 := Aside0.mk A40
  clear A40
  replace H := Option.bind_eq_some_iff.mp H
  obtain ⟨⟨t199, t200⟩, A50, H⟩ := H
  replace H : ((tree_Leaves.f k a0).bind fun t201 => ((ossuaryref1_Leaves.f k a0).bind fun t204 => (if t197 = t199 then ((ossuarylaw0_Num.f t198).bind fun t207 => (if t207 = t200 then ((ossuarylaw0_SameInts.f k t201 t204).bind fun t208 => (ossuarylaw10_Trees.j0 k l1 t194 t201 (!t208))) else (ossuarylaw10_Trees.j0 k l1 t194 t201 true))) else (ossuarylaw10_Trees.j0 k l1 t194 t201 true)))) = some r := H
  have A5 := Aside0.mk A50
  clear A50
  replace H := Option.bind_eq_some_iff.mp H
  obtain ⟨t201, A60, H⟩ := H
  replace H : ((ossuaryref1_Leaves.f k a0).bind fun t204 => (if t197 = t199 then ((ossuarylaw0_Num.f t198).bind fun t207 => (if t207 = t200 then ((ossuarylaw0_SameInts.f k t201 t204).bind fun t208 => (ossuarylaw10_Trees.j0 k l1 t194 t201 (!t208))) else (ossuarylaw10_Trees.j0 k l1 t194 t201 true))) else (ossuarylaw10_Trees.j0 k l1 t194 t201 true))) = some r := H
  have A6 := Aside0.mk A60
  clear A60
  replace H := Option.bind_eq_some_iff.mp H
  obtain ⟨t204, A70, H⟩ := H
  replace H : (if t197 = t199 then ((ossuarylaw0_Num.f t198).bind fun t207 => (if t207 = t200 then ((ossuarylaw0_SameInts.f k t201 t204).bind fun t208 => (ossuarylaw10_Trees.j0 k l1 t194 t201 (!t208))) else (ossuarylaw10_Trees.j0 k l1 t194 t201 true))) else (ossuarylaw10_Trees.j0 k l1 t194 t201 true)) = some r := H
  have A7 := Aside0.mk A70
  clear A70
  have HC8 := Aside0.mk H
  clear H
  go_enter Try.func8, Try.ntmps8
  go_upto_region 5 with (first | ((with_reducible refine gate_callee (f := 15) rfl ?_); refine goesL_ (some 13) rfl rfl Try.func15 (by kernel_rfl) rfl #[.slice A1 l1.length c1] rfl (by (try simp only [List.map_toArray, List.map_cons, List.map_nil]); first | done | rfl | (simp only [List.length_drop, List.length_take]; rfl)) ?_; (with_reducible refine (ossuarylaw0_LendInts.calls _ _ l1 t194 _ ?side1 ?side2 A3.out).mono ?_); (case side1 => repeat (first | exact HR1.out | (with_reducible refine Kd.C_alloc ?_ _) | (with_reducible refine Kd.C_drewN ?_ _) | (with_reducible refine Kd.C_drew ?_))); (case side2 => exact HC1.out); rintro e w9 ⟨v195, rfl, ho0, hb⟩; refine ⟨_, rfl, ?_⟩; have n0_ := Aside0.mk (RL.lower ho0 (below_size (by repeat (first | (with_reducible first | exact HB.out | apply below_alloc | apply pw_below_drewN | apply below_drew1) | exact HB.out)))); have n1_ := Aside0.mk (below_step (by repeat (first | (with_reducible first | exact HB.out | apply below_alloc | apply pw_below_drewN | apply below_drew1) | exact HB.out)) hb); clear HB; have HO196 := n0_; have HB := n1_; clear n0_ n1_; (try clear hb); (try clear hb2); (try clear hk); (try clear hi); (try clear ho0); obtain ⟨Ao10, co10, eo10⟩ := RL.slice HO196.out; subst eo10) | ((with_reducible refine gate_callee (f := 16) rfl ?_); refine goesL_ (some 16) rfl rfl Try.func16 (by kernel_rfl) rfl #[.slice Ao10 t194.length co10] rfl (by (try simp only [List.map_toArray, List.map_cons, List.map_nil]); first | done | rfl | (simp only [List.length_drop, List.length_take]; rfl)) ?_; (with_reducible refine (tree_Root.calls k _ _ t194 t197 t198 _ ?side1 ?side2 A4.out).mono ?_); (case side1 => repeat (first | exact (RL.reads' HO196.out).2.2 | (with_reducible refine Kd.C_alloc ?_ _) | (with_reducible refine Kd.C_drewN ?_ _) | (with_reducible refine Kd.C_drew ?_))); (case side2 => exact (RL.reads' HO196.out).2.1); rintro e w11 ⟨rfl, hb⟩; refine ⟨_, rfl, ?_⟩; have n0_ := Aside0.mk (RL.below (by (with_reducible repeat (first | apply RL.alloc | apply RL.drewN | apply RL.drew)); exact HO196.out) hb); have n1_ := Aside0.mk (below_step (by repeat (first | (with_reducible first | exact HB.out | apply below_alloc | apply pw_below_drewN | apply below_drew1) | exact HB.out)) hb); clear HO196; clear HB; have HO196 := n0_; have HB := n1_; clear n0_ n1_; (try clear hb); (try clear hb2); (try clear hk); (try clear hi)) | ((with_reducible refine gate_callee (f := 17) rfl ?_); refine goesL_ (some 21) rfl rfl Try.func17 (by kernel_rfl) rfl #[.slice A1 l1.length c1] rfl (by (try simp only [List.map_toArray, List.map_cons, List.map_nil]); first | done | rfl | (simp only [List.length_drop, List.length_take]; rfl)) ?_; (with_reducible refine (ossuaryref1_Root.calls k _ _ l1 t199 t200 _ ?side1 ?side2 A5.out).mono ?_); (case side1 => repeat (first | exact (Kd.C_below HR1.out HB.out) | (with_reducible refine Kd.C_alloc ?_ _) | (with_reducible refine Kd.C_drewN ?_ _) | (with_reducible refine Kd.C_drew ?_))); (case side2 => exact HC1.out); rintro e w12 ⟨rfl, hb⟩; refine ⟨_, rfl, ?_⟩; have n0_ := Aside0.mk (RL.below (by (with_reducible repeat (first | apply RL.alloc | apply RL.drewN | apply RL.drew)); exact HO196.out) hb); have n1_ := Aside0.mk (below_step (by repeat (first | (with_reducible first | exact HB.out | apply below_alloc | apply pw_below_drewN | apply below_drew1) | exact HB.out)) hb); clear HO196; clear HB; have HO196 := n0_; have HB := n1_; clear n0_ n1_; (try clear hb); (try clear hb2); (try clear hk); (try clear hi)) | ((with_reducible refine gate_callee (f := 18) rfl ?_); refine goesL_ (some 25) rfl rfl Try.func18 (by kernel_rfl) rfl #[.string a0] rfl (by (try simp only [List.map_toArray, List.map_cons, List.map_nil]); first | done | rfl | (simp only [List.length_drop, List.length_take]; rfl)) ?_; (with_reducible refine (tree_Leaves.calls k a0 t201 _ A6.out).mono ?_); rintro e w13 ⟨v202, rfl, ho0, hb⟩; refine ⟨_, rfl, ?_⟩; have n0_ := Aside0.mk (RL.elder' (by (with_reducible repeat (first | apply RL.alloc | apply RL.drewN | apply RL.drew)); exact HO196.out) (Kd.R_base ho0) hb); have n1_ := Aside0.mk (Kd.R_lower (Kd.R_new' ho0 (RL.lt (by (with_reducible repeat (first | apply RL.alloc | apply RL.drewN | apply RL.drew)); exact HO196.out))) (below_size (by repeat (first | (with_reducible first | exact HB.out | apply below_alloc | apply pw_below_drewN | apply below_drew1) | exact HB.out)))); have n2_ := Aside0.mk (below_step (by repeat (first | (with_reducible first | exact HB.out | apply below_alloc | apply pw_below_drewN | apply below_drew1) | exact HB.out)) hb); clear HO196; clear HB; have HO196 := n0_; have HO203 := n1_; have HB := n2_; clear n0_ n1_ n2_; (try clear hb); (try clear hb2); (try clear hk); (try clear hi); (try clear ho0)) | ((with_reducible refine gate_callee (f := 19) rfl ?_); refine goesL_ (some 27) rfl rfl Try.func19 (by kernel_rfl) rfl #[.string a0] rfl (by (try simp only [List.map_toArray, List.map_cons, List.map_nil]); first | done | rfl | (simp only [List.length_drop, List.length_take]; rfl)) ?_; (with_reducible refine (ossuaryref1_Leaves.calls k a0 t204 _ A7.out).mono ?_); rintro e w14 ⟨v205, rfl, ho0, hb⟩; refine ⟨_, rfl, ?_⟩; have n0_ := Aside0.mk (RL.elder' (by (with_reducible repeat (first | apply RL.alloc | apply RL.drewN | apply RL.drew)); exact HO196.out) (Kd.R_base ho0) hb); have n1_ := Aside0.mk (Kd.R_elder' (by (with_reducible repeat (first | apply Kd.R_alloc | apply Kd.R_drewN | apply Kd.R_drew)); exact HO203.out) (Kd.R_base ho0) hb); have n2_ := Aside0.mk (Kd.R_lower (Kd.R_new' (Kd.R_new' ho0 (RL.lt (by (with_reducible repeat (first | apply RL.alloc | apply RL.drewN | apply RL.drew)); exact HO196.out))) (Kd.R_lt (by (with_reducible repeat (first | apply Kd.R_alloc | apply Kd.R_drewN | apply Kd.R_drew)); exact HO203.out))) (below_size (by repeat (first | (with_reducible first | exact HB.out | apply below_alloc | apply pw_below_drewN | apply below_drew1) | exact HB.out)))); have n3_ := Aside0.mk (below_step (by repeat (first | (with_reducible first | exact HB.out | apply below_alloc | apply pw_below_drewN | apply below_drew1) | exact HB.out)) hb); clear HO196; clear HO203; clear HB; have HO196 := n0_; have HO203 := n1_; have HO206 := n2_; have HB := n3_; clear n0_ n1_ n2_ n3_; (try clear hb); (try clear hb2); (try clear hk); (try clear hi); (try clear ho0)))
  (try simp only [Act.put, List.setIfInBounds_toArray, List.set_cons_zero, List.set_cons_succ])
  go_cut [42] (fun v42 wc => ∃ (kq : Nat) (x42_7 : Bool), v42 = .bool x42_7 ∧ Aside0 (ossuarylaw10_Trees.j0 kq l1 t194 t201 x42_7 = some r) ∧ Aside0 (kq ≤ k) ∧ Aside0 (RL wc w.heap.size (fun k_ => some k_ ≠ (v202 : Value).ownBlock) (.slice Ao10 t194.length co10) t194) ∧ Aside0 (Kd.R (Kd.int .i64) 3 wc w.heap.size (fun k_ => some k_ ≠ ((.slice Ao10 t194.length co10) : Value).ownBlock) v202 t201) ∧ Aside0 (Below w.heap.size w wc))
  case first =>
    have H := HC8.out
    clear HC8
    by_cases c15 : t197 = t199
    · rw [if_pos c15] at H
      have c15b0 : (t197 == t199) = true := beq_iff_eq.mpr c15
      have c15b1 : (t197 != t199) = false := bne_eq_false_iff_eq.mpr c15
      clear c15
      (first | rw [c15b0] | (simp only [i64_w, i32_w]; rw [c15b0]) | skip)
      replace H := Option.bind_eq_some_iff.mp H
      obtain ⟨t207, A160, H⟩ := H
      replace H : (if t207 = t200 then ((ossuarylaw0_SameInts.f k t201 t204).bind fun t208 => (ossuarylaw10_Trees.j0 k l1 t194 t201 (!t208))) else (ossuarylaw10_Trees.j0 k l1 t194 t201 true)) = some r := H
      have A16 := Aside0.mk A160
      clear A160
      by_cases c17 : t207 = t200
      · rw [if_pos c17] at H
        have c17b0 : (t207 == t200) = true := beq_iff_eq.mpr c17
        have c17b1 : (t207 != t200) = false := bne_eq_false_iff_eq.mpr c17
        clear c17
        replace H := Option.bind_eq_some_iff.mp H
        obtain ⟨t208, A180, H⟩ := H
        replace H : (ossuarylaw10_Trees.j0 k l1 t194 t201 (!t208)) = some r := H
        have A18 := Aside0.mk A180
        clear A180
        have H' := Aside0.mk H
        clear H
        go_wp2_with (first | (go_at_call 14; (with_reducible refine (ossuarylaw0_Num.calls t198 t207 _ A16.out).mono ?_); rintro e w' ⟨rfl, ⟨nd, rfl⟩⟩; obtain ⟨Ao19, co19, eo19⟩ := Kd.R_slice HO203.out; subst eo19; obtain ⟨Ao20, co20, eo20⟩ := Kd.R_slice HO206.out; subst eo20) | (go_at_call 20; (with_reducible refine (ossuarylaw0_SameInts.calls k _ _ t201 _ _ t204 t208 _ ?side1 ?side2 ?side3 ?side4 A18.out).mono ?_); (case side1 => repeat (first | exact (Kd.R_reads' HO203.out).2.2 | (with_reducible refine Kd.C_alloc ?_ _) | (with_reducible refine Kd.C_drewN ?_ _) | (with_reducible refine Kd.C_drew ?_))); (case side2 => exact (Kd.R_reads' HO203.out).2.1); (case side3 => repeat (first | exact (Kd.R_reads' HO206.out).2.2 | (with_reducible refine Kd.C_alloc ?_ _) | (with_reducible refine Kd.C_drewN ?_ _) | (with_reducible refine Kd.C_drew ?_))); (case side4 => exact (Kd.R_reads' HO206.out).2.1); rintro e w' ⟨rfl, ⟨nd, rfl⟩⟩))
        go_meet
        case rel => exact ⟨_, (!t208), (by first | rfl | (simp; done) | (simp [*]; done)), H', ⟨by first | omega | exact Nat.le_refl _⟩, ⟨by (with_reducible repeat (first | apply RL.alloc | apply RL.drewN | apply RL.drew)); exact RL.mono HO196.out (fun _ hk => hk.1.2)⟩, ⟨by (with_reducible repeat (first | apply Kd.R_alloc | apply Kd.R_drewN | apply Kd.R_drew)); exact Kd.R_mono HO203.out (fun _ hk => hk.1.2)⟩, ⟨by repeat (first | (with_reducible first | exact HB.out | apply below_alloc | apply pw_below_drewN | apply below_drew1) | exact HB.out)⟩⟩
      · rw [if_neg c17] at H
        have c17b0 : (t207 == t200) = false := beq_eq_false_iff_ne.mpr c17
        have c17b1 : (t207 != t200) = true := bne_iff_ne.mpr c17
        have H' := Aside0.mk H
        clear H
        go_wp2_with (first | (go_at_call 14; (with_reducible refine (ossuarylaw0_Num.calls t198 t207 _ A16.out).mono ?_); rintro e w' ⟨rfl, ⟨nd, rfl⟩⟩))
        go_meet
        case rel => exact ⟨_, (true), (by first | rfl | (simp; done) | (simp [*]; done)), H', ⟨by first | omega | exact Nat.le_refl _⟩, ⟨by (with_reducible repeat (first | apply RL.alloc | apply RL.drewN | apply RL.drew)); exact RL.mono HO196.out (fun _ hk => hk.1.2)⟩, ⟨by (with_reducible repeat (first | apply Kd.R_alloc | apply Kd.R_drewN | apply Kd.R_drew)); exact Kd.R_mono HO203.out (fun _ hk => hk.1.2)⟩, ⟨by repeat (first | (with_reducible first | exact HB.out | apply below_alloc | apply pw_below_drewN | apply below_drew1) | exact HB.out)⟩⟩
    · rw [if_neg c15] at H
      have c15b0 : (t197 == t199) = false := beq_eq_false_iff_ne.mpr c15
      have c15b1 : (t197 != t199) = true := bne_iff_ne.mpr c15
      (first | rw [c15b0] | (simp only [i64_w, i32_w]; rw [c15b0]) | skip)
      have H' := Aside0.mk H
      clear H
      go_wp2
      go_meet
      case rel => exact ⟨_, (true), (by first | rfl | (simp; done) | (simp [*]; done)), H', ⟨by first | omega | exact Nat.le_refl _⟩, ⟨by (with_reducible repeat (first | apply RL.alloc | apply RL.drewN | apply RL.drew)); exact RL.mono HO196.out (fun _ hk => hk.1.2)⟩, ⟨by (with_reducible repeat (first | apply Kd.R_alloc | apply Kd.R_drewN | apply Kd.R_drew)); exact Kd.R_mono HO203.out (fun _ hk => hk.1.2)⟩, ⟨by repeat (first | (with_reducible first | exact HB.out | apply below_alloc | apply pw_below_drewN | apply below_drew1) | exact HB.out)⟩⟩
  case rest =>
    clear HC8
    try clear c1
    try clear p2
    try clear c8
    try clear c15
    try clear c15b0
    try clear c15b1
    try clear c16
    try clear c17
    try clear c17b0
    try clear c17b1
    try clear c18
    try clear c19
    obtain ⟨kq, x42_7, rfl, HA, HJ7, HO_5, HO_10, HB⟩ := hcut
    cases kq with
    | zero => exact absurd HA.out (by simp [ossuarylaw10_Trees.j0])
    | succ kj7 =>
      have H := HA.out
      clear HA
      simp only [ossuarylaw10_Trees.j0] at H
      by_cases c21 : x42_7 = true
      · subst c21
        have H1 : (some false) = some r := by rw [if_pos rfl] at H; exact H
        clear H
        have H := H1
        clear H1
        exact absurd (Option.some.inj H) (by rw [HRT.out]; decide)
      · replace c21 := Bool.eq_false_iff.mpr c21
        subst c21
        have H1 : ((ossuarylaw0_SpoilInts.f kj7 t201).bind fun t209 => ((ossuarylaw0_KeptInts.f kj7 t194 l1).bind fun t210 => (if t210 = true then ((ossuarylaw10_awake.f kj7).bind fun t211 => (some t211)) else (some false)))) = some r := by rw [if_neg (show ¬ (false = true) by decide)] at H; exact H
        clear H
        have H := H1
        clear H1
        replace H := Option.bind_eq_some_iff.mp H
        obtain ⟨t209, A220, H⟩ := H
        replace H : ((ossuarylaw0_KeptInts.f kj7 t194 l1).bind fun t210 => (if t210 = true then ((ossuarylaw10_awake.f kj7).bind fun t211 => (some t211)) else (some false))) = some r := H
        have A22 := Aside0.mk A220
        clear A220
        replace H := Option.bind_eq_some_iff.mp H
        obtain ⟨t210, A230, H⟩ := H
        replace H : (if t210 = true then ((ossuarylaw10_awake.f kj7).bind fun t211 => (some t211)) else (some false)) = some r := H
        have A23 := Aside0.mk A230
        clear A230
        by_cases c24 : t210 = true
        · subst c24
          have H1 : ((ossuarylaw10_awake.f kj7).bind fun t211 => (some t211)) = some r := by rw [if_pos rfl] at H; exact H
          clear H
          have H := H1
          clear H1
          replace H := Option.bind_eq_some_iff.mp H
          obtain ⟨t211, A250, H⟩ := H
          replace H : (some t211) = some r := H
          have A25 := Aside0.mk A250
          clear A250
          obtain rfl := Option.some.inj H
          obtain ⟨Ao26, co26, eo26⟩ := Kd.R_slice HO_10.out
          subst eo26
          go_wp2_with (first | ((with_reducible refine gate_callee (f := 21) rfl ?_); refine goesL_ (some 44) rfl rfl Try.func21 (by kernel_rfl) rfl #[.slice Ao26 t201.length co26] rfl (by (try simp only [List.map_toArray, List.map_cons, List.map_nil]); first | done | rfl | (simp only [List.length_drop, List.length_take]; rfl)) ?_; (with_reducible refine (ossuarylaw0_SpoilInts.calls kj7 (fun k_ => some k_ = (.slice Ao26 t201.length co26 : Value).ownBlock) (.slice Ao26 t201.length co26) t201 t209 w _ ?side1 ?side2 A22.out).mono ?_); (case side1 => repeat (first | (with_reducible first | exact HB.out | apply below_alloc | apply pw_below_drewN | apply below_drew1) | exact HB.out)); (case side2 => exact Kd.R_tight rfl HO_10.out); rintro e w27 ⟨rfl, hy0, hb, hkp⟩; refine ⟨_, rfl, ?_⟩; have n0_ := Aside0.mk (RL.mono (ok' := fun k_ => some k_ ≠ (.slice Ao26 t201.length co26 : Value).ownBlock) (RL.keptB (HO_5.out) hkp (fun k_ hk_ hs_ => (hk_) hs_)) (fun k_ hk_ => hk_.1)); have n1_ := Aside0.mk (Kd.R_reok rfl hy0 (fun k_ e_ => HO_10.out.1 k_ e_)); have n2_ := Aside0.mk (hb); clear HO_5; clear HO_10; clear HB; have HO_5 := n0_; have HO_10 := n1_; have HB := n2_; clear n0_ n1_ n2_; (try clear hb); (try clear hkp); (try clear hy0)) | ((with_reducible refine gate_callee (f := 22) rfl ?_); refine goesL_ (some 47) rfl rfl Try.func22 (by kernel_rfl) rfl #[.slice Ao10 t194.length co10, .slice A1 l1.length c1] rfl (by (try simp only [List.map_toArray, List.map_cons, List.map_nil]); first | done | rfl | (simp only [List.length_drop, List.length_take]; rfl)) ?_; (with_reducible refine (ossuarylaw0_KeptInts.calls kj7 _ _ t194 _ _ l1 true _ ?side1 ?side2 ?side3 ?side4 A23.out).mono ?_); (case side1 => repeat (first | exact RL.room HO_5.out | (with_reducible refine CL.alloc ?_ _) | (with_reducible refine CL.drewN ?_ _) | (with_reducible refine CL.drew ?_))); (case side2 => exact (RL.reads' HO_5.out).2.1); (case side3 => repeat (first | exact (Kd.C_below HR1.out HB.out) | (with_reducible refine Kd.C_alloc ?_ _) | (with_reducible refine Kd.C_drewN ?_ _) | (with_reducible refine Kd.C_drew ?_))); (case side4 => exact HC1.out); rintro e w' ⟨rfl, ⟨nd, rfl⟩⟩; refine ⟨_, rfl, ?_⟩) | (go_at_call 23; (with_reducible refine (ossuarylaw10_awake.calls kj7  t211 _ A25.out (hr_ := by first | rfl | exact HRT.out)).mono ?_); rintro e w28 ⟨rfl, hb⟩; have n0_ := Aside0.mk (RL.below (by (with_reducible repeat (first | apply RL.alloc | apply RL.drewN | apply RL.drew)); exact HO_5.out) hb); have n1_ := Aside0.mk (Kd.R_below (by (with_reducible repeat (first | apply Kd.R_alloc | apply Kd.R_drewN | apply Kd.R_drew)); exact HO_10.out) hb); have n2_ := Aside0.mk (below_step (by repeat (first | (with_reducible first | exact HB.out | apply below_alloc | apply pw_below_drewN | apply below_drew1) | exact HB.out)) hb); clear HO_5; clear HO_10; clear HB; have HO_5 := n0_; have HO_10 := n1_; have HB := n2_; clear n0_ n1_ n2_; (try clear hb); (try clear hb2); (try clear hk); (try clear hi)))
          go_ret
          exact ⟨by first | rfl | (simp [errW_none, errW_some] <;> rfl) | (simp [*, errW_none, errW_some] <;> rfl), by repeat (first | (with_reducible first | exact HB.out | apply below_alloc | apply pw_below_drewN | apply below_drew1) | exact HB.out)⟩
        · replace c24 := Bool.eq_false_iff.mpr c24
          subst c24
          have H1 : (some false) = some r := by rw [if_neg (show ¬ (false = true) by decide)] at H; exact H
          clear H
          have H := H1
          clear H1
          exact absurd (Option.some.inj H) (by rw [HRT.out]; decide)

/-- THE ONE PURE STATEMENT of ossuarylaw10_Trees: yours. -/
def ossuarylaw10_Trees.Pure : Prop := ∀ (a0 : ByteArray) (l1 : List Int), a0.size ≤ 140737488351232 → l1.length ≤ maxLen → l1.length * 8 ≤ 140737488351232 → (∀ x ∈ l1, (Lit.int .i64 x).wf = true) → ∃ k, ossuarylaw10_Trees.f k a0 l1 = some true
theorem ossuarylaw10_Trees.walk (P : ossuarylaw10_Trees.Pure) (a0 : ByteArray) (a1 : Option Addr) (len1 cap1 : Nat) (z1 : List Int) (w : World) (w0 : a0.size ≤ 140737488351232) (w1 : (a1 = none ∧ len1 = 0 ∧ cap1 = 0 ∧ z1 = []) ∨ ∃ x, a1 = some x ∧ len1 ≤ cap1 ∧ cap1 ≤ maxLen ∧ z1.length = cap1 ∧ (∀ i, i < z1.length → w.cell? (x.add i) = some (.int .i64 (z1.getD i 0))) ∧ ∀ n ∈ z1, (Lit.int .i64 n).wf = true) (y1 : len1 * 8 ≤ 140737488351232) :
    Calls Try.prog 8 #[.string a0, .slice a1 len1 cap1] w fun e w' => e = .returned (.bool true) ∧ Below w.heap.size w w' := by
  obtain ⟨l1, rfl, hr1, hm1, hw1, hc1⟩ := ReadsInt.ofRowC w1
  obtain ⟨k, h⟩ := P a0 l1 w0 hm1 y1 hw1
  refine (ossuarylaw10_Trees.calls k a0 _ _ l1 true w (Kd.C_of_reads (d := (0 : Int)) (h1 := fun _ => rfl) hr1) hc1 h).mono ?_
  rintro e w' ⟨rfl, hd⟩
  exact ⟨rfl, hd⟩

end Go.Proofs.Ytfjkehpcgiolhaa.HTrees
