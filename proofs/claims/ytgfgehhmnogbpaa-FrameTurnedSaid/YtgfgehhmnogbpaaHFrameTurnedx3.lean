/- Lean functions for the Go functions that the law reaches, and proofs that the calls come to them: written by a program of this session. -/
import Derived.Test.YtgfgehhmnogbpaaHFrameTurnedx0
import Derived.Test.YtgfgehhmnogbpaaHFrameTurnedx2
namespace Go.Proofs.Ytgfgehhmnogbpaa.HFrameTurned
open Go.RowKit Go.Proofs.YtgfgehhmnogbpaaW.PrintWords Go.Proofs.YtgfgehhmnogbpaaW.PrintLast Go.Proofs.YtgfgehhmnogbpaaW.PrintMore
attribute [local go_sem] max2_int min2_int max_two min_two max_three min_three max_four min_four   -- for this text's walks alone
set_option linter.unusedVariables false
set_option linter.unusedSimpArgs false

/-! ### ossuarylaw0_SameInts: function 13 -/
def ossuarylaw0_SameInts.l0 : Nat → List Int → List Int → Int → Option (Bool)
  | 0, _, _, _ => none
  | k + 1, x0, x1, x5 => if x5 < (x0.length : Int) then (if 0 ≤ x5 then (if x5 < (x1.length : Int) then (if (rd x0 x5) = (rd x1 x5) then (ossuarylaw0_SameInts.l0 k x0 x1 (wrap64 (x5 + 1))) else (some false)) else (none)) else (none)) else (some true)
def ossuarylaw0_SameInts.f (k : Nat) (l0 : List Int) (l1 : List Int) : Option (Bool) := if (l0.length : Int) = (l1.length : Int) then (ossuarylaw0_SameInts.l0 k l0 l1 0) else (some false)
theorem ossuarylaw0_SameInts.mono_l : ∀ k, (∀ y0 y1 y2, LeO (ossuarylaw0_SameInts.l0 k y0 y1 y2) (ossuarylaw0_SameInts.l0 (k + 1) y0 y1 y2))
  | 0 => fun _ _ _ r h => by simp [ossuarylaw0_SameInts.l0] at h
  | k + 1 => by
    have ih0 := ossuarylaw0_SameInts.mono_l k
    · intro y0 y1 y2
      unfold ossuarylaw0_SameInts.l0
      repeat' first
      | (with_reducible exact ih0 _ _ _)
      | (with_reducible exact LeO.refl _)
      | (with_reducible exact LeO.none _)
      | (with_reducible refine LeO.ite ?_ ?_)
      | (with_reducible refine LeO.bind ?_ (fun _ => ?_))
      | exact ih0 _ _ _
      | exact LeO.none _
      | refine LeO.ite ?_ ?_
      | refine LeO.bind ?_ (fun _ => ?_)
theorem ossuarylaw0_SameInts.mono : ∀ a0 a1 k, LeO (ossuarylaw0_SameInts.f k a0 a1) (ossuarylaw0_SameInts.f (k + 1) a0 a1) := by
  intro a0 a1 k
  have ih0 := ossuarylaw0_SameInts.mono_l k
  unfold ossuarylaw0_SameInts.f
  repeat' first
      | (with_reducible exact ih0 _ _ _)
      | (with_reducible exact LeO.refl _)
      | (with_reducible exact LeO.none _)
      | (with_reducible refine LeO.ite ?_ ?_)
      | (with_reducible refine LeO.bind ?_ (fun _ => ?_))
      | exact ih0 _ _ _
      | exact LeO.none _
      | refine LeO.ite ?_ ?_
      | refine LeO.bind ?_ (fun _ => ?_)
set_option maxHeartbeats 8000000 in
set_option maxRecDepth 100000 in
theorem ossuarylaw0_SameInts.calls (k : Nat) (A0 : Option Addr) (c0 : Nat) (l0 : List Int) (A1 : Option Addr) (c1 : Nat) (l1 : List Int) (r : Bool) (w : World) (hr0 : Kd.C (Kd.int .i64) w A0 l0.length l0) (hc0 : l0.length ≤ c0) (hr1 : Kd.C (Kd.int .i64) w A1 l1.length l1) (hc1 : l1.length ≤ c1) (h : ossuarylaw0_SameInts.f k l0 l1 = some r) :
    Calls Try.prog 13 #[.slice A0 l0.length c0, .slice A1 l1.length c1] w fun e w' => e = .returned (.bool r) ∧ Drawn0 w w' := by
  have HR0 := Aside0.mk hr0
  have HC0 := Aside0.mk hc0
  clear hr0 hc0
  have HR1 := Aside0.mk hr1
  have HC1 := Aside0.mk hc1
  clear hr1 hc1
  have H : (if (l0.length : Int) = (l1.length : Int) then (ossuarylaw0_SameInts.l0 k l0 l1 0) else (some false)) = some r := h
  clear h
  by_cases c3 : (l0.length : Int) = (l1.length : Int)
  · rw [if_pos c3] at H
    have c3b0 : ((l0.length : Int) == (l1.length : Int)) = true := beq_iff_eq.mpr c3
    have c3b1 : ((l0.length : Int) != (l1.length : Int)) = false := bne_eq_false_iff_eq.mpr c3
    have c3b2 : (l0.length == l1.length) = true := by first | simpa using c3 | (simp at c3 ⊢; omega)
    clear c3
    have H' := Aside0.mk H
    clear H
    go_enter Try.func13, Try.ntmps13
    go_wp2
    repeat (go_quiet (fail); try go_wp2)
    go_loopg [5] k (fun kq v5 w' => ∃ (x5_1 : Int), v5 = .int .i64 x5_1 ∧ Aside0 (ossuarylaw0_SameInts.l0 kq l0 l1 x5_1 = some r) ∧ Aside0 (kq ≤ k) ∧ Drawn0 w w')
    case atStart => exact ⟨(0), (by first | rfl | (simp; done) | (simp [*]; done)), H', ⟨Nat.le_refl _⟩, by repeat (first | exact Drawn0.refl _ | apply Drawn0.step)⟩
    case round =>
      clear H'
      try clear c1
      try clear p2
      try clear c3
      try clear c3b0
      try clear c3b1
      try clear c3b2
      obtain ⟨x5_1, rfl, HA, HK1, ⟨m1, rfl⟩⟩ := hrel
      cases gk with
      | zero => exact absurd HA.out (by simp [ossuarylaw0_SameInts.l0])
      | succ k1 =>
        have H := HA.out
        clear HA
        simp only [ossuarylaw0_SameInts.l0] at H
        by_cases c4 : x5_1 < (l0.length : Int)
        · rw [if_pos c4] at H
          have c4b0 : decide (x5_1 < (l0.length : Int)) = true := decide_eq_true c4
          clear c4
          by_cases c5 : 0 ≤ x5_1
          · rw [if_pos c5] at H
            have c5b0 : decide (0 ≤ x5_1) = true := decide_eq_true c5
            clear c5
            by_cases c6 : x5_1 < (l1.length : Int)
            · rw [if_pos c6] at H
              have c6b0 : decide (x5_1 < (l1.length : Int)) = true := decide_eq_true c6
              clear c6
              by_cases c7 : (rd l0 x5_1) = (rd l1 x5_1)
              · rw [if_pos c7] at H
                have c7b0 : ((rd l0 x5_1) == (rd l1 x5_1)) = true := beq_iff_eq.mpr c7
                have c7b1 : ((rd l0 x5_1) != (rd l1 x5_1)) = false := bne_eq_false_iff_eq.mpr c7
                clear c7
                have H' := Aside0.mk H
                clear H
                have p130 : 0 ≤ (x5_1 : Int) := of_decide_eq_true (by first | (with_reducible assumption) | assumption)
                have q130 : x5_1 < (l0.length : Int) := of_decide_eq_true (by first | (with_reducible assumption) | assumption)
                obtain ⟨ad130, e130, hx130_0⟩ := Kd.at_int HR0.out x5_1 p130 q130
                cases e130
                replace p130 := eq_true p130
                replace q130 := eq_true q130
                have p131 : 0 ≤ (x5_1 : Int) := of_decide_eq_true (by first | (with_reducible assumption) | assumption)
                have q131 : x5_1 < (l1.length : Int) := of_decide_eq_true (by first | (with_reducible assumption) | assumption)
                obtain ⟨ad131, e131, hx131_0⟩ := Kd.at_int HR1.out x5_1 p131 q131
                cases e131
                replace p131 := eq_true p131
                replace q131 := eq_true q131
                go_wp2
                repeat (go_quiet (fail); try go_wp2)
                go_roundg k1
                case measure => have := HK1.out; omega
                case rel => exact ⟨(wrap64 (x5_1 + 1)), (by first | rfl | (simp; done) | (simp [*]; done)), H', ⟨by have := HK1.out; omega⟩, by repeat (first | exact Drawn0.refl _ | apply Drawn0.step)⟩
              · rw [if_neg c7] at H
                have c7b0 : ((rd l0 x5_1) == (rd l1 x5_1)) = false := beq_eq_false_iff_ne.mpr c7
                have c7b1 : ((rd l0 x5_1) != (rd l1 x5_1)) = true := bne_iff_ne.mpr c7
                obtain rfl := Option.some.inj H
                have p130 : 0 ≤ (x5_1 : Int) := of_decide_eq_true (by first | (with_reducible assumption) | assumption)
                have q130 : x5_1 < (l0.length : Int) := of_decide_eq_true (by first | (with_reducible assumption) | assumption)
                obtain ⟨ad130, e130, hx130_0⟩ := Kd.at_int HR0.out x5_1 p130 q130
                cases e130
                replace p130 := eq_true p130
                replace q130 := eq_true q130
                have p131 : 0 ≤ (x5_1 : Int) := of_decide_eq_true (by first | (with_reducible assumption) | assumption)
                have q131 : x5_1 < (l1.length : Int) := of_decide_eq_true (by first | (with_reducible assumption) | assumption)
                obtain ⟨ad131, e131, hx131_0⟩ := Kd.at_int HR1.out x5_1 p131 q131
                cases e131
                replace p131 := eq_true p131
                replace q131 := eq_true q131
                go_wp2
                repeat (go_quiet (fail); try go_wp2)
                go_ret
                exact ⟨by first | rfl | (simp; done) | (simp [*]; done), by repeat (first | exact Drawn0.refl _ | apply Drawn0.step)⟩
            · rw [if_neg c6] at H
              exact absurd H (by simp)
          · rw [if_neg c5] at H
            exact absurd H (by simp)
        · rw [if_neg c4] at H
          have c4b0 : decide (x5_1 < (l0.length : Int)) = false := decide_eq_false c4
          clear c4
          obtain rfl := Option.some.inj H
          go_wp2
          repeat (go_quiet (fail); try go_wp2)
          go_ret
          exact ⟨by first | rfl | (simp; done) | (simp [*]; done), by repeat (first | exact Drawn0.refl _ | apply Drawn0.step)⟩
  · rw [if_neg c3] at H
    have c3b0 : ((l0.length : Int) == (l1.length : Int)) = false := beq_eq_false_iff_ne.mpr c3
    have c3b1 : ((l0.length : Int) != (l1.length : Int)) = true := bne_iff_ne.mpr c3
    have c3b2 : (l0.length == l1.length) = false := by first | simpa using c3 | (simp at c3 ⊢; omega)
    obtain rfl := Option.some.inj H
    go_enter Try.func13, Try.ntmps13
    go_wp2
    repeat (go_quiet (fail); try go_wp2)
    go_ret
    exact ⟨by first | rfl | (simp; done) | (simp [*]; done), by repeat (first | exact Drawn0.refl _ | apply Drawn0.step)⟩

/-! ### ossuarylaw14_text: function 17 -/
def ossuarylaw14_text.l0 : Nat → Int → List Int → Int → Option (ByteArray)
  | 0, _, _, _ => none
  | k + 1, x0, x3, x4 => if x4 < 32 then (if 0 ≤ x4 then (if x4 < (x3.length : Int) then (ossuarylaw14_text.l0 k x0 (x3.set (x4 : Int).toNat ((x0 + ((x4) % 256)) % 256)) (wrap64 (x4 + 1))) else (none)) else (none)) else (some (strOfNums x3))
def ossuarylaw14_text.f (k : Nat) (a0 : Int) : Option (ByteArray) := if 32 ≤ 281474976710656 then (ossuarylaw14_text.l0 k a0 (List.replicate 32 0) 0) else (none)
theorem ossuarylaw14_text.mono_l : ∀ k, (∀ y0 y1 y2, LeO (ossuarylaw14_text.l0 k y0 y1 y2) (ossuarylaw14_text.l0 (k + 1) y0 y1 y2))
  | 0 => fun _ _ _ r h => by simp [ossuarylaw14_text.l0] at h
  | k + 1 => by
    have ih0 := ossuarylaw14_text.mono_l k
    · intro y0 y1 y2
      unfold ossuarylaw14_text.l0
      repeat' first
      | (with_reducible exact ih0 _ _ _)
      | (with_reducible exact LeO.refl _)
      | (with_reducible exact LeO.none _)
      | (with_reducible refine LeO.ite ?_ ?_)
      | (with_reducible refine LeO.bind ?_ (fun _ => ?_))
      | exact ih0 _ _ _
      | exact LeO.none _
      | refine LeO.ite ?_ ?_
      | refine LeO.bind ?_ (fun _ => ?_)
theorem ossuarylaw14_text.mono : ∀ a0 k, LeO (ossuarylaw14_text.f k a0) (ossuarylaw14_text.f (k + 1) a0) := by
  intro a0 k
  have ih0 := ossuarylaw14_text.mono_l k
  unfold ossuarylaw14_text.f
  repeat' first
      | (with_reducible exact ih0 _ _ _)
      | (with_reducible exact LeO.refl _)
      | (with_reducible exact LeO.none _)
      | (with_reducible refine LeO.ite ?_ ?_)
      | (with_reducible refine LeO.bind ?_ (fun _ => ?_))
      | exact ih0 _ _ _
      | exact LeO.none _
      | refine LeO.ite ?_ ?_
      | refine LeO.bind ?_ (fun _ => ?_)
set_option maxHeartbeats 8000000 in
set_option maxRecDepth 100000 in
theorem ossuarylaw14_text.calls (k : Nat) (a0 : Int) (r : ByteArray) (w : World) (h : ossuarylaw14_text.f k a0 = some r) :
    Calls Try.prog 17 #[.int .u8 a0] w fun e w' => e = .returned (.string r) ∧ Below w.heap.size w w' := by
  have HB := Aside0.mk (Below.refl w.heap.size w)
  have H : (if 32 ≤ 281474976710656 then (ossuarylaw14_text.l0 k a0 (List.replicate 32 0) 0) else (none)) = some r := h
  clear h
  by_cases c2 : 32 ≤ 281474976710656
  · rw [if_pos c2] at H
    have c2b0 := eq_true c2
    have c2b1 : decide (32 ≤ 281474976710656) = true := decide_eq_true c2
    clear c2
    obtain ⟨y132, hy132⟩ : ∃ y_ : List Int, y_ = (List.replicate 32 0) := ⟨_, rfl⟩
    replace H : (ossuarylaw14_text.l0 k a0 y132 0) = some r := by first | (rw [hy132]; with_reducible exact H) | (have H2_ := (Option.bind_some _ _).symm.trans H; rw [hy132]; with_reducible exact H2_) | (have H2_ := (Option.bind_some _ _).symm.trans H; with_reducible exact H2_) | with_reducible exact H | (rw [hy132]; exact H) | exact H
    have Ny132 := Aside0.mk hy132
    clear hy132
    have H' := Aside0.mk H
    clear H
    go_enter Try.func17, Try.ntmps17
    go_wp2_with (first | ((with_reducible refine gate_dst (N := 5) rfl ?_); refine Kd.R_make (Kd.int .u8) _ 5 rfl (N := 5) rfl 41 _ _ rfl 32 rfl rfl Try.underlying41 (.int .u8 0) 1 info5 rfl (by decide) (by omega) 0 (ok := fun _ => True) (okp := fun _ => True) rfl (fun _ hk => hk) trivial (by omega) (by omega) (Below.refl _ _) (Nat.le_refl _) ?_; intro v133 w3 ho4 hb hg_ hnew_; clear hg_ hnew_; (first | rw [← Ny132.out] at ho4 | (simp only [Int.reduceToNat] at ho4; rw [← Ny132.out] at ho4)); have n0_ := Aside0.mk (Kd.R_lower ho4 (below_size (by repeat (first | (with_reducible first | exact HB.out | apply below_alloc | apply pw_below_drewN | apply below_drew1) | exact HB.out)))); have n1_ := Aside0.mk (below_step (by repeat (first | (with_reducible first | exact HB.out | apply below_alloc | apply pw_below_drewN | apply below_drew1) | exact HB.out)) hb); clear HB; have HO134 := n0_; have HB := n1_; clear n0_ n1_; clear hb ho4))
    go_loopg [4] k (fun kq v4 w' => ∃ (x3_1 : List Int) (x4_1 : Int), v4 = .int .i64 x4_1 ∧ Aside0 (ossuarylaw14_text.l0 kq a0 x3_1 x4_1 = some r) ∧ Aside0 (kq ≤ k) ∧ Aside0 (Kd.R (Kd.int .u8) 5 w' w.heap.size (fun _ => True) v133 x3_1) ∧ Aside0 (Below w.heap.size w w'))
    case atStart => exact ⟨(y132), (0), (by first | rfl | (simp; done) | (simp [*]; done)), H', ⟨Nat.le_refl _⟩, ⟨by (with_reducible repeat (first | apply Kd.R_alloc | apply Kd.R_drewN | apply Kd.R_drew)); exact HO134.out⟩, ⟨by repeat (first | (with_reducible first | exact HB.out | apply below_alloc | apply pw_below_drewN | apply below_drew1) | exact HB.out)⟩⟩
    case round =>
      clear H'
      try clear c1
      try clear c2
      try clear c2b0
      try clear c2b1
      try clear p2
      obtain ⟨x3_1, x4_1, rfl, HA, HK1, HO_3, HB⟩ := hrel
      cases gk with
      | zero => exact absurd HA.out (by simp [ossuarylaw14_text.l0])
      | succ k1 =>
        have H := HA.out
        clear HA
        simp only [ossuarylaw14_text.l0] at H
        by_cases c5 : x4_1 < 32
        · rw [if_pos c5] at H
          have c5b0 : decide (x4_1 < 32) = true := decide_eq_true c5
          clear c5
          by_cases c6 : 0 ≤ x4_1
          · rw [if_pos c6] at H
            have c6b0 : decide (0 ≤ x4_1) = true := decide_eq_true c6
            clear c6
            by_cases c7 : x4_1 < (x3_1.length : Int)
            · rw [if_pos c7] at H
              have c7b0 : decide (x4_1 < (x3_1.length : Int)) = true := decide_eq_true c7
              clear c7
              obtain ⟨y135, hy135⟩ : ∃ y_ : List Int, y_ = (x3_1.set (x4_1 : Int).toNat ((a0 + ((x4_1) % 256)) % 256)) := ⟨_, rfl⟩
              replace H : (ossuarylaw14_text.l0 k1 a0 y135 (wrap64 (x4_1 + 1))) = some r := by first | (rw [hy135]; with_reducible exact H) | (have H2_ := (Option.bind_some _ _).symm.trans H; rw [hy135]; with_reducible exact H2_) | (have H2_ := (Option.bind_some _ _).symm.trans H; with_reducible exact H2_) | with_reducible exact H | (rw [hy135]; exact H) | exact H
              have Ny135 := Aside0.mk hy135
              clear hy135
              have H' := Aside0.mk H
              clear H
              have p8 : 0 ≤ (x4_1 : Int) := of_decide_eq_true (by first | (with_reducible assumption) | assumption)
              have q8 : (x4_1 : Int) < ((x3_1.length : Int) : Int) := of_decide_eq_true (by first | (with_reducible assumption) | assumption)
              obtain ⟨go8, co8, eo8, gb8, gl8, cl8, HG8⟩ := Kd.R_form HO_3.out (by omega)
              (first | cases eo8 | (injection eo8 with ea_ en_ ec_; (first | subst ea_ | (injection ea_ with ea_; subst ea_)); subst ec_; clear en_))
              have GB8 := Aside0.mk gb8
              have GG8 := Aside0.mk HG8
              clear gb8 gl8 HG8
              obtain ⟨hx8_0, hf8_0⟩ := Kd.R_celln 0 HO_3.out (x4_1 : Int) p8 q8
              replace p8 := eq_true p8
              replace q8 := eq_true q8
              have HP9 := Kd.R_putg HO_3.out (x4_1 : Int) ((a0 + ((x4_1) % 256)) % 256)
              go_wp2_with (first | ((with_reducible refine gate_store (t := 5) (p := 16) rfl ?_); refine store_event (t := 5) (p := 16) (v := ?vo_w10) (w1 := (wr.setCell ⟨go8, (x4_1 : Int).toNat, none⟩ (.int .u8 ((a0 + ((x4_1) % 256)) % 256)))) ?hg ?ho ?hn ?hr ?_; (case ho => rfl); (case hg => rfl); (case hn => rfl); (case hr => first | (go_simp; done) | (go_simp; rfl)); intro w10 hw; have hg : wr.grownBy w10 (some go8) := (by rw [hw]; exact HP9.2); have hp_ : Kd.R (Kd.int .u8) 5 w10 w.heap.size (fun _ => True) (.slice (some ⟨go8, 0, none⟩) x3_1.length co8) y135 := (by rw [hw, Ny135.out]; exact HP9.1); clear HP9; have n0_ := Aside0.mk (hp_); have n1_ := Aside0.mk ((by rw [hw]; exact below_set (HB.out) GB8.out : Below w.heap.size w w10)); clear HO_3; clear HB; have HO_3 := n0_; have HB := n1_; clear n0_ n1_; clear hg hw hp_))
              go_roundg k1
              case measure => have := HK1.out; omega
              case rel => exact ⟨(y135), (wrap64 (x4_1 + 1)), (by first | rfl | (simp; done) | (simp [*]; done)), H', ⟨by have := HK1.out; omega⟩, ⟨by (with_reducible repeat (first | apply Kd.R_alloc | apply Kd.R_drewN | apply Kd.R_drew)); exact HO_3.out⟩, ⟨by repeat (first | (with_reducible first | exact HB.out | apply below_alloc | apply pw_below_drewN | apply below_drew1) | exact HB.out)⟩⟩
            · rw [if_neg c7] at H
              exact absurd H (by simp)
          · rw [if_neg c6] at H
            exact absurd H (by simp)
        · rw [if_neg c5] at H
          have c5b0 : decide (x4_1 < 32) = false := decide_eq_false c5
          clear c5
          obtain rfl := Option.some.inj H
          have hcv11 := own_string (P := Try.prog) Try.underlying41 Try.underlying5 Try.underlying9 (Kd.own_of_R HO_3.out)
          go_wp2
          go_ret
          exact ⟨by first | rfl | (simp [errW_none, errW_some] <;> rfl) | (simp [*, errW_none, errW_some] <;> rfl), by repeat (first | (with_reducible first | exact HB.out | apply below_alloc | apply pw_below_drewN | apply below_drew1) | exact HB.out)⟩
  · rw [if_neg c2] at H
    exact absurd H (by simp)

/-! ### ossuarylaw14_awake: function 16 -/
def ossuarylaw14_awake.f (k : Nat)  : Option (Bool) := (ossuarylaw14_text.f k 97).bind fun t136 => ((frame_Put.f k 3 1 t136 (([5, 6] : List Int))).bind fun bt140 => ((frame_Get.f k bt140.1 3 1).bind fun bt142 => ((frame_Get.f k bt140.1 3 2).bind fun bt147 => ((frame_Put.f k 3 1 (⟨#[97]⟩ : ByteArray) ([] : List Int)).bind fun bt152 => (if (bt140.1.size : Int) = 64 then (if 0 ≤ 4 then (if 4 ≤ (bt140.1.size : Int) then (if (bt140.1.extract 0 4).toList = ([79, 3, 1, 2] : List UInt8) then ((ossuarylaw0_Num.f bt140.2).bind fun t154 => (if t154 = 0 then ((ossuarylaw14_text.f k 97).bind fun t155 => (if bt142.1.toList = t155.toList then ((ossuarylaw0_SameInts.f k bt142.2.1 (([5, 6] : List Int))).bind fun t159 => (if t159 = true then ((ossuarylaw0_Num.f bt142.2.2).bind fun t160 => (if t160 = 0 then ((ossuarylaw0_Num.f bt147.2.2).bind fun t161 => (if t161 = 1400 then ((ossuarylaw0_Num.f bt152.2).bind fun t162 => (some (t162 == 1400))) else (some false))) else (some false))) else (some false))) else (some false))) else (some false))) else (some false)) else (none)) else (none)) else (some false))))))
theorem ossuarylaw14_awake.mono : ∀ k, LeO (ossuarylaw14_awake.f k ) (ossuarylaw14_awake.f (k + 1) ) := by
  intro  k
  unfold ossuarylaw14_awake.f
  repeat' first
      | (with_reducible exact frame_Get.mono _ _ _ _)
      | (with_reducible exact frame_Put.mono _ _ _ _ _)
      | (with_reducible exact ossuarylaw0_SameInts.mono _ _ _)
      | (with_reducible exact ossuarylaw14_text.mono _ _)
      | (with_reducible exact LeO.refl _)
      | (with_reducible exact LeO.none _)
      | (with_reducible refine LeO.ite ?_ ?_)
      | (with_reducible refine LeO.bind ?_ (fun _ => ?_))
      | exact frame_Get.mono _ _ _ _
      | exact frame_Put.mono _ _ _ _ _
      | exact ossuarylaw0_SameInts.mono _ _ _
      | exact ossuarylaw14_text.mono _ _
      | exact LeO.none _
      | refine LeO.ite ?_ ?_
      | refine LeO.bind ?_ (fun _ => ?_)
set_option maxHeartbeats 8000000 in
set_option maxRecDepth 100000 in
theorem ossuarylaw14_awake.calls (k : Nat)  (r : Bool) (w : World) (h : ossuarylaw14_awake.f k  = some r) (hr_ : r = true := by rfl) :
    Calls Try.prog 16 #[] w fun e w' => e = .returned (.bool r) ∧ Below w.heap.size w w' := by
  have HRT := Aside0.mk hr_
  clear hr_
  have HB := Aside0.mk (Below.refl w.heap.size w)
  have H : ((ossuarylaw14_text.f k 97).bind fun t136 => ((frame_Put.f k 3 1 t136 (([5, 6] : List Int))).bind fun bt140 => ((frame_Get.f k bt140.1 3 1).bind fun bt142 => ((frame_Get.f k bt140.1 3 2).bind fun bt147 => ((frame_Put.f k 3 1 (⟨#[97]⟩ : ByteArray) ([] : List Int)).bind fun bt152 => (if (bt140.1.size : Int) = 64 then (if 0 ≤ 4 then (if 4 ≤ (bt140.1.size : Int) then (if (bt140.1.extract 0 4).toList = ([79, 3, 1, 2] : List UInt8) then ((ossuarylaw0_Num.f bt140.2).bind fun t154 => (if t154 = 0 then ((ossuarylaw14_text.f k 97).bind fun t155 => (if bt142.1.toList = t155.toList then ((ossuarylaw0_SameInts.f k bt142.2.1 (([5, 6] : List Int))).bind fun t159 => (if t159 = true then ((ossuarylaw0_Num.f bt142.2.2).bind fun t160 => (if t160 = 0 then ((ossuarylaw0_Num.f bt147.2.2).bind fun t161 => (if t161 = 1400 then ((ossuarylaw0_Num.f bt152.2).bind fun t162 => (some (t162 == 1400))) else (some false))) else (some false))) else (some false))) else (some false))) else (some false))) else (some false)) else (none)) else (none)) else (some false))))))) = some r := h
  clear h
  replace H := Option.bind_eq_some_iff.mp H
  obtain ⟨t136, A10, H⟩ := H
  replace H : ((frame_Put.f k 3 1 t136 (([5, 6] : List Int))).bind fun bt140 => ((frame_Get.f k bt140.1 3 1).bind fun bt142 => ((frame_Get.f k bt140.1 3 2).bind fun bt147 => ((frame_Put.f k 3 1 (⟨#[97]⟩ : ByteArray) ([] : List Int)).bind fun bt152 => (if (bt140.1.size : Int) = 64 then (if 0 ≤ 4 then (if 4 ≤ (bt140.1.size : Int) then (if (bt140.1.extract 0 4).toList = ([79, 3, 1, 2] : List UInt8) then ((ossuarylaw0_Num.f bt140.2).bind fun t154 => (if t154 = 0 then ((ossuarylaw14_text.f k 97).bind fun t155 => (if bt142.1.toList = t155.toList then ((ossuarylaw0_SameInts.f k bt142.2.1 (([5, 6] : List Int))).bind fun t159 => (if t159 = true then ((ossuarylaw0_Num.f bt142.2.2).bind fun t160 => (if t160 = 0 then ((ossuarylaw0_Num.f bt147.2.2).bind fun t161 => (if t161 = 1400 then ((ossuarylaw0_Num.f bt152.2).bind fun t162 => (some (t162 == 1400))) else (some false))) else (some false))) else (some false))) else (some false))) else (some false))) else (some false)) else (none)) else (none)) else (some false)))))) = some r := H
  have A1 := Aside0.mk A10
  clear A10
  obtain ⟨y137, hy137⟩ : ∃ y_ : List Int, y_ = (([5, 6] : List Int)) := ⟨_, rfl⟩
  replace H : ((frame_Put.f k 3 1 t136 y137).bind fun bt140 => ((frame_Get.f k bt140.1 3 1).bind fun bt142 => ((frame_Get.f k bt140.1 3 2).bind fun bt147 => ((frame_Put.f k 3 1 (⟨#[97]⟩ : ByteArray) ([] : List Int)).bind fun bt152 => (if (bt140.1.size : Int) = 64 then (if 0 ≤ 4 then (if 4 ≤ (bt140.1.size : Int) then (if (bt140.1.extract 0 4).toList = ([79, 3, 1, 2] : List UInt8) then ((ossuarylaw0_Num.f bt140.2).bind fun t154 => (if t154 = 0 then ((ossuarylaw14_text.f k 97).bind fun t155 => (if bt142.1.toList = t155.toList then ((ossuarylaw0_SameInts.f k bt142.2.1 (([5, 6] : List Int))).bind fun t159 => (if t159 = true then ((ossuarylaw0_Num.f bt142.2.2).bind fun t160 => (if t160 = 0 then ((ossuarylaw0_Num.f bt147.2.2).bind fun t161 => (if t161 = 1400 then ((ossuarylaw0_Num.f bt152.2).bind fun t162 => (some (t162 == 1400))) else (some false))) else (some false))) else (some false))) else (some false))) else (some false))) else (some false)) else (none)) else (none)) else (some false)))))) = some r := by first | (rw [hy137]; with_reducible exact H) | (have H2_ := (Option.bind_some _ _).symm.trans H; rw [hy137]; with_reducible exact H2_) | (have H2_ := (Option.bind_some _ _).symm.trans H; with_reducible exact H2_) | with_reducible exact H | (rw [hy137]; exact H) | exact H
  have Ny137 := Aside0.mk hy137
  clear hy137
  replace H := Option.bind_eq_some_iff.mp H
  obtain ⟨⟨t140, t141⟩, A20, H⟩ := H
  replace H : ((frame_Get.f k t140 3 1).bind fun bt142 => ((frame_Get.f k t140 3 2).bind fun bt147 => ((frame_Put.f k 3 1 (⟨#[97]⟩ : ByteArray) ([] : List Int)).bind fun bt152 => (if (t140.size : Int) = 64 then (if 0 ≤ 4 then (if 4 ≤ (t140.size : Int) then (if (t140.extract 0 4).toList = ([79, 3, 1, 2] : List UInt8) then ((ossuarylaw0_Num.f t141).bind fun t154 => (if t154 = 0 then ((ossuarylaw14_text.f k 97).bind fun t155 => (if bt142.1.toList = t155.toList then ((ossuarylaw0_SameInts.f k bt142.2.1 (([5, 6] : List Int))).bind fun t159 => (if t159 = true then ((ossuarylaw0_Num.f bt142.2.2).bind fun t160 => (if t160 = 0 then ((ossuarylaw0_Num.f bt147.2.2).bind fun t161 => (if t161 = 1400 then ((ossuarylaw0_Num.f bt152.2).bind fun t162 => (some (t162 == 1400))) else (some false))) else (some false))) else (some false))) else (some false))) else (some false))) else (some false)) else (none)) else (none)) else (some false))))) = some r := H
  have A2 := Aside0.mk A20
  clear A20
  replace H := Option.bind_eq_some_iff.mp H
  obtain ⟨⟨t142, t143, t144⟩, A30, H⟩ := H
  replace H : ((frame_Get.f k t140 3 2).bind fun bt147 => ((frame_Put.f k 3 1 (⟨#[97]⟩ : ByteArray) ([] : List Int)).bind fun bt152 => (if (t140.size : Int) = 64 then (if 0 ≤ 4 then (if 4 ≤ (t140.size : Int) then (if (t140.extract 0 4).toList = ([79, 3, 1, 2] : List UInt8) then ((ossuarylaw0_Num.f t141).bind fun t154 => (if t154 = 0 then ((ossuarylaw14_text.f k 97).bind fun t155 => (if t142.toList = t155.toList then ((ossuarylaw0_SameInts.f k t143 (([5, 6] : List Int))).bind fun t159 => (if t159 = true then ((ossuarylaw0_Num.f t144).bind fun t160 => (if t160 = 0 then ((ossuarylaw0_Num.f bt147.2.2).bind fun t161 => (if t161 = 1400 then ((ossuarylaw0_Num.f bt152.2).bind fun t162 => (some (t162 == 1400))) else (some false))) else (some false))) else (some false))) else (some false))) else (some false))) else (some false)) else (none)) else (none)) else (some false)))) = some r := H
  have A3 := Aside0.mk A30
  clear A30
  replace H := Option.bind_eq_some_iff.mp H
  obtain ⟨⟨t147, t148, t149⟩, A40, H⟩ := H
  replace H : ((frame_Put.f k 3 1 (⟨#[97]⟩ : ByteArray) ([] : List Int)).bind fun bt152 => (if (t140.size : Int) = 64 then (if 0 ≤ 4 then (if 4 ≤ (t140.size : Int) then (if (t140.extract 0 4).toList = ([79, 3, 1, 2] : List UInt8) then ((ossuarylaw0_Num.f t141).bind fun t154 => (if t154 = 0 then ((ossuarylaw14_text.f k 97).bind fun t155 => (if t142.toList = t155.toList then ((ossuarylaw0_SameInts.f k t143 (([5, 6] : List Int))).bind fun t159 => (if t159 = true then ((ossuarylaw0_Num.f t144).bind fun t160 => (if t160 = 0 then ((ossuarylaw0_Num.f t149).bind fun t161 => (if t161 = 1400 then ((ossuarylaw0_Num.f bt152.2).bind fun t162 => (some (t162 == 1400))) else (some false))) else (some false))) else (some false))) else (some false))) else (some false))) else (some false)) else (none)) else (none)) else (some false))) = some r := H
  have A4 := Aside0.mk A40
  clear A40
  replace H := Option.bind_eq_some_iff.mp H
  obtain ⟨⟨t152, t153⟩, A50, H⟩ := H
  replace H : (if (t140.size : Int) = 64 then (if 0 ≤ 4 then (if 4 ≤ (t140.size : Int) then (if (t140.extract 0 4).toList = ([79, 3, 1, 2] : List UInt8) then ((ossuarylaw0_Num.f t141).bind fun t154 => (if t154 = 0 then ((ossuarylaw14_text.f k 97).bind fun t155 => (if t142.toList = t155.toList then ((ossuarylaw0_SameInts.f k t143 (([5, 6] : List Int))).bind fun t159 => (if t159 = true then ((ossuarylaw0_Num.f t144).bind fun t160 => (if t160 = 0 then ((ossuarylaw0_Num.f t149).bind fun t161 => (if t161 = 1400 then ((ossuarylaw0_Num.f t153).bind fun t162 => (some (t162 == 1400))) else (some false))) else (some false))) else (some false))) else (some false))) else (some false))) else (some false)) else (none)) else (none)) else (some false)) = some r := H
  have A5 := Aside0.mk A50
  clear A50
  by_cases c6 : (t140.size : Int) = 64
  · rw [if_pos c6] at H
    have c6b0 : ((t140.size : Int) == 64) = true := beq_iff_eq.mpr c6
    have c6b1 : ((t140.size : Int) != 64) = false := bne_eq_false_iff_eq.mpr c6
    clear c6
    by_cases c7 : 0 ≤ 4
    · rw [if_pos c7] at H
      have c7b0 := eq_true c7
      have c7b1 : decide (0 ≤ 4) = true := decide_eq_true c7
      clear c7
      by_cases c8 : 4 ≤ (t140.size : Int)
      · rw [if_pos c8] at H
        have c8b0 := eq_true c8
        have c8b1 : decide (4 ≤ (t140.size : Int)) = true := decide_eq_true c8
        clear c8
        by_cases c9 : (t140.extract 0 4).toList = ([79, 3, 1, 2] : List UInt8)
        · rw [if_pos c9] at H
          have c9b0 : ((t140.extract 0 4).toList == ([79, 3, 1, 2] : List UInt8)) = true := beq_iff_eq.mpr c9
          have c9b1 : ((t140.extract 0 4).toList != ([79, 3, 1, 2] : List UInt8)) = false := bne_eq_false_iff_eq.mpr c9
          clear c9
          replace H := Option.bind_eq_some_iff.mp H
          obtain ⟨t154, A100, H⟩ := H
          replace H : (if t154 = 0 then ((ossuarylaw14_text.f k 97).bind fun t155 => (if t142.toList = t155.toList then ((ossuarylaw0_SameInts.f k t143 (([5, 6] : List Int))).bind fun t159 => (if t159 = true then ((ossuarylaw0_Num.f t144).bind fun t160 => (if t160 = 0 then ((ossuarylaw0_Num.f t149).bind fun t161 => (if t161 = 1400 then ((ossuarylaw0_Num.f t153).bind fun t162 => (some (t162 == 1400))) else (some false))) else (some false))) else (some false))) else (some false))) else (some false)) = some r := H
          have A10 := Aside0.mk A100
          clear A100
          by_cases c11 : t154 = 0
          · rw [if_pos c11] at H
            have c11b0 : (t154 == 0) = true := beq_iff_eq.mpr c11
            have c11b1 : (t154 != 0) = false := bne_eq_false_iff_eq.mpr c11
            clear c11
            replace H := Option.bind_eq_some_iff.mp H
            obtain ⟨t155, A120, H⟩ := H
            replace H : (if t142.toList = t155.toList then ((ossuarylaw0_SameInts.f k t143 (([5, 6] : List Int))).bind fun t159 => (if t159 = true then ((ossuarylaw0_Num.f t144).bind fun t160 => (if t160 = 0 then ((ossuarylaw0_Num.f t149).bind fun t161 => (if t161 = 1400 then ((ossuarylaw0_Num.f t153).bind fun t162 => (some (t162 == 1400))) else (some false))) else (some false))) else (some false))) else (some false)) = some r := H
            have A12 := Aside0.mk A120
            clear A120
            by_cases c13 : t142.toList = t155.toList
            · rw [if_pos c13] at H
              have c13b0 : (t142.toList == t155.toList) = true := beq_iff_eq.mpr c13
              have c13b1 : (t142.toList != t155.toList) = false := bne_eq_false_iff_eq.mpr c13
              clear c13
              obtain ⟨y156, hy156⟩ : ∃ y_ : List Int, y_ = (([5, 6] : List Int)) := ⟨_, rfl⟩
              replace H : ((ossuarylaw0_SameInts.f k t143 y156).bind fun t159 => (if t159 = true then ((ossuarylaw0_Num.f t144).bind fun t160 => (if t160 = 0 then ((ossuarylaw0_Num.f t149).bind fun t161 => (if t161 = 1400 then ((ossuarylaw0_Num.f t153).bind fun t162 => (some (t162 == 1400))) else (some false))) else (some false))) else (some false))) = some r := by first | (rw [hy156]; with_reducible exact H) | (have H2_ := (Option.bind_some _ _).symm.trans H; rw [hy156]; with_reducible exact H2_) | (have H2_ := (Option.bind_some _ _).symm.trans H; with_reducible exact H2_) | with_reducible exact H | (rw [hy156]; exact H) | exact H
              have Ny156 := Aside0.mk hy156
              clear hy156
              replace H := Option.bind_eq_some_iff.mp H
              obtain ⟨t159, A140, H⟩ := H
              replace H : (if t159 = true then ((ossuarylaw0_Num.f t144).bind fun t160 => (if t160 = 0 then ((ossuarylaw0_Num.f t149).bind fun t161 => (if t161 = 1400 then ((ossuarylaw0_Num.f t153).bind fun t162 => (some (t162 == 1400))) else (some false))) else (some false))) else (some false)) = some r := H
              have A14 := Aside0.mk A140
              clear A140
              by_cases c15 : t159 = true
              · subst c15
                have H1 : ((ossuarylaw0_Num.f t144).bind fun t160 => (if t160 = 0 then ((ossuarylaw0_Num.f t149).bind fun t161 => (if t161 = 1400 then ((ossuarylaw0_Num.f t153).bind fun t162 => (some (t162 == 1400))) else (some false))) else (some false))) = some r := by rw [if_pos rfl] at H; exact H
                clear H
                have H := H1
                clear H1
                replace H := Option.bind_eq_some_iff.mp H
                obtain ⟨t160, A160, H⟩ := H
                replace H : (if t160 = 0 then ((ossuarylaw0_Num.f t149).bind fun t161 => (if t161 = 1400 then ((ossuarylaw0_Num.f t153).bind fun t162 => (some (t162 == 1400))) else (some false))) else (some false)) = some r := H
                have A16 := Aside0.mk A160
                clear A160
                by_cases c17 : t160 = 0
                · rw [if_pos c17] at H
                  have c17b0 : (t160 == 0) = true := beq_iff_eq.mpr c17
                  have c17b1 : (t160 != 0) = false := bne_eq_false_iff_eq.mpr c17
                  clear c17
                  replace H := Option.bind_eq_some_iff.mp H
                  obtain ⟨t161, A180, H⟩ := H
                  replace H : (if t161 = 1400 then ((ossuarylaw0_Num.f t153).bind fun t162 => (some (t162 == 1400))) else (some false)) = some r := H
                  have A18 := Aside0.mk A180
                  clear A180
                  by_cases c19 : t161 = 1400
                  · rw [if_pos c19] at H
                    have c19b0 : (t161 == 1400) = true := beq_iff_eq.mpr c19
                    have c19b1 : (t161 != 1400) = false := bne_eq_false_iff_eq.mpr c19
                    clear c19
                    replace H := Option.bind_eq_some_iff.mp H
                    obtain ⟨t162, A200, H⟩ := H
                    replace H : (some (t162 == 1400)) = some r := H
                    have A20 := Aside0.mk A200
                    clear A200
                    obtain rfl := Option.some.inj H
                    go_enter Try.func16, Try.ntmps16
                    go_wp2_with (first | ((with_reducible refine gate_callee (f := 17) rfl ?_); refine goesL_ (some 12) rfl rfl Try.func17 (by kernel_rfl) rfl #[.int .u8 97] rfl (by (try simp only [List.map_toArray, List.map_cons, List.map_nil]); first | done | rfl | (simp only [List.length_drop, List.length_take]; rfl)) ?_; (with_reducible refine (ossuarylaw14_text.calls k 97 t136 _ A1.out).mono ?_); rintro e w21 ⟨rfl, hb⟩; refine ⟨_, rfl, ?_⟩; have n0_ := Aside0.mk (below_step (by repeat (first | (with_reducible first | exact HB.out | apply below_alloc | apply pw_below_drewN | apply below_drew1) | exact HB.out)) hb); clear HB; have HB := n0_; clear n0_; (try clear hb); (try clear hb2); (try clear hk); (try clear hi)) | ((with_reducible refine gate_dst (N := 13) rfl ?_); (try (refine gate_guard (by rfl) ?_; dsimp only)); refine Kd.R_lit (Kd.int .i64) _ 3 ?hg (N := 13) ?hd (xs := ([5, 6] : List Int)) (inner := [.int .i64 5, .int .i64 6]) (ok := fun _ => True) (okp := fun _ => True) ?hr ?hp (fun _ hk => hk) trivial (Below.refl _ _) (Nat.le_refl _) (by simp) ?_; (case hd => rfl); (case hg => rfl); (case hr => first | (go_simp; done) | (go_simp; rfl)); (case hp => exact (Reps.one (show Kd.M (Kd.int .i64) _ _ _ 5 [.int .i64 5] from rfl) (Reps.one (show Kd.M (Kd.int .i64) _ _ _ 6 [.int .i64 6] from rfl) (Reps.none _ _)))); intro v138 w22 ho23 hb hg_ hnew_; clear hg_ hnew_; (first | rw [← Ny137.out] at ho23 | (simp only [Int.reduceToNat] at ho23; rw [← Ny137.out] at ho23)); have n0_ := Aside0.mk (Kd.R_lower ho23 (below_size (by repeat (first | (with_reducible first | exact HB.out | apply below_alloc | apply pw_below_drewN | apply below_drew1) | exact HB.out)))); have n1_ := Aside0.mk (below_step (by repeat (first | (with_reducible first | exact HB.out | apply below_alloc | apply pw_below_drewN | apply below_drew1) | exact HB.out)) hb); clear HB; have HO139 := n0_; have HB := n1_; clear n0_ n1_; clear hb ho23; obtain ⟨Ao24, co24, eo24⟩ := Kd.R_slice HO139.out; subst eo24) | ((with_reducible refine gate_callee (f := 8) rfl ?_); refine goesL_ (some 14) rfl rfl Try.func8 (by kernel_rfl) rfl #[.int .i64 3, .int .i64 1, .string t136, .slice Ao24 y137.length co24] rfl (by (try simp only [List.map_toArray, List.map_cons, List.map_nil]); first | done | rfl | (simp only [List.length_drop, List.length_take]; rfl)) ?_; (with_reducible refine (frame_Put.calls k 3 1 t136 _ _ y137 t140 t141 _ ?side1 ?side2 A2.out).mono ?_); (case side1 => repeat (first | exact (Kd.R_reads' HO139.out).2.2 | (with_reducible refine Kd.C_alloc ?_ _) | (with_reducible refine Kd.C_drewN ?_ _) | (with_reducible refine Kd.C_drew ?_))); (case side2 => exact (Kd.R_reads' HO139.out).2.1); rintro e w25 ⟨rfl, hb⟩; refine ⟨_, rfl, ?_⟩; have n0_ := Aside0.mk (Kd.R_below (by (with_reducible repeat (first | apply Kd.R_alloc | apply Kd.R_drewN | apply Kd.R_drew)); exact HO139.out) hb); have n1_ := Aside0.mk (below_step (by repeat (first | (with_reducible first | exact HB.out | apply below_alloc | apply pw_below_drewN | apply below_drew1) | exact HB.out)) hb); clear HO139; clear HB; have HO139 := n0_; have HB := n1_; clear n0_ n1_; (try clear hb); (try clear hb2); (try clear hk); (try clear hi)) | ((with_reducible refine gate_callee (f := 10) rfl ?_); refine goesL_ (some 19) rfl rfl Try.func10 (by kernel_rfl) rfl #[.string t140, .int .i64 3, .int .i64 1] rfl (by (try simp only [List.map_toArray, List.map_cons, List.map_nil]); first | done | rfl | (simp only [List.length_drop, List.length_take]; rfl)) ?_; (with_reducible refine (frame_Get.calls k t140 3 1 t142 t143 t144 _ A3.out).mono ?_); rintro e w26 ⟨v145, rfl, ho0, hb⟩; refine ⟨_, rfl, ?_⟩; have n0_ := Aside0.mk (Kd.R_elder' (by (with_reducible repeat (first | apply Kd.R_alloc | apply Kd.R_drewN | apply Kd.R_drew)); exact HO139.out) (Kd.R_base ho0) hb); have n1_ := Aside0.mk (Kd.R_lower (Kd.R_new' ho0 (Kd.R_lt (by (with_reducible repeat (first | apply Kd.R_alloc | apply Kd.R_drewN | apply Kd.R_drew)); exact HO139.out))) (below_size (by repeat (first | (with_reducible first | exact HB.out | apply below_alloc | apply pw_below_drewN | apply below_drew1) | exact HB.out)))); have n2_ := Aside0.mk (below_step (by repeat (first | (with_reducible first | exact HB.out | apply below_alloc | apply pw_below_drewN | apply below_drew1) | exact HB.out)) hb); clear HO139; clear HB; have HO139 := n0_; have HO146 := n1_; have HB := n2_; clear n0_ n1_ n2_; (try clear hb); (try clear hb2); (try clear hk); (try clear hi); (try clear ho0)) | ((with_reducible refine gate_callee (f := 10) rfl ?_); refine goesL_ (some 25) rfl rfl Try.func10 (by kernel_rfl) rfl #[.string t140, .int .i64 3, .int .i64 2] rfl (by (try simp only [List.map_toArray, List.map_cons, List.map_nil]); first | done | rfl | (simp only [List.length_drop, List.length_take]; rfl)) ?_; (with_reducible refine (frame_Get.calls k t140 3 2 t147 t148 t149 _ A4.out).mono ?_); rintro e w27 ⟨v150, rfl, ho0, hb⟩; refine ⟨_, rfl, ?_⟩; have n0_ := Aside0.mk (Kd.R_elder' (by (with_reducible repeat (first | apply Kd.R_alloc | apply Kd.R_drewN | apply Kd.R_drew)); exact HO139.out) (Kd.R_base ho0) hb); have n1_ := Aside0.mk (Kd.R_elder' (by (with_reducible repeat (first | apply Kd.R_alloc | apply Kd.R_drewN | apply Kd.R_drew)); exact HO146.out) (Kd.R_base ho0) hb); have n2_ := Aside0.mk (Kd.R_lower (Kd.R_new' (Kd.R_new' ho0 (Kd.R_lt (by (with_reducible repeat (first | apply Kd.R_alloc | apply Kd.R_drewN | apply Kd.R_drew)); exact HO139.out))) (Kd.R_lt (by (with_reducible repeat (first | apply Kd.R_alloc | apply Kd.R_drewN | apply Kd.R_drew)); exact HO146.out))) (below_size (by repeat (first | (with_reducible first | exact HB.out | apply below_alloc | apply pw_below_drewN | apply below_drew1) | exact HB.out)))); have n3_ := Aside0.mk (below_step (by repeat (first | (with_reducible first | exact HB.out | apply below_alloc | apply pw_below_drewN | apply below_drew1) | exact HB.out)) hb); clear HO139; clear HO146; clear HB; have HO139 := n0_; have HO146 := n1_; have HO151 := n2_; have HB := n3_; clear n0_ n1_ n2_ n3_; (try clear hb); (try clear hb2); (try clear hk); (try clear hi); (try clear ho0)) | ((with_reducible refine gate_callee (f := 8) rfl ?_); refine goesL_ (some 30) rfl rfl Try.func8 (by kernel_rfl) rfl #[.int .i64 3, .int .i64 1, .string (⟨#[97]⟩ : ByteArray), .slice none 0 0] rfl (by (try simp only [List.map_toArray, List.map_cons, List.map_nil]); first | done | rfl | (simp only [List.length_drop, List.length_take]; rfl)) ?_; (refine (frame_Put.calls k 3 1 (⟨#[97]⟩ : ByteArray) _ _ ([] : List Int) t152 t153 _ ?side1 ?side2 A5.out).mono ?_); (case side1 => exact Kd.C_nil _ _); (case side2 => exact Nat.le_refl _); rintro e w28 ⟨rfl, hb⟩; refine ⟨_, rfl, ?_⟩; have n0_ := Aside0.mk (Kd.R_below (by (with_reducible repeat (first | apply Kd.R_alloc | apply Kd.R_drewN | apply Kd.R_drew)); exact HO139.out) hb); have n1_ := Aside0.mk (Kd.R_below (by (with_reducible repeat (first | apply Kd.R_alloc | apply Kd.R_drewN | apply Kd.R_drew)); exact HO146.out) hb); have n2_ := Aside0.mk (Kd.R_below (by (with_reducible repeat (first | apply Kd.R_alloc | apply Kd.R_drewN | apply Kd.R_drew)); exact HO151.out) hb); have n3_ := Aside0.mk (below_step (by repeat (first | (with_reducible first | exact HB.out | apply below_alloc | apply pw_below_drewN | apply below_drew1) | exact HB.out)) hb); clear HO139; clear HO146; clear HO151; clear HB; have HO139 := n0_; have HO146 := n1_; have HO151 := n2_; have HB := n3_; clear n0_ n1_ n2_ n3_; (try clear hb); (try clear hb2); (try clear hk); (try clear hi)) | (go_at_call 12; (with_reducible refine (ossuarylaw0_Num.calls t141 t154 _ A10.out).mono ?_); rintro e w' ⟨rfl, ⟨nd, rfl⟩⟩) | (go_at_call 17; (with_reducible refine (ossuarylaw14_text.calls k 97 t155 _ A12.out).mono ?_); rintro e w29 ⟨rfl, hb⟩; have n0_ := Aside0.mk (Kd.R_below (by (with_reducible repeat (first | apply Kd.R_alloc | apply Kd.R_drewN | apply Kd.R_drew)); exact HO139.out) hb); have n1_ := Aside0.mk (Kd.R_below (by (with_reducible repeat (first | apply Kd.R_alloc | apply Kd.R_drewN | apply Kd.R_drew)); exact HO146.out) hb); have n2_ := Aside0.mk (Kd.R_below (by (with_reducible repeat (first | apply Kd.R_alloc | apply Kd.R_drewN | apply Kd.R_drew)); exact HO151.out) hb); have n3_ := Aside0.mk (below_step (by repeat (first | (with_reducible first | exact HB.out | apply below_alloc | apply pw_below_drewN | apply below_drew1) | exact HB.out)) hb); clear HO139; clear HO146; clear HO151; clear HB; have HO139 := n0_; have HO146 := n1_; have HO151 := n2_; have HB := n3_; clear n0_ n1_ n2_ n3_; (try clear hb); (try clear hb2); (try clear hk); (try clear hi)) | ((with_reducible refine gate_dst (N := 53) rfl ?_); (try (refine gate_guard (by rfl) ?_; dsimp only)); refine Kd.R_lit (Kd.int .i64) _ 3 ?hg (N := 53) ?hd (xs := ([5, 6] : List Int)) (inner := [.int .i64 5, .int .i64 6]) (ok := fun _ => True) (okp := fun _ => True) ?hr ?hp (fun _ hk => hk) trivial (Below.refl _ _) (Nat.le_refl _) (by simp) ?_; (case hd => rfl); (case hg => rfl); (case hr => first | (go_simp; done) | (go_simp; rfl)); (case hp => exact (Reps.one (show Kd.M (Kd.int .i64) _ _ _ 5 [.int .i64 5] from rfl) (Reps.one (show Kd.M (Kd.int .i64) _ _ _ 6 [.int .i64 6] from rfl) (Reps.none _ _)))); intro v157 w30 ho31 hb hg_ hnew_; clear hg_ hnew_; (first | rw [← Ny156.out] at ho31 | (simp only [Int.reduceToNat] at ho31; rw [← Ny156.out] at ho31)); have n0_ := Aside0.mk (Kd.R_elder' (by (with_reducible repeat (first | apply Kd.R_alloc | apply Kd.R_drewN | apply Kd.R_drew)); exact HO139.out) (Kd.R_base ho31) hb); have n1_ := Aside0.mk (Kd.R_elder' (by (with_reducible repeat (first | apply Kd.R_alloc | apply Kd.R_drewN | apply Kd.R_drew)); exact HO146.out) (Kd.R_base ho31) hb); have n2_ := Aside0.mk (Kd.R_elder' (by (with_reducible repeat (first | apply Kd.R_alloc | apply Kd.R_drewN | apply Kd.R_drew)); exact HO151.out) (Kd.R_base ho31) hb); have n3_ := Aside0.mk (Kd.R_lower (Kd.R_new' (Kd.R_new' (Kd.R_new' ho31 (Kd.R_lt (by (with_reducible repeat (first | apply Kd.R_alloc | apply Kd.R_drewN | apply Kd.R_drew)); exact HO139.out))) (Kd.R_lt (by (with_reducible repeat (first | apply Kd.R_alloc | apply Kd.R_drewN | apply Kd.R_drew)); exact HO146.out))) (Kd.R_lt (by (with_reducible repeat (first | apply Kd.R_alloc | apply Kd.R_drewN | apply Kd.R_drew)); exact HO151.out))) (below_size (by repeat (first | (with_reducible first | exact HB.out | apply below_alloc | apply pw_below_drewN | apply below_drew1) | exact HB.out)))); have n4_ := Aside0.mk (below_step (by repeat (first | (with_reducible first | exact HB.out | apply below_alloc | apply pw_below_drewN | apply below_drew1) | exact HB.out)) hb); clear HO139; clear HO146; clear HO151; clear HB; have HO139 := n0_; have HO146 := n1_; have HO151 := n2_; have HO158 := n3_; have HB := n4_; clear n0_ n1_ n2_ n3_ n4_; clear hb ho31; obtain ⟨Ao32, co32, eo32⟩ := Kd.R_slice HO146.out; subst eo32; obtain ⟨Ao33, co33, eo33⟩ := Kd.R_slice HO158.out; subst eo33) | (go_at_call 13; (with_reducible refine (ossuarylaw0_SameInts.calls k _ _ t143 _ _ y156 true _ ?side1 ?side2 ?side3 ?side4 A14.out).mono ?_); (case side1 => repeat (first | exact (Kd.R_reads' HO146.out).2.2 | (with_reducible refine Kd.C_alloc ?_ _) | (with_reducible refine Kd.C_drewN ?_ _) | (with_reducible refine Kd.C_drew ?_))); (case side2 => exact (Kd.R_reads' HO146.out).2.1); (case side3 => repeat (first | exact (Kd.R_reads' HO158.out).2.2 | (with_reducible refine Kd.C_alloc ?_ _) | (with_reducible refine Kd.C_drewN ?_ _) | (with_reducible refine Kd.C_drew ?_))); (case side4 => exact (Kd.R_reads' HO158.out).2.1); rintro e w' ⟨rfl, ⟨nd, rfl⟩⟩) | (go_at_call 12; (with_reducible refine (ossuarylaw0_Num.calls t144 t160 _ A16.out).mono ?_); rintro e w' ⟨rfl, ⟨nd, rfl⟩⟩) | (go_at_call 12; (with_reducible refine (ossuarylaw0_Num.calls t149 t161 _ A18.out).mono ?_); rintro e w' ⟨rfl, ⟨nd, rfl⟩⟩) | (go_at_call 12; (with_reducible refine (ossuarylaw0_Num.calls t153 t162 _ A20.out).mono ?_); rintro e w' ⟨rfl, ⟨nd, rfl⟩⟩))
                    go_ret
                    exact ⟨by first | rfl | (simp [errW_none, errW_some] <;> rfl) | (simp [*, errW_none, errW_some] <;> rfl), by repeat (first | (with_reducible first | exact HB.out | apply below_alloc | apply pw_below_drewN | apply below_drew1) | exact HB.out)⟩
                  · rw [if_neg c19] at H
                    have c19b0 : (t161 == 1400) = false := beq_eq_false_iff_ne.mpr c19
                    have c19b1 : (t161 != 1400) = true := bne_iff_ne.mpr c19
                    exact absurd (Option.some.inj H) (by rw [HRT.out]; decide)
                · rw [if_neg c17] at H
                  have c17b0 : (t160 == 0) = false := beq_eq_false_iff_ne.mpr c17
                  have c17b1 : (t160 != 0) = true := bne_iff_ne.mpr c17
                  exact absurd (Option.some.inj H) (by rw [HRT.out]; decide)
              · replace c15 := Bool.eq_false_iff.mpr c15
                subst c15
                have H1 : (some false) = some r := by rw [if_neg (show ¬ (false = true) by decide)] at H; exact H
                clear H
                have H := H1
                clear H1
                exact absurd (Option.some.inj H) (by rw [HRT.out]; decide)
            · rw [if_neg c13] at H
              have c13b0 : (t142.toList == t155.toList) = false := beq_eq_false_iff_ne.mpr c13
              have c13b1 : (t142.toList != t155.toList) = true := bne_iff_ne.mpr c13
              exact absurd (Option.some.inj H) (by rw [HRT.out]; decide)
          · rw [if_neg c11] at H
            have c11b0 : (t154 == 0) = false := beq_eq_false_iff_ne.mpr c11
            have c11b1 : (t154 != 0) = true := bne_iff_ne.mpr c11
            exact absurd (Option.some.inj H) (by rw [HRT.out]; decide)
        · rw [if_neg c9] at H
          have c9b0 : ((t140.extract 0 4).toList == ([79, 3, 1, 2] : List UInt8)) = false := beq_eq_false_iff_ne.mpr c9
          have c9b1 : ((t140.extract 0 4).toList != ([79, 3, 1, 2] : List UInt8)) = true := bne_iff_ne.mpr c9
          exact absurd (Option.some.inj H) (by rw [HRT.out]; decide)
      · rw [if_neg c8] at H
        exact absurd H (by simp)
    · rw [if_neg c7] at H
      exact absurd H (by simp)
  · rw [if_neg c6] at H
    have c6b0 : ((t140.size : Int) == 64) = false := beq_eq_false_iff_ne.mpr c6
    have c6b1 : ((t140.size : Int) != 64) = true := bne_iff_ne.mpr c6
    exact absurd (Option.some.inj H) (by rw [HRT.out]; decide)

end Go.Proofs.Ytgfgehhmnogbpaa.HFrameTurned
