/- Lean functions for the Go functions that the law reaches, and proofs that the calls come to them: written by a program of this session. -/
import Derived.Test.YtfjkehpcgiolhaaHSealTurnedx0
namespace Go.Proofs.Ytfjkehpcgiolhaa.HSealTurned
open Go.RowKit Go.Proofs.YtfjkehpcgiolhaaW.PrintWords Go.Proofs.YtfjkehpcgiolhaaW.PrintLast Go.Proofs.YtfjkehpcgiolhaaW.PrintMore
attribute [local go_sem] max2_int min2_int max_two min_two max_three min_three max_four min_four   -- for this text's walks alone
set_option linter.unusedVariables false
set_option linter.unusedSimpArgs false

/-! ### seal_Of: function 9 -/
def seal_Of.l0 : Nat → ByteArray → Int → Int → Option (Int)
  | 0, _, _, _ => none
  | k + 1, x0, x3, x4 => if x4 ≥ 0 then (if 0 ≤ x4 then (if x4 < (x0.size : Int) then (seal_Of.l0 k x0 (Int.tmod (wrap64 ((wrap64 ((wrap64 (x3 + (wrap64 (bt x0 x4)))) + 1)) * 65537)) 2147483647) (wrap64 (x4 - 1))) else (none)) else (none)) else (some x3)
def seal_Of.f (k : Nat) (a0 : ByteArray) : Option (Int) := seal_Of.l0 k a0 0 (wrap64 ((a0.size : Int) - 1))
theorem seal_Of.mono_l : ∀ k, (∀ y0 y1 y2, LeO (seal_Of.l0 k y0 y1 y2) (seal_Of.l0 (k + 1) y0 y1 y2))
  | 0 => fun _ _ _ r h => by simp [seal_Of.l0] at h
  | k + 1 => by
    have ih0 := seal_Of.mono_l k
    · intro y0 y1 y2
      unfold seal_Of.l0
      repeat' first
      | (with_reducible exact ih0 _ _ _)
      | (with_reducible exact LeO.refl _)
      | (with_reducible exact LeO.none _)
      | (with_reducible refine LeO.ite ?_ ?_)
      | (with_reducible refine LeO.bind ?_ (fun _ => ?_))
      | exact ih0 _ _ _
      | exact LeO.none _
      | refine LeO.ite ?_ ?_
      | refine LeO.bind ?_ (fun _ => ?_)
theorem seal_Of.mono : ∀ a0 k, LeO (seal_Of.f k a0) (seal_Of.f (k + 1) a0) := by
  intro a0 k
  have ih0 := seal_Of.mono_l k
  unfold seal_Of.f
  repeat' first
      | (with_reducible exact ih0 _ _ _)
      | (with_reducible exact LeO.refl _)
      | (with_reducible exact LeO.none _)
      | (with_reducible refine LeO.ite ?_ ?_)
      | (with_reducible refine LeO.bind ?_ (fun _ => ?_))
      | exact ih0 _ _ _
      | exact LeO.none _
      | refine LeO.ite ?_ ?_
      | refine LeO.bind ?_ (fun _ => ?_)
set_option maxHeartbeats 8000000 in
set_option maxRecDepth 100000 in
theorem seal_Of.calls (k : Nat) (a0 : ByteArray) (r : Int) (w : World) (h : seal_Of.f k a0 = some r) :
    Calls Try.prog 9 #[.string a0] w fun e w' => e = .returned (.int .i64 r) ∧ Drawn0 w w' := by
  have H : (seal_Of.l0 k a0 0 (wrap64 ((a0.size : Int) - 1))) = some r := h
  clear h
  have H' := Aside0.mk H
  clear H
  go_enter Try.func9, Try.ntmps9
  go_wp2
  go_loopg [3, 4] k (fun kq v3 v4 w' => ∃ (x3_1 : Int) (x4_1 : Int), v3 = .int .i64 x3_1 ∧ v4 = .int .i64 x4_1 ∧ Aside0 (seal_Of.l0 kq a0 x3_1 x4_1 = some r) ∧ Aside0 (kq ≤ k) ∧ Drawn0 w w')
  case atStart => exact ⟨(0), (wrap64 ((a0.size : Int) - 1)), (by first | rfl | (simp; done) | (simp [*]; done)), (by first | rfl | (simp; done) | (simp [*]; done)), H', ⟨Nat.le_refl _⟩, by repeat (first | exact Drawn0.refl _ | apply Drawn0.step)⟩
  case round =>
    clear H'
    obtain ⟨x3_1, x4_1, rfl, rfl, HA, HK1, ⟨m1, rfl⟩⟩ := hrel
    cases gk with
    | zero => exact absurd HA.out (by simp [seal_Of.l0])
    | succ k1 =>
      have H := HA.out
      clear HA
      simp only [seal_Of.l0] at H
      by_cases c2 : x4_1 ≥ 0
      · rw [if_pos c2] at H
        have c2b0 : decide (0 ≤ x4_1) = true := decide_eq_true c2
        clear c2
        by_cases c3 : 0 ≤ x4_1
        · rw [if_pos c3] at H
          have c3b0 : decide (0 ≤ x4_1) = true := decide_eq_true c3
          clear c3
          by_cases c4 : x4_1 < (a0.size : Int)
          · rw [if_pos c4] at H
            have c4b0 : decide (x4_1 < (a0.size : Int)) = true := decide_eq_true c4
            clear c4
            have H' := Aside0.mk H
            clear H
            have p5 : 0 ≤ (x4_1 : Int) := of_decide_eq_true (by first | (with_reducible assumption) | assumption)
            have q5 : x4_1 < (a0.size : Int) := of_decide_eq_true (by first | (with_reducible assumption) | assumption)
            have hx5 := bt_at a0 x4_1
            replace p5 := eq_true p5
            replace q5 := eq_true q5
            go_wp2
            go_roundg k1
            case measure => have := HK1.out; omega
            case rel => exact ⟨(Int.tmod (wrap64 ((wrap64 ((wrap64 (x3_1 + (wrap64 (bt a0 x4_1)))) + 1)) * 65537)) 2147483647), (wrap64 (x4_1 - 1)), (by first | rfl | (simp; done) | (simp [*]; done)), (by first | rfl | (simp; done) | (simp [*]; done)), H', ⟨by have := HK1.out; omega⟩, by repeat (first | exact Drawn0.refl _ | apply Drawn0.step)⟩
          · rw [if_neg c4] at H
            exact absurd H (by simp)
        · rw [if_neg c3] at H
          exact absurd H (by simp)
      · rw [if_neg c2] at H
        have c2b0 : decide (0 ≤ x4_1) = false := decide_eq_false c2
        clear c2
        obtain rfl := Option.some.inj H
        go_wp2
        go_ret
        exact ⟨by first | rfl | (simp; done) | (simp [*]; done), by repeat (first | exact Drawn0.refl _ | apply Drawn0.step)⟩

/-! ### seal_taken: function 24 -/
def seal_taken.f (a0 : Int) : Option (Int) := if (Int.tmod a0 2147483647) < 0 then (some (wrap64 ((Int.tmod a0 2147483647) + 2147483647))) else (some (Int.tmod a0 2147483647))
set_option maxHeartbeats 8000000 in
set_option maxRecDepth 100000 in
theorem seal_taken.calls (a0 : Int) (r : Int) (w : World) (h : seal_taken.f a0 = some r) :
    Calls Try.prog 24 #[.int .i64 a0] w fun e w' => e = .returned (.int .i64 r) ∧ Drawn0 w w' := by
  have H : (if (Int.tmod a0 2147483647) < 0 then (some (wrap64 ((Int.tmod a0 2147483647) + 2147483647))) else (some (Int.tmod a0 2147483647))) = some r := h
  clear h
  by_cases c2 : (Int.tmod a0 2147483647) < 0
  · rw [if_pos c2] at H
    have c2b0 : decide ((Int.tmod a0 2147483647) < 0) = true := decide_eq_true c2
    clear c2
    obtain rfl := Option.some.inj H
    go_enter Try.func24, Try.ntmps24
    go_wp2
    go_ret
    exact ⟨by first | rfl | (simp; done) | (simp [*]; done), by repeat (first | exact Drawn0.refl _ | apply Drawn0.step)⟩
  · rw [if_neg c2] at H
    have c2b0 : decide ((Int.tmod a0 2147483647) < 0) = false := decide_eq_false c2
    clear c2
    obtain rfl := Option.some.inj H
    go_enter Try.func24, Try.ntmps24
    go_wp2
    go_ret
    exact ⟨by first | rfl | (simp; done) | (simp [*]; done), by repeat (first | exact Drawn0.refl _ | apply Drawn0.step)⟩

/-! ### seal_Pair: function 11 -/
def seal_Pair.f (a0 : Int) (a1 : Int) : Option (Int) := (seal_taken.f a1).bind fun t101 => ((seal_taken.f a0).bind fun t102 => (some (Int.tmod (wrap64 ((wrap64 ((wrap64 ((Int.tmod (wrap64 (t101 * 65537)) 2147483647) + t102)) * 65537)) + 911)) 2147483647)))
set_option maxHeartbeats 8000000 in
set_option maxRecDepth 100000 in
theorem seal_Pair.calls (a0 : Int) (a1 : Int) (r : Int) (w : World) (h : seal_Pair.f a0 a1 = some r) :
    Calls Try.prog 11 #[.int .i64 a0, .int .i64 a1] w fun e w' => e = .returned (.int .i64 r) ∧ Drawn0 w w' := by
  have H : ((seal_taken.f a1).bind fun t101 => ((seal_taken.f a0).bind fun t102 => (some (Int.tmod (wrap64 ((wrap64 ((wrap64 ((Int.tmod (wrap64 (t101 * 65537)) 2147483647) + t102)) * 65537)) + 911)) 2147483647)))) = some r := h
  clear h
  replace H := Option.bind_eq_some_iff.mp H
  obtain ⟨t101, A30, H⟩ := H
  replace H : ((seal_taken.f a0).bind fun t102 => (some (Int.tmod (wrap64 ((wrap64 ((wrap64 ((Int.tmod (wrap64 (t101 * 65537)) 2147483647) + t102)) * 65537)) + 911)) 2147483647))) = some r := H
  have A3 := Aside0.mk A30
  clear A30
  replace H := Option.bind_eq_some_iff.mp H
  obtain ⟨t102, A40, H⟩ := H
  replace H : (some (Int.tmod (wrap64 ((wrap64 ((wrap64 ((Int.tmod (wrap64 (t101 * 65537)) 2147483647) + t102)) * 65537)) + 911)) 2147483647)) = some r := H
  have A4 := Aside0.mk A40
  clear A40
  obtain rfl := Option.some.inj H
  go_enter Try.func11, Try.ntmps11
  go_wp2_with (first | ((with_reducible refine gate_callee (f := 24) rfl ?_); refine goesL_ (some 6) rfl rfl Try.func24 (by kernel_rfl) rfl #[.int .i64 a1] rfl (by (try simp only [List.map_toArray, List.map_cons, List.map_nil]); first | done | rfl | (simp only [List.length_drop, List.length_take]; rfl)) ?_; (with_reducible refine (seal_taken.calls a1 t101 _ A3.out).mono ?_); rintro e w' ⟨rfl, ⟨nd, rfl⟩⟩; refine ⟨_, rfl, ?_⟩) | ((with_reducible refine gate_callee (f := 24) rfl ?_); refine goesL_ (some 10) rfl rfl Try.func24 (by kernel_rfl) rfl #[.int .i64 a0] rfl (by (try simp only [List.map_toArray, List.map_cons, List.map_nil]); first | done | rfl | (simp only [List.length_drop, List.length_take]; rfl)) ?_; (with_reducible refine (seal_taken.calls a0 t102 _ A4.out).mono ?_); rintro e w' ⟨rfl, ⟨nd, rfl⟩⟩; refine ⟨_, rfl, ?_⟩))
  go_ret
  exact ⟨by first | rfl | (simp; done) | (simp [*]; done), by repeat (first | exact Drawn0.refl _ | apply Drawn0.step)⟩

/-! ### ossuarylaw0_Num: function 14 -/
def ossuarylaw0_Num.f (a0 : Int) : Option (Int) := some a0
set_option maxHeartbeats 8000000 in
set_option maxRecDepth 100000 in
theorem ossuarylaw0_Num.calls (a0 : Int) (r : Int) (w : World) (h : ossuarylaw0_Num.f a0 = some r) :
    Calls Try.prog 14 #[.int .i64 a0] w fun e w' => e = .returned (.int .i64 r) ∧ Drawn0 w w' := by
  have H : (some a0) = some r := h
  clear h
  obtain rfl := Option.some.inj H
  go_enter Try.func14, Try.ntmps14
  go_wp2
  go_ret
  exact ⟨by first | rfl | (simp; done) | (simp [*]; done), by repeat (first | exact Drawn0.refl _ | apply Drawn0.step)⟩

/-! ### ossuarylaw9_awake: function 13 -/
def ossuarylaw9_awake.f (k : Nat)  : Option (Bool) := (ossuarylaw0_Num.f 0).bind fun t103 => (if t103 = 0 then ((seal_Of.f k (⟨#[]⟩ : ByteArray)).bind fun t104 => (if t104 = 0 then ((seal_Of.f k (⟨#[97]⟩ : ByteArray)).bind fun t105 => (if t105 = 6422626 then ((seal_Of.f k (⟨#[97, 98]⟩ : ByteArray)).bind fun t106 => (if t106 = 19399051 then ((seal_Pair.f 0 0).bind fun t107 => (if t107 = 911 then ((seal_Pair.f 1 0).bind fun t108 => (if t108 = 66448 then ((seal_Pair.f (-2147483647) 0).bind fun t109 => (some (t109 == 911))) else (some false))) else (some false))) else (some false))) else (some false))) else (some false))) else (some false))
theorem ossuarylaw9_awake.mono : ∀ k, LeO (ossuarylaw9_awake.f k ) (ossuarylaw9_awake.f (k + 1) ) := by
  intro  k
  unfold ossuarylaw9_awake.f
  repeat' first
      | (with_reducible exact seal_Of.mono _ _)
      | (with_reducible exact LeO.refl _)
      | (with_reducible exact LeO.none _)
      | (with_reducible refine LeO.ite ?_ ?_)
      | (with_reducible refine LeO.bind ?_ (fun _ => ?_))
      | exact seal_Of.mono _ _
      | exact LeO.none _
      | refine LeO.ite ?_ ?_
      | refine LeO.bind ?_ (fun _ => ?_)
set_option maxHeartbeats 8000000 in
set_option maxRecDepth 100000 in
theorem ossuarylaw9_awake.calls (k : Nat)  (r : Bool) (w : World) (h : ossuarylaw9_awake.f k  = some r) (hr_ : r = true := by rfl) :
    Calls Try.prog 13 #[] w fun e w' => e = .returned (.bool r) ∧ Drawn0 w w' := by
  have HRT := Aside0.mk hr_
  clear hr_
  have H : ((ossuarylaw0_Num.f 0).bind fun t103 => (if t103 = 0 then ((seal_Of.f k (⟨#[]⟩ : ByteArray)).bind fun t104 => (if t104 = 0 then ((seal_Of.f k (⟨#[97]⟩ : ByteArray)).bind fun t105 => (if t105 = 6422626 then ((seal_Of.f k (⟨#[97, 98]⟩ : ByteArray)).bind fun t106 => (if t106 = 19399051 then ((seal_Pair.f 0 0).bind fun t107 => (if t107 = 911 then ((seal_Pair.f 1 0).bind fun t108 => (if t108 = 66448 then ((seal_Pair.f (-2147483647) 0).bind fun t109 => (some (t109 == 911))) else (some false))) else (some false))) else (some false))) else (some false))) else (some false))) else (some false))) = some r := h
  clear h
  replace H := Option.bind_eq_some_iff.mp H
  obtain ⟨t103, A10, H⟩ := H
  replace H : (if t103 = 0 then ((seal_Of.f k (⟨#[]⟩ : ByteArray)).bind fun t104 => (if t104 = 0 then ((seal_Of.f k (⟨#[97]⟩ : ByteArray)).bind fun t105 => (if t105 = 6422626 then ((seal_Of.f k (⟨#[97, 98]⟩ : ByteArray)).bind fun t106 => (if t106 = 19399051 then ((seal_Pair.f 0 0).bind fun t107 => (if t107 = 911 then ((seal_Pair.f 1 0).bind fun t108 => (if t108 = 66448 then ((seal_Pair.f (-2147483647) 0).bind fun t109 => (some (t109 == 911))) else (some false))) else (some false))) else (some false))) else (some false))) else (some false))) else (some false)) = some r := H
  have A1 := Aside0.mk A10
  clear A10
  by_cases c2 : t103 = 0
  · rw [if_pos c2] at H
    have c2b0 : (t103 == 0) = true := beq_iff_eq.mpr c2
    have c2b1 : (t103 != 0) = false := bne_eq_false_iff_eq.mpr c2
    clear c2
    replace H := Option.bind_eq_some_iff.mp H
    obtain ⟨t104, A30, H⟩ := H
    replace H : (if t104 = 0 then ((seal_Of.f k (⟨#[97]⟩ : ByteArray)).bind fun t105 => (if t105 = 6422626 then ((seal_Of.f k (⟨#[97, 98]⟩ : ByteArray)).bind fun t106 => (if t106 = 19399051 then ((seal_Pair.f 0 0).bind fun t107 => (if t107 = 911 then ((seal_Pair.f 1 0).bind fun t108 => (if t108 = 66448 then ((seal_Pair.f (-2147483647) 0).bind fun t109 => (some (t109 == 911))) else (some false))) else (some false))) else (some false))) else (some false))) else (some false)) = some r := H
    have A3 := Aside0.mk A30
    clear A30
    by_cases c4 : t104 = 0
    · rw [if_pos c4] at H
      have c4b0 : (t104 == 0) = true := beq_iff_eq.mpr c4
      have c4b1 : (t104 != 0) = false := bne_eq_false_iff_eq.mpr c4
      clear c4
      replace H := Option.bind_eq_some_iff.mp H
      obtain ⟨t105, A50, H⟩ := H
      replace H : (if t105 = 6422626 then ((seal_Of.f k (⟨#[97, 98]⟩ : ByteArray)).bind fun t106 => (if t106 = 19399051 then ((seal_Pair.f 0 0).bind fun t107 => (if t107 = 911 then ((seal_Pair.f 1 0).bind fun t108 => (if t108 = 66448 then ((seal_Pair.f (-2147483647) 0).bind fun t109 => (some (t109 == 911))) else (some false))) else (some false))) else (some false))) else (some false)) = some r := H
      have A5 := Aside0.mk A50
      clear A50
      by_cases c6 : t105 = 6422626
      · rw [if_pos c6] at H
        have c6b0 : (t105 == 6422626) = true := beq_iff_eq.mpr c6
        have c6b1 : (t105 != 6422626) = false := bne_eq_false_iff_eq.mpr c6
        clear c6
        replace H := Option.bind_eq_some_iff.mp H
        obtain ⟨t106, A70, H⟩ := H
        replace H : (if t106 = 19399051 then ((seal_Pair.f 0 0).bind fun t107 => (if t107 = 911 then ((seal_Pair.f 1 0).bind fun t108 => (if t108 = 66448 then ((seal_Pair.f (-2147483647) 0).bind fun t109 => (some (t109 == 911))) else (some false))) else (some false))) else (some false)) = some r := H
        have A7 := Aside0.mk A70
        clear A70
        by_cases c8 : t106 = 19399051
        · rw [if_pos c8] at H
          have c8b0 : (t106 == 19399051) = true := beq_iff_eq.mpr c8
          have c8b1 : (t106 != 19399051) = false := bne_eq_false_iff_eq.mpr c8
          clear c8
          replace H := Option.bind_eq_some_iff.mp H
          obtain ⟨t107, A90, H⟩ := H
          replace H : (if t107 = 911 then ((seal_Pair.f 1 0).bind fun t108 => (if t108 = 66448 then ((seal_Pair.f (-2147483647) 0).bind fun t109 => (some (t109 == 911))) else (some false))) else (some false)) = some r := H
          have A9 := Aside0.mk A90
          clear A90
          by_cases c10 : t107 = 911
          · rw [if_pos c10] at H
            have c10b0 : (t107 == 911) = true := beq_iff_eq.mpr c10
            have c10b1 : (t107 != 911) = false := bne_eq_false_iff_eq.mpr c10
            clear c10
            replace H := Option.bind_eq_some_iff.mp H
            obtain ⟨t108, A110, H⟩ := H
            replace H : (if t108 = 66448 then ((seal_Pair.f (-2147483647) 0).bind fun t109 => (some (t109 == 911))) else (some false)) = some r := H
            have A11 := Aside0.mk A110
            clear A110
            by_cases c12 : t108 = 66448
            · rw [if_pos c12] at H
              have c12b0 : (t108 == 66448) = true := beq_iff_eq.mpr c12
              have c12b1 : (t108 != 66448) = false := bne_eq_false_iff_eq.mpr c12
              clear c12
              replace H := Option.bind_eq_some_iff.mp H
              obtain ⟨t109, A130, H⟩ := H
              replace H : (some (t109 == 911)) = some r := H
              have A13 := Aside0.mk A130
              clear A130
              obtain rfl := Option.some.inj H
              go_enter Try.func13, Try.ntmps13
              go_wp2_with (first | ((with_reducible refine gate_callee (f := 14) rfl ?_); refine goesL_ (some 1) rfl rfl Try.func14 (by kernel_rfl) rfl #[.int .i64 0] rfl (by (try simp only [List.map_toArray, List.map_cons, List.map_nil]); first | done | rfl | (simp only [List.length_drop, List.length_take]; rfl)) ?_; (with_reducible refine (ossuarylaw0_Num.calls 0 t103 _ A1.out).mono ?_); rintro e w' ⟨rfl, ⟨nd, rfl⟩⟩; refine ⟨_, rfl, ?_⟩) | (go_at_call 9; (with_reducible refine (seal_Of.calls k (⟨#[]⟩ : ByteArray) t104 _ A3.out).mono ?_); rintro e w' ⟨rfl, ⟨nd, rfl⟩⟩) | (go_at_call 9; (with_reducible refine (seal_Of.calls k (⟨#[97]⟩ : ByteArray) t105 _ A5.out).mono ?_); rintro e w' ⟨rfl, ⟨nd, rfl⟩⟩) | (go_at_call 9; (with_reducible refine (seal_Of.calls k (⟨#[97, 98]⟩ : ByteArray) t106 _ A7.out).mono ?_); rintro e w' ⟨rfl, ⟨nd, rfl⟩⟩) | (go_at_call 11; (with_reducible refine (seal_Pair.calls 0 0 t107 _ A9.out).mono ?_); rintro e w' ⟨rfl, ⟨nd, rfl⟩⟩) | (go_at_call 11; (with_reducible refine (seal_Pair.calls 1 0 t108 _ A11.out).mono ?_); rintro e w' ⟨rfl, ⟨nd, rfl⟩⟩) | (go_at_call 11; (with_reducible refine (seal_Pair.calls (-2147483647) 0 t109 _ A13.out).mono ?_); rintro e w' ⟨rfl, ⟨nd, rfl⟩⟩))
              go_ret
              exact ⟨by first | rfl | (simp; done) | (simp [*]; done), by repeat (first | exact Drawn0.refl _ | apply Drawn0.step)⟩
            · rw [if_neg c12] at H
              have c12b0 : (t108 == 66448) = false := beq_eq_false_iff_ne.mpr c12
              have c12b1 : (t108 != 66448) = true := bne_iff_ne.mpr c12
              exact absurd (Option.some.inj H) (by rw [HRT.out]; decide)
          · rw [if_neg c10] at H
            have c10b0 : (t107 == 911) = false := beq_eq_false_iff_ne.mpr c10
            have c10b1 : (t107 != 911) = true := bne_iff_ne.mpr c10
            exact absurd (Option.some.inj H) (by rw [HRT.out]; decide)
        · rw [if_neg c8] at H
          have c8b0 : (t106 == 19399051) = false := beq_eq_false_iff_ne.mpr c8
          have c8b1 : (t106 != 19399051) = true := bne_iff_ne.mpr c8
          exact absurd (Option.some.inj H) (by rw [HRT.out]; decide)
      · rw [if_neg c6] at H
        have c6b0 : (t105 == 6422626) = false := beq_eq_false_iff_ne.mpr c6
        have c6b1 : (t105 != 6422626) = true := bne_iff_ne.mpr c6
        exact absurd (Option.some.inj H) (by rw [HRT.out]; decide)
    · rw [if_neg c4] at H
      have c4b0 : (t104 == 0) = false := beq_eq_false_iff_ne.mpr c4
      have c4b1 : (t104 != 0) = true := bne_iff_ne.mpr c4
      exact absurd (Option.some.inj H) (by rw [HRT.out]; decide)
  · rw [if_neg c2] at H
    have c2b0 : (t103 == 0) = false := beq_eq_false_iff_ne.mpr c2
    have c2b1 : (t103 != 0) = true := bne_iff_ne.mpr c2
    exact absurd (Option.some.inj H) (by rw [HRT.out]; decide)

-- NOT PRINTED: function 4 (ossuarylaw9_SealTurned)

end Go.Proofs.Ytfjkehpcgiolhaa.HSealTurned
