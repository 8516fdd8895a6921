/- Lean functions for the Go functions that the law reaches, and proofs that the calls come to them: written by a program of this session. -/
import Derived.Test.YtgfgehhmnogbpaaHFramesx0
import Derived.Test.YtgfgehhmnogbpaaHFramesx1
import Derived.Test.YtgfgehhmnogbpaaHFramesx2
import Derived.Test.YtgfgehhmnogbpaaHFramesx3
import Derived.Test.YtgfgehhmnogbpaaHFramesx4
namespace Go.Proofs.Ytgfgehhmnogbpaa.HFrames
open Go.RowKit Go.Proofs.YtgfgehhmnogbpaaW.PrintWords Go.Proofs.YtgfgehhmnogbpaaW.PrintLast Go.Proofs.YtgfgehhmnogbpaaW.PrintMore
attribute [local go_sem] max2_int min2_int max_two min_two max_three min_three max_four min_four   -- for this text's walks alone
set_option linter.unusedVariables false
set_option linter.unusedSimpArgs false

/-! ### ossuarylaw14_text: function 17 -/
def ossuarylaw14_text.l0 : Nat → Int → List Int → Int → Option (ByteArray)
  | 0, _, _, _ => none
  | k + 1, x0, x3, x4 => if x4 < 32 then (if 0 ≤ x4 then (if x4 < (x3.length : Int) then (ossuarylaw14_text.l0 k x0 (x3.set (x4 : Int).toNat ((x0 + ((x4) % 256)) % 256)) (wrap64 (x4 + 1))) else (none)) else (none)) else (some (strOfNums x3))
def ossuarylaw14_text.f (k : Nat) (a0 : Int) : Option (ByteArray) := if 32 ≤ 281474976710656 then (ossuarylaw14_text.l0 k a0 (List.replicate 32 0) 0) else (none)
theorem ossuarylaw14_text.mono_l : ∀ k, (∀ y0 y1 y2, LeO (ossuarylaw14_text.l0 k y0 y1 y2) (ossuarylaw14_text.l0 (k + 1) y0 y1 y2))
  | 0 => fun _ _ _ r h => by simp [ossuarylaw14_text.l0] at h
  | k + 1 => by
    have ih0 := ossuarylaw14_text.mono_l k
    · intro y0 y1 y2
      unfold ossuarylaw14_text.l0
      repeat' first
      | (with_reducible exact ih0 _ _ _)
      | (with_reducible exact LeO.refl _)
      | (with_reducible exact LeO.none _)
      | (with_reducible refine LeO.ite ?_ ?_)
      | (with_reducible refine LeO.bind ?_ (fun _ => ?_))
      | exact ih0 _ _ _
      | exact LeO.none _
      | refine LeO.ite ?_ ?_
      | refine LeO.bind ?_ (fun _ => ?_)
theorem ossuarylaw14_text.mono : ∀ a0 k, LeO (ossuarylaw14_text.f k a0) (ossuarylaw14_text.f (k + 1) a0) := by
  intro a0 k
  have ih0 := ossuarylaw14_text.mono_l k
  unfold ossuarylaw14_text.f
  repeat' first
      | (with_reducible exact ih0 _ _ _)
      | (with_reducible exact LeO.refl _)
      | (with_reducible exact LeO.none _)
      | (with_reducible refine LeO.ite ?_ ?_)
      | (with_reducible refine LeO.bind ?_ (fun _ => ?_))
      | exact ih0 _ _ _
      | exact LeO.none _
      | refine LeO.ite ?_ ?_
      | refine LeO.bind ?_ (fun _ => ?_)
set_option maxHeartbeats 8000000 in
set_option maxRecDepth 100000 in
theorem ossuarylaw14_text.calls (k : Nat) (a0 : Int) (r : ByteArray) (w : World) (h : ossuarylaw14_text.f k a0 = some r) :
    Calls Try.prog 17 #[.int .u8 a0] w fun e w' => e = .returned (.string r) ∧ Below w.heap.size w w' := by
  have HB := Aside0.mk (Below.refl w.heap.size w)
  have H : (if 32 ≤ 281474976710656 then (ossuarylaw14_text.l0 k a0 (List.replicate 32 0) 0) else (none)) = some r := h
  clear h
  by_cases c2 : 32 ≤ 281474976710656
  · rw [if_pos c2] at H
    have c2b0 := eq_true c2
    have c2b1 : decide (32 ≤ 281474976710656) = true := decide_eq_true c2
    clear c2
    obtain ⟨y182, hy182⟩ : ∃ y_ : List Int, y_ = (List.replicate 32 0) := ⟨_, rfl⟩
    replace H : (ossuarylaw14_text.l0 k a0 y182 0) = some r := by first | (rw [hy182]; with_reducible exact H) | (have H2_ := (Option.bind_some _ _).symm.trans H; rw [hy182]; with_reducible exact H2_) | (have H2_ := (Option.bind_some _ _).symm.trans H; with_reducible exact H2_) | with_reducible exact H | (rw [hy182]; exact H) | exact H
    have Ny182 := Aside0.mk hy182
    clear hy182
    have H' := Aside0.mk H
    clear H
    go_enter Try.func17, Try.ntmps17
    go_wp2_with (first | ((with_reducible refine gate_dst (N := 5) rfl ?_); refine Kd.R_make (Kd.int .u8) _ 5 rfl (N := 5) rfl 41 _ _ rfl 32 rfl rfl Try.underlying41 (.int .u8 0) 1 info5 rfl (by decide) (by omega) 0 (ok := fun _ => True) (okp := fun _ => True) rfl (fun _ hk => hk) trivial (by omega) (by omega) (Below.refl _ _) (Nat.le_refl _) ?_; intro v183 w3 ho4 hb hg_ hnew_; clear hg_ hnew_; (first | rw [← Ny182.out] at ho4 | (simp only [Int.reduceToNat] at ho4; rw [← Ny182.out] at ho4)); have n0_ := Aside0.mk (Kd.R_lower ho4 (below_size (by repeat (first | (with_reducible first | exact HB.out | apply below_alloc | apply pw_below_drewN | apply below_drew1) | exact HB.out)))); have n1_ := Aside0.mk (below_step (by repeat (first | (with_reducible first | exact HB.out | apply below_alloc | apply pw_below_drewN | apply below_drew1) | exact HB.out)) hb); clear HB; have HO184 := n0_; have HB := n1_; clear n0_ n1_; clear hb ho4))
    go_loopg [4] k (fun kq v4 w' => ∃ (x3_1 : List Int) (x4_1 : Int), v4 = .int .i64 x4_1 ∧ Aside0 (ossuarylaw14_text.l0 kq a0 x3_1 x4_1 = some r) ∧ Aside0 (kq ≤ k) ∧ Aside0 (Kd.R (Kd.int .u8) 5 w' w.heap.size (fun _ => True) v183 x3_1) ∧ Aside0 (Below w.heap.size w w'))
    case atStart => exact ⟨(y182), (0), (by first | rfl | (simp; done) | (simp [*]; done)), H', ⟨Nat.le_refl _⟩, ⟨by (with_reducible repeat (first | apply Kd.R_alloc | apply Kd.R_drewN | apply Kd.R_drew)); exact HO184.out⟩, ⟨by repeat (first | (with_reducible first | exact HB.out | apply below_alloc | apply pw_below_drewN | apply below_drew1) | exact HB.out)⟩⟩
    case round =>
      clear H'
      try clear c1
      try clear c2
      try clear c2b0
      try clear c2b1
      try clear p2
      obtain ⟨x3_1, x4_1, rfl, HA, HK1, HO_3, HB⟩ := hrel
      cases gk with
      | zero => exact absurd HA.out (by simp [ossuarylaw14_text.l0])
      | succ k1 =>
        have H := HA.out
        clear HA
        simp only [ossuarylaw14_text.l0] at H
        by_cases c5 : x4_1 < 32
        · rw [if_pos c5] at H
          have c5b0 : decide (x4_1 < 32) = true := decide_eq_true c5
          clear c5
          by_cases c6 : 0 ≤ x4_1
          · rw [if_pos c6] at H
            have c6b0 : decide (0 ≤ x4_1) = true := decide_eq_true c6
            clear c6
            by_cases c7 : x4_1 < (x3_1.length : Int)
            · rw [if_pos c7] at H
              have c7b0 : decide (x4_1 < (x3_1.length : Int)) = true := decide_eq_true c7
              clear c7
              obtain ⟨y185, hy185⟩ : ∃ y_ : List Int, y_ = (x3_1.set (x4_1 : Int).toNat ((a0 + ((x4_1) % 256)) % 256)) := ⟨_, rfl⟩
              replace H : (ossuarylaw14_text.l0 k1 a0 y185 (wrap64 (x4_1 + 1))) = some r := by first | (rw [hy185]; with_reducible exact H) | (have H2_ := (Option.bind_some _ _).symm.trans H; rw [hy185]; with_reducible exact H2_) | (have H2_ := (Option.bind_some _ _).symm.trans H; with_reducible exact H2_) | with_reducible exact H | (rw [hy185]; exact H) | exact H
              have Ny185 := Aside0.mk hy185
              clear hy185
              have H' := Aside0.mk H
              clear H
              have p8 : 0 ≤ (x4_1 : Int) := of_decide_eq_true (by first | (with_reducible assumption) | assumption)
              have q8 : (x4_1 : Int) < ((x3_1.length : Int) : Int) := of_decide_eq_true (by first | (with_reducible assumption) | assumption)
              obtain ⟨go8, co8, eo8, gb8, gl8, cl8, HG8⟩ := Kd.R_form HO_3.out (by omega)
              (first | cases eo8 | (injection eo8 with ea_ en_ ec_; (first | subst ea_ | (injection ea_ with ea_; subst ea_)); subst ec_; clear en_))
              have GB8 := Aside0.mk gb8
              have GG8 := Aside0.mk HG8
              clear gb8 gl8 HG8
              obtain ⟨hx8_0, hf8_0⟩ := Kd.R_celln 0 HO_3.out (x4_1 : Int) p8 q8
              replace p8 := eq_true p8
              replace q8 := eq_true q8
              have HP9 := Kd.R_putg HO_3.out (x4_1 : Int) ((a0 + ((x4_1) % 256)) % 256)
              go_wp2_with (first | ((with_reducible refine gate_store (t := 5) (p := 16) rfl ?_); refine store_event (t := 5) (p := 16) (v := ?vo_w10) (w1 := (wr.setCell ⟨go8, (x4_1 : Int).toNat, none⟩ (.int .u8 ((a0 + ((x4_1) % 256)) % 256)))) ?hg ?ho ?hn ?hr ?_; (case ho => rfl); (case hg => rfl); (case hn => rfl); (case hr => first | (go_simp; done) | (go_simp; rfl)); intro w10 hw; have hg : wr.grownBy w10 (some go8) := (by rw [hw]; exact HP9.2); have hp_ : Kd.R (Kd.int .u8) 5 w10 w.heap.size (fun _ => True) (.slice (some ⟨go8, 0, none⟩) x3_1.length co8) y185 := (by rw [hw, Ny185.out]; exact HP9.1); clear HP9; have n0_ := Aside0.mk (hp_); have n1_ := Aside0.mk ((by rw [hw]; exact below_set (HB.out) GB8.out : Below w.heap.size w w10)); clear HO_3; clear HB; have HO_3 := n0_; have HB := n1_; clear n0_ n1_; clear hg hw hp_))
              go_roundg k1
              case measure => have := HK1.out; omega
              case rel => exact ⟨(y185), (wrap64 (x4_1 + 1)), (by first | rfl | (simp; done) | (simp [*]; done)), H', ⟨by have := HK1.out; omega⟩, ⟨by (with_reducible repeat (first | apply Kd.R_alloc | apply Kd.R_drewN | apply Kd.R_drew)); exact HO_3.out⟩, ⟨by repeat (first | (with_reducible first | exact HB.out | apply below_alloc | apply pw_below_drewN | apply below_drew1) | exact HB.out)⟩⟩
            · rw [if_neg c7] at H
              exact absurd H (by simp)
          · rw [if_neg c6] at H
            exact absurd H (by simp)
        · rw [if_neg c5] at H
          have c5b0 : decide (x4_1 < 32) = false := decide_eq_false c5
          clear c5
          obtain rfl := Option.some.inj H
          have hcv11 := own_string (P := Try.prog) Try.underlying41 Try.underlying5 Try.underlying9 (Kd.own_of_R HO_3.out)
          go_wp2
          go_ret
          exact ⟨by first | rfl | (simp [errW_none, errW_some] <;> rfl) | (simp [*, errW_none, errW_some] <;> rfl), by repeat (first | (with_reducible first | exact HB.out | apply below_alloc | apply pw_below_drewN | apply below_drew1) | exact HB.out)⟩
  · rw [if_neg c2] at H
    exact absurd H (by simp)

/-! ### ossuarylaw14_awake: function 16 -/
def ossuarylaw14_awake.f (k : Nat)  : Option (Bool) := (ossuarylaw14_text.f k 97).bind fun t186 => ((frame_Put.f k 3 1 t186 (([5, 6] : List Int))).bind fun bt190 => ((frame_Get.f k bt190.1 3 1).bind fun bt192 => ((frame_Get.f k bt190.1 3 2).bind fun bt197 => ((frame_Put.f k 3 1 (⟨#[97]⟩ : ByteArray) ([] : List Int)).bind fun bt202 => (if (bt190.1.size : Int) = 64 then (if 0 ≤ 4 then (if 4 ≤ (bt190.1.size : Int) then (if (bt190.1.extract 0 4).toList = ([79, 3, 1, 2] : List UInt8) then ((ossuarylaw0_Num.f bt190.2).bind fun t204 => (if t204 = 0 then ((ossuarylaw14_text.f k 97).bind fun t205 => (if bt192.1.toList = t205.toList then ((ossuarylaw0_SameInts.f k bt192.2.1 (([5, 6] : List Int))).bind fun t209 => (if t209 = true then ((ossuarylaw0_Num.f bt192.2.2).bind fun t210 => (if t210 = 0 then ((ossuarylaw0_Num.f bt197.2.2).bind fun t211 => (if t211 = 1400 then ((ossuarylaw0_Num.f bt202.2).bind fun t212 => (some (t212 == 1400))) else (some false))) else (some false))) else (some false))) else (some false))) else (some false))) else (some false)) else (none)) else (none)) else (some false))))))
theorem ossuarylaw14_awake.mono : ∀ k, LeO (ossuarylaw14_awake.f k ) (ossuarylaw14_awake.f (k + 1) ) := by
  intro  k
  unfold ossuarylaw14_awake.f
  repeat' first
      | (with_reducible exact frame_Get.mono _ _ _ _)
      | (with_reducible exact frame_Put.mono _ _ _ _ _)
      | (with_reducible exact ossuarylaw0_SameInts.mono _ _ _)
      | (with_reducible exact ossuarylaw14_text.mono _ _)
      | (with_reducible exact LeO.refl _)
      | (with_reducible exact LeO.none _)
      | (with_reducible refine LeO.ite ?_ ?_)
      | (with_reducible refine LeO.bind ?_ (fun _ => ?_))
      | exact frame_Get.mono _ _ _ _
      | exact frame_Put.mono _ _ _ _ _
      | exact ossuarylaw0_SameInts.mono _ _ _
      | exact ossuarylaw14_text.mono _ _
      | exact LeO.none _
      | refine LeO.ite ?_ ?_
      | refine LeO.bind ?_ (fun _ => ?_)
set_option maxHeartbeats 8000000 in
set_option maxRecDepth 100000 in
theorem ossuarylaw14_awake.calls (k : Nat)  (r : Bool) (w : World) (h : ossuarylaw14_awake.f k  = some r) (hr_ : r = true := by rfl) :
    Calls Try.prog 16 #[] w fun e w' => e = .returned (.bool r) ∧ Below w.heap.size w w' := by
  have HRT := Aside0.mk hr_
  clear hr_
  have HB := Aside0.mk (Below.refl w.heap.size w)
  have H : ((ossuarylaw14_text.f k 97).bind fun t186 => ((frame_Put.f k 3 1 t186 (([5, 6] : List Int))).bind fun bt190 => ((frame_Get.f k bt190.1 3 1).bind fun bt192 => ((frame_Get.f k bt190.1 3 2).bind fun bt197 => ((frame_Put.f k 3 1 (⟨#[97]⟩ : ByteArray) ([] : List Int)).bind fun bt202 => (if (bt190.1.size : Int) = 64 then (if 0 ≤ 4 then (if 4 ≤ (bt190.1.size : Int) then (if (bt190.1.extract 0 4).toList = ([79, 3, 1, 2] : List UInt8) then ((ossuarylaw0_Num.f bt190.2).bind fun t204 => (if t204 = 0 then ((ossuarylaw14_text.f k 97).bind fun t205 => (if bt192.1.toList = t205.toList then ((ossuarylaw0_SameInts.f k bt192.2.1 (([5, 6] : List Int))).bind fun t209 => (if t209 = true then ((ossuarylaw0_Num.f bt192.2.2).bind fun t210 => (if t210 = 0 then ((ossuarylaw0_Num.f bt197.2.2).bind fun t211 => (if t211 = 1400 then ((ossuarylaw0_Num.f bt202.2).bind fun t212 => (some (t212 == 1400))) else (some false))) else (some false))) else (some false))) else (some false))) else (some false))) else (some false)) else (none)) else (none)) else (some false))))))) = some r := h
  clear h
  replace H := Option.bind_eq_some_iff.mp H
  obtain ⟨t186, A10, H⟩ := H
  replace H : ((frame_Put.f k 3 1 t186 (([5, 6] : List Int))).bind fun bt190 => ((frame_Get.f k bt190.1 3 1).bind fun bt192 => ((frame_Get.f k bt190.1 3 2).bind fun bt197 => ((frame_Put.f k 3 1 (⟨#[97]⟩ : ByteArray) ([] : List Int)).bind fun bt202 => (if (bt190.1.size : Int) = 64 then (if 0 ≤ 4 then (if 4 ≤ (bt190.1.size : Int) then (if (bt190.1.extract 0 4).toList = ([79, 3, 1, 2] : List UInt8) then ((ossuarylaw0_Num.f bt190.2).bind fun t204 => (if t204 = 0 then ((ossuarylaw14_text.f k 97).bind fun t205 => (if bt192.1.toList = t205.toList then ((ossuarylaw0_SameInts.f k bt192.2.1 (([5, 6] : List Int))).bind fun t209 => (if t209 = true then ((ossuarylaw0_Num.f bt192.2.2).bind fun t210 => (if t210 = 0 then ((ossuarylaw0_Num.f bt197.2.2).bind fun t211 => (if t211 = 1400 then ((ossuarylaw0_Num.f bt202.2).bind fun t212 => (some (t212 == 1400))) else (some false))) else (some false))) else (some false))) else (some false))) else (some false))) else (some false)) else (none)) else (none)) else (some false)))))) = some r := H
  have A1 := Aside0.mk A10
  clear A10
  obtain ⟨y187, hy187⟩ : ∃ y_ : List Int, y_ = (([5, 6] : List Int)) := ⟨_, rfl⟩
  replace H : ((frame_Put.f k 3 1 t186 y187).bind fun bt190 => ((frame_Get.f k bt190.1 3 1).bind fun bt192 => ((frame_Get.f k bt190.1 3 2).bind fun bt197 => ((frame_Put.f k 3 1 (⟨#[97]⟩ : ByteArray) ([] : List Int)).bind fun bt202 => (if (bt190.1.size : Int) = 64 then (if 0 ≤ 4 then (if 4 ≤ (bt190.1.size : Int) then (if (bt190.1.extract 0 4).toList = ([79, 3, 1, 2] : List UInt8) then ((ossuarylaw0_Num.f bt190.2).bind fun t204 => (if t204 = 0 then ((ossuarylaw14_text.f k 97).bind fun t205 => (if bt192.1.toList = t205.toList then ((ossuarylaw0_SameInts.f k bt192.2.1 (([5, 6] : List Int))).bind fun t209 => (if t209 = true then ((ossuarylaw0_Num.f bt192.2.2).bind fun t210 => (if t210 = 0 then ((ossuarylaw0_Num.f bt197.2.2).bind fun t211 => (if t211 = 1400 then ((ossuarylaw0_Num.f bt202.2).bind fun t212 => (some (t212 == 1400))) else (some false))) else (some false))) else (some false))) else (some false))) else (some false))) else (some false)) else (none)) else (none)) else (some false)))))) = some r := by first | (rw [hy187]; with_reducible exact H) | (have H2_ := (Option.bind_some _ _).symm.trans H; rw [hy187]; with_reducible exact H2_) | (have H2_ := (Option.bind_some _ _).symm.trans H; with_reducible exact H2_) | with_reducible exact H | (rw [hy187]; exact H) | exact H
  have Ny187 := Aside0.mk hy187
  clear hy187
  replace H := Option.bind_eq_some_iff.mp H
  obtain ⟨⟨t190, t191⟩, A20, H⟩ := H
  replace H : ((frame_Get.f k t190 3 1).bind fun bt192 => ((frame_Get.f k t190 3 2).bind fun bt197 => ((frame_Put.f k 3 1 (⟨#[97]⟩ : ByteArray) ([] : List Int)).bind fun bt202 => (if (t190.size : Int) = 64 then (if 0 ≤ 4 then (if 4 ≤ (t190.size : Int) then (if (t190.extract 0 4).toList = ([79, 3, 1, 2] : List UInt8) then ((ossuarylaw0_Num.f t191).bind fun t204 => (if t204 = 0 then ((ossuarylaw14_text.f k 97).bind fun t205 => (if bt192.1.toList = t205.toList then ((ossuarylaw0_SameInts.f k bt192.2.1 (([5, 6] : List Int))).bind fun t209 => (if t209 = true then ((ossuarylaw0_Num.f bt192.2.2).bind fun t210 => (if t210 = 0 then ((ossuarylaw0_Num.f bt197.2.2).bind fun t211 => (if t211 = 1400 then ((ossuarylaw0_Num.f bt202.2).bind fun t212 => (some (t212 == 1400))) else (some false))) else (some false))) else (some false))) else (some false))) else (some false))) else (some false)) else (none)) else (none)) else (some false))))) = some r := H
  have A2 := Aside0.mk A20
  clear A20
  replace H := Option.bind_eq_some_iff.mp H
  obtain ⟨⟨t192, t193, t194⟩, A30, H⟩ := H
  replace H : ((frame_Get.f k t190 3 2).bind fun bt197 => ((frame_Put.f k 3 1 (⟨#[97]⟩ : ByteArray) ([] : List Int)).bind fun bt202 => (if (t190.size : Int) = 64 then (if 0 ≤ 4 then (if 4 ≤ (t190.size : Int) then (if (t190.extract 0 4).toList = ([79, 3, 1, 2] : List UInt8) then ((ossuarylaw0_Num.f t191).bind fun t204 => (if t204 = 0 then ((ossuarylaw14_text.f k 97).bind fun t205 => (if t192.toList = t205.toList then ((ossuarylaw0_SameInts.f k t193 (([5, 6] : List Int))).bind fun t209 => (if t209 = true then ((ossuarylaw0_Num.f t194).bind fun t210 => (if t210 = 0 then ((ossuarylaw0_Num.f bt197.2.2).bind fun t211 => (if t211 = 1400 then ((ossuarylaw0_Num.f bt202.2).bind fun t212 => (some (t212 == 1400))) else (some false))) else (some false))) else (some false))) else (some false))) else (some false))) else (some false)) else (none)) else (none)) else (some false)))) = some r := H
  have A3 := Aside0.mk A30
  clear A30
  replace H := Option.bind_eq_some_iff.mp H
  obtain ⟨⟨t197, t198, t199⟩, A40, H⟩ := H
  replace H : ((frame_Put.f k 3 1 (⟨#[97]⟩ : ByteArray) ([] : List Int)).bind fun bt202 => (if (t190.size : Int) = 64 then (if 0 ≤ 4 then (if 4 ≤ (t190.size : Int) then (if (t190.extract 0 4).toList = ([79, 3, 1, 2] : List UInt8) then ((ossuarylaw0_Num.f t191).bind fun t204 => (if t204 = 0 then ((ossuarylaw14_text.f k 97).bind fun t205 => (if t192.toList = t205.toList then ((ossuarylaw0_SameInts.f k t193 (([5, 6] : List Int))).bind fun t209 => (if t209 = true then ((ossuarylaw0_Num.f t194).bind fun t210 => (if t210 = 0 then ((ossuarylaw0_Num.f t199).bind fun t211 => (if t211 = 1400 then ((ossuarylaw0_Num.f bt202.2).bind fun t212 => (some (t212 == 1400))) else (some false))) else (some false))) else (some false))) else (some false))) else (some false))) else (some false)) else (none)) else (none)) else (some false))) = some r := H
  have A4 := Aside0.mk A40
  clear A40
  replace H := Option.bind_eq_some_iff.mp H
  obtain ⟨⟨t202, t203⟩, A50, H⟩ := H
  replace H : (if (t190.size : Int) = 64 then (if 0 ≤ 4 then (if 4 ≤ (t190.size : Int) then (if (t190.extract 0 4).toList = ([79, 3, 1, 2] : List UInt8) then ((ossuarylaw0_Num.f t191).bind fun t204 => (if t204 = 0 then ((ossuarylaw14_text.f k 97).bind fun t205 => (if t192.toList = t205.toList then ((ossuarylaw0_SameInts.f k t193 (([5, 6] : List Int))).bind fun t209 => (if t209 = true then ((ossuarylaw0_Num.f t194).bind fun t210 => (if t210 = 0 then ((ossuarylaw0_Num.f t199).bind fun t211 => (if t211 = 1400 then ((ossuarylaw0_Num.f t203).bind fun t212 => (some (t212 == 1400))) else (some false))) else (some false))) else (some false))) else (some false))) else (some false))) else (some false)) else (none)) else (none)) else (some false)) = some r := H
  have A5 := Aside0.mk A50
  clear A50
  by_cases c6 : (t190.size : Int) = 64
  · rw [if_pos c6] at H
    have c6b0 : ((t190.size : Int) == 64) = true := beq_iff_eq.mpr c6
    have c6b1 : ((t190.size : Int) != 64) = false := bne_eq_false_iff_eq.mpr c6
    clear c6
    by_cases c7 : 0 ≤ 4
    · rw [if_pos c7] at H
      have c7b0 := eq_true c7
      have c7b1 : decide (0 ≤ 4) = true := decide_eq_true c7
      clear c7
      by_cases c8 : 4 ≤ (t190.size : Int)
      · rw [if_pos c8] at H
        have c8b0 := eq_true c8
        have c8b1 : decide (4 ≤ (t190.size : Int)) = true := decide_eq_true c8
        clear c8
        by_cases c9 : (t190.extract 0 4).toList = ([79, 3, 1, 2] : List UInt8)
        · rw [if_pos c9] at H
          have c9b0 : ((t190.extract 0 4).toList == ([79, 3, 1, 2] : List UInt8)) = true := beq_iff_eq.mpr c9
          have c9b1 : ((t190.extract 0 4).toList != ([79, 3, 1, 2] : List UInt8)) = false := bne_eq_false_iff_eq.mpr c9
          clear c9
          replace H := Option.bind_eq_some_iff.mp H
          obtain ⟨t204, A100, H⟩ := H
          replace H : (if t204 = 0 then ((ossuarylaw14_text.f k 97).bind fun t205 => (if t192.toList = t205.toList then ((ossuarylaw0_SameInts.f k t193 (([5, 6] : List Int))).bind fun t209 => (if t209 = true then ((ossuarylaw0_Num.f t194).bind fun t210 => (if t210 = 0 then ((ossuarylaw0_Num.f t199).bind fun t211 => (if t211 = 1400 then ((ossuarylaw0_Num.f t203).bind fun t212 => (some (t212 == 1400))) else (some false))) else (some false))) else (some false))) else (some false))) else (some false)) = some r := H
          have A10 := Aside0.mk A100
          clear A100
          by_cases c11 : t204 = 0
          · rw [if_pos c11] at H
            have c11b0 : (t204 == 0) = true := beq_iff_eq.mpr c11
            have c11b1 : (t204 != 0) = false := bne_eq_false_iff_eq.mpr c11
            clear c11
            replace H := Option.bind_eq_some_iff.mp H
            obtain ⟨t205, A120, H⟩ := H
            replace H : (if t192.toList = t205.toList then ((ossuarylaw0_SameInts.f k t193 (([5, 6] : List Int))).bind fun t209 => (if t209 = true then ((ossuarylaw0_Num.f t194).bind fun t210 => (if t210 = 0 then ((ossuarylaw0_Num.f t199).bind fun t211 => (if t211 = 1400 then ((ossuarylaw0_Num.f t203).bind fun t212 => (some (t212 == 1400))) else (some false))) else (some false))) else (some false))) else (some false)) = some r := H
            have A12 := Aside0.mk A120
            clear A120
            by_cases c13 : t192.toList = t205.toList
            · rw [if_pos c13] at H
              have c13b0 : (t192.toList == t205.toList) = true := beq_iff_eq.mpr c13
              have c13b1 : (t192.toList != t205.toList) = false := bne_eq_false_iff_eq.mpr c13
              clear c13
              obtain ⟨y206, hy206⟩ : ∃ y_ : List Int, y_ = (([5, 6] : List Int)) := ⟨_, rfl⟩
              replace H : ((ossuarylaw0_SameInts.f k t193 y206).bind fun t209 => (if t209 = true then ((ossuarylaw0_Num.f t194).bind fun t210 => (if t210 = 0 then ((ossuarylaw0_Num.f t199).bind fun t211 => (if t211 = 1400 then ((ossuarylaw0_Num.f t203).bind fun t212 => (some (t212 == 1400))) else (some false))) else (some false))) else (some false))) = some r := by first | (rw [hy206]; with_reducible exact H) | (have H2_ := (Option.bind_some _ _).symm.trans H; rw [hy206]; with_reducible exact H2_) | (have H2_ := (Option.bind_some _ _).symm.trans H; with_reducible exact H2_) | with_reducible exact H | (rw [hy206]; exact H) | exact H
              have Ny206 := Aside0.mk hy206
              clear hy206
              replace H := Option.bind_eq_some_iff.mp H
              obtain ⟨t209, A140, H⟩ := H
              replace H : (if t209 = true then ((ossuarylaw0_Num.f t194).bind fun t210 => (if t210 = 0 then ((ossuarylaw0_Num.f t199).bind fun t211 => (if t211 = 1400 then ((ossuarylaw0_Num.f t203).bind fun t212 => (some (t212 == 1400))) else (some false))) else (some false))) else (some false)) = some r := H
              have A14 := Aside0.mk A140
              clear A140
              by_cases c15 : t209 = true
              · subst c15
                have H1 : ((ossuarylaw0_Num.f t194).bind fun t210 => (if t210 = 0 then ((ossuarylaw0_Num.f t199).bind fun t211 => (if t211 = 1400 then ((ossuarylaw0_Num.f t203).bind fun t212 => (some (t212 == 1400))) else (some false))) else (some false))) = some r := by rw [if_pos rfl] at H; exact H
                clear H
                have H := H1
                clear H1
                replace H := Option.bind_eq_some_iff.mp H
                obtain ⟨t210, A160, H⟩ := H
                replace H : (if t210 = 0 then ((ossuarylaw0_Num.f t199).bind fun t211 => (if t211 = 1400 then ((ossuarylaw0_Num.f t203).bind fun t212 => (some (t212 == 1400))) else (some false))) else (some false)) = some r := H
                have A16 := Aside0.mk A160
                clear A160
                by_cases c17 : t210 = 0
                · rw [if_pos c17] at H
                  have c17b0 : (t210 == 0) = true := beq_iff_eq.mpr c17
                  have c17b1 : (t210 != 0) = false := bne_eq_false_iff_eq.mpr c17
                  clear c17
                  replace H := Option.bind_eq_some_iff.mp H
                  obtain ⟨t211, A180, H⟩ := H
                  replace H : (if t211 = 1400 then ((ossuarylaw0_Num.f t203).bind fun t212 => (some (t212 == 1400))) else (some false)) = some r := H
                  have A18 := Aside0.mk A180
                  clear A180
                  by_cases c19 : t211 = 1400
                  · rw [if_pos c19] at H
                    have c19b0 : (t211 == 1400) = true := beq_iff_eq.mpr c19
                    have c19b1 : (t211 != 1400) = false := bne_eq_false_iff_eq.mpr c19
                    clear c19
                    replace H := Option.bind_eq_some_iff.mp H
                    obtain ⟨t212, A200, H⟩ := H
                    replace H : (some (t212 == 1400)) = some r := H
                    have A20 := Aside0.mk A200
                    clear A200
                    obtain rfl := Option.some.inj H
                    go_enter Try.func16, Try.ntmps16
                    go_wp2_with (first | ((with_reducible refine gate_callee (f := 17) rfl ?_); refine goesL_ (some 12) rfl rfl Try.func17 (by kernel_rfl) rfl #[.int .u8 97] rfl (by (try simp only [List.map_toArray, List.map_cons, List.map_nil]); first | done | rfl | (simp only [List.length_drop, List.length_take]; rfl)) ?_; (with_reducible refine (ossuarylaw14_text.calls k 97 t186 _ A1.out).mono ?_); rintro e w21 ⟨rfl, hb⟩; refine ⟨_, rfl, ?_⟩; have n0_ := Aside0.mk (below_step (by repeat (first | (with_reducible first | exact HB.out | apply below_alloc | apply pw_below_drewN | apply below_drew1) | exact HB.out)) hb); clear HB; have HB := n0_; clear n0_; (try clear hb); (try clear hb2); (try clear hk); (try clear hi)) | ((with_reducible refine gate_dst (N := 13) rfl ?_); (try (refine gate_guard (by rfl) ?_; dsimp only)); refine Kd.R_lit (Kd.int .i64) _ 3 ?hg (N := 13) ?hd (xs := ([5, 6] : List Int)) (inner := [.int .i64 5, .int .i64 6]) (ok := fun _ => True) (okp := fun _ => True) ?hr ?hp (fun _ hk => hk) trivial (Below.refl _ _) (Nat.le_refl _) (by simp) ?_; (case hd => rfl); (case hg => rfl); (case hr => first | (go_simp; done) | (go_simp; rfl)); (case hp => exact (Reps.one (show Kd.M (Kd.int .i64) _ _ _ 5 [.int .i64 5] from rfl) (Reps.one (show Kd.M (Kd.int .i64) _ _ _ 6 [.int .i64 6] from rfl) (Reps.none _ _)))); intro v188 w22 ho23 hb hg_ hnew_; clear hg_ hnew_; (first | rw [← Ny187.out] at ho23 | (simp only [Int.reduceToNat] at ho23; rw [← Ny187.out] at ho23)); have n0_ := Aside0.mk (Kd.R_lower ho23 (below_size (by repeat (first | (with_reducible first | exact HB.out | apply below_alloc | apply pw_below_drewN | apply below_drew1) | exact HB.out)))); have n1_ := Aside0.mk (below_step (by repeat (first | (with_reducible first | exact HB.out | apply below_alloc | apply pw_below_drewN | apply below_drew1) | exact HB.out)) hb); clear HB; have HO189 := n0_; have HB := n1_; clear n0_ n1_; clear hb ho23; obtain ⟨Ao24, co24, eo24⟩ := Kd.R_slice HO189.out; subst eo24) | ((with_reducible refine gate_callee (f := 8) rfl ?_); refine goesL_ (some 14) rfl rfl Try.func8 (by kernel_rfl) rfl #[.int .i64 3, .int .i64 1, .string t186, .slice Ao24 y187.length co24] rfl (by (try simp only [List.map_toArray, List.map_cons, List.map_nil]); first | done | rfl | (simp only [List.length_drop, List.length_take]; rfl)) ?_; (with_reducible refine (frame_Put.calls k 3 1 t186 _ _ y187 t190 t191 _ ?side1 ?side2 A2.out).mono ?_); (case side1 => repeat (first | exact (Kd.R_reads' HO189.out).2.2 | (with_reducible refine Kd.C_alloc ?_ _) | (with_reducible refine Kd.C_drewN ?_ _) | (with_reducible refine Kd.C_drew ?_))); (case side2 => exact (Kd.R_reads' HO189.out).2.1); rintro e w25 ⟨rfl, hb⟩; refine ⟨_, rfl, ?_⟩; have n0_ := Aside0.mk (Kd.R_below (by (with_reducible repeat (first | apply Kd.R_alloc | apply Kd.R_drewN | apply Kd.R_drew)); exact HO189.out) hb); have n1_ := Aside0.mk (below_step (by repeat (first | (with_reducible first | exact HB.out | apply below_alloc | apply pw_below_drewN | apply below_drew1) | exact HB.out)) hb); clear HO189; clear HB; have HO189 := n0_; have HB := n1_; clear n0_ n1_; (try clear hb); (try clear hb2); (try clear hk); (try clear hi)) | ((with_reducible refine gate_callee (f := 10) rfl ?_); refine goesL_ (some 19) rfl rfl Try.func10 (by kernel_rfl) rfl #[.string t190, .int .i64 3, .int .i64 1] rfl (by (try simp only [List.map_toArray, List.map_cons, List.map_nil]); first | done | rfl | (simp only [List.length_drop, List.length_take]; rfl)) ?_; (with_reducible refine (frame_Get.calls k t190 3 1 t192 t193 t194 _ A3.out).mono ?_); rintro e w26 ⟨v195, rfl, ho0, hb⟩; refine ⟨_, rfl, ?_⟩; have n0_ := Aside0.mk (Kd.R_elder' (by (with_reducible repeat (first | apply Kd.R_alloc | apply Kd.R_drewN | apply Kd.R_drew)); exact HO189.out) (Kd.R_base ho0) hb); have n1_ := Aside0.mk (Kd.R_lower (Kd.R_new' ho0 (Kd.R_lt (by (with_reducible repeat (first | apply Kd.R_alloc | apply Kd.R_drewN | apply Kd.R_drew)); exact HO189.out))) (below_size (by repeat (first | (with_reducible first | exact HB.out | apply below_alloc | apply pw_below_drewN | apply below_drew1) | exact HB.out)))); have n2_ := Aside0.mk (below_step (by repeat (first | (with_reducible first | exact HB.out | apply below_alloc | apply pw_below_drewN | apply below_drew1) | exact HB.out)) hb); clear HO189; clear HB; have HO189 := n0_; have HO196 := n1_; have HB := n2_; clear n0_ n1_ n2_; (try clear hb); (try clear hb2); (try clear hk); (try clear hi); (try clear ho0)) | ((with_reducible refine gate_callee (f := 10) rfl ?_); refine goesL_ (some 25) rfl rfl Try.func10 (by kernel_rfl) rfl #[.string t190, .int .i64 3, .int .i64 2] rfl (by (try simp only [List.map_toArray, List.map_cons, List.map_nil]); first | done | rfl | (simp only [List.length_drop, List.length_take]; rfl)) ?_; (with_reducible refine (frame_Get.calls k t190 3 2 t197 t198 t199 _ A4.out).mono ?_); rintro e w27 ⟨v200, rfl, ho0, hb⟩; refine ⟨_, rfl, ?_⟩; have n0_ := Aside0.mk (Kd.R_elder' (by (with_reducible repeat (first | apply Kd.R_alloc | apply Kd.R_drewN | apply Kd.R_drew)); exact HO189.out) (Kd.R_base ho0) hb); have n1_ := Aside0.mk (Kd.R_elder' (by (with_reducible repeat (first | apply Kd.R_alloc | apply Kd.R_drewN | apply Kd.R_drew)); exact HO196.out) (Kd.R_base ho0) hb); have n2_ := Aside0.mk (Kd.R_lower (Kd.R_new' (Kd.R_new' ho0 (Kd.R_lt (by (with_reducible repeat (first | apply Kd.R_alloc | apply Kd.R_drewN | apply Kd.R_drew)); exact HO189.out))) (Kd.R_lt (by (with_reducible repeat (first | apply Kd.R_alloc | apply Kd.R_drewN | apply Kd.R_drew)); exact HO196.out))) (below_size (by repeat (first | (with_reducible first | exact HB.out | apply below_alloc | apply pw_below_drewN | apply below_drew1) | exact HB.out)))); have n3_ := Aside0.mk (below_step (by repeat (first | (with_reducible first | exact HB.out | apply below_alloc | apply pw_below_drewN | apply below_drew1) | exact HB.out)) hb); clear HO189; clear HO196; clear HB; have HO189 := n0_; have HO196 := n1_; have HO201 := n2_; have HB := n3_; clear n0_ n1_ n2_ n3_; (try clear hb); (try clear hb2); (try clear hk); (try clear hi); (try clear ho0)) | ((with_reducible refine gate_callee (f := 8) rfl ?_); refine goesL_ (some 30) rfl rfl Try.func8 (by kernel_rfl) rfl #[.int .i64 3, .int .i64 1, .string (⟨#[97]⟩ : ByteArray), .slice none 0 0] rfl (by (try simp only [List.map_toArray, List.map_cons, List.map_nil]); first | done | rfl | (simp only [List.length_drop, List.length_take]; rfl)) ?_; (refine (frame_Put.calls k 3 1 (⟨#[97]⟩ : ByteArray) _ _ ([] : List Int) t202 t203 _ ?side1 ?side2 A5.out).mono ?_); (case side1 => exact Kd.C_nil _ _); (case side2 => exact Nat.le_refl _); rintro e w28 ⟨rfl, hb⟩; refine ⟨_, rfl, ?_⟩; have n0_ := Aside0.mk (Kd.R_below (by (with_reducible repeat (first | apply Kd.R_alloc | apply Kd.R_drewN | apply Kd.R_drew)); exact HO189.out) hb); have n1_ := Aside0.mk (Kd.R_below (by (with_reducible repeat (first | apply Kd.R_alloc | apply Kd.R_drewN | apply Kd.R_drew)); exact HO196.out) hb); have n2_ := Aside0.mk (Kd.R_below (by (with_reducible repeat (first | apply Kd.R_alloc | apply Kd.R_drewN | apply Kd.R_drew)); exact HO201.out) hb); have n3_ := Aside0.mk (below_step (by repeat (first | (with_reducible first | exact HB.out | apply below_alloc | apply pw_below_drewN | apply below_drew1) | exact HB.out)) hb); clear HO189; clear HO196; clear HO201; clear HB; have HO189 := n0_; have HO196 := n1_; have HO201 := n2_; have HB := n3_; clear n0_ n1_ n2_ n3_; (try clear hb); (try clear hb2); (try clear hk); (try clear hi)) | (go_at_call 12; (with_reducible refine (ossuarylaw0_Num.calls t191 t204 _ A10.out).mono ?_); rintro e w' ⟨rfl, ⟨nd, rfl⟩⟩) | (go_at_call 17; (with_reducible refine (ossuarylaw14_text.calls k 97 t205 _ A12.out).mono ?_); rintro e w29 ⟨rfl, hb⟩; have n0_ := Aside0.mk (Kd.R_below (by (with_reducible repeat (first | apply Kd.R_alloc | apply Kd.R_drewN | apply Kd.R_drew)); exact HO189.out) hb); have n1_ := Aside0.mk (Kd.R_below (by (with_reducible repeat (first | apply Kd.R_alloc | apply Kd.R_drewN | apply Kd.R_drew)); exact HO196.out) hb); have n2_ := Aside0.mk (Kd.R_below (by (with_reducible repeat (first | apply Kd.R_alloc | apply Kd.R_drewN | apply Kd.R_drew)); exact HO201.out) hb); have n3_ := Aside0.mk (below_step (by repeat (first | (with_reducible first | exact HB.out | apply below_alloc | apply pw_below_drewN | apply below_drew1) | exact HB.out)) hb); clear HO189; clear HO196; clear HO201; clear HB; have HO189 := n0_; have HO196 := n1_; have HO201 := n2_; have HB := n3_; clear n0_ n1_ n2_ n3_; (try clear hb); (try clear hb2); (try clear hk); (try clear hi)) | ((with_reducible refine gate_dst (N := 53) rfl ?_); (try (refine gate_guard (by rfl) ?_; dsimp only)); refine Kd.R_lit (Kd.int .i64) _ 3 ?hg (N := 53) ?hd (xs := ([5, 6] : List Int)) (inner := [.int .i64 5, .int .i64 6]) (ok := fun _ => True) (okp := fun _ => True) ?hr ?hp (fun _ hk => hk) trivial (Below.refl _ _) (Nat.le_refl _) (by simp) ?_; (case hd => rfl); (case hg => rfl); (case hr => first | (go_simp; done) | (go_simp; rfl)); (case hp => exact (Reps.one (show Kd.M (Kd.int .i64) _ _ _ 5 [.int .i64 5] from rfl) (Reps.one (show Kd.M (Kd.int .i64) _ _ _ 6 [.int .i64 6] from rfl) (Reps.none _ _)))); intro v207 w30 ho31 hb hg_ hnew_; clear hg_ hnew_; (first | rw [← Ny206.out] at ho31 | (simp only [Int.reduceToNat] at ho31; rw [← Ny206.out] at ho31)); have n0_ := Aside0.mk (Kd.R_elder' (by (with_reducible repeat (first | apply Kd.R_alloc | apply Kd.R_drewN | apply Kd.R_drew)); exact HO189.out) (Kd.R_base ho31) hb); have n1_ := Aside0.mk (Kd.R_elder' (by (with_reducible repeat (first | apply Kd.R_alloc | apply Kd.R_drewN | apply Kd.R_drew)); exact HO196.out) (Kd.R_base ho31) hb); have n2_ := Aside0.mk (Kd.R_elder' (by (with_reducible repeat (first | apply Kd.R_alloc | apply Kd.R_drewN | apply Kd.R_drew)); exact HO201.out) (Kd.R_base ho31) hb); have n3_ := Aside0.mk (Kd.R_lower (Kd.R_new' (Kd.R_new' (Kd.R_new' ho31 (Kd.R_lt (by (with_reducible repeat (first | apply Kd.R_alloc | apply Kd.R_drewN | apply Kd.R_drew)); exact HO189.out))) (Kd.R_lt (by (with_reducible repeat (first | apply Kd.R_alloc | apply Kd.R_drewN | apply Kd.R_drew)); exact HO196.out))) (Kd.R_lt (by (with_reducible repeat (first | apply Kd.R_alloc | apply Kd.R_drewN | apply Kd.R_drew)); exact HO201.out))) (below_size (by repeat (first | (with_reducible first | exact HB.out | apply below_alloc | apply pw_below_drewN | apply below_drew1) | exact HB.out)))); have n4_ := Aside0.mk (below_step (by repeat (first | (with_reducible first | exact HB.out | apply below_alloc | apply pw_below_drewN | apply below_drew1) | exact HB.out)) hb); clear HO189; clear HO196; clear HO201; clear HB; have HO189 := n0_; have HO196 := n1_; have HO201 := n2_; have HO208 := n3_; have HB := n4_; clear n0_ n1_ n2_ n3_ n4_; clear hb ho31; obtain ⟨Ao32, co32, eo32⟩ := Kd.R_slice HO196.out; subst eo32; obtain ⟨Ao33, co33, eo33⟩ := Kd.R_slice HO208.out; subst eo33) | (go_at_call 13; (with_reducible refine (ossuarylaw0_SameInts.calls k _ _ t193 _ _ y206 true _ ?side1 ?side2 ?side3 ?side4 A14.out).mono ?_); (case side1 => repeat (first | exact (Kd.R_reads' HO196.out).2.2 | (with_reducible refine Kd.C_alloc ?_ _) | (with_reducible refine Kd.C_drewN ?_ _) | (with_reducible refine Kd.C_drew ?_))); (case side2 => exact (Kd.R_reads' HO196.out).2.1); (case side3 => repeat (first | exact (Kd.R_reads' HO208.out).2.2 | (with_reducible refine Kd.C_alloc ?_ _) | (with_reducible refine Kd.C_drewN ?_ _) | (with_reducible refine Kd.C_drew ?_))); (case side4 => exact (Kd.R_reads' HO208.out).2.1); rintro e w' ⟨rfl, ⟨nd, rfl⟩⟩) | (go_at_call 12; (with_reducible refine (ossuarylaw0_Num.calls t194 t210 _ A16.out).mono ?_); rintro e w' ⟨rfl, ⟨nd, rfl⟩⟩) | (go_at_call 12; (with_reducible refine (ossuarylaw0_Num.calls t199 t211 _ A18.out).mono ?_); rintro e w' ⟨rfl, ⟨nd, rfl⟩⟩) | (go_at_call 12; (with_reducible refine (ossuarylaw0_Num.calls t203 t212 _ A20.out).mono ?_); rintro e w' ⟨rfl, ⟨nd, rfl⟩⟩))
                    go_ret
                    exact ⟨by first | rfl | (simp [errW_none, errW_some] <;> rfl) | (simp [*, errW_none, errW_some] <;> rfl), by repeat (first | (with_reducible first | exact HB.out | apply below_alloc | apply pw_below_drewN | apply below_drew1) | exact HB.out)⟩
                  · rw [if_neg c19] at H
                    have c19b0 : (t211 == 1400) = false := beq_eq_false_iff_ne.mpr c19
                    have c19b1 : (t211 != 1400) = true := bne_iff_ne.mpr c19
                    exact absurd (Option.some.inj H) (by rw [HRT.out]; decide)
                · rw [if_neg c17] at H
                  have c17b0 : (t210 == 0) = false := beq_eq_false_iff_ne.mpr c17
                  have c17b1 : (t210 != 0) = true := bne_iff_ne.mpr c17
                  exact absurd (Option.some.inj H) (by rw [HRT.out]; decide)
              · replace c15 := Bool.eq_false_iff.mpr c15
                subst c15
                have H1 : (some false) = some r := by rw [if_neg (show ¬ (false = true) by decide)] at H; exact H
                clear H
                have H := H1
                clear H1
                exact absurd (Option.some.inj H) (by rw [HRT.out]; decide)
            · rw [if_neg c13] at H
              have c13b0 : (t192.toList == t205.toList) = false := beq_eq_false_iff_ne.mpr c13
              have c13b1 : (t192.toList != t205.toList) = true := bne_iff_ne.mpr c13
              exact absurd (Option.some.inj H) (by rw [HRT.out]; decide)
          · rw [if_neg c11] at H
            have c11b0 : (t204 == 0) = false := beq_eq_false_iff_ne.mpr c11
            have c11b1 : (t204 != 0) = true := bne_iff_ne.mpr c11
            exact absurd (Option.some.inj H) (by rw [HRT.out]; decide)
        · rw [if_neg c9] at H
          have c9b0 : ((t190.extract 0 4).toList == ([79, 3, 1, 2] : List UInt8)) = false := beq_eq_false_iff_ne.mpr c9
          have c9b1 : ((t190.extract 0 4).toList != ([79, 3, 1, 2] : List UInt8)) = true := bne_iff_ne.mpr c9
          exact absurd (Option.some.inj H) (by rw [HRT.out]; decide)
      · rw [if_neg c8] at H
        exact absurd H (by simp)
    · rw [if_neg c7] at H
      exact absurd H (by simp)
  · rw [if_neg c6] at H
    have c6b0 : ((t190.size : Int) == 64) = false := beq_eq_false_iff_ne.mpr c6
    have c6b1 : ((t190.size : Int) != 64) = true := bne_iff_ne.mpr c6
    exact absurd (Option.some.inj H) (by rw [HRT.out]; decide)

/-! ### ossuarylaw14_Frames: function 3 -/
def ossuarylaw14_Frames.j0 : Nat → List Int → List Int → List Int → Bool → Option (Bool)
  | 0, _, _, _, _ => none
  | k + 1, x3, x11, x17, x81 => if x81 = true then (some false) else ((ossuarylaw0_SpoilInts.f k x17).bind fun t233 => ((ossuarylaw0_KeptInts.f k x11 x3).bind fun t234 => (if t234 = true then ((ossuarylaw14_awake.f k).bind fun t235 => (some t235)) else (some false))))
def ossuarylaw14_Frames.f (k : Nat) (a0 : Int) (a1 : Int) (a2 : ByteArray) (l3 : List Int) (a4 : ByteArray) : Option (Bool) := (ossuarylaw0_LendInts.f l3).bind fun t213 => ((frame_Put.f k a0 a1 a2 t213).bind fun bt216 => ((ossuaryref13_PutFrame.f k a0 a1 a2 l3).bind fun bt218 => ((frame_Get.f k a4 a0 a1).bind fun bt220 => ((ossuaryref13_GetFrame.f k a4 a0 a1).bind fun bt225 => (if bt216.1.toList = bt218.1.toList then ((ossuarylaw0_Num.f bt216.2).bind fun t230 => (if t230 = bt218.2 then (if bt220.1.toList = bt225.1.toList then ((ossuarylaw0_SameInts.f k bt220.2.1 bt225.2.1).bind fun t231 => (if t231 = true then ((ossuarylaw0_Num.f bt220.2.2).bind fun t232 => (ossuarylaw14_Frames.j0 k l3 t213 bt220.2.1 (t232 != bt225.2.2))) else (ossuarylaw14_Frames.j0 k l3 t213 bt220.2.1 true))) else (ossuarylaw14_Frames.j0 k l3 t213 bt220.2.1 true)) else (ossuarylaw14_Frames.j0 k l3 t213 bt220.2.1 true))) else (ossuarylaw14_Frames.j0 k l3 t213 bt220.2.1 true))))))
theorem ossuarylaw14_Frames.mono_l : ∀ k, (∀ y0 y1 y2 y3, LeO (ossuarylaw14_Frames.j0 k y0 y1 y2 y3) (ossuarylaw14_Frames.j0 (k + 1) y0 y1 y2 y3))
  | 0 => fun _ _ _ _ r h => by simp [ossuarylaw14_Frames.j0] at h
  | k + 1 => by
    have ih0 := ossuarylaw14_Frames.mono_l k
    · intro y0 y1 y2 y3
      unfold ossuarylaw14_Frames.j0
      repeat' first
      | (with_reducible exact ih0 _ _ _ _)
      | (with_reducible exact frame_Get.mono _ _ _ _)
      | (with_reducible exact frame_Put.mono _ _ _ _ _)
      | (with_reducible exact ossuarylaw0_KeptInts.mono _ _ _)
      | (with_reducible exact ossuarylaw0_SameInts.mono _ _ _)
      | (with_reducible exact ossuarylaw0_SpoilInts.mono _ _)
      | (with_reducible exact ossuarylaw14_awake.mono _)
      | (with_reducible exact ossuaryref13_GetFrame.mono _ _ _ _)
      | (with_reducible exact ossuaryref13_PutFrame.mono _ _ _ _ _)
      | (with_reducible exact LeO.refl _)
      | (with_reducible exact LeO.none _)
      | (with_reducible refine LeO.ite ?_ ?_)
      | (with_reducible refine LeO.bind ?_ (fun _ => ?_))
      | exact ih0 _ _ _ _
      | exact frame_Get.mono _ _ _ _
      | exact frame_Put.mono _ _ _ _ _
      | exact ossuarylaw0_KeptInts.mono _ _ _
      | exact ossuarylaw0_SameInts.mono _ _ _
      | exact ossuarylaw0_SpoilInts.mono _ _
      | exact ossuarylaw14_awake.mono _
      | exact ossuaryref13_GetFrame.mono _ _ _ _
      | exact ossuaryref13_PutFrame.mono _ _ _ _ _
      | exact LeO.none _
      | refine LeO.ite ?_ ?_
      | refine LeO.bind ?_ (fun _ => ?_)
theorem ossuarylaw14_Frames.mono : ∀ a0 a1 a2 a3 a4 k, LeO (ossuarylaw14_Frames.f k a0 a1 a2 a3 a4) (ossuarylaw14_Frames.f (k + 1) a0 a1 a2 a3 a4) := by
  intro a0 a1 a2 a3 a4 k
  have ih0 := ossuarylaw14_Frames.mono_l k
  unfold ossuarylaw14_Frames.f
  repeat' first
      | (with_reducible exact ih0 _ _ _ _)
      | (with_reducible exact frame_Get.mono _ _ _ _)
      | (with_reducible exact frame_Put.mono _ _ _ _ _)
      | (with_reducible exact ossuarylaw0_KeptInts.mono _ _ _)
      | (with_reducible exact ossuarylaw0_SameInts.mono _ _ _)
      | (with_reducible exact ossuarylaw0_SpoilInts.mono _ _)
      | (with_reducible exact ossuarylaw14_awake.mono _)
      | (with_reducible exact ossuaryref13_GetFrame.mono _ _ _ _)
      | (with_reducible exact ossuaryref13_PutFrame.mono _ _ _ _ _)
      | (with_reducible exact LeO.refl _)
      | (with_reducible exact LeO.none _)
      | (with_reducible refine LeO.ite ?_ ?_)
      | (with_reducible refine LeO.bind ?_ (fun _ => ?_))
      | exact ih0 _ _ _ _
      | exact frame_Get.mono _ _ _ _
      | exact frame_Put.mono _ _ _ _ _
      | exact ossuarylaw0_KeptInts.mono _ _ _
      | exact ossuarylaw0_SameInts.mono _ _ _
      | exact ossuarylaw0_SpoilInts.mono _ _
      | exact ossuarylaw14_awake.mono _
      | exact ossuaryref13_GetFrame.mono _ _ _ _
      | exact ossuaryref13_PutFrame.mono _ _ _ _ _
      | exact LeO.none _
      | refine LeO.ite ?_ ?_
      | refine LeO.bind ?_ (fun _ => ?_)
set_option maxHeartbeats 8000000 in
set_option maxRecDepth 100000 in
theorem ossuarylaw14_Frames.calls (k : Nat) (a0 : Int) (a1 : Int) (a2 : ByteArray) (A3 : Option Addr) (c3 : Nat) (l3 : List Int) (a4 : ByteArray) (r : Bool) (w : World) (hr3 : Kd.C (Kd.int .i64) w A3 l3.length l3) (hc3 : l3.length ≤ c3) (h : ossuarylaw14_Frames.f k a0 a1 a2 l3 a4 = some r) (hr_ : r = true := by rfl) :
    Calls Try.prog 3 #[.int .i64 a0, .int .i64 a1, .string a2, .slice A3 l3.length c3, .string a4] w fun e w' => e = .returned (.bool r) ∧ Below w.heap.size w w' := by
  have HRT := Aside0.mk hr_
  clear hr_
  have HR3 := Aside0.mk hr3
  have HC3 := Aside0.mk hc3
  clear hr3 hc3
  have HB := Aside0.mk (Below.refl w.heap.size w)
  have H : ((ossuarylaw0_LendInts.f l3).bind fun t213 => ((frame_Put.f k a0 a1 a2 t213).bind fun bt216 => ((ossuaryref13_PutFrame.f k a0 a1 a2 l3).bind fun bt218 => ((frame_Get.f k a4 a0 a1).bind fun bt220 => ((ossuaryref13_GetFrame.f k a4 a0 a1).bind fun bt225 => (if bt216.1.toList = bt218.1.toList then ((ossuarylaw0_Num.f bt216.2).bind fun t230 => (if t230 = bt218.2 then (if bt220.1.toList = bt225.1.toList then ((ossuarylaw0_SameInts.f k bt220.2.1 bt225.2.1).bind fun t231 => (if t231 = true then ((ossuarylaw0_Num.f bt220.2.2).bind fun t232 => (ossuarylaw14_Frames.j0 k l3 t213 bt220.2.1 (t232 != bt225.2.2))) else (ossuarylaw14_Frames.j0 k l3 t213 bt220.2.1 true))) else (ossuarylaw14_Frames.j0 k l3 t213 bt220.2.1 true)) else (ossuarylaw14_Frames.j0 k l3 t213 bt220.2.1 true))) else (ossuarylaw14_Frames.j0 k l3 t213 bt220.2.1 true))))))) = some r := h
  clear h
  replace H := Option.bind_eq_some_iff.mp H
  obtain ⟨t213, A60, H⟩ := H
  replace H : ((frame_Put.f k a0 a1 a2 t213).bind fun bt216 => ((ossuaryref13_PutFrame.f k a0 a1 a2 l3).bind fun bt218 => ((frame_Get.f k a4 a0 a1).bind fun bt220 => ((ossuaryref13_GetFrame.f k a4 a0 a1).bind fun bt225 => (if bt216.1.toList = bt218.1.toList then ((ossuarylaw0_Num.f bt216.2).bind fun t230 => (if t230 = bt218.2 then (if bt220.1.toList = bt225.1.toList then ((ossuarylaw0_SameInts.f k bt220.2.1 bt225.2.1).bind fun t231 => (if t231 = true then ((ossuarylaw0_Num.f bt220.2.2).bind fun t232 => (ossuarylaw14_Frames.j0 k l3 t213 bt220.2.1 (t232 != bt225.2.2))) else (ossuarylaw14_Frames.j0 k l3 t213 bt220.2.1 true))) else (ossuarylaw14_Frames.j0 k l3 t213 bt220.2.1 true)) else (ossuarylaw14_Frames.j0 k l3 t213 bt220.2.1 true))) else (ossuarylaw14_Frames.j0 k l3 t213 bt220.2.1 true)))))) = some r := H
  have A6 := Aside0.mk A60
  clear A60
  replace H := Option.bind_eq_some_iff.mp H
  obtain ⟨⟨t216, t217⟩, A70, H⟩ := H
  replace H : ((ossuaryref13_PutFrame.f k a0 a1 a2 l3).bind fun bt218 => ((frame_Get.f k a4 a0 a1).bind fun bt220 => ((ossuaryref13_GetFrame.f k a4 a0 a1).bind fun bt225 => (if t216.toList = bt218.1.toList then ((ossuarylaw0_Num.f t217).bind fun t230 => (if t230 = bt218.2 then (if bt220.1.toList = bt225.1.toList then ((ossuarylaw0_SameInts.f k bt220.2.1 bt225.2.1).bind fun t231 => (if t231 = true then ((ossuarylaw0_Num.f bt220.2.2).bind fun t232 => (ossuarylaw14_Frames.j0 k l3 t213 bt220.2.1 (t232 != bt225.2.2))) else (ossuarylaw14_Frames.j0 k l3 t213 bt220.2.1 true))) else (ossuarylaw14_Frames.j0 k l3 t213 bt220.2.1 true)) else (ossuarylaw14_Frames.j0 k l3 t213 bt220.2.1 true))) else (ossuarylaw14_Frames.j0 k l3 t213 bt220.2.1 true))))) = some r := H
  have A7 := Aside0.mk A70
  clear A70
  replace H := Option.bind_eq_some_iff.mp H
  obtain ⟨⟨t218, t219⟩, A80, H⟩ := H
  replace H : ((frame_Get.f k a4 a0 a1).bind fun bt220 => ((ossuaryref13_GetFrame.f k a4 a0 a1).bind fun bt225 => (if t216.toList = t218.toList then ((ossuarylaw0_Num.f t217).bind fun t230 => (if t230 = t219 then (if bt220.1.toList = bt225.1.toList then ((ossuarylaw0_SameInts.f k bt220.2.1 bt225.2.1).bind fun t231 => (if t231 = true then ((ossuarylaw0_Num.f bt220.2.2).bind fun t232 => (ossuarylaw14_Frames.j0 k l3 t213 bt220.2.1 (t232 != bt225.2.2))) else (ossuarylaw14_Frames.j0 k l3 t213 bt220.2.1 true))) else (ossuarylaw14_Frames.j0 k l3 t213 bt220.2.1 true)) else (ossuarylaw14_Frames.j0 k l3 t213 bt220.2.1 true))) else (ossuarylaw14_Frames.j0 k l3 t213 bt220.2.1 true)))) = some r := H
  have A8 := Aside0.mk A80
  clear A80
  replace H := Option.bind_eq_some_iff.mp H
  obtain ⟨⟨t220, t221, t222⟩, A90, H⟩ := H
  replace H : ((ossuaryref13_GetFrame.f k a4 a0 a1).bind fun bt225 => (if t216.toList = t218.toList then ((ossuarylaw0_Num.f t217).bind fun t230 => (if t230 = t219 then (if t220.toList = bt225.1.toList then ((ossuarylaw0_SameInts.f k t221 bt225.2.1).bind fun t231 => (if t231 = true then ((ossuarylaw0_Num.f t222).bind fun t232 => (ossuarylaw14_Frames.j0 k l3 t213 t221 (t232 != bt225.2.2))) else (ossuarylaw14_Frames.j0 k l3 t213 t221 true))) else (ossuarylaw14_Frames.j0 k l3 t213 t221 true)) else (ossuarylaw14_Frames.j0 k l3 t213 t221 true))) else (ossuarylaw14_Frames.j0 k l3 t213 t221 true))) = some r := H
  have A9 := Aside0.mk A90
  clear A90
  replace H := Option.bind_eq_some_iff.mp H
  obtain ⟨⟨t225, t226, t227⟩, A100, H⟩ := H
  replace H : (if t216.toList = t218.toList then ((ossuarylaw0_Num.f t217).bind fun t230 => (if t230 = t219 then (if t220.toList = t225.toList then ((ossuarylaw0_SameInts.f k t221 t226).bind fun t231 => (if t231 = true then ((ossuarylaw0_Num.f t222).bind fun t232 => (ossuarylaw14_Frames.j0 k l3 t213 t221 (t232 != t227))) else (ossuarylaw14_Frames.j0 k l3 t213 t221 true))) else (ossuarylaw14_Frames.j0 k l3 t213 t221 true)) else (ossuarylaw14_Frames.j0 k l3 t213 t221 true))) else (ossuarylaw14_Frames.j0 k l3 t213 t221 true)) = some r := H
  have A10 := Aside0.mk A100
  clear A100
  have HC11 := Aside0.mk H
  clear H
  go_enter Try.func3, Try.ntmps3
  go_upto_region 6 with (first | ((with_reducible refine gate_callee (f := 7) rfl ?_); refine goesL_ (some 23) rfl rfl Try.func7 (by kernel_rfl) rfl #[.slice A3 l3.length c3] rfl (by (try simp only [List.map_toArray, List.map_cons, List.map_nil]); first | done | rfl | (simp only [List.length_drop, List.length_take]; rfl)) ?_; (with_reducible refine (ossuarylaw0_LendInts.calls _ _ l3 t213 _ ?side1 ?side2 A6.out).mono ?_); (case side1 => repeat (first | exact HR3.out | (with_reducible refine Kd.C_alloc ?_ _) | (with_reducible refine Kd.C_drewN ?_ _) | (with_reducible refine Kd.C_drew ?_))); (case side2 => exact HC3.out); rintro e w12 ⟨v214, rfl, ho0, hb⟩; refine ⟨_, rfl, ?_⟩; have n0_ := Aside0.mk (RL.lower ho0 (below_size (by repeat (first | (with_reducible first | exact HB.out | apply below_alloc | apply pw_below_drewN | apply below_drew1) | exact HB.out)))); have n1_ := Aside0.mk (below_step (by repeat (first | (with_reducible first | exact HB.out | apply below_alloc | apply pw_below_drewN | apply below_drew1) | exact HB.out)) hb); clear HB; have HO215 := n0_; have HB := n1_; clear n0_ n1_; (try clear hb); (try clear hb2); (try clear hk); (try clear hi); (try clear ho0); obtain ⟨Ao13, co13, eo13⟩ := RL.slice HO215.out; subst eo13) | ((with_reducible refine gate_callee (f := 8) rfl ?_); refine goesL_ (some 29) rfl rfl Try.func8 (by kernel_rfl) rfl #[.int .i64 a0, .int .i64 a1, .string a2, .slice Ao13 t213.length co13] rfl (by (try simp only [List.map_toArray, List.map_cons, List.map_nil]); first | done | rfl | (simp only [List.length_drop, List.length_take]; rfl)) ?_; (with_reducible refine (frame_Put.calls k a0 a1 a2 _ _ t213 t216 t217 _ ?side1 ?side2 A7.out).mono ?_); (case side1 => repeat (first | exact (RL.reads' HO215.out).2.2 | (with_reducible refine Kd.C_alloc ?_ _) | (with_reducible refine Kd.C_drewN ?_ _) | (with_reducible refine Kd.C_drew ?_))); (case side2 => exact (RL.reads' HO215.out).2.1); rintro e w14 ⟨rfl, hb⟩; refine ⟨_, rfl, ?_⟩; have n0_ := Aside0.mk (RL.below (by (with_reducible repeat (first | apply RL.alloc | apply RL.drewN | apply RL.drew)); exact HO215.out) hb); have n1_ := Aside0.mk (below_step (by repeat (first | (with_reducible first | exact HB.out | apply below_alloc | apply pw_below_drewN | apply below_drew1) | exact HB.out)) hb); clear HO215; clear HB; have HO215 := n0_; have HB := n1_; clear n0_ n1_; (try clear hb); (try clear hb2); (try clear hk); (try clear hi)) | ((with_reducible refine gate_callee (f := 9) rfl ?_); refine goesL_ (some 37) rfl rfl Try.func9 (by kernel_rfl) rfl #[.int .i64 a0, .int .i64 a1, .string a2, .slice A3 l3.length c3] rfl (by (try simp only [List.map_toArray, List.map_cons, List.map_nil]); first | done | rfl | (simp only [List.length_drop, List.length_take]; rfl)) ?_; (with_reducible refine (ossuaryref13_PutFrame.calls k a0 a1 a2 _ _ l3 t218 t219 _ ?side1 ?side2 A8.out).mono ?_); (case side1 => repeat (first | exact (Kd.C_below HR3.out HB.out) | (with_reducible refine Kd.C_alloc ?_ _) | (with_reducible refine Kd.C_drewN ?_ _) | (with_reducible refine Kd.C_drew ?_))); (case side2 => exact HC3.out); rintro e w15 ⟨rfl, hb⟩; refine ⟨_, rfl, ?_⟩; have n0_ := Aside0.mk (RL.below (by (with_reducible repeat (first | apply RL.alloc | apply RL.drewN | apply RL.drew)); exact HO215.out) hb); have n1_ := Aside0.mk (below_step (by repeat (first | (with_reducible first | exact HB.out | apply below_alloc | apply pw_below_drewN | apply below_drew1) | exact HB.out)) hb); clear HO215; clear HB; have HO215 := n0_; have HB := n1_; clear n0_ n1_; (try clear hb); (try clear hb2); (try clear hk); (try clear hi)) | ((with_reducible refine gate_callee (f := 10) rfl ?_); refine goesL_ (some 44) rfl rfl Try.func10 (by kernel_rfl) rfl #[.string a4, .int .i64 a0, .int .i64 a1] rfl (by (try simp only [List.map_toArray, List.map_cons, List.map_nil]); first | done | rfl | (simp only [List.length_drop, List.length_take]; rfl)) ?_; (with_reducible refine (frame_Get.calls k a4 a0 a1 t220 t221 t222 _ A9.out).mono ?_); rintro e w16 ⟨v223, rfl, ho0, hb⟩; refine ⟨_, rfl, ?_⟩; have n0_ := Aside0.mk (RL.elder' (by (with_reducible repeat (first | apply RL.alloc | apply RL.drewN | apply RL.drew)); exact HO215.out) (Kd.R_base ho0) hb); have n1_ := Aside0.mk (Kd.R_lower (Kd.R_new' ho0 (RL.lt (by (with_reducible repeat (first | apply RL.alloc | apply RL.drewN | apply RL.drew)); exact HO215.out))) (below_size (by repeat (first | (with_reducible first | exact HB.out | apply below_alloc | apply pw_below_drewN | apply below_drew1) | exact HB.out)))); have n2_ := Aside0.mk (below_step (by repeat (first | (with_reducible first | exact HB.out | apply below_alloc | apply pw_below_drewN | apply below_drew1) | exact HB.out)) hb); clear HO215; clear HB; have HO215 := n0_; have HO224 := n1_; have HB := n2_; clear n0_ n1_ n2_; (try clear hb); (try clear hb2); (try clear hk); (try clear hi); (try clear ho0)) | ((with_reducible refine gate_callee (f := 11) rfl ?_); refine goesL_ (some 52) rfl rfl Try.func11 (by kernel_rfl) rfl #[.string a4, .int .i64 a0, .int .i64 a1] rfl (by (try simp only [List.map_toArray, List.map_cons, List.map_nil]); first | done | rfl | (simp only [List.length_drop, List.length_take]; rfl)) ?_; (with_reducible refine (ossuaryref13_GetFrame.calls k a4 a0 a1 t225 t226 t227 _ A10.out).mono ?_); rintro e w17 ⟨v228, rfl, ho0, hb⟩; refine ⟨_, rfl, ?_⟩; have n0_ := Aside0.mk (RL.elder' (by (with_reducible repeat (first | apply RL.alloc | apply RL.drewN | apply RL.drew)); exact HO215.out) (Kd.R_base ho0) hb); have n1_ := Aside0.mk (Kd.R_elder' (by (with_reducible repeat (first | apply Kd.R_alloc | apply Kd.R_drewN | apply Kd.R_drew)); exact HO224.out) (Kd.R_base ho0) hb); have n2_ := Aside0.mk (Kd.R_lower (Kd.R_new' (Kd.R_new' ho0 (RL.lt (by (with_reducible repeat (first | apply RL.alloc | apply RL.drewN | apply RL.drew)); exact HO215.out))) (Kd.R_lt (by (with_reducible repeat (first | apply Kd.R_alloc | apply Kd.R_drewN | apply Kd.R_drew)); exact HO224.out))) (below_size (by repeat (first | (with_reducible first | exact HB.out | apply below_alloc | apply pw_below_drewN | apply below_drew1) | exact HB.out)))); have n3_ := Aside0.mk (below_step (by repeat (first | (with_reducible first | exact HB.out | apply below_alloc | apply pw_below_drewN | apply below_drew1) | exact HB.out)) hb); clear HO215; clear HO224; clear HB; have HO215 := n0_; have HO224 := n1_; have HO229 := n2_; have HB := n3_; clear n0_ n1_ n2_ n3_; (try clear hb); (try clear hb2); (try clear hk); (try clear hi); (try clear ho0)))
  (try simp only [Act.put, List.setIfInBounds_toArray, List.set_cons_zero, List.set_cons_succ])
  go_cut [81] (fun v81 wc => ∃ (kq : Nat) (x81_10 : Bool), v81 = .bool x81_10 ∧ Aside0 (ossuarylaw14_Frames.j0 kq l3 t213 t221 x81_10 = some r) ∧ Aside0 (kq ≤ k) ∧ Aside0 (RL wc w.heap.size (fun k_ => some k_ ≠ (v223 : Value).ownBlock) (.slice Ao13 t213.length co13) t213) ∧ Aside0 (Kd.R (Kd.int .i64) 3 wc w.heap.size (fun k_ => some k_ ≠ ((.slice Ao13 t213.length co13) : Value).ownBlock) v223 t221) ∧ Aside0 (Below w.heap.size w wc))
  case first =>
    have H := HC11.out
    clear HC11
    by_cases c18 : t216.toList = t218.toList
    · rw [if_pos c18] at H
      have c18b0 : (t216.toList == t218.toList) = true := beq_iff_eq.mpr c18
      have c18b1 : (t216.toList != t218.toList) = false := bne_eq_false_iff_eq.mpr c18
      clear c18
      (first | rw [c18b0] | (simp only [i64_w, i32_w]; rw [c18b0]) | skip)
      replace H := Option.bind_eq_some_iff.mp H
      obtain ⟨t230, A190, H⟩ := H
      replace H : (if t230 = t219 then (if t220.toList = t225.toList then ((ossuarylaw0_SameInts.f k t221 t226).bind fun t231 => (if t231 = true then ((ossuarylaw0_Num.f t222).bind fun t232 => (ossuarylaw14_Frames.j0 k l3 t213 t221 (t232 != t227))) else (ossuarylaw14_Frames.j0 k l3 t213 t221 true))) else (ossuarylaw14_Frames.j0 k l3 t213 t221 true)) else (ossuarylaw14_Frames.j0 k l3 t213 t221 true)) = some r := H
      have A19 := Aside0.mk A190
      clear A190
      by_cases c20 : t230 = t219
      · rw [if_pos c20] at H
        have c20b0 : (t230 == t219) = true := beq_iff_eq.mpr c20
        have c20b1 : (t230 != t219) = false := bne_eq_false_iff_eq.mpr c20
        clear c20
        by_cases c21 : t220.toList = t225.toList
        · rw [if_pos c21] at H
          have c21b0 : (t220.toList == t225.toList) = true := beq_iff_eq.mpr c21
          have c21b1 : (t220.toList != t225.toList) = false := bne_eq_false_iff_eq.mpr c21
          clear c21
          replace H := Option.bind_eq_some_iff.mp H
          obtain ⟨t231, A220, H⟩ := H
          replace H : (if t231 = true then ((ossuarylaw0_Num.f t222).bind fun t232 => (ossuarylaw14_Frames.j0 k l3 t213 t221 (t232 != t227))) else (ossuarylaw14_Frames.j0 k l3 t213 t221 true)) = some r := H
          have A22 := Aside0.mk A220
          clear A220
          by_cases c23 : t231 = true
          · subst c23
            have H1 : ((ossuarylaw0_Num.f t222).bind fun t232 => (ossuarylaw14_Frames.j0 k l3 t213 t221 (t232 != t227))) = some r := by rw [if_pos rfl] at H; exact H
            clear H
            have H := H1
            clear H1
            replace H := Option.bind_eq_some_iff.mp H
            obtain ⟨t232, A240, H⟩ := H
            replace H : (ossuarylaw14_Frames.j0 k l3 t213 t221 (t232 != t227)) = some r := H
            have A24 := Aside0.mk A240
            clear A240
            have H' := Aside0.mk H
            clear H
            go_wp2_with (first | (go_at_call 12; (with_reducible refine (ossuarylaw0_Num.calls t217 t230 _ A19.out).mono ?_); rintro e w' ⟨rfl, ⟨nd, rfl⟩⟩; obtain ⟨Ao25, co25, eo25⟩ := Kd.R_slice HO224.out; subst eo25; obtain ⟨Ao26, co26, eo26⟩ := Kd.R_slice HO229.out; subst eo26) | (go_at_call 13; (with_reducible refine (ossuarylaw0_SameInts.calls k _ _ t221 _ _ t226 true _ ?side1 ?side2 ?side3 ?side4 A22.out).mono ?_); (case side1 => repeat (first | exact (Kd.R_reads' HO224.out).2.2 | (with_reducible refine Kd.C_alloc ?_ _) | (with_reducible refine Kd.C_drewN ?_ _) | (with_reducible refine Kd.C_drew ?_))); (case side2 => exact (Kd.R_reads' HO224.out).2.1); (case side3 => repeat (first | exact (Kd.R_reads' HO229.out).2.2 | (with_reducible refine Kd.C_alloc ?_ _) | (with_reducible refine Kd.C_drewN ?_ _) | (with_reducible refine Kd.C_drew ?_))); (case side4 => exact (Kd.R_reads' HO229.out).2.1); rintro e w' ⟨rfl, ⟨nd, rfl⟩⟩) | (go_at_call 12; (with_reducible refine (ossuarylaw0_Num.calls t222 t232 _ A24.out).mono ?_); rintro e w' ⟨rfl, ⟨nd, rfl⟩⟩))
            go_meet
            case rel => exact ⟨_, ((t232 != t227)), (by first | rfl | (simp; done) | (simp [*]; done)), H', ⟨by first | omega | exact Nat.le_refl _⟩, ⟨by (with_reducible repeat (first | apply RL.alloc | apply RL.drewN | apply RL.drew)); exact RL.mono HO215.out (fun _ hk => hk.1.2)⟩, ⟨by (with_reducible repeat (first | apply Kd.R_alloc | apply Kd.R_drewN | apply Kd.R_drew)); exact Kd.R_mono HO224.out (fun _ hk => hk.1.2)⟩, ⟨by repeat (first | (with_reducible first | exact HB.out | apply below_alloc | apply pw_below_drewN | apply below_drew1) | exact HB.out)⟩⟩
          · replace c23 := Bool.eq_false_iff.mpr c23
            subst c23
            have H1 : (ossuarylaw14_Frames.j0 k l3 t213 t221 true) = some r := by rw [if_neg (show ¬ (false = true) by decide)] at H; exact H
            clear H
            have H := H1
            clear H1
            have H' := Aside0.mk H
            clear H
            go_wp2_with (first | (go_at_call 12; (with_reducible refine (ossuarylaw0_Num.calls t217 t230 _ A19.out).mono ?_); rintro e w' ⟨rfl, ⟨nd, rfl⟩⟩; obtain ⟨Ao27, co27, eo27⟩ := Kd.R_slice HO224.out; subst eo27; obtain ⟨Ao28, co28, eo28⟩ := Kd.R_slice HO229.out; subst eo28) | (go_at_call 13; (with_reducible refine (ossuarylaw0_SameInts.calls k _ _ t221 _ _ t226 false _ ?side1 ?side2 ?side3 ?side4 A22.out).mono ?_); (case side1 => repeat (first | exact (Kd.R_reads' HO224.out).2.2 | (with_reducible refine Kd.C_alloc ?_ _) | (with_reducible refine Kd.C_drewN ?_ _) | (with_reducible refine Kd.C_drew ?_))); (case side2 => exact (Kd.R_reads' HO224.out).2.1); (case side3 => repeat (first | exact (Kd.R_reads' HO229.out).2.2 | (with_reducible refine Kd.C_alloc ?_ _) | (with_reducible refine Kd.C_drewN ?_ _) | (with_reducible refine Kd.C_drew ?_))); (case side4 => exact (Kd.R_reads' HO229.out).2.1); rintro e w' ⟨rfl, ⟨nd, rfl⟩⟩))
            go_meet
            case rel => exact ⟨_, (true), (by first | rfl | (simp; done) | (simp [*]; done)), H', ⟨by first | omega | exact Nat.le_refl _⟩, ⟨by (with_reducible repeat (first | apply RL.alloc | apply RL.drewN | apply RL.drew)); exact RL.mono HO215.out (fun _ hk => hk.1.2)⟩, ⟨by (with_reducible repeat (first | apply Kd.R_alloc | apply Kd.R_drewN | apply Kd.R_drew)); exact Kd.R_mono HO224.out (fun _ hk => hk.1.2)⟩, ⟨by repeat (first | (with_reducible first | exact HB.out | apply below_alloc | apply pw_below_drewN | apply below_drew1) | exact HB.out)⟩⟩
        · rw [if_neg c21] at H
          have c21b0 : (t220.toList == t225.toList) = false := beq_eq_false_iff_ne.mpr c21
          have c21b1 : (t220.toList != t225.toList) = true := bne_iff_ne.mpr c21
          have H' := Aside0.mk H
          clear H
          go_wp2_with (first | (go_at_call 12; (with_reducible refine (ossuarylaw0_Num.calls t217 t230 _ A19.out).mono ?_); rintro e w' ⟨rfl, ⟨nd, rfl⟩⟩))
          go_meet
          case rel => exact ⟨_, (true), (by first | rfl | (simp; done) | (simp [*]; done)), H', ⟨by first | omega | exact Nat.le_refl _⟩, ⟨by (with_reducible repeat (first | apply RL.alloc | apply RL.drewN | apply RL.drew)); exact RL.mono HO215.out (fun _ hk => hk.1.2)⟩, ⟨by (with_reducible repeat (first | apply Kd.R_alloc | apply Kd.R_drewN | apply Kd.R_drew)); exact Kd.R_mono HO224.out (fun _ hk => hk.1.2)⟩, ⟨by repeat (first | (with_reducible first | exact HB.out | apply below_alloc | apply pw_below_drewN | apply below_drew1) | exact HB.out)⟩⟩
      · rw [if_neg c20] at H
        have c20b0 : (t230 == t219) = false := beq_eq_false_iff_ne.mpr c20
        have c20b1 : (t230 != t219) = true := bne_iff_ne.mpr c20
        have H' := Aside0.mk H
        clear H
        go_wp2_with (first | (go_at_call 12; (with_reducible refine (ossuarylaw0_Num.calls t217 t230 _ A19.out).mono ?_); rintro e w' ⟨rfl, ⟨nd, rfl⟩⟩))
        go_meet
        case rel => exact ⟨_, (true), (by first | rfl | (simp; done) | (simp [*]; done)), H', ⟨by first | omega | exact Nat.le_refl _⟩, ⟨by (with_reducible repeat (first | apply RL.alloc | apply RL.drewN | apply RL.drew)); exact RL.mono HO215.out (fun _ hk => hk.1.2)⟩, ⟨by (with_reducible repeat (first | apply Kd.R_alloc | apply Kd.R_drewN | apply Kd.R_drew)); exact Kd.R_mono HO224.out (fun _ hk => hk.1.2)⟩, ⟨by repeat (first | (with_reducible first | exact HB.out | apply below_alloc | apply pw_below_drewN | apply below_drew1) | exact HB.out)⟩⟩
    · rw [if_neg c18] at H
      have c18b0 : (t216.toList == t218.toList) = false := beq_eq_false_iff_ne.mpr c18
      have c18b1 : (t216.toList != t218.toList) = true := bne_iff_ne.mpr c18
      (first | rw [c18b0] | (simp only [i64_w, i32_w]; rw [c18b0]) | skip)
      have H' := Aside0.mk H
      clear H
      go_wp2
      go_meet
      case rel => exact ⟨_, (true), (by first | rfl | (simp; done) | (simp [*]; done)), H', ⟨by first | omega | exact Nat.le_refl _⟩, ⟨by (with_reducible repeat (first | apply RL.alloc | apply RL.drewN | apply RL.drew)); exact RL.mono HO215.out (fun _ hk => hk.1.2)⟩, ⟨by (with_reducible repeat (first | apply Kd.R_alloc | apply Kd.R_drewN | apply Kd.R_drew)); exact Kd.R_mono HO224.out (fun _ hk => hk.1.2)⟩, ⟨by repeat (first | (with_reducible first | exact HB.out | apply below_alloc | apply pw_below_drewN | apply below_drew1) | exact HB.out)⟩⟩
  case rest =>
    clear HC11
    try clear c1
    try clear c2
    try clear p2
    try clear c3
    try clear c7
    try clear c8
    try clear c9
    try clear c10
    try clear c11
    try clear c18
    try clear c18b0
    try clear c18b1
    try clear c20
    try clear c20b0
    try clear c20b1
    try clear c21
    try clear c21b0
    try clear c21b1
    try clear c23
    obtain ⟨kq, x81_10, rfl, HA, HJ10, HO_11, HO_17, HB⟩ := hcut
    cases kq with
    | zero => exact absurd HA.out (by simp [ossuarylaw14_Frames.j0])
    | succ kj10 =>
      have H := HA.out
      clear HA
      simp only [ossuarylaw14_Frames.j0] at H
      by_cases c29 : x81_10 = true
      · subst c29
        have H1 : (some false) = some r := by rw [if_pos rfl] at H; exact H
        clear H
        have H := H1
        clear H1
        exact absurd (Option.some.inj H) (by rw [HRT.out]; decide)
      · replace c29 := Bool.eq_false_iff.mpr c29
        subst c29
        have H1 : ((ossuarylaw0_SpoilInts.f kj10 t221).bind fun t233 => ((ossuarylaw0_KeptInts.f kj10 t213 l3).bind fun t234 => (if t234 = true then ((ossuarylaw14_awake.f kj10).bind fun t235 => (some t235)) else (some false)))) = some r := by rw [if_neg (show ¬ (false = true) by decide)] at H; exact H
        clear H
        have H := H1
        clear H1
        replace H := Option.bind_eq_some_iff.mp H
        obtain ⟨t233, A300, H⟩ := H
        replace H : ((ossuarylaw0_KeptInts.f kj10 t213 l3).bind fun t234 => (if t234 = true then ((ossuarylaw14_awake.f kj10).bind fun t235 => (some t235)) else (some false))) = some r := H
        have A30 := Aside0.mk A300
        clear A300
        replace H := Option.bind_eq_some_iff.mp H
        obtain ⟨t234, A310, H⟩ := H
        replace H : (if t234 = true then ((ossuarylaw14_awake.f kj10).bind fun t235 => (some t235)) else (some false)) = some r := H
        have A31 := Aside0.mk A310
        clear A310
        by_cases c32 : t234 = true
        · subst c32
          have H1 : ((ossuarylaw14_awake.f kj10).bind fun t235 => (some t235)) = some r := by rw [if_pos rfl] at H; exact H
          clear H
          have H := H1
          clear H1
          replace H := Option.bind_eq_some_iff.mp H
          obtain ⟨t235, A330, H⟩ := H
          replace H : (some t235) = some r := H
          have A33 := Aside0.mk A330
          clear A330
          obtain rfl := Option.some.inj H
          obtain ⟨Ao34, co34, eo34⟩ := Kd.R_slice HO_17.out
          subst eo34
          go_wp2_with (first | ((with_reducible refine gate_callee (f := 14) rfl ?_); refine goesL_ (some 83) rfl rfl Try.func14 (by kernel_rfl) rfl #[.slice Ao34 t221.length co34] rfl (by (try simp only [List.map_toArray, List.map_cons, List.map_nil]); first | done | rfl | (simp only [List.length_drop, List.length_take]; rfl)) ?_; (with_reducible refine (ossuarylaw0_SpoilInts.calls kj10 (fun k_ => some k_ = (.slice Ao34 t221.length co34 : Value).ownBlock) (.slice Ao34 t221.length co34) t221 t233 w _ ?side1 ?side2 A30.out).mono ?_); (case side1 => repeat (first | (with_reducible first | exact HB.out | apply below_alloc | apply pw_below_drewN | apply below_drew1) | exact HB.out)); (case side2 => exact Kd.R_tight rfl HO_17.out); rintro e w35 ⟨rfl, hy0, hb, hkp⟩; refine ⟨_, rfl, ?_⟩; have n0_ := Aside0.mk (RL.mono (ok' := fun k_ => some k_ ≠ (.slice Ao34 t221.length co34 : Value).ownBlock) (RL.keptB (HO_11.out) hkp (fun k_ hk_ hs_ => (hk_) hs_)) (fun k_ hk_ => hk_.1)); have n1_ := Aside0.mk (Kd.R_reok rfl hy0 (fun k_ e_ => HO_17.out.1 k_ e_)); have n2_ := Aside0.mk (hb); clear HO_11; clear HO_17; clear HB; have HO_11 := n0_; have HO_17 := n1_; have HB := n2_; clear n0_ n1_ n2_; (try clear hb); (try clear hkp); (try clear hy0)) | ((with_reducible refine gate_callee (f := 15) rfl ?_); refine goesL_ (some 86) rfl rfl Try.func15 (by kernel_rfl) rfl #[.slice Ao13 t213.length co13, .slice A3 l3.length c3] rfl (by (try simp only [List.map_toArray, List.map_cons, List.map_nil]); first | done | rfl | (simp only [List.length_drop, List.length_take]; rfl)) ?_; (with_reducible refine (ossuarylaw0_KeptInts.calls kj10 _ _ t213 _ _ l3 true _ ?side1 ?side2 ?side3 ?side4 A31.out).mono ?_); (case side1 => repeat (first | exact RL.room HO_11.out | (with_reducible refine CL.alloc ?_ _) | (with_reducible refine CL.drewN ?_ _) | (with_reducible refine CL.drew ?_))); (case side2 => exact (RL.reads' HO_11.out).2.1); (case side3 => repeat (first | exact (Kd.C_below HR3.out HB.out) | (with_reducible refine Kd.C_alloc ?_ _) | (with_reducible refine Kd.C_drewN ?_ _) | (with_reducible refine Kd.C_drew ?_))); (case side4 => exact HC3.out); rintro e w' ⟨rfl, ⟨nd, rfl⟩⟩; refine ⟨_, rfl, ?_⟩) | (go_at_call 16; (with_reducible refine (ossuarylaw14_awake.calls kj10  t235 _ A33.out (hr_ := by first | rfl | exact HRT.out)).mono ?_); rintro e w36 ⟨rfl, hb⟩; have n0_ := Aside0.mk (RL.below (by (with_reducible repeat (first | apply RL.alloc | apply RL.drewN | apply RL.drew)); exact HO_11.out) hb); have n1_ := Aside0.mk (Kd.R_below (by (with_reducible repeat (first | apply Kd.R_alloc | apply Kd.R_drewN | apply Kd.R_drew)); exact HO_17.out) hb); have n2_ := Aside0.mk (below_step (by repeat (first | (with_reducible first | exact HB.out | apply below_alloc | apply pw_below_drewN | apply below_drew1) | exact HB.out)) hb); clear HO_11; clear HO_17; clear HB; have HO_11 := n0_; have HO_17 := n1_; have HB := n2_; clear n0_ n1_ n2_; (try clear hb); (try clear hb2); (try clear hk); (try clear hi)))
          go_ret
          exact ⟨by first | rfl | (simp [errW_none, errW_some] <;> rfl) | (simp [*, errW_none, errW_some] <;> rfl), by repeat (first | (with_reducible first | exact HB.out | apply below_alloc | apply pw_below_drewN | apply below_drew1) | exact HB.out)⟩
        · replace c32 := Bool.eq_false_iff.mpr c32
          subst c32
          have H1 : (some false) = some r := by rw [if_neg (show ¬ (false = true) by decide)] at H; exact H
          clear H
          have H := H1
          clear H1
          exact absurd (Option.some.inj H) (by rw [HRT.out]; decide)

/-- THE ONE PURE STATEMENT of ossuarylaw14_Frames: yours. -/
def ossuarylaw14_Frames.Pure : Prop := ∀ (a0 : Int) (a1 : Int) (a2 : ByteArray) (l3 : List Int) (a4 : ByteArray), (Lit.int .i64 a0).wf = true → (Lit.int .i64 a1).wf = true → a2.size ≤ 140737488351232 → l3.length ≤ maxLen → l3.length * 8 ≤ 140737488351232 → (∀ x ∈ l3, (Lit.int .i64 x).wf = true) → a4.size ≤ 140737488351232 → ∃ k, ossuarylaw14_Frames.f k a0 a1 a2 l3 a4 = some true
theorem ossuarylaw14_Frames.walk (P : ossuarylaw14_Frames.Pure) (a0 : Int) (a1 : Int) (a2 : ByteArray) (a3 : Option Addr) (len3 cap3 : Nat) (z3 : List Int) (a4 : ByteArray) (w : World) (w0 : (Lit.int .i64 a0).wf = true) (w1 : (Lit.int .i64 a1).wf = true) (w2 : a2.size ≤ 140737488351232) (w3 : (a3 = none ∧ len3 = 0 ∧ cap3 = 0 ∧ z3 = []) ∨ ∃ x, a3 = some x ∧ len3 ≤ cap3 ∧ cap3 ≤ maxLen ∧ z3.length = cap3 ∧ (∀ i, i < z3.length → w.cell? (x.add i) = some (.int .i64 (z3.getD i 0))) ∧ ∀ n ∈ z3, (Lit.int .i64 n).wf = true) (y3 : len3 * 8 ≤ 140737488351232) (w4 : a4.size ≤ 140737488351232) :
    Calls Try.prog 3 #[.int .i64 a0, .int .i64 a1, .string a2, .slice a3 len3 cap3, .string a4] w fun e w' => e = .returned (.bool true) ∧ Below w.heap.size w w' := by
  obtain ⟨l3, rfl, hr3, hm3, hw3, hc3⟩ := ReadsInt.ofRowC w3
  obtain ⟨k, h⟩ := P a0 a1 a2 l3 a4 w0 w1 w2 hm3 y3 hw3 w4
  refine (ossuarylaw14_Frames.calls k a0 a1 a2 _ _ l3 a4 true w (Kd.C_of_reads (d := (0 : Int)) (h1 := fun _ => rfl) hr3) hc3 h).mono ?_
  rintro e w' ⟨rfl, hd⟩
  exact ⟨rfl, hd⟩

end Go.Proofs.Ytgfgehhmnogbpaa.HFrames
