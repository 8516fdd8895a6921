/- Lean functions for the Go functions that the law reaches, and proofs that the calls come to them: written by a program of this session. -/
import Derived.Test.YtmphljlooopcdaaHAreaMixedx0
import Derived.Test.YtmphljlooopcdaaHAreaMixedx1
import Derived.Test.YtmphljlooopcdaaHAreaMixedx2
namespace Go.Proofs.Ytmphljlooopcdaa.HAreaMixed
open Go.RowKit Go.Proofs.YtmphljlooopcdaaW.PrintWords Go.Proofs.YtmphljlooopcdaaW.PrintLast Go.Proofs.YtmphljlooopcdaaW.PrintMore
attribute [local go_sem] max2_int min2_int max_two min_two max_three min_three max_four min_four   -- for this text's walks alone
set_option linter.unusedVariables false
set_option linter.unusedSimpArgs false

/-! ### ossuarylaw15_awake: function 14 -/
def ossuarylaw15_awake.f (k : Nat)  : Option (Bool) := (area_Put.f k 7 (⟨#[97, 98, 99]⟩ : ByteArray)).bind fun bt135 => ((area_Get.f k bt135.1).bind fun bt139 => (if 0 ≤ (mn (bt135.1.length : Int) 3) then (if (mn (bt135.1.length : Int) 3) ≤ (bt135.1.length : Int) then ((area_Get.f k (bt135.1.take ((mn (bt135.1.length : Int) 3) : Int).toNat)).bind fun bt146 => ((ossuarylaw15_long.f k 1249 97).bind fun t149 => ((area_Put.f k 7 t149).bind fun bt150 => (if (bt135.1.length : Int) = 24 then ((ossuarylaw0_Num.f bt135.2).bind fun t154 => (if t154 = 0 then (if 0 < (bt135.1.length : Int) then (if ((rdOf ByteArray.empty bt135.1 0).size : Int) = 64 then (if 0 ≤ 8 then (if 8 ≤ ((rdOf ByteArray.empty bt135.1 0).size : Int) then (if ((rdOf ByteArray.empty bt135.1 0).extract 0 8).toList = ([77, 0, 3, 0, 7, 0, 0, 0] : List UInt8) then (if bt139.1 = 7 then (if bt139.2.1.toList = ([97, 98, 99] : List UInt8) then ((ossuarylaw0_Num.f bt139.2.2).bind fun t157 => (if t157 = 0 then ((ossuarylaw0_Num.f bt146.2.2).bind fun t158 => (if t158 = 1500 then ((ossuarylaw0_Num.f bt150.2).bind fun t159 => (some (t159 == 1500))) else (some false))) else (some false))) else (some false)) else (some false)) else (some false)) else (none)) else (none)) else (some false)) else (none)) else (some false))) else (some false))))) else (none)) else (none)))
theorem ossuarylaw15_awake.mono : ∀ k, LeO (ossuarylaw15_awake.f k ) (ossuarylaw15_awake.f (k + 1) ) := by
  intro  k
  unfold ossuarylaw15_awake.f
  repeat' first
      | (with_reducible exact area_Get.mono _ _)
      | (with_reducible exact area_Put.mono _ _ _)
      | (with_reducible exact ossuarylaw15_long.mono _ _ _)
      | (with_reducible exact LeO.refl _)
      | (with_reducible exact LeO.none _)
      | (with_reducible refine LeO.ite ?_ ?_)
      | (with_reducible refine LeO.bind ?_ (fun _ => ?_))
      | exact area_Get.mono _ _
      | exact area_Put.mono _ _ _
      | exact ossuarylaw15_long.mono _ _ _
      | exact LeO.none _
      | refine LeO.ite ?_ ?_
      | refine LeO.bind ?_ (fun _ => ?_)
set_option maxHeartbeats 8000000 in
set_option maxRecDepth 100000 in
theorem ossuarylaw15_awake.calls (k : Nat)  (r : Bool) (w : World) (h : ossuarylaw15_awake.f k  = some r) (hr_ : r = true := by rfl) :
    Calls Try.prog 14 #[] w fun e w' => e = .returned (.bool r) ∧ Below w.heap.size w w' := by
  have HRT := Aside0.mk hr_
  clear hr_
  have HB := Aside0.mk (Below.refl w.heap.size w)
  have H : ((area_Put.f k 7 (⟨#[97, 98, 99]⟩ : ByteArray)).bind fun bt135 => ((area_Get.f k bt135.1).bind fun bt139 => (if 0 ≤ (mn (bt135.1.length : Int) 3) then (if (mn (bt135.1.length : Int) 3) ≤ (bt135.1.length : Int) then ((area_Get.f k (bt135.1.take ((mn (bt135.1.length : Int) 3) : Int).toNat)).bind fun bt146 => ((ossuarylaw15_long.f k 1249 97).bind fun t149 => ((area_Put.f k 7 t149).bind fun bt150 => (if (bt135.1.length : Int) = 24 then ((ossuarylaw0_Num.f bt135.2).bind fun t154 => (if t154 = 0 then (if 0 < (bt135.1.length : Int) then (if ((rdOf ByteArray.empty bt135.1 0).size : Int) = 64 then (if 0 ≤ 8 then (if 8 ≤ ((rdOf ByteArray.empty bt135.1 0).size : Int) then (if ((rdOf ByteArray.empty bt135.1 0).extract 0 8).toList = ([77, 0, 3, 0, 7, 0, 0, 0] : List UInt8) then (if bt139.1 = 7 then (if bt139.2.1.toList = ([97, 98, 99] : List UInt8) then ((ossuarylaw0_Num.f bt139.2.2).bind fun t157 => (if t157 = 0 then ((ossuarylaw0_Num.f bt146.2.2).bind fun t158 => (if t158 = 1500 then ((ossuarylaw0_Num.f bt150.2).bind fun t159 => (some (t159 == 1500))) else (some false))) else (some false))) else (some false)) else (some false)) else (some false)) else (none)) else (none)) else (some false)) else (none)) else (some false))) else (some false))))) else (none)) else (none)))) = some r := h
  clear h
  replace H := Option.bind_eq_some_iff.mp H
  obtain ⟨⟨t135, t136⟩, A10, H⟩ := H
  replace H : ((area_Get.f k t135).bind fun bt139 => (if 0 ≤ (mn (t135.length : Int) 3) then (if (mn (t135.length : Int) 3) ≤ (t135.length : Int) then ((area_Get.f k (t135.take ((mn (t135.length : Int) 3) : Int).toNat)).bind fun bt146 => ((ossuarylaw15_long.f k 1249 97).bind fun t149 => ((area_Put.f k 7 t149).bind fun bt150 => (if (t135.length : Int) = 24 then ((ossuarylaw0_Num.f t136).bind fun t154 => (if t154 = 0 then (if 0 < (t135.length : Int) then (if ((rdOf ByteArray.empty t135 0).size : Int) = 64 then (if 0 ≤ 8 then (if 8 ≤ ((rdOf ByteArray.empty t135 0).size : Int) then (if ((rdOf ByteArray.empty t135 0).extract 0 8).toList = ([77, 0, 3, 0, 7, 0, 0, 0] : List UInt8) then (if bt139.1 = 7 then (if bt139.2.1.toList = ([97, 98, 99] : List UInt8) then ((ossuarylaw0_Num.f bt139.2.2).bind fun t157 => (if t157 = 0 then ((ossuarylaw0_Num.f bt146.2.2).bind fun t158 => (if t158 = 1500 then ((ossuarylaw0_Num.f bt150.2).bind fun t159 => (some (t159 == 1500))) else (some false))) else (some false))) else (some false)) else (some false)) else (some false)) else (none)) else (none)) else (some false)) else (none)) else (some false))) else (some false))))) else (none)) else (none))) = some r := H
  have A1 := Aside0.mk A10
  clear A10
  replace H := Option.bind_eq_some_iff.mp H
  obtain ⟨⟨t139, t140, t141⟩, A20, H⟩ := H
  replace H : (if 0 ≤ (mn (t135.length : Int) 3) then (if (mn (t135.length : Int) 3) ≤ (t135.length : Int) then ((area_Get.f k (t135.take ((mn (t135.length : Int) 3) : Int).toNat)).bind fun bt146 => ((ossuarylaw15_long.f k 1249 97).bind fun t149 => ((area_Put.f k 7 t149).bind fun bt150 => (if (t135.length : Int) = 24 then ((ossuarylaw0_Num.f t136).bind fun t154 => (if t154 = 0 then (if 0 < (t135.length : Int) then (if ((rdOf ByteArray.empty t135 0).size : Int) = 64 then (if 0 ≤ 8 then (if 8 ≤ ((rdOf ByteArray.empty t135 0).size : Int) then (if ((rdOf ByteArray.empty t135 0).extract 0 8).toList = ([77, 0, 3, 0, 7, 0, 0, 0] : List UInt8) then (if t139 = 7 then (if t140.toList = ([97, 98, 99] : List UInt8) then ((ossuarylaw0_Num.f t141).bind fun t157 => (if t157 = 0 then ((ossuarylaw0_Num.f bt146.2.2).bind fun t158 => (if t158 = 1500 then ((ossuarylaw0_Num.f bt150.2).bind fun t159 => (some (t159 == 1500))) else (some false))) else (some false))) else (some false)) else (some false)) else (some false)) else (none)) else (none)) else (some false)) else (none)) else (some false))) else (some false))))) else (none)) else (none)) = some r := H
  have A2 := Aside0.mk A20
  clear A20
  obtain ⟨ji3, hji3⟩ : ∃ j_ : Int, (mn (t135.length : Int) 3) = j_ := ⟨_, rfl⟩
  replace H : (if 0 ≤ (ji3) then (if (ji3) ≤ (t135.length : Int) then ((area_Get.f k (t135.take ((ji3) : Int).toNat)).bind fun bt146 => ((ossuarylaw15_long.f k 1249 97).bind fun t149 => ((area_Put.f k 7 t149).bind fun bt150 => (if (t135.length : Int) = 24 then ((ossuarylaw0_Num.f t136).bind fun t154 => (if t154 = 0 then (if 0 < (t135.length : Int) then (if ((rdOf ByteArray.empty t135 0).size : Int) = 64 then (if 0 ≤ 8 then (if 8 ≤ ((rdOf ByteArray.empty t135 0).size : Int) then (if ((rdOf ByteArray.empty t135 0).extract 0 8).toList = ([77, 0, 3, 0, 7, 0, 0, 0] : List UInt8) then (if t139 = 7 then (if t140.toList = ([97, 98, 99] : List UInt8) then ((ossuarylaw0_Num.f t141).bind fun t157 => (if t157 = 0 then ((ossuarylaw0_Num.f bt146.2.2).bind fun t158 => (if t158 = 1500 then ((ossuarylaw0_Num.f bt150.2).bind fun t159 => (some (t159 == 1500))) else (some false))) else (some false))) else (some false)) else (some false)) else (some false)) else (none)) else (none)) else (some false)) else (none)) else (some false))) else (some false))))) else (none)) else (none)) = some r := by first | (rw [hji3] at H; exact H) | (simp only [hji3] at H ⊢; exact H)
  (try rw [hji3] at A1)
  (try rw [hji3] at A2)
  (try (have hji3h : ji3 ≤ 3 := by (rw [← hji3]; unfold mn; (repeat' split) <;> omega)))
  (try (have hji3g : ji3 ≤ 64 := by omega))
  (try (have hji3l : 0 ≤ ji3 := by (rw [← hji3]; unfold mn; (repeat' split) <;> omega)))
  (try (have hji3m : 0 ≤ ji3 := by omega))
  have hji3_ : (if 3 < (t135.length : Int) then 3 else (t135.length : Int)) = ji3 := hji3
  by_cases c4 : 0 ≤ (ji3)
  · rw [if_pos c4] at H
    have c4b0 := eq_true c4
    have c4b1 : decide (0 ≤ (ji3)) = true := decide_eq_true c4
    clear c4
    by_cases c5 : (ji3) ≤ (t135.length : Int)
    · rw [if_pos c5] at H
      have c5b0 := eq_true c5
      have c5b1 : decide ((ji3) ≤ (t135.length : Int)) = true := decide_eq_true c5
      clear c5
      obtain ⟨y142, hy142⟩ : ∃ y_ : List ByteArray, y_ = (t135.take ((ji3) : Int).toNat) := ⟨_, rfl⟩
      replace H : ((area_Get.f k y142).bind fun bt146 => ((ossuarylaw15_long.f k 1249 97).bind fun t149 => ((area_Put.f k 7 t149).bind fun bt150 => (if (t135.length : Int) = 24 then ((ossuarylaw0_Num.f t136).bind fun t154 => (if t154 = 0 then (if 0 < (t135.length : Int) then (if ((rdOf ByteArray.empty t135 0).size : Int) = 64 then (if 0 ≤ 8 then (if 8 ≤ ((rdOf ByteArray.empty t135 0).size : Int) then (if ((rdOf ByteArray.empty t135 0).extract 0 8).toList = ([77, 0, 3, 0, 7, 0, 0, 0] : List UInt8) then (if t139 = 7 then (if t140.toList = ([97, 98, 99] : List UInt8) then ((ossuarylaw0_Num.f t141).bind fun t157 => (if t157 = 0 then ((ossuarylaw0_Num.f bt146.2.2).bind fun t158 => (if t158 = 1500 then ((ossuarylaw0_Num.f bt150.2).bind fun t159 => (some (t159 == 1500))) else (some false))) else (some false))) else (some false)) else (some false)) else (some false)) else (none)) else (none)) else (some false)) else (none)) else (some false))) else (some false))))) = some r := by first | (rw [hy142]; with_reducible exact H) | (have H2_ := (Option.bind_some _ _).symm.trans H; rw [hy142]; with_reducible exact H2_) | (have H2_ := (Option.bind_some _ _).symm.trans H; with_reducible exact H2_) | with_reducible exact H | (rw [hy142]; exact H) | exact H
      have Ny142 := Aside0.mk hy142
      clear hy142
      replace H := Option.bind_eq_some_iff.mp H
      obtain ⟨⟨t146, t147, t148⟩, A60, H⟩ := H
      replace H : ((ossuarylaw15_long.f k 1249 97).bind fun t149 => ((area_Put.f k 7 t149).bind fun bt150 => (if (t135.length : Int) = 24 then ((ossuarylaw0_Num.f t136).bind fun t154 => (if t154 = 0 then (if 0 < (t135.length : Int) then (if ((rdOf ByteArray.empty t135 0).size : Int) = 64 then (if 0 ≤ 8 then (if 8 ≤ ((rdOf ByteArray.empty t135 0).size : Int) then (if ((rdOf ByteArray.empty t135 0).extract 0 8).toList = ([77, 0, 3, 0, 7, 0, 0, 0] : List UInt8) then (if t139 = 7 then (if t140.toList = ([97, 98, 99] : List UInt8) then ((ossuarylaw0_Num.f t141).bind fun t157 => (if t157 = 0 then ((ossuarylaw0_Num.f t148).bind fun t158 => (if t158 = 1500 then ((ossuarylaw0_Num.f bt150.2).bind fun t159 => (some (t159 == 1500))) else (some false))) else (some false))) else (some false)) else (some false)) else (some false)) else (none)) else (none)) else (some false)) else (none)) else (some false))) else (some false)))) = some r := H
      have A6 := Aside0.mk A60
      clear A60
      replace H := Option.bind_eq_some_iff.mp H
      obtain ⟨t149, A70, H⟩ := H
      replace H : ((area_Put.f k 7 t149).bind fun bt150 => (if (t135.length : Int) = 24 then ((ossuarylaw0_Num.f t136).bind fun t154 => (if t154 = 0 then (if 0 < (t135.length : Int) then (if ((rdOf ByteArray.empty t135 0).size : Int) = 64 then (if 0 ≤ 8 then (if 8 ≤ ((rdOf ByteArray.empty t135 0).size : Int) then (if ((rdOf ByteArray.empty t135 0).extract 0 8).toList = ([77, 0, 3, 0, 7, 0, 0, 0] : List UInt8) then (if t139 = 7 then (if t140.toList = ([97, 98, 99] : List UInt8) then ((ossuarylaw0_Num.f t141).bind fun t157 => (if t157 = 0 then ((ossuarylaw0_Num.f t148).bind fun t158 => (if t158 = 1500 then ((ossuarylaw0_Num.f bt150.2).bind fun t159 => (some (t159 == 1500))) else (some false))) else (some false))) else (some false)) else (some false)) else (some false)) else (none)) else (none)) else (some false)) else (none)) else (some false))) else (some false))) = some r := H
      have A7 := Aside0.mk A70
      clear A70
      replace H := Option.bind_eq_some_iff.mp H
      obtain ⟨⟨t150, t151⟩, A80, H⟩ := H
      replace H : (if (t135.length : Int) = 24 then ((ossuarylaw0_Num.f t136).bind fun t154 => (if t154 = 0 then (if 0 < (t135.length : Int) then (if ((rdOf ByteArray.empty t135 0).size : Int) = 64 then (if 0 ≤ 8 then (if 8 ≤ ((rdOf ByteArray.empty t135 0).size : Int) then (if ((rdOf ByteArray.empty t135 0).extract 0 8).toList = ([77, 0, 3, 0, 7, 0, 0, 0] : List UInt8) then (if t139 = 7 then (if t140.toList = ([97, 98, 99] : List UInt8) then ((ossuarylaw0_Num.f t141).bind fun t157 => (if t157 = 0 then ((ossuarylaw0_Num.f t148).bind fun t158 => (if t158 = 1500 then ((ossuarylaw0_Num.f t151).bind fun t159 => (some (t159 == 1500))) else (some false))) else (some false))) else (some false)) else (some false)) else (some false)) else (none)) else (none)) else (some false)) else (none)) else (some false))) else (some false)) = some r := H
      have A8 := Aside0.mk A80
      clear A80
      by_cases c9 : (t135.length : Int) = 24
      · rw [if_pos c9] at H
        have c9b0 : ((t135.length : Int) == 24) = true := beq_iff_eq.mpr c9
        have c9b1 : ((t135.length : Int) != 24) = false := bne_eq_false_iff_eq.mpr c9
        clear c9
        replace H := Option.bind_eq_some_iff.mp H
        obtain ⟨t154, A100, H⟩ := H
        replace H : (if t154 = 0 then (if 0 < (t135.length : Int) then (if ((rdOf ByteArray.empty t135 0).size : Int) = 64 then (if 0 ≤ 8 then (if 8 ≤ ((rdOf ByteArray.empty t135 0).size : Int) then (if ((rdOf ByteArray.empty t135 0).extract 0 8).toList = ([77, 0, 3, 0, 7, 0, 0, 0] : List UInt8) then (if t139 = 7 then (if t140.toList = ([97, 98, 99] : List UInt8) then ((ossuarylaw0_Num.f t141).bind fun t157 => (if t157 = 0 then ((ossuarylaw0_Num.f t148).bind fun t158 => (if t158 = 1500 then ((ossuarylaw0_Num.f t151).bind fun t159 => (some (t159 == 1500))) else (some false))) else (some false))) else (some false)) else (some false)) else (some false)) else (none)) else (none)) else (some false)) else (none)) else (some false)) = some r := H
        have A10 := Aside0.mk A100
        clear A100
        by_cases c11 : t154 = 0
        · rw [if_pos c11] at H
          have c11b0 : (t154 == 0) = true := beq_iff_eq.mpr c11
          have c11b1 : (t154 != 0) = false := bne_eq_false_iff_eq.mpr c11
          clear c11
          by_cases c12 : 0 < (t135.length : Int)
          · rw [if_pos c12] at H
            have c12b0 : decide (0 < (t135.length : Int)) = true := decide_eq_true c12
            have c12b1 : decide (0 < t135.length) = true := decide_eq_true (by omega)
            clear c12
            by_cases c13 : ((rdOf ByteArray.empty t135 0).size : Int) = 64
            · rw [if_pos c13] at H
              have c13b0 : (((rdOf ByteArray.empty t135 0).size : Int) == 64) = true := beq_iff_eq.mpr c13
              have c13b1 : (((rdOf ByteArray.empty t135 0).size : Int) != 64) = false := bne_eq_false_iff_eq.mpr c13
              clear c13
              by_cases c14 : 0 ≤ 8
              · rw [if_pos c14] at H
                have c14b0 := eq_true c14
                have c14b1 : decide (0 ≤ 8) = true := decide_eq_true c14
                clear c14
                by_cases c15 : 8 ≤ ((rdOf ByteArray.empty t135 0).size : Int)
                · rw [if_pos c15] at H
                  have c15b0 := eq_true c15
                  have c15b1 : decide (8 ≤ ((rdOf ByteArray.empty t135 0).size : Int)) = true := decide_eq_true c15
                  clear c15
                  by_cases c16 : ((rdOf ByteArray.empty t135 0).extract 0 8).toList = ([77, 0, 3, 0, 7, 0, 0, 0] : List UInt8)
                  · rw [if_pos c16] at H
                    have c16b0 : (((rdOf ByteArray.empty t135 0).extract 0 8).toList == ([77, 0, 3, 0, 7, 0, 0, 0] : List UInt8)) = true := beq_iff_eq.mpr c16
                    have c16b1 : (((rdOf ByteArray.empty t135 0).extract 0 8).toList != ([77, 0, 3, 0, 7, 0, 0, 0] : List UInt8)) = false := bne_eq_false_iff_eq.mpr c16
                    clear c16
                    by_cases c17 : t139 = 7
                    · rw [if_pos c17] at H
                      have c17b0 : (t139 == 7) = true := beq_iff_eq.mpr c17
                      have c17b1 : (t139 != 7) = false := bne_eq_false_iff_eq.mpr c17
                      clear c17
                      by_cases c18 : t140.toList = ([97, 98, 99] : List UInt8)
                      · rw [if_pos c18] at H
                        have c18b0 : (t140.toList == ([97, 98, 99] : List UInt8)) = true := beq_iff_eq.mpr c18
                        have c18b1 : (t140.toList != ([97, 98, 99] : List UInt8)) = false := bne_eq_false_iff_eq.mpr c18
                        clear c18
                        replace H := Option.bind_eq_some_iff.mp H
                        obtain ⟨t157, A190, H⟩ := H
                        replace H : (if t157 = 0 then ((ossuarylaw0_Num.f t148).bind fun t158 => (if t158 = 1500 then ((ossuarylaw0_Num.f t151).bind fun t159 => (some (t159 == 1500))) else (some false))) else (some false)) = some r := H
                        have A19 := Aside0.mk A190
                        clear A190
                        by_cases c20 : t157 = 0
                        · rw [if_pos c20] at H
                          have c20b0 : (t157 == 0) = true := beq_iff_eq.mpr c20
                          have c20b1 : (t157 != 0) = false := bne_eq_false_iff_eq.mpr c20
                          clear c20
                          replace H := Option.bind_eq_some_iff.mp H
                          obtain ⟨t158, A210, H⟩ := H
                          replace H : (if t158 = 1500 then ((ossuarylaw0_Num.f t151).bind fun t159 => (some (t159 == 1500))) else (some false)) = some r := H
                          have A21 := Aside0.mk A210
                          clear A210
                          by_cases c22 : t158 = 1500
                          · rw [if_pos c22] at H
                            have c22b0 : (t158 == 1500) = true := beq_iff_eq.mpr c22
                            have c22b1 : (t158 != 1500) = false := bne_eq_false_iff_eq.mpr c22
                            clear c22
                            replace H := Option.bind_eq_some_iff.mp H
                            obtain ⟨t159, A230, H⟩ := H
                            replace H : (some (t159 == 1500)) = some r := H
                            have A23 := Aside0.mk A230
                            clear A230
                            obtain rfl := Option.some.inj H
                            go_enter Try.func14, Try.ntmps14
                            go_wp2_with (first | ((with_reducible refine gate_callee (f := 7) rfl ?_); refine goesL_ (some 12) rfl rfl Try.func7 (by kernel_rfl) rfl #[.int .i64 7, .string (⟨#[97, 98, 99]⟩ : ByteArray)] rfl (by (try simp only [List.map_toArray, List.map_cons, List.map_nil]); first | done | rfl | (simp only [List.length_drop, List.length_take]; rfl)) ?_; (with_reducible refine (area_Put.calls k 7 (⟨#[97, 98, 99]⟩ : ByteArray) t135 t136 _ A1.out).mono ?_); rintro e w24 ⟨v137, rfl, ho0, hb⟩; refine ⟨_, rfl, ?_⟩; have n0_ := Aside0.mk (Kd.R_lower ho0 (below_size (by repeat (first | (with_reducible first | exact HB.out | apply below_alloc | apply pw_below_drewN | apply below_drew1) | exact HB.out)))); have n1_ := Aside0.mk (below_step (by repeat (first | (with_reducible first | exact HB.out | apply below_alloc | apply pw_below_drewN | apply below_drew1) | exact HB.out)) hb); clear HB; have HO138 := n0_; have HB := n1_; clear n0_ n1_; (try clear hb); (try clear hb2); (try clear hk); (try clear hi); (try clear ho0); obtain ⟨Ao25, co25, eo25⟩ := Kd.R_slice HO138.out; subst eo25) | ((with_reducible refine gate_callee (f := 9) rfl ?_); refine goesL_ (some 17) rfl rfl Try.func9 (by kernel_rfl) rfl #[.slice Ao25 t135.length co25] rfl (by (try simp only [List.map_toArray, List.map_cons, List.map_nil]); first | done | rfl | (simp only [List.length_drop, List.length_take]; rfl)) ?_; (with_reducible refine (area_Get.calls k _ _ t135 t139 t140 t141 _ ?side1 ?side2 A2.out).mono ?_); (case side1 => repeat (first | exact (Kd.R_reads' HO138.out).2.2 | (with_reducible refine Kd.C_alloc ?_ _) | (with_reducible refine Kd.C_drewN ?_ _) | (with_reducible refine Kd.C_drew ?_))); (case side2 => exact (Kd.R_reads' HO138.out).2.1); rintro e w26 ⟨rfl, hb⟩; refine ⟨_, rfl, ?_⟩; have n0_ := Aside0.mk (Kd.R_below (by (with_reducible repeat (first | apply Kd.R_alloc | apply Kd.R_drewN | apply Kd.R_drew)); exact HO138.out) hb); have n1_ := Aside0.mk (below_step (by repeat (first | (with_reducible first | exact HB.out | apply below_alloc | apply pw_below_drewN | apply below_drew1) | exact HB.out)) hb); clear HO138; clear HB; have HO138 := n0_; have HB := n1_; clear n0_ n1_; (try clear hb); (try clear hb2); (try clear hk); (try clear hi); have q27 : ((ji3) : Int) ≤ ((t135.length : Int) : Int) := of_decide_eq_true (by first | (with_reducible assumption) | assumption); obtain ⟨i027, hi027, _, hsz27, _⟩ := info_parts info9; have hroom27 : t135.length ≤ co25 := (Kd.R_reads' HO138.out).2.1; have hC27 : Kd.C Kd.string _ Ao25 t135.length t135 := (Kd.R_reads' HO138.out).2.2; have hcut27 := cut_to (P := Try.prog) 22 9 .i64 Try.underlying22 hi027 Ao25 t135.length co25 (ji3) (of_decide_eq_true (by first | (with_reducible assumption) | assumption)) q27 hroom27; have hr27 := Kd.C_take (m := ((ji3) : Int).toNat) hC27 (by omega); have hy27 : y142.length = ((ji3) : Int).toNat := (by rw [Ny142.out, List.length_take]; omega); rw [← Ny142.out] at hr27; rw [← hy27] at hcut27; have HR145 := Aside0.mk hr27; have HC145 := Aside0.mk (show y142.length ≤ co25 from by omega); clear hr27 hC27 hroom27 hi027 hsz27; have KY27 := Aside0.mk hy27; clear hy27; have KL27 := Aside0.mk (show ((ji3) : Int).toNat ≤ t135.length from by omega); replace q27 := eq_true q27) | ((with_reducible refine gate_callee (f := 9) rfl ?_); refine goesL_ (some 27) rfl rfl Try.func9 (by kernel_rfl) rfl #[.slice Ao25 y142.length co25] rfl (by (try simp only [List.map_toArray, List.map_cons, List.map_nil]); first | done | rfl | (simp only [List.length_drop, List.length_take]; rfl)) ?_; (with_reducible refine (area_Get.calls k _ _ y142 t146 t147 t148 _ ?side1 ?side2 A6.out).mono ?_); (case side1 => repeat (first | exact (by repeat (first | (with_reducible exact HR145.out) | (with_reducible refine Kd.C_alloc ?_ _) | (with_reducible refine Kd.C_drewN ?_ _) | (with_reducible refine Kd.C_drew ?_) | exact HR145.out)) | (with_reducible refine Kd.C_alloc ?_ _) | (with_reducible refine Kd.C_drewN ?_ _) | (with_reducible refine Kd.C_drew ?_))); (case side2 => exact HC145.out); rintro e w28 ⟨rfl, hb⟩; refine ⟨_, rfl, ?_⟩; have n0_ := Aside0.mk (Kd.R_below (by (with_reducible repeat (first | apply Kd.R_alloc | apply Kd.R_drewN | apply Kd.R_drew)); exact HO138.out) hb); have n1_ := Aside0.mk (Kd.C_below (by repeat (first | (with_reducible exact HR145.out) | (with_reducible refine Kd.C_alloc ?_ _) | (with_reducible refine Kd.C_drewN ?_ _) | (with_reducible refine Kd.C_drew ?_) | exact HR145.out)) hb); have n2_ := Aside0.mk (below_step (by repeat (first | (with_reducible first | exact HB.out | apply below_alloc | apply pw_below_drewN | apply below_drew1) | exact HB.out)) hb); clear HO138; clear HR145; clear HB; have HO138 := n0_; have HR145 := n1_; have HB := n2_; clear n0_ n1_ n2_; (try clear hb); (try clear hb2); (try clear hk); (try clear hi)) | ((with_reducible refine gate_callee (f := 15) rfl ?_); refine goesL_ (some 32) rfl rfl Try.func15 (by kernel_rfl) rfl #[.int .i64 1249, .int .u8 97] rfl (by (try simp only [List.map_toArray, List.map_cons, List.map_nil]); first | done | rfl | (simp only [List.length_drop, List.length_take]; rfl)) ?_; (with_reducible refine (ossuarylaw15_long.calls k 1249 97 t149 _ A7.out).mono ?_); rintro e w29 ⟨rfl, hb⟩; refine ⟨_, rfl, ?_⟩; have n0_ := Aside0.mk (Kd.R_below (by (with_reducible repeat (first | apply Kd.R_alloc | apply Kd.R_drewN | apply Kd.R_drew)); exact HO138.out) hb); have n1_ := Aside0.mk (Kd.C_below (by repeat (first | (with_reducible exact HR145.out) | (with_reducible refine Kd.C_alloc ?_ _) | (with_reducible refine Kd.C_drewN ?_ _) | (with_reducible refine Kd.C_drew ?_) | exact HR145.out)) hb); have n2_ := Aside0.mk (below_step (by repeat (first | (with_reducible first | exact HB.out | apply below_alloc | apply pw_below_drewN | apply below_drew1) | exact HB.out)) hb); clear HO138; clear HR145; clear HB; have HO138 := n0_; have HR145 := n1_; have HB := n2_; clear n0_ n1_ n2_; (try clear hb); (try clear hb2); (try clear hk); (try clear hi)) | ((with_reducible refine gate_callee (f := 7) rfl ?_); refine goesL_ (some 33) rfl rfl Try.func7 (by kernel_rfl) rfl #[.int .i64 7, .string t149] rfl (by (try simp only [List.map_toArray, List.map_cons, List.map_nil]); first | done | rfl | (simp only [List.length_drop, List.length_take]; rfl)) ?_; (with_reducible refine (area_Put.calls k 7 t149 t150 t151 _ A8.out).mono ?_); rintro e w30 ⟨v152, rfl, ho0, hb⟩; refine ⟨_, rfl, ?_⟩; have n0_ := Aside0.mk (Kd.R_elder' (by (with_reducible repeat (first | apply Kd.R_alloc | apply Kd.R_drewN | apply Kd.R_drew)); exact HO138.out) (Kd.R_base ho0) hb); have n1_ := Aside0.mk (Kd.R_lower (Kd.R_new' ho0 (Kd.R_lt (by (with_reducible repeat (first | apply Kd.R_alloc | apply Kd.R_drewN | apply Kd.R_drew)); exact HO138.out))) (below_size (by repeat (first | (with_reducible first | exact HB.out | apply below_alloc | apply pw_below_drewN | apply below_drew1) | exact HB.out)))); have n2_ := Aside0.mk (Kd.C_below (by repeat (first | (with_reducible exact HR145.out) | (with_reducible refine Kd.C_alloc ?_ _) | (with_reducible refine Kd.C_drewN ?_ _) | (with_reducible refine Kd.C_drew ?_) | exact HR145.out)) hb); have n3_ := Aside0.mk (below_step (by repeat (first | (with_reducible first | exact HB.out | apply below_alloc | apply pw_below_drewN | apply below_drew1) | exact HB.out)) hb); clear HO138; clear HR145; clear HB; have HO138 := n0_; have HO153 := n1_; have HR145 := n2_; have HB := n3_; clear n0_ n1_ n2_ n3_; (try clear hb); (try clear hb2); (try clear hk); (try clear hi); (try clear ho0)) | (go_at_call 12; (with_reducible refine (ossuarylaw0_Num.calls t136 t154 _ A10.out).mono ?_); rintro e w' ⟨rfl, ⟨nd, rfl⟩⟩; have p155 : 0 ≤ (0 : Int) := (by omega); have q155 : 0 < (t135.length : Int) := of_decide_eq_true (by first | (with_reducible assumption) | assumption); obtain ⟨ad155, e155, hx155_0⟩ := Kd.at_string (Kd.R_reads' HO138.out).2.2 0 p155 q155; cases e155; have qi155 : (0 < t135.length) = True := eq_true (by omega); (try rw [show ((0 : Int)).toNat = 0 from rfl] at hx155_0); (try rw [Addr.add_zero'] at hx155_0); replace p155 := eq_true p155; replace q155 := eq_true q155; have p156 : 0 ≤ (0 : Int) := (by omega); have q156 : 0 < (t135.length : Int) := of_decide_eq_true (by first | (with_reducible assumption) | assumption); obtain ⟨ad156, e156, hx156_0⟩ := Kd.at_string (Kd.R_reads' HO138.out).2.2 0 p156 q156; obtain rfl : ad155 = ad156 := (by injection e156); have qi156 : (0 < t135.length) = True := eq_true (by omega); (try rw [show ((0 : Int)).toNat = 0 from rfl] at hx156_0); (try rw [Addr.add_zero'] at hx156_0); replace p156 := eq_true p156; replace q156 := eq_true q156) | (go_at_call 12; (with_reducible refine (ossuarylaw0_Num.calls t141 t157 _ A19.out).mono ?_); rintro e w' ⟨rfl, ⟨nd, rfl⟩⟩) | (go_at_call 12; (with_reducible refine (ossuarylaw0_Num.calls t148 t158 _ A21.out).mono ?_); rintro e w' ⟨rfl, ⟨nd, rfl⟩⟩) | (go_at_call 12; (with_reducible refine (ossuarylaw0_Num.calls t151 t159 _ A23.out).mono ?_); rintro e w' ⟨rfl, ⟨nd, rfl⟩⟩))
                            go_ret
                            exact ⟨by first | rfl | (simp [errW_none, errW_some] <;> rfl) | (simp only [← hji3]; first | rfl | (simp [errW_none, errW_some] <;> rfl)) | (simp [*, errW_none, errW_some] <;> rfl), by repeat (first | (with_reducible first | exact HB.out | apply below_alloc | apply pw_below_drewN | apply below_drew1) | exact HB.out)⟩
                          · rw [if_neg c22] at H
                            have c22b0 : (t158 == 1500) = false := beq_eq_false_iff_ne.mpr c22
                            have c22b1 : (t158 != 1500) = true := bne_iff_ne.mpr c22
                            exact absurd (Option.some.inj H) (by rw [HRT.out]; decide)
                        · rw [if_neg c20] at H
                          have c20b0 : (t157 == 0) = false := beq_eq_false_iff_ne.mpr c20
                          have c20b1 : (t157 != 0) = true := bne_iff_ne.mpr c20
                          exact absurd (Option.some.inj H) (by rw [HRT.out]; decide)
                      · rw [if_neg c18] at H
                        have c18b0 : (t140.toList == ([97, 98, 99] : List UInt8)) = false := beq_eq_false_iff_ne.mpr c18
                        have c18b1 : (t140.toList != ([97, 98, 99] : List UInt8)) = true := bne_iff_ne.mpr c18
                        exact absurd (Option.some.inj H) (by rw [HRT.out]; decide)
                    · rw [if_neg c17] at H
                      have c17b0 : (t139 == 7) = false := beq_eq_false_iff_ne.mpr c17
                      have c17b1 : (t139 != 7) = true := bne_iff_ne.mpr c17
                      exact absurd (Option.some.inj H) (by rw [HRT.out]; decide)
                  · rw [if_neg c16] at H
                    have c16b0 : (((rdOf ByteArray.empty t135 0).extract 0 8).toList == ([77, 0, 3, 0, 7, 0, 0, 0] : List UInt8)) = false := beq_eq_false_iff_ne.mpr c16
                    have c16b1 : (((rdOf ByteArray.empty t135 0).extract 0 8).toList != ([77, 0, 3, 0, 7, 0, 0, 0] : List UInt8)) = true := bne_iff_ne.mpr c16
                    exact absurd (Option.some.inj H) (by rw [HRT.out]; decide)
                · rw [if_neg c15] at H
                  exact absurd H (by simp)
              · rw [if_neg c14] at H
                exact absurd H (by simp)
            · rw [if_neg c13] at H
              have c13b0 : (((rdOf ByteArray.empty t135 0).size : Int) == 64) = false := beq_eq_false_iff_ne.mpr c13
              have c13b1 : (((rdOf ByteArray.empty t135 0).size : Int) != 64) = true := bne_iff_ne.mpr c13
              exact absurd (Option.some.inj H) (by rw [HRT.out]; decide)
          · rw [if_neg c12] at H
            exact absurd H (by simp)
        · rw [if_neg c11] at H
          have c11b0 : (t154 == 0) = false := beq_eq_false_iff_ne.mpr c11
          have c11b1 : (t154 != 0) = true := bne_iff_ne.mpr c11
          exact absurd (Option.some.inj H) (by rw [HRT.out]; decide)
      · rw [if_neg c9] at H
        have c9b0 : ((t135.length : Int) == 24) = false := beq_eq_false_iff_ne.mpr c9
        have c9b1 : ((t135.length : Int) != 24) = true := bne_iff_ne.mpr c9
        exact absurd (Option.some.inj H) (by rw [HRT.out]; decide)
    · rw [if_neg c5] at H
      exact absurd H (by simp)
  · rw [if_neg c4] at H
    exact absurd H (by simp)

/-! ### ossuarylaw15_AreaMixed: function 6 -/
mutual
def ossuarylaw15_AreaMixed.j0 : Nat → Int → Int → Int → Int → List ByteArray → List ByteArray → Bool → Option (Bool)
  | 0, _, _, _, _, _, _, _ => none
  | k + 1, x1, x2, x3, x9, x10, x12, x59 => if x59 = true then (some false) else (ossuarylaw15_AreaMixed.l0 k x1 x2 x3 x9 x10 x12 ([] : List ByteArray) 0 0)
def ossuarylaw15_AreaMixed.l0 : Nat → Int → Int → Int → Int → List ByteArray → List ByteArray → List ByteArray → Int → Int → Option (Bool)
  | 0, _, _, _, _, _, _, _, _, _ => none
  | k + 1, x1, x2, x3, x9, x10, x12, x14, x15, x16 => if x16 < 24 then (if 0 ≤ x16 then (if (Go.bits .and .i64 (shr .i64 x3 x16) 1) = 1 then (if x16 < (x10.length : Int) then (if x14.length < 8796093022208 then (ossuarylaw15_AreaMixed.l0 k x1 x2 x3 x9 x10 x12 (x14 ++ [rdOf ByteArray.empty x10 x16]) (wrap64 (x15 + 1)) (wrap64 (x16 + 1))) else (none)) else (none)) else (if x16 < (x12.length : Int) then (if x14.length < 8796093022208 then (ossuarylaw15_AreaMixed.l0 k x1 x2 x3 x9 x10 x12 (x14 ++ [rdOf ByteArray.empty x12 x16]) x15 (wrap64 (x16 + 1))) else (none)) else (none))) else (none)) else ((area_Get.f k x14).bind fun bt181 => (if x15 = 0 then ((ossuarylaw0_Num.f bt181.2.2).bind fun t184 => (if t184 = 0 then (if bt181.1 = 6 then ((ossuarylaw15_long.f k x9 ((x2) % 256)).bind fun t185 => (some (bt181.2.1.toList == t185.toList))) else (some false)) else (some false))) else (if x15 = 24 then ((ossuarylaw0_Num.f bt181.2.2).bind fun t186 => (if t186 = 0 then (if bt181.1 = 4 then ((ossuarylaw15_long.f k x9 ((x1) % 256)).bind fun t187 => (some (bt181.2.1.toList == t187.toList))) else (some false)) else (some false))) else ((ossuarylaw0_Num.f bt181.2.2).bind fun t188 => (if t188 = 1500 then (if bt181.1 = 0 then (some (bt181.2.1.toList == ([] : List UInt8))) else (some false)) else (some false))))))
end
def ossuarylaw15_AreaMixed.f (k : Nat) (a0 : Int) (a1 : Int) (a2 : Int) (a3 : Int) : Option (Bool) := (ossuarylaw15_awake.f k).bind fun t160 => (if t160 = true then ((ossuarylaw15_long.f k (wrap64 (Int.tmod (IntKind.u64.wrap (a0)) 1249)) ((a1) % 256)).bind fun t161 => ((area_Put.f k 4 t161).bind fun bt162 => ((ossuarylaw15_long.f k (wrap64 (Int.tmod (IntKind.u64.wrap (a0)) 1249)) ((a2) % 256)).bind fun t166 => ((area_Put.f k 6 t166).bind fun bt167 => ((ossuarylaw0_Num.f bt162.2).bind fun t171 => (if t171 = 0 then ((ossuarylaw0_Num.f bt167.2).bind fun t172 => (if t172 = 0 then (if (bt162.1.length : Int) = 24 then (ossuarylaw15_AreaMixed.j0 k a1 a2 a3 (wrap64 (Int.tmod (IntKind.u64.wrap (a0)) 1249)) bt162.1 bt167.1 ((bt167.1.length : Int) != 24)) else (ossuarylaw15_AreaMixed.j0 k a1 a2 a3 (wrap64 (Int.tmod (IntKind.u64.wrap (a0)) 1249)) bt162.1 bt167.1 true)) else (ossuarylaw15_AreaMixed.j0 k a1 a2 a3 (wrap64 (Int.tmod (IntKind.u64.wrap (a0)) 1249)) bt162.1 bt167.1 true))) else (ossuarylaw15_AreaMixed.j0 k a1 a2 a3 (wrap64 (Int.tmod (IntKind.u64.wrap (a0)) 1249)) bt162.1 bt167.1 true))))))) else (some false))
theorem ossuarylaw15_AreaMixed.mono_l : ∀ k, (∀ y0 y1 y2 y3 y4 y5 y6, LeO (ossuarylaw15_AreaMixed.j0 k y0 y1 y2 y3 y4 y5 y6) (ossuarylaw15_AreaMixed.j0 (k + 1) y0 y1 y2 y3 y4 y5 y6)) ∧ (∀ y0 y1 y2 y3 y4 y5 y6 y7 y8, LeO (ossuarylaw15_AreaMixed.l0 k y0 y1 y2 y3 y4 y5 y6 y7 y8) (ossuarylaw15_AreaMixed.l0 (k + 1) y0 y1 y2 y3 y4 y5 y6 y7 y8))
  | 0 => ⟨fun _ _ _ _ _ _ _ r h => by simp [ossuarylaw15_AreaMixed.j0] at h, fun _ _ _ _ _ _ _ _ _ r h => by simp [ossuarylaw15_AreaMixed.l0] at h⟩
  | k + 1 => by
    obtain ⟨ih0, ih1⟩ := ossuarylaw15_AreaMixed.mono_l k
    refine ⟨?_, ?_⟩
    · intro y0 y1 y2 y3 y4 y5 y6
      unfold ossuarylaw15_AreaMixed.j0
      repeat' first
      | (with_reducible exact ih0 _ _ _ _ _ _ _)
      | (with_reducible exact ih1 _ _ _ _ _ _ _ _ _)
      | (with_reducible exact area_Get.mono _ _)
      | (with_reducible exact area_Put.mono _ _ _)
      | (with_reducible exact ossuarylaw15_awake.mono _)
      | (with_reducible exact ossuarylaw15_long.mono _ _ _)
      | (with_reducible exact LeO.refl _)
      | (with_reducible exact LeO.none _)
      | (with_reducible refine LeO.ite ?_ ?_)
      | (with_reducible refine LeO.bind ?_ (fun _ => ?_))
      | exact ih0 _ _ _ _ _ _ _
      | exact ih1 _ _ _ _ _ _ _ _ _
      | exact area_Get.mono _ _
      | exact area_Put.mono _ _ _
      | exact ossuarylaw15_awake.mono _
      | exact ossuarylaw15_long.mono _ _ _
      | exact LeO.none _
      | refine LeO.ite ?_ ?_
      | refine LeO.bind ?_ (fun _ => ?_)
    · intro y0 y1 y2 y3 y4 y5 y6 y7 y8
      unfold ossuarylaw15_AreaMixed.l0
      repeat' first
      | (with_reducible exact ih0 _ _ _ _ _ _ _)
      | (with_reducible exact ih1 _ _ _ _ _ _ _ _ _)
      | (with_reducible exact area_Get.mono _ _)
      | (with_reducible exact area_Put.mono _ _ _)
      | (with_reducible exact ossuarylaw15_awake.mono _)
      | (with_reducible exact ossuarylaw15_long.mono _ _ _)
      | (with_reducible exact LeO.refl _)
      | (with_reducible exact LeO.none _)
      | (with_reducible refine LeO.ite ?_ ?_)
      | (with_reducible refine LeO.bind ?_ (fun _ => ?_))
      | exact ih0 _ _ _ _ _ _ _
      | exact ih1 _ _ _ _ _ _ _ _ _
      | exact area_Get.mono _ _
      | exact area_Put.mono _ _ _
      | exact ossuarylaw15_awake.mono _
      | exact ossuarylaw15_long.mono _ _ _
      | exact LeO.none _
      | refine LeO.ite ?_ ?_
      | refine LeO.bind ?_ (fun _ => ?_)
theorem ossuarylaw15_AreaMixed.mono : ∀ a0 a1 a2 a3 k, LeO (ossuarylaw15_AreaMixed.f k a0 a1 a2 a3) (ossuarylaw15_AreaMixed.f (k + 1) a0 a1 a2 a3) := by
  intro a0 a1 a2 a3 k
  obtain ⟨ih0, ih1⟩ := ossuarylaw15_AreaMixed.mono_l k
  unfold ossuarylaw15_AreaMixed.f
  repeat' first
      | (with_reducible exact ih0 _ _ _ _ _ _ _)
      | (with_reducible exact ih1 _ _ _ _ _ _ _ _ _)
      | (with_reducible exact area_Get.mono _ _)
      | (with_reducible exact area_Put.mono _ _ _)
      | (with_reducible exact ossuarylaw15_awake.mono _)
      | (with_reducible exact ossuarylaw15_long.mono _ _ _)
      | (with_reducible exact LeO.refl _)
      | (with_reducible exact LeO.none _)
      | (with_reducible refine LeO.ite ?_ ?_)
      | (with_reducible refine LeO.bind ?_ (fun _ => ?_))
      | exact ih0 _ _ _ _ _ _ _
      | exact ih1 _ _ _ _ _ _ _ _ _
      | exact area_Get.mono _ _
      | exact area_Put.mono _ _ _
      | exact ossuarylaw15_awake.mono _
      | exact ossuarylaw15_long.mono _ _ _
      | exact LeO.none _
      | refine LeO.ite ?_ ?_
      | refine LeO.bind ?_ (fun _ => ?_)
set_option maxHeartbeats 8000000 in
set_option maxRecDepth 100000 in
theorem ossuarylaw15_AreaMixed.calls (k : Nat) (a0 : Int) (a1 : Int) (a2 : Int) (a3 : Int) (r : Bool) (w : World) (h : ossuarylaw15_AreaMixed.f k a0 a1 a2 a3 = some r) (hr_ : r = true := by rfl) :
    Calls Try.prog 6 #[.int .i64 a0, .int .i64 a1, .int .i64 a2, .int .i64 a3] w fun e w' => e = .returned (.bool r) ∧ Below w.heap.size w w' := by
  have HRT := Aside0.mk hr_
  clear hr_
  have HB := Aside0.mk (Below.refl w.heap.size w)
  have H : ((ossuarylaw15_awake.f k).bind fun t160 => (if t160 = true then ((ossuarylaw15_long.f k (wrap64 (Int.tmod (IntKind.u64.wrap (a0)) 1249)) ((a1) % 256)).bind fun t161 => ((area_Put.f k 4 t161).bind fun bt162 => ((ossuarylaw15_long.f k (wrap64 (Int.tmod (IntKind.u64.wrap (a0)) 1249)) ((a2) % 256)).bind fun t166 => ((area_Put.f k 6 t166).bind fun bt167 => ((ossuarylaw0_Num.f bt162.2).bind fun t171 => (if t171 = 0 then ((ossuarylaw0_Num.f bt167.2).bind fun t172 => (if t172 = 0 then (if (bt162.1.length : Int) = 24 then (ossuarylaw15_AreaMixed.j0 k a1 a2 a3 (wrap64 (Int.tmod (IntKind.u64.wrap (a0)) 1249)) bt162.1 bt167.1 ((bt167.1.length : Int) != 24)) else (ossuarylaw15_AreaMixed.j0 k a1 a2 a3 (wrap64 (Int.tmod (IntKind.u64.wrap (a0)) 1249)) bt162.1 bt167.1 true)) else (ossuarylaw15_AreaMixed.j0 k a1 a2 a3 (wrap64 (Int.tmod (IntKind.u64.wrap (a0)) 1249)) bt162.1 bt167.1 true))) else (ossuarylaw15_AreaMixed.j0 k a1 a2 a3 (wrap64 (Int.tmod (IntKind.u64.wrap (a0)) 1249)) bt162.1 bt167.1 true))))))) else (some false))) = some r := h
  clear h
  replace H := Option.bind_eq_some_iff.mp H
  obtain ⟨t160, A50, H⟩ := H
  replace H : (if t160 = true then ((ossuarylaw15_long.f k (wrap64 (Int.tmod (IntKind.u64.wrap (a0)) 1249)) ((a1) % 256)).bind fun t161 => ((area_Put.f k 4 t161).bind fun bt162 => ((ossuarylaw15_long.f k (wrap64 (Int.tmod (IntKind.u64.wrap (a0)) 1249)) ((a2) % 256)).bind fun t166 => ((area_Put.f k 6 t166).bind fun bt167 => ((ossuarylaw0_Num.f bt162.2).bind fun t171 => (if t171 = 0 then ((ossuarylaw0_Num.f bt167.2).bind fun t172 => (if t172 = 0 then (if (bt162.1.length : Int) = 24 then (ossuarylaw15_AreaMixed.j0 k a1 a2 a3 (wrap64 (Int.tmod (IntKind.u64.wrap (a0)) 1249)) bt162.1 bt167.1 ((bt167.1.length : Int) != 24)) else (ossuarylaw15_AreaMixed.j0 k a1 a2 a3 (wrap64 (Int.tmod (IntKind.u64.wrap (a0)) 1249)) bt162.1 bt167.1 true)) else (ossuarylaw15_AreaMixed.j0 k a1 a2 a3 (wrap64 (Int.tmod (IntKind.u64.wrap (a0)) 1249)) bt162.1 bt167.1 true))) else (ossuarylaw15_AreaMixed.j0 k a1 a2 a3 (wrap64 (Int.tmod (IntKind.u64.wrap (a0)) 1249)) bt162.1 bt167.1 true))))))) else (some false)) = some r := H
  have A5 := Aside0.mk A50
  clear A50
  by_cases c6 : t160 = true
  · subst c6
    have H1 : ((ossuarylaw15_long.f k (wrap64 (Int.tmod (IntKind.u64.wrap (a0)) 1249)) ((a1) % 256)).bind fun t161 => ((area_Put.f k 4 t161).bind fun bt162 => ((ossuarylaw15_long.f k (wrap64 (Int.tmod (IntKind.u64.wrap (a0)) 1249)) ((a2) % 256)).bind fun t166 => ((area_Put.f k 6 t166).bind fun bt167 => ((ossuarylaw0_Num.f bt162.2).bind fun t171 => (if t171 = 0 then ((ossuarylaw0_Num.f bt167.2).bind fun t172 => (if t172 = 0 then (if (bt162.1.length : Int) = 24 then (ossuarylaw15_AreaMixed.j0 k a1 a2 a3 (wrap64 (Int.tmod (IntKind.u64.wrap (a0)) 1249)) bt162.1 bt167.1 ((bt167.1.length : Int) != 24)) else (ossuarylaw15_AreaMixed.j0 k a1 a2 a3 (wrap64 (Int.tmod (IntKind.u64.wrap (a0)) 1249)) bt162.1 bt167.1 true)) else (ossuarylaw15_AreaMixed.j0 k a1 a2 a3 (wrap64 (Int.tmod (IntKind.u64.wrap (a0)) 1249)) bt162.1 bt167.1 true))) else (ossuarylaw15_AreaMixed.j0 k a1 a2 a3 (wrap64 (Int.tmod (IntKind.u64.wrap (a0)) 1249)) bt162.1 bt167.1 true))))))) = some r := by rw [if_pos rfl] at H; exact H
    clear H
    have H := H1
    clear H1
    replace H := Option.bind_eq_some_iff.mp H
    obtain ⟨t161, A70, H⟩ := H
    replace H : ((area_Put.f k 4 t161).bind fun bt162 => ((ossuarylaw15_long.f k (wrap64 (Int.tmod (IntKind.u64.wrap (a0)) 1249)) ((a2) % 256)).bind fun t166 => ((area_Put.f k 6 t166).bind fun bt167 => ((ossuarylaw0_Num.f bt162.2).bind fun t171 => (if t171 = 0 then ((ossuarylaw0_Num.f bt167.2).bind fun t172 => (if t172 = 0 then (if (bt162.1.length : Int) = 24 then (ossuarylaw15_AreaMixed.j0 k a1 a2 a3 (wrap64 (Int.tmod (IntKind.u64.wrap (a0)) 1249)) bt162.1 bt167.1 ((bt167.1.length : Int) != 24)) else (ossuarylaw15_AreaMixed.j0 k a1 a2 a3 (wrap64 (Int.tmod (IntKind.u64.wrap (a0)) 1249)) bt162.1 bt167.1 true)) else (ossuarylaw15_AreaMixed.j0 k a1 a2 a3 (wrap64 (Int.tmod (IntKind.u64.wrap (a0)) 1249)) bt162.1 bt167.1 true))) else (ossuarylaw15_AreaMixed.j0 k a1 a2 a3 (wrap64 (Int.tmod (IntKind.u64.wrap (a0)) 1249)) bt162.1 bt167.1 true)))))) = some r := H
    have A7 := Aside0.mk A70
    clear A70
    replace H := Option.bind_eq_some_iff.mp H
    obtain ⟨⟨t162, t163⟩, A80, H⟩ := H
    replace H : ((ossuarylaw15_long.f k (wrap64 (Int.tmod (IntKind.u64.wrap (a0)) 1249)) ((a2) % 256)).bind fun t166 => ((area_Put.f k 6 t166).bind fun bt167 => ((ossuarylaw0_Num.f t163).bind fun t171 => (if t171 = 0 then ((ossuarylaw0_Num.f bt167.2).bind fun t172 => (if t172 = 0 then (if (t162.length : Int) = 24 then (ossuarylaw15_AreaMixed.j0 k a1 a2 a3 (wrap64 (Int.tmod (IntKind.u64.wrap (a0)) 1249)) t162 bt167.1 ((bt167.1.length : Int) != 24)) else (ossuarylaw15_AreaMixed.j0 k a1 a2 a3 (wrap64 (Int.tmod (IntKind.u64.wrap (a0)) 1249)) t162 bt167.1 true)) else (ossuarylaw15_AreaMixed.j0 k a1 a2 a3 (wrap64 (Int.tmod (IntKind.u64.wrap (a0)) 1249)) t162 bt167.1 true))) else (ossuarylaw15_AreaMixed.j0 k a1 a2 a3 (wrap64 (Int.tmod (IntKind.u64.wrap (a0)) 1249)) t162 bt167.1 true))))) = some r := H
    have A8 := Aside0.mk A80
    clear A80
    replace H := Option.bind_eq_some_iff.mp H
    obtain ⟨t166, A90, H⟩ := H
    replace H : ((area_Put.f k 6 t166).bind fun bt167 => ((ossuarylaw0_Num.f t163).bind fun t171 => (if t171 = 0 then ((ossuarylaw0_Num.f bt167.2).bind fun t172 => (if t172 = 0 then (if (t162.length : Int) = 24 then (ossuarylaw15_AreaMixed.j0 k a1 a2 a3 (wrap64 (Int.tmod (IntKind.u64.wrap (a0)) 1249)) t162 bt167.1 ((bt167.1.length : Int) != 24)) else (ossuarylaw15_AreaMixed.j0 k a1 a2 a3 (wrap64 (Int.tmod (IntKind.u64.wrap (a0)) 1249)) t162 bt167.1 true)) else (ossuarylaw15_AreaMixed.j0 k a1 a2 a3 (wrap64 (Int.tmod (IntKind.u64.wrap (a0)) 1249)) t162 bt167.1 true))) else (ossuarylaw15_AreaMixed.j0 k a1 a2 a3 (wrap64 (Int.tmod (IntKind.u64.wrap (a0)) 1249)) t162 bt167.1 true)))) = some r := H
    have A9 := Aside0.mk A90
    clear A90
    replace H := Option.bind_eq_some_iff.mp H
    obtain ⟨⟨t167, t168⟩, A100, H⟩ := H
    replace H : ((ossuarylaw0_Num.f t163).bind fun t171 => (if t171 = 0 then ((ossuarylaw0_Num.f t168).bind fun t172 => (if t172 = 0 then (if (t162.length : Int) = 24 then (ossuarylaw15_AreaMixed.j0 k a1 a2 a3 (wrap64 (Int.tmod (IntKind.u64.wrap (a0)) 1249)) t162 t167 ((t167.length : Int) != 24)) else (ossuarylaw15_AreaMixed.j0 k a1 a2 a3 (wrap64 (Int.tmod (IntKind.u64.wrap (a0)) 1249)) t162 t167 true)) else (ossuarylaw15_AreaMixed.j0 k a1 a2 a3 (wrap64 (Int.tmod (IntKind.u64.wrap (a0)) 1249)) t162 t167 true))) else (ossuarylaw15_AreaMixed.j0 k a1 a2 a3 (wrap64 (Int.tmod (IntKind.u64.wrap (a0)) 1249)) t162 t167 true))) = some r := H
    have A10 := Aside0.mk A100
    clear A100
    have HC11 := Aside0.mk H
    clear H
    go_enter Try.func6, Try.ntmps6
    go_upto_region 6 with (first | ((with_reducible refine gate_callee (f := 14) rfl ?_); refine goesL_ (some 20) rfl rfl Try.func14 (by kernel_rfl) rfl #[] rfl (by (try simp only [List.map_toArray, List.map_cons, List.map_nil]); first | done | rfl | (simp only [List.length_drop, List.length_take]; rfl)) ?_; (with_reducible refine (ossuarylaw15_awake.calls k  true _ A5.out).mono ?_); rintro e w12 ⟨rfl, hb⟩; refine ⟨_, rfl, ?_⟩; have n0_ := Aside0.mk (below_step (by repeat (first | (with_reducible first | exact HB.out | apply below_alloc | apply pw_below_drewN | apply below_drew1) | exact HB.out)) hb); clear HB; have HB := n0_; clear n0_; (try clear hb); (try clear hb2); (try clear hk); (try clear hi)) | ((with_reducible refine gate_callee (f := 15) rfl ?_); refine goesL_ (some 30) rfl rfl Try.func15 (by kernel_rfl) rfl #[.int .i64 (wrap64 (Int.tmod (IntKind.u64.wrap (a0)) 1249)), .int .u8 ((a1) % 256)] rfl (by (try simp only [List.map_toArray, List.map_cons, List.map_nil]); first | done | rfl | (simp only [List.length_drop, List.length_take]; rfl)) ?_; (with_reducible refine (ossuarylaw15_long.calls k (wrap64 (Int.tmod (IntKind.u64.wrap (a0)) 1249)) ((a1) % 256) t161 _ A7.out).mono ?_); rintro e w13 ⟨rfl, hb⟩; refine ⟨_, rfl, ?_⟩; have n0_ := Aside0.mk (below_step (by repeat (first | (with_reducible first | exact HB.out | apply below_alloc | apply pw_below_drewN | apply below_drew1) | exact HB.out)) hb); clear HB; have HB := n0_; clear n0_; (try clear hb); (try clear hb2); (try clear hk); (try clear hi)) | ((with_reducible refine gate_callee (f := 7) rfl ?_); refine goesL_ (some 31) rfl rfl Try.func7 (by kernel_rfl) rfl #[.int .i64 4, .string t161] rfl (by (try simp only [List.map_toArray, List.map_cons, List.map_nil]); first | done | rfl | (simp only [List.length_drop, List.length_take]; rfl)) ?_; (with_reducible refine (area_Put.calls k 4 t161 t162 t163 _ A8.out).mono ?_); rintro e w14 ⟨v164, rfl, ho0, hb⟩; refine ⟨_, rfl, ?_⟩; have n0_ := Aside0.mk (Kd.R_lower ho0 (below_size (by repeat (first | (with_reducible first | exact HB.out | apply below_alloc | apply pw_below_drewN | apply below_drew1) | exact HB.out)))); have n1_ := Aside0.mk (below_step (by repeat (first | (with_reducible first | exact HB.out | apply below_alloc | apply pw_below_drewN | apply below_drew1) | exact HB.out)) hb); clear HB; have HO165 := n0_; have HB := n1_; clear n0_ n1_; (try clear hb); (try clear hb2); (try clear hk); (try clear hi); (try clear ho0)) | ((with_reducible refine gate_callee (f := 15) rfl ?_); refine goesL_ (some 38) rfl rfl Try.func15 (by kernel_rfl) rfl #[.int .i64 (wrap64 (Int.tmod (IntKind.u64.wrap (a0)) 1249)), .int .u8 ((a2) % 256)] rfl (by (try simp only [List.map_toArray, List.map_cons, List.map_nil]); first | done | rfl | (simp only [List.length_drop, List.length_take]; rfl)) ?_; (with_reducible refine (ossuarylaw15_long.calls k (wrap64 (Int.tmod (IntKind.u64.wrap (a0)) 1249)) ((a2) % 256) t166 _ A9.out).mono ?_); rintro e w15 ⟨rfl, hb⟩; refine ⟨_, rfl, ?_⟩; have n0_ := Aside0.mk (Kd.R_below (by (with_reducible repeat (first | apply Kd.R_alloc | apply Kd.R_drewN | apply Kd.R_drew)); exact HO165.out) hb); have n1_ := Aside0.mk (below_step (by repeat (first | (with_reducible first | exact HB.out | apply below_alloc | apply pw_below_drewN | apply below_drew1) | exact HB.out)) hb); clear HO165; clear HB; have HO165 := n0_; have HB := n1_; clear n0_ n1_; (try clear hb); (try clear hb2); (try clear hk); (try clear hi)) | ((with_reducible refine gate_callee (f := 7) rfl ?_); refine goesL_ (some 39) rfl rfl Try.func7 (by kernel_rfl) rfl #[.int .i64 6, .string t166] rfl (by (try simp only [List.map_toArray, List.map_cons, List.map_nil]); first | done | rfl | (simp only [List.length_drop, List.length_take]; rfl)) ?_; (with_reducible refine (area_Put.calls k 6 t166 t167 t168 _ A10.out).mono ?_); rintro e w16 ⟨v169, rfl, ho0, hb⟩; refine ⟨_, rfl, ?_⟩; have n0_ := Aside0.mk (Kd.R_elder' (by (with_reducible repeat (first | apply Kd.R_alloc | apply Kd.R_drewN | apply Kd.R_drew)); exact HO165.out) (Kd.R_base ho0) hb); have n1_ := Aside0.mk (Kd.R_lower (Kd.R_new' ho0 (Kd.R_lt (by (with_reducible repeat (first | apply Kd.R_alloc | apply Kd.R_drewN | apply Kd.R_drew)); exact HO165.out))) (below_size (by repeat (first | (with_reducible first | exact HB.out | apply below_alloc | apply pw_below_drewN | apply below_drew1) | exact HB.out)))); have n2_ := Aside0.mk (below_step (by repeat (first | (with_reducible first | exact HB.out | apply below_alloc | apply pw_below_drewN | apply below_drew1) | exact HB.out)) hb); clear HO165; clear HB; have HO165 := n0_; have HO170 := n1_; have HB := n2_; clear n0_ n1_ n2_; (try clear hb); (try clear hb2); (try clear hk); (try clear hi); (try clear ho0)))
    (try simp only [Act.put, List.setIfInBounds_toArray, List.set_cons_zero, List.set_cons_succ])
    go_cut [59] (fun v59 wc => ∃ (kq : Nat) (x59_10 : Bool), v59 = .bool x59_10 ∧ Aside0 (ossuarylaw15_AreaMixed.j0 kq a1 a2 a3 (wrap64 (Int.tmod (IntKind.u64.wrap (a0)) 1249)) t162 t167 x59_10 = some r) ∧ Aside0 (kq ≤ k) ∧ Aside0 (Kd.R Kd.string 9 wc w.heap.size (fun k_ => some k_ ≠ (v169 : Value).ownBlock) v164 t162) ∧ Aside0 (Kd.R Kd.string 9 wc w.heap.size (fun k_ => some k_ ≠ (v164 : Value).ownBlock) v169 t167) ∧ Aside0 (Below w.heap.size w wc))
    case first =>
      have H := HC11.out
      clear HC11
      replace H := Option.bind_eq_some_iff.mp H
      obtain ⟨t171, A170, H⟩ := H
      replace H : (if t171 = 0 then ((ossuarylaw0_Num.f t168).bind fun t172 => (if t172 = 0 then (if (t162.length : Int) = 24 then (ossuarylaw15_AreaMixed.j0 k a1 a2 a3 (wrap64 (Int.tmod (IntKind.u64.wrap (a0)) 1249)) t162 t167 ((t167.length : Int) != 24)) else (ossuarylaw15_AreaMixed.j0 k a1 a2 a3 (wrap64 (Int.tmod (IntKind.u64.wrap (a0)) 1249)) t162 t167 true)) else (ossuarylaw15_AreaMixed.j0 k a1 a2 a3 (wrap64 (Int.tmod (IntKind.u64.wrap (a0)) 1249)) t162 t167 true))) else (ossuarylaw15_AreaMixed.j0 k a1 a2 a3 (wrap64 (Int.tmod (IntKind.u64.wrap (a0)) 1249)) t162 t167 true)) = some r := H
      have A17 := Aside0.mk A170
      clear A170
      by_cases c18 : t171 = 0
      · rw [if_pos c18] at H
        have c18b0 : (t171 == 0) = true := beq_iff_eq.mpr c18
        have c18b1 : (t171 != 0) = false := bne_eq_false_iff_eq.mpr c18
        clear c18
        (first | rw [c18b0] | (simp only [i64_w, i32_w]; rw [c18b0]) | skip)
        replace H := Option.bind_eq_some_iff.mp H
        obtain ⟨t172, A190, H⟩ := H
        replace H : (if t172 = 0 then (if (t162.length : Int) = 24 then (ossuarylaw15_AreaMixed.j0 k a1 a2 a3 (wrap64 (Int.tmod (IntKind.u64.wrap (a0)) 1249)) t162 t167 ((t167.length : Int) != 24)) else (ossuarylaw15_AreaMixed.j0 k a1 a2 a3 (wrap64 (Int.tmod (IntKind.u64.wrap (a0)) 1249)) t162 t167 true)) else (ossuarylaw15_AreaMixed.j0 k a1 a2 a3 (wrap64 (Int.tmod (IntKind.u64.wrap (a0)) 1249)) t162 t167 true)) = some r := H
        have A19 := Aside0.mk A190
        clear A190
        by_cases c20 : t172 = 0
        · rw [if_pos c20] at H
          have c20b0 : (t172 == 0) = true := beq_iff_eq.mpr c20
          have c20b1 : (t172 != 0) = false := bne_eq_false_iff_eq.mpr c20
          clear c20
          by_cases c21 : (t162.length : Int) = 24
          · rw [if_pos c21] at H
            have c21b0 : ((t162.length : Int) == 24) = true := beq_iff_eq.mpr c21
            have c21b1 : ((t162.length : Int) != 24) = false := bne_eq_false_iff_eq.mpr c21
            clear c21
            have H' := Aside0.mk H
            clear H
            go_wp2_with (first | ((with_reducible refine gate_callee (f := 12) rfl ?_); refine goesL_ (some 43) rfl rfl Try.func12 (by kernel_rfl) rfl #[.int .i64 t163] rfl (by (try simp only [List.map_toArray, List.map_cons, List.map_nil]); first | done | rfl | (simp only [List.length_drop, List.length_take]; rfl)) ?_; (with_reducible refine (ossuarylaw0_Num.calls t163 t171 _ A17.out).mono ?_); rintro e w' ⟨rfl, ⟨nd, rfl⟩⟩; refine ⟨_, rfl, ?_⟩) | (go_at_call 12; (with_reducible refine (ossuarylaw0_Num.calls t168 t172 _ A19.out).mono ?_); rintro e w' ⟨rfl, ⟨nd, rfl⟩⟩; obtain ⟨Ao22, co22, eo22⟩ := Kd.R_slice HO165.out; subst eo22; obtain ⟨Ao23, co23, eo23⟩ := Kd.R_slice HO170.out; subst eo23))
            go_meet
            case rel => exact ⟨_, (((t167.length : Int) != 24)), (by first | rfl | (simp; done) | (simp [*]; done)), H', ⟨by first | omega | exact Nat.le_refl _⟩, ⟨by (with_reducible repeat (first | apply Kd.R_alloc | apply Kd.R_drewN | apply Kd.R_drew)); exact Kd.R_mono HO165.out (fun _ hk => hk.2)⟩, ⟨by (with_reducible repeat (first | apply Kd.R_alloc | apply Kd.R_drewN | apply Kd.R_drew)); exact Kd.R_mono HO170.out (fun _ hk => hk.2)⟩, ⟨by repeat (first | (with_reducible first | exact HB.out | apply below_alloc | apply pw_below_drewN | apply below_drew1) | exact HB.out)⟩⟩
          · rw [if_neg c21] at H
            have c21b0 : ((t162.length : Int) == 24) = false := beq_eq_false_iff_ne.mpr c21
            have c21b1 : ((t162.length : Int) != 24) = true := bne_iff_ne.mpr c21
            have H' := Aside0.mk H
            clear H
            go_wp2_with (first | ((with_reducible refine gate_callee (f := 12) rfl ?_); refine goesL_ (some 43) rfl rfl Try.func12 (by kernel_rfl) rfl #[.int .i64 t163] rfl (by (try simp only [List.map_toArray, List.map_cons, List.map_nil]); first | done | rfl | (simp only [List.length_drop, List.length_take]; rfl)) ?_; (with_reducible refine (ossuarylaw0_Num.calls t163 t171 _ A17.out).mono ?_); rintro e w' ⟨rfl, ⟨nd, rfl⟩⟩; refine ⟨_, rfl, ?_⟩) | (go_at_call 12; (with_reducible refine (ossuarylaw0_Num.calls t168 t172 _ A19.out).mono ?_); rintro e w' ⟨rfl, ⟨nd, rfl⟩⟩; obtain ⟨Ao24, co24, eo24⟩ := Kd.R_slice HO165.out; subst eo24))
            go_meet
            case rel => exact ⟨_, (true), (by first | rfl | (simp; done) | (simp [*]; done)), H', ⟨by first | omega | exact Nat.le_refl _⟩, ⟨by (with_reducible repeat (first | apply Kd.R_alloc | apply Kd.R_drewN | apply Kd.R_drew)); exact Kd.R_mono HO165.out (fun _ hk => hk.2)⟩, ⟨by (with_reducible repeat (first | apply Kd.R_alloc | apply Kd.R_drewN | apply Kd.R_drew)); exact Kd.R_mono HO170.out (fun _ hk => hk.2)⟩, ⟨by repeat (first | (with_reducible first | exact HB.out | apply below_alloc | apply pw_below_drewN | apply below_drew1) | exact HB.out)⟩⟩
        · rw [if_neg c20] at H
          have c20b0 : (t172 == 0) = false := beq_eq_false_iff_ne.mpr c20
          have c20b1 : (t172 != 0) = true := bne_iff_ne.mpr c20
          have H' := Aside0.mk H
          clear H
          go_wp2_with (first | ((with_reducible refine gate_callee (f := 12) rfl ?_); refine goesL_ (some 43) rfl rfl Try.func12 (by kernel_rfl) rfl #[.int .i64 t163] rfl (by (try simp only [List.map_toArray, List.map_cons, List.map_nil]); first | done | rfl | (simp only [List.length_drop, List.length_take]; rfl)) ?_; (with_reducible refine (ossuarylaw0_Num.calls t163 t171 _ A17.out).mono ?_); rintro e w' ⟨rfl, ⟨nd, rfl⟩⟩; refine ⟨_, rfl, ?_⟩) | (go_at_call 12; (with_reducible refine (ossuarylaw0_Num.calls t168 t172 _ A19.out).mono ?_); rintro e w' ⟨rfl, ⟨nd, rfl⟩⟩))
          go_meet
          case rel => exact ⟨_, (true), (by first | rfl | (simp; done) | (simp [*]; done)), H', ⟨by first | omega | exact Nat.le_refl _⟩, ⟨by (with_reducible repeat (first | apply Kd.R_alloc | apply Kd.R_drewN | apply Kd.R_drew)); exact Kd.R_mono HO165.out (fun _ hk => hk.2)⟩, ⟨by (with_reducible repeat (first | apply Kd.R_alloc | apply Kd.R_drewN | apply Kd.R_drew)); exact Kd.R_mono HO170.out (fun _ hk => hk.2)⟩, ⟨by repeat (first | (with_reducible first | exact HB.out | apply below_alloc | apply pw_below_drewN | apply below_drew1) | exact HB.out)⟩⟩
      · rw [if_neg c18] at H
        have c18b0 : (t171 == 0) = false := beq_eq_false_iff_ne.mpr c18
        have c18b1 : (t171 != 0) = true := bne_iff_ne.mpr c18
        (first | rw [c18b0] | (simp only [i64_w, i32_w]; rw [c18b0]) | skip)
        have H' := Aside0.mk H
        clear H
        go_wp2_with (first | ((with_reducible refine gate_callee (f := 12) rfl ?_); refine goesL_ (some 43) rfl rfl Try.func12 (by kernel_rfl) rfl #[.int .i64 t163] rfl (by (try simp only [List.map_toArray, List.map_cons, List.map_nil]); first | done | rfl | (simp only [List.length_drop, List.length_take]; rfl)) ?_; (with_reducible refine (ossuarylaw0_Num.calls t163 t171 _ A17.out).mono ?_); rintro e w' ⟨rfl, ⟨nd, rfl⟩⟩; refine ⟨_, rfl, ?_⟩))
        go_meet
        case rel => exact ⟨_, (true), (by first | rfl | (simp; done) | (simp [*]; done)), H', ⟨by first | omega | exact Nat.le_refl _⟩, ⟨by (with_reducible repeat (first | apply Kd.R_alloc | apply Kd.R_drewN | apply Kd.R_drew)); exact Kd.R_mono HO165.out (fun _ hk => hk.2)⟩, ⟨by (with_reducible repeat (first | apply Kd.R_alloc | apply Kd.R_drewN | apply Kd.R_drew)); exact Kd.R_mono HO170.out (fun _ hk => hk.2)⟩, ⟨by repeat (first | (with_reducible first | exact HB.out | apply below_alloc | apply pw_below_drewN | apply below_drew1) | exact HB.out)⟩⟩
    case rest =>
      clear HC11
      try clear c1
      try clear c2
      try clear p2
      try clear c6
      try clear p6
      try clear c7
      try clear c12
      try clear c14
      try clear c15
      try clear c18
      try clear c18b0
      try clear c18b1
      try clear c20
      try clear c20b0
      try clear c20b1
      try clear c21
      try clear c21b0
      try clear c21b1
      obtain ⟨kq, x59_10, rfl, HA, HJ10, HO_10, HO_12, HB⟩ := hcut
      cases kq with
      | zero => exact absurd HA.out (by simp [ossuarylaw15_AreaMixed.j0])
      | succ kj10 =>
        have H := HA.out
        clear HA
        simp only [ossuarylaw15_AreaMixed.j0] at H
        by_cases c25 : x59_10 = true
        · subst c25
          have H1 : (some false) = some r := by rw [if_pos rfl] at H; exact H
          clear H
          have H := H1
          clear H1
          exact absurd (Option.some.inj H) (by rw [HRT.out]; decide)
        · replace c25 := Bool.eq_false_iff.mpr c25
          subst c25
          have H1 : (ossuarylaw15_AreaMixed.l0 kj10 a1 a2 a3 (wrap64 (Int.tmod (IntKind.u64.wrap (a0)) 1249)) t162 t167 ([] : List ByteArray) 0 0) = some r := by rw [if_neg (show ¬ (false = true) by decide)] at H; exact H
          clear H
          have H := H1
          clear H1
          have H' := Aside0.mk H
          clear H
          go_wp2
          go_loopg [14, 15, 16] kj10 (fun kq v14 v15 v16 w' => ∃ (x14_2 : List ByteArray) (x15_2 : Int) (x16_2 : Int), v15 = .int .i64 x15_2 ∧ v16 = .int .i64 x16_2 ∧ Aside0 (ossuarylaw15_AreaMixed.l0 kq a1 a2 a3 (wrap64 (Int.tmod (IntKind.u64.wrap (a0)) 1249)) t162 t167 x14_2 x15_2 x16_2 = some r) ∧ Aside0 (kq ≤ kj10) ∧ Aside0 (Kd.R Kd.string 9 w' w.heap.size (fun k_ => some k_ ≠ (v169 : Value).ownBlock ∧ some k_ ≠ (v14 : Value).ownBlock) v164 t162) ∧ Aside0 (Kd.R Kd.string 9 w' w.heap.size (fun k_ => some k_ ≠ (v164 : Value).ownBlock ∧ some k_ ≠ (v14 : Value).ownBlock) v169 t167) ∧ Aside0 (Kd.R Kd.string 9 w' w.heap.size (fun k_ => some k_ ≠ (v164 : Value).ownBlock ∧ some k_ ≠ (v169 : Value).ownBlock) v14 x14_2) ∧ Aside0 (Below w.heap.size w w'))
          case atStart => exact ⟨(([] : List ByteArray)), (0), (0), (by first | rfl | (simp; done) | (simp [*]; done)), (by first | rfl | (simp; done) | (simp [*]; done)), H', ⟨Nat.le_refl _⟩, ⟨by (with_reducible repeat (first | apply Kd.R_alloc | apply Kd.R_drewN | apply Kd.R_drew)); exact Kd.R_mono HO_10.out (fun _ hk => ⟨hk, (by simp [Value.ownBlock])⟩)⟩, ⟨by (with_reducible repeat (first | apply Kd.R_alloc | apply Kd.R_drewN | apply Kd.R_drew)); exact Kd.R_mono HO_12.out (fun _ hk => ⟨hk, (by simp [Value.ownBlock])⟩)⟩, ⟨by first | exact Kd.R_nil _ _ _ _ _ | exact Kd.N_nil _ _ _ _ _ | exact Kd.V_nil _ _ _ _ _ | exact Kd.Q_nil _ _ _ _ _ | exact Kd.S_nil _ _ _ _ _⟩, ⟨by repeat (first | (with_reducible first | exact HB.out | apply below_alloc | apply pw_below_drewN | apply below_drew1) | exact HB.out)⟩⟩
          case round =>
            clear H'
            try clear c1
            try clear c2
            try clear p2
            try clear c6
            try clear p6
            try clear c7
            try clear c12
            try clear c14
            try clear c15
            try clear c18
            try clear c18b0
            try clear c18b1
            try clear c20
            try clear c20b0
            try clear c20b1
            try clear c21
            try clear c21b0
            try clear c21b1
            try clear c25
            try clear p2
            try clear p6
            obtain ⟨x14_2, x15_2, x16_2, rfl, rfl, HA, HK2, HO_10, HO_12, HO_14, HB⟩ := hrel
            cases gk with
            | zero => exact absurd HA.out (by simp [ossuarylaw15_AreaMixed.l0])
            | succ k2 =>
              have H := HA.out
              clear HA
              simp only [ossuarylaw15_AreaMixed.l0] at H
              by_cases c26 : x16_2 < 24
              · rw [if_pos c26] at H
                have c26b0 : decide (x16_2 < 24) = true := decide_eq_true c26
                clear c26
                by_cases c27 : 0 ≤ x16_2
                · rw [if_pos c27] at H
                  have c27b0 := eq_true c27
                  have c27b1 : decide (0 ≤ x16_2) = true := decide_eq_true c27
                  clear c27
                  obtain ⟨ji28, hji28⟩ : ∃ j_ : Int, (shr .i64 a3 x16_2) = j_ := ⟨_, rfl⟩
                  replace H : (if (Go.bits .and .i64 (ji28) 1) = 1 then (if x16_2 < (t162.length : Int) then (if x14_2.length < 8796093022208 then (ossuarylaw15_AreaMixed.l0 k2 a1 a2 a3 (wrap64 (Int.tmod (IntKind.u64.wrap (a0)) 1249)) t162 t167 (x14_2 ++ [rdOf ByteArray.empty t162 x16_2]) (wrap64 (x15_2 + 1)) (wrap64 (x16_2 + 1))) else (none)) else (none)) else (if x16_2 < (t167.length : Int) then (if x14_2.length < 8796093022208 then (ossuarylaw15_AreaMixed.l0 k2 a1 a2 a3 (wrap64 (Int.tmod (IntKind.u64.wrap (a0)) 1249)) t162 t167 (x14_2 ++ [rdOf ByteArray.empty t167 x16_2]) x15_2 (wrap64 (x16_2 + 1))) else (none)) else (none))) = some r := by first | (rw [hji28] at H; exact H) | (simp only [hji28] at H ⊢; exact H)
                  have hji28_ : (a3 / 2 ^ min x16_2.toNat 64) = ji28 := hji28
                  have hji28z : x16_2 ≤ 64 → (a3 / 2 ^ x16_2.toNat) = ji28 := shr_small hji28
                  by_cases c29 : (Go.bits .and .i64 (ji28) 1) = 1
                  · rw [if_pos c29] at H
                    have c29b0 : ((Go.bits .and .i64 (ji28) 1) == 1) = true := beq_iff_eq.mpr c29
                    have c29b1 : ((Go.bits .and .i64 (ji28) 1) != 1) = false := bne_eq_false_iff_eq.mpr c29
                    clear c29
                    by_cases c30 : x16_2 < (t162.length : Int)
                    · rw [if_pos c30] at H
                      have c30b0 : decide (x16_2 < (t162.length : Int)) = true := decide_eq_true c30
                      clear c30
                      by_cases c31 : x14_2.length < 8796093022208
                      · rw [if_pos c31] at H
                        have LMc31 := Aside0.mk c31
                        clear c31
                        obtain ⟨y174, hy174⟩ : ∃ y_ : List ByteArray, y_ = (x14_2 ++ [rdOf ByteArray.empty t162 x16_2]) := ⟨_, rfl⟩
                        replace H : (ossuarylaw15_AreaMixed.l0 k2 a1 a2 a3 (wrap64 (Int.tmod (IntKind.u64.wrap (a0)) 1249)) t162 t167 y174 (wrap64 (x15_2 + 1)) (wrap64 (x16_2 + 1))) = some r := by first | (rw [hy174]; with_reducible exact H) | (have H2_ := (Option.bind_some _ _).symm.trans H; rw [hy174]; with_reducible exact H2_) | (have H2_ := (Option.bind_some _ _).symm.trans H; with_reducible exact H2_) | with_reducible exact H | (rw [hy174]; exact H) | exact H
                        have Ny174 := Aside0.mk hy174
                        clear hy174
                        have H' := Aside0.mk H
                        clear H
                        obtain ⟨Ao32, co32, eo32⟩ := Kd.R_slice HO_10.out
                        subst eo32
                        have p173 : 0 ≤ (x16_2 : Int) := of_decide_eq_true (by first | (with_reducible assumption) | assumption)
                        have q173 : x16_2 < (t162.length : Int) := of_decide_eq_true (by first | (with_reducible assumption) | assumption)
                        obtain ⟨ad173, e173, hx173_0⟩ := Kd.at_string (Kd.R_reads' HO_10.out).2.2 x16_2 p173 q173
                        cases e173
                        replace p173 := eq_true p173
                        replace q173 := eq_true q173
                        go_wp2_with (first | ((with_reducible refine gate_builtin (b := .append) (xs := #[.tmp 69, .tmp 74]) rfl ?_); (try (refine gate_guard (by rfl) ?_; dsimp only)); at_builtin; refine Kd.R_append Kd.string (w0 := w) w.heap.size rfl (.tmp 69) (.tmp 74) 22 9 (.string ⟨#[]⟩) 16 rfl Try.underlying22 info9 rfl (by decide) (by omega) u14 x14_2 (rdOf ByteArray.empty t162 x16_2) [.string (rdOf ByteArray.empty t162 x16_2)] (fun k_ => some k_ ≠ (.slice (some ad173) t162.length co32 : Value).ownBlock ∧ some k_ ≠ (v169 : Value).ownBlock) (fun _ => False) rfl rfl ?aP (fun _ hk => hk.elim) ?aF ?aO ?aB ?aS ?aL ?_; (case aP => exact rfl); (case aB => exact (by repeat (first | (with_reducible first | exact HB.out | apply below_alloc | apply pw_below_drewN | apply below_drew1) | exact HB.out))); (case aF => exact (fun k_ hk => ⟨Kd.fresh' (Kd.R_lt (by (with_reducible repeat (first | apply Kd.R_alloc | apply Kd.R_drewN | apply Kd.R_drew)); exact HO_10.out)) k_ hk, Kd.fresh' (Kd.R_lt (by (with_reducible repeat (first | apply Kd.R_alloc | apply Kd.R_drewN | apply Kd.R_drew)); exact HO_12.out)) k_ hk⟩)); (case aO => exact (by (with_reducible repeat (first | apply Kd.R_alloc | apply Kd.R_drewN | apply Kd.R_drew)); exact HO_14.out)); (case aS => exact (below_size (by repeat (first | (with_reducible first | exact HB.out | apply below_alloc | apply pw_below_drewN | apply below_drew1) | exact HB.out)))); (case aL => have := LMc31.out; omega); intro v175 w33 ho hb hg hat; rw [← Ny174.out] at ho; have n0_ := Aside0.mk (Kd.R_after (ok := (fun k_ => some k_ ≠ (v169 : Value).ownBlock)) (by (with_reducible repeat (first | apply Kd.R_alloc | apply Kd.R_drewN | apply Kd.R_drew)); exact HO_10.out) hg hat); have n1_ := Aside0.mk (Kd.R_after (ok := (fun k_ => some k_ ≠ (.slice (some ad173) t162.length co32 : Value).ownBlock)) (by (with_reducible repeat (first | apply Kd.R_alloc | apply Kd.R_drewN | apply Kd.R_drew)); exact HO_12.out) hg hat); have n2_ := Aside0.mk (hb); have n3_ := Aside0.mk (ho); clear HO_10; clear HO_12; clear HB; clear HO_14; have HO_10 := n0_; have HO_12 := n1_; have HB := n2_; have HO176 := n3_; clear n0_ n1_ n2_ n3_; clear ho hb hg hat))
                        (first | go_roundg k2 | (simp only [← hji28]; go_roundg k2))
                        case measure => have := HJ10.out; have := HK2.out; omega
                        case rel => exact ⟨(y174), (wrap64 (x15_2 + 1)), (wrap64 (x16_2 + 1)), (by first | rfl | (simp; done) | (simp [*]; done)), (by first | rfl | (simp; done) | (simp [*]; done)), (by first | exact H' | (have h_ := H'; simp only [← hji28] at h_ ⊢; exact h_)), ⟨by have := HJ10.out; have := HK2.out; omega⟩, ⟨by (with_reducible repeat (first | apply Kd.R_alloc | apply Kd.R_drewN | apply Kd.R_drew)); exact HO_10.out⟩, ⟨by (with_reducible repeat (first | apply Kd.R_alloc | apply Kd.R_drewN | apply Kd.R_drew)); exact HO_12.out⟩, ⟨by (with_reducible repeat (first | apply Kd.R_alloc | apply Kd.R_drewN | apply Kd.R_drew)); exact HO176.out⟩, ⟨by repeat (first | (with_reducible first | exact HB.out | apply below_alloc | apply pw_below_drewN | apply below_drew1) | exact HB.out)⟩⟩
                      · rw [if_neg c31] at H
                        exact absurd H (by simp)
                    · rw [if_neg c30] at H
                      exact absurd H (by simp)
                  · rw [if_neg c29] at H
                    have c29b0 : ((Go.bits .and .i64 (ji28) 1) == 1) = false := beq_eq_false_iff_ne.mpr c29
                    have c29b1 : ((Go.bits .and .i64 (ji28) 1) != 1) = true := bne_iff_ne.mpr c29
                    by_cases c34 : x16_2 < (t167.length : Int)
                    · rw [if_pos c34] at H
                      have c34b0 : decide (x16_2 < (t167.length : Int)) = true := decide_eq_true c34
                      clear c34
                      by_cases c35 : x14_2.length < 8796093022208
                      · rw [if_pos c35] at H
                        have LMc35 := Aside0.mk c35
                        clear c35
                        obtain ⟨y178, hy178⟩ : ∃ y_ : List ByteArray, y_ = (x14_2 ++ [rdOf ByteArray.empty t167 x16_2]) := ⟨_, rfl⟩
                        replace H : (ossuarylaw15_AreaMixed.l0 k2 a1 a2 a3 (wrap64 (Int.tmod (IntKind.u64.wrap (a0)) 1249)) t162 t167 y178 x15_2 (wrap64 (x16_2 + 1))) = some r := by first | (rw [hy178]; with_reducible exact H) | (have H2_ := (Option.bind_some _ _).symm.trans H; rw [hy178]; with_reducible exact H2_) | (have H2_ := (Option.bind_some _ _).symm.trans H; with_reducible exact H2_) | with_reducible exact H | (rw [hy178]; exact H) | exact H
                        have Ny178 := Aside0.mk hy178
                        clear hy178
                        have H' := Aside0.mk H
                        clear H
                        obtain ⟨Ao36, co36, eo36⟩ := Kd.R_slice HO_12.out
                        subst eo36
                        have p177 : 0 ≤ (x16_2 : Int) := of_decide_eq_true (by first | (with_reducible assumption) | assumption)
                        have q177 : x16_2 < (t167.length : Int) := of_decide_eq_true (by first | (with_reducible assumption) | assumption)
                        obtain ⟨ad177, e177, hx177_0⟩ := Kd.at_string (Kd.R_reads' HO_12.out).2.2 x16_2 p177 q177
                        cases e177
                        replace p177 := eq_true p177
                        replace q177 := eq_true q177
                        go_wp2_with (first | ((with_reducible refine gate_builtin (b := .append) (xs := #[.tmp 78, .tmp 83]) rfl ?_); (try (refine gate_guard (by rfl) ?_; dsimp only)); at_builtin; refine Kd.R_append Kd.string (w0 := w) w.heap.size rfl (.tmp 78) (.tmp 83) 22 9 (.string ⟨#[]⟩) 16 rfl Try.underlying22 info9 rfl (by decide) (by omega) u14 x14_2 (rdOf ByteArray.empty t167 x16_2) [.string (rdOf ByteArray.empty t167 x16_2)] (fun k_ => some k_ ≠ (v164 : Value).ownBlock ∧ some k_ ≠ (.slice (some ad177) t167.length co36 : Value).ownBlock) (fun _ => False) rfl rfl ?aP (fun _ hk => hk.elim) ?aF ?aO ?aB ?aS ?aL ?_; (case aP => exact rfl); (case aB => exact (by repeat (first | (with_reducible first | exact HB.out | apply below_alloc | apply pw_below_drewN | apply below_drew1) | exact HB.out))); (case aF => exact (fun k_ hk => ⟨Kd.fresh' (Kd.R_lt (by (with_reducible repeat (first | apply Kd.R_alloc | apply Kd.R_drewN | apply Kd.R_drew)); exact HO_10.out)) k_ hk, Kd.fresh' (Kd.R_lt (by (with_reducible repeat (first | apply Kd.R_alloc | apply Kd.R_drewN | apply Kd.R_drew)); exact HO_12.out)) k_ hk⟩)); (case aO => exact (by (with_reducible repeat (first | apply Kd.R_alloc | apply Kd.R_drewN | apply Kd.R_drew)); exact HO_14.out)); (case aS => exact (below_size (by repeat (first | (with_reducible first | exact HB.out | apply below_alloc | apply pw_below_drewN | apply below_drew1) | exact HB.out)))); (case aL => have := LMc35.out; omega); intro v179 w37 ho hb hg hat; rw [← Ny178.out] at ho; have n0_ := Aside0.mk (Kd.R_after (ok := (fun k_ => some k_ ≠ (.slice (some ad177) t167.length co36 : Value).ownBlock)) (by (with_reducible repeat (first | apply Kd.R_alloc | apply Kd.R_drewN | apply Kd.R_drew)); exact HO_10.out) hg hat); have n1_ := Aside0.mk (Kd.R_after (ok := (fun k_ => some k_ ≠ (v164 : Value).ownBlock)) (by (with_reducible repeat (first | apply Kd.R_alloc | apply Kd.R_drewN | apply Kd.R_drew)); exact HO_12.out) hg hat); have n2_ := Aside0.mk (hb); have n3_ := Aside0.mk (ho); clear HO_10; clear HO_12; clear HB; clear HO_14; have HO_10 := n0_; have HO_12 := n1_; have HB := n2_; have HO180 := n3_; clear n0_ n1_ n2_ n3_; clear ho hb hg hat))
                        (first | go_roundg k2 | (simp only [← hji28]; go_roundg k2))
                        case measure => have := HJ10.out; have := HK2.out; omega
                        case rel => exact ⟨(y178), (x15_2), (wrap64 (x16_2 + 1)), (by first | rfl | (simp; done) | (simp [*]; done)), (by first | rfl | (simp; done) | (simp [*]; done)), (by first | exact H' | (have h_ := H'; simp only [← hji28] at h_ ⊢; exact h_)), ⟨by have := HJ10.out; have := HK2.out; omega⟩, ⟨by (with_reducible repeat (first | apply Kd.R_alloc | apply Kd.R_drewN | apply Kd.R_drew)); exact HO_10.out⟩, ⟨by (with_reducible repeat (first | apply Kd.R_alloc | apply Kd.R_drewN | apply Kd.R_drew)); exact HO_12.out⟩, ⟨by (with_reducible repeat (first | apply Kd.R_alloc | apply Kd.R_drewN | apply Kd.R_drew)); exact HO180.out⟩, ⟨by repeat (first | (with_reducible first | exact HB.out | apply below_alloc | apply pw_below_drewN | apply below_drew1) | exact HB.out)⟩⟩
                      · rw [if_neg c35] at H
                        exact absurd H (by simp)
                    · rw [if_neg c34] at H
                      exact absurd H (by simp)
                · rw [if_neg c27] at H
                  exact absurd H (by simp)
              · rw [if_neg c26] at H
                have c26b0 : decide (x16_2 < 24) = false := decide_eq_false c26
                clear c26
                replace H := Option.bind_eq_some_iff.mp H
                obtain ⟨⟨t181, t182, t183⟩, A380, H⟩ := H
                replace H : (if x15_2 = 0 then ((ossuarylaw0_Num.f t183).bind fun t184 => (if t184 = 0 then (if t181 = 6 then ((ossuarylaw15_long.f k2 (wrap64 (Int.tmod (IntKind.u64.wrap (a0)) 1249)) ((a2) % 256)).bind fun t185 => (some (t182.toList == t185.toList))) else (some false)) else (some false))) else (if x15_2 = 24 then ((ossuarylaw0_Num.f t183).bind fun t186 => (if t186 = 0 then (if t181 = 4 then ((ossuarylaw15_long.f k2 (wrap64 (Int.tmod (IntKind.u64.wrap (a0)) 1249)) ((a1) % 256)).bind fun t187 => (some (t182.toList == t187.toList))) else (some false)) else (some false))) else ((ossuarylaw0_Num.f t183).bind fun t188 => (if t188 = 1500 then (if t181 = 0 then (some (t182.toList == ([] : List UInt8))) else (some false)) else (some false))))) = some r := H
                have A38 := Aside0.mk A380
                clear A380
                by_cases c39 : x15_2 = 0
                · rw [if_pos c39] at H
                  have c39b0 : (x15_2 == 0) = true := beq_iff_eq.mpr c39
                  have c39b1 : (x15_2 != 0) = false := bne_eq_false_iff_eq.mpr c39
                  clear c39
                  replace H := Option.bind_eq_some_iff.mp H
                  obtain ⟨t184, A400, H⟩ := H
                  replace H : (if t184 = 0 then (if t181 = 6 then ((ossuarylaw15_long.f k2 (wrap64 (Int.tmod (IntKind.u64.wrap (a0)) 1249)) ((a2) % 256)).bind fun t185 => (some (t182.toList == t185.toList))) else (some false)) else (some false)) = some r := H
                  have A40 := Aside0.mk A400
                  clear A400
                  by_cases c41 : t184 = 0
                  · rw [if_pos c41] at H
                    have c41b0 : (t184 == 0) = true := beq_iff_eq.mpr c41
                    have c41b1 : (t184 != 0) = false := bne_eq_false_iff_eq.mpr c41
                    clear c41
                    by_cases c42 : t181 = 6
                    · rw [if_pos c42] at H
                      have c42b0 : (t181 == 6) = true := beq_iff_eq.mpr c42
                      have c42b1 : (t181 != 6) = false := bne_eq_false_iff_eq.mpr c42
                      clear c42
                      replace H := Option.bind_eq_some_iff.mp H
                      obtain ⟨t185, A430, H⟩ := H
                      replace H : (some (t182.toList == t185.toList)) = some r := H
                      have A43 := Aside0.mk A430
                      clear A430
                      obtain rfl := Option.some.inj H
                      obtain ⟨Ao44, co44, eo44⟩ := Kd.R_slice HO_14.out
                      subst eo44
                      go_wp2_with (first | ((with_reducible refine gate_callee (f := 9) rfl ?_); refine goesL_ (some 87) rfl rfl Try.func9 (by kernel_rfl) rfl #[.slice Ao44 x14_2.length co44] rfl (by (try simp only [List.map_toArray, List.map_cons, List.map_nil]); first | done | rfl | (simp only [List.length_drop, List.length_take]; rfl)) ?_; (with_reducible refine (area_Get.calls k2 _ _ x14_2 t181 t182 t183 _ ?side1 ?side2 A38.out).mono ?_); (case side1 => repeat (first | exact (Kd.R_reads' HO_14.out).2.2 | (with_reducible refine Kd.C_alloc ?_ _) | (with_reducible refine Kd.C_drewN ?_ _) | (with_reducible refine Kd.C_drew ?_))); (case side2 => exact (Kd.R_reads' HO_14.out).2.1); rintro e w45 ⟨rfl, hb⟩; refine ⟨_, rfl, ?_⟩; have n0_ := Aside0.mk (Kd.R_below (by (with_reducible repeat (first | apply Kd.R_alloc | apply Kd.R_drewN | apply Kd.R_drew)); exact HO_10.out) hb); have n1_ := Aside0.mk (Kd.R_below (by (with_reducible repeat (first | apply Kd.R_alloc | apply Kd.R_drewN | apply Kd.R_drew)); exact HO_12.out) hb); have n2_ := Aside0.mk (Kd.R_below (by (with_reducible repeat (first | apply Kd.R_alloc | apply Kd.R_drewN | apply Kd.R_drew)); exact HO_14.out) hb); have n3_ := Aside0.mk (below_step (by repeat (first | (with_reducible first | exact HB.out | apply below_alloc | apply pw_below_drewN | apply below_drew1) | exact HB.out)) hb); clear HO_10; clear HO_12; clear HO_14; clear HB; have HO_10 := n0_; have HO_12 := n1_; have HO_14 := n2_; have HB := n3_; clear n0_ n1_ n2_ n3_; (try clear hb); (try clear hb2); (try clear hk); (try clear hi)) | ((with_reducible refine gate_callee (f := 12) rfl ?_); refine goesL_ (some 95) rfl rfl Try.func12 (by kernel_rfl) rfl #[.int .i64 t183] rfl (by (try simp only [List.map_toArray, List.map_cons, List.map_nil]); first | done | rfl | (simp only [List.length_drop, List.length_take]; rfl)) ?_; (with_reducible refine (ossuarylaw0_Num.calls t183 t184 _ A40.out).mono ?_); rintro e w' ⟨rfl, ⟨nd, rfl⟩⟩; refine ⟨_, rfl, ?_⟩) | (go_at_call 15; (with_reducible refine (ossuarylaw15_long.calls k2 (wrap64 (Int.tmod (IntKind.u64.wrap (a0)) 1249)) ((a2) % 256) t185 _ A43.out).mono ?_); rintro e w46 ⟨rfl, hb⟩; have n0_ := Aside0.mk (Kd.R_below (by (with_reducible repeat (first | apply Kd.R_alloc | apply Kd.R_drewN | apply Kd.R_drew)); exact HO_10.out) hb); have n1_ := Aside0.mk (Kd.R_below (by (with_reducible repeat (first | apply Kd.R_alloc | apply Kd.R_drewN | apply Kd.R_drew)); exact HO_12.out) hb); have n2_ := Aside0.mk (Kd.R_below (by (with_reducible repeat (first | apply Kd.R_alloc | apply Kd.R_drewN | apply Kd.R_drew)); exact HO_14.out) hb); have n3_ := Aside0.mk (below_step (by repeat (first | (with_reducible first | exact HB.out | apply below_alloc | apply pw_below_drewN | apply below_drew1) | exact HB.out)) hb); clear HO_10; clear HO_12; clear HO_14; clear HB; have HO_10 := n0_; have HO_12 := n1_; have HO_14 := n2_; have HB := n3_; clear n0_ n1_ n2_ n3_; (try clear hb); (try clear hb2); (try clear hk); (try clear hi)))
                      go_ret
                      exact ⟨by first | rfl | (simp [errW_none, errW_some] <;> rfl) | (simp [*, errW_none, errW_some] <;> rfl), by repeat (first | (with_reducible first | exact HB.out | apply below_alloc | apply pw_below_drewN | apply below_drew1) | exact HB.out)⟩
                    · rw [if_neg c42] at H
                      have c42b0 : (t181 == 6) = false := beq_eq_false_iff_ne.mpr c42
                      have c42b1 : (t181 != 6) = true := bne_iff_ne.mpr c42
                      exact absurd (Option.some.inj H) (by rw [HRT.out]; decide)
                  · rw [if_neg c41] at H
                    have c41b0 : (t184 == 0) = false := beq_eq_false_iff_ne.mpr c41
                    have c41b1 : (t184 != 0) = true := bne_iff_ne.mpr c41
                    exact absurd (Option.some.inj H) (by rw [HRT.out]; decide)
                · rw [if_neg c39] at H
                  have c39b0 : (x15_2 == 0) = false := beq_eq_false_iff_ne.mpr c39
                  have c39b1 : (x15_2 != 0) = true := bne_iff_ne.mpr c39
                  by_cases c47 : x15_2 = 24
                  · rw [if_pos c47] at H
                    have c47b0 : (x15_2 == 24) = true := beq_iff_eq.mpr c47
                    have c47b1 : (x15_2 != 24) = false := bne_eq_false_iff_eq.mpr c47
                    clear c47
                    replace H := Option.bind_eq_some_iff.mp H
                    obtain ⟨t186, A480, H⟩ := H
                    replace H : (if t186 = 0 then (if t181 = 4 then ((ossuarylaw15_long.f k2 (wrap64 (Int.tmod (IntKind.u64.wrap (a0)) 1249)) ((a1) % 256)).bind fun t187 => (some (t182.toList == t187.toList))) else (some false)) else (some false)) = some r := H
                    have A48 := Aside0.mk A480
                    clear A480
                    by_cases c49 : t186 = 0
                    · rw [if_pos c49] at H
                      have c49b0 : (t186 == 0) = true := beq_iff_eq.mpr c49
                      have c49b1 : (t186 != 0) = false := bne_eq_false_iff_eq.mpr c49
                      clear c49
                      by_cases c50 : t181 = 4
                      · rw [if_pos c50] at H
                        have c50b0 : (t181 == 4) = true := beq_iff_eq.mpr c50
                        have c50b1 : (t181 != 4) = false := bne_eq_false_iff_eq.mpr c50
                        clear c50
                        replace H := Option.bind_eq_some_iff.mp H
                        obtain ⟨t187, A510, H⟩ := H
                        replace H : (some (t182.toList == t187.toList)) = some r := H
                        have A51 := Aside0.mk A510
                        clear A510
                        obtain rfl := Option.some.inj H
                        obtain ⟨Ao52, co52, eo52⟩ := Kd.R_slice HO_14.out
                        subst eo52
                        go_wp2_with (first | ((with_reducible refine gate_callee (f := 9) rfl ?_); refine goesL_ (some 87) rfl rfl Try.func9 (by kernel_rfl) rfl #[.slice Ao52 x14_2.length co52] rfl (by (try simp only [List.map_toArray, List.map_cons, List.map_nil]); first | done | rfl | (simp only [List.length_drop, List.length_take]; rfl)) ?_; (with_reducible refine (area_Get.calls k2 _ _ x14_2 t181 t182 t183 _ ?side1 ?side2 A38.out).mono ?_); (case side1 => repeat (first | exact (Kd.R_reads' HO_14.out).2.2 | (with_reducible refine Kd.C_alloc ?_ _) | (with_reducible refine Kd.C_drewN ?_ _) | (with_reducible refine Kd.C_drew ?_))); (case side2 => exact (Kd.R_reads' HO_14.out).2.1); rintro e w53 ⟨rfl, hb⟩; refine ⟨_, rfl, ?_⟩; have n0_ := Aside0.mk (Kd.R_below (by (with_reducible repeat (first | apply Kd.R_alloc | apply Kd.R_drewN | apply Kd.R_drew)); exact HO_10.out) hb); have n1_ := Aside0.mk (Kd.R_below (by (with_reducible repeat (first | apply Kd.R_alloc | apply Kd.R_drewN | apply Kd.R_drew)); exact HO_12.out) hb); have n2_ := Aside0.mk (Kd.R_below (by (with_reducible repeat (first | apply Kd.R_alloc | apply Kd.R_drewN | apply Kd.R_drew)); exact HO_14.out) hb); have n3_ := Aside0.mk (below_step (by repeat (first | (with_reducible first | exact HB.out | apply below_alloc | apply pw_below_drewN | apply below_drew1) | exact HB.out)) hb); clear HO_10; clear HO_12; clear HO_14; clear HB; have HO_10 := n0_; have HO_12 := n1_; have HO_14 := n2_; have HB := n3_; clear n0_ n1_ n2_ n3_; (try clear hb); (try clear hb2); (try clear hk); (try clear hi)) | ((with_reducible refine gate_callee (f := 12) rfl ?_); refine goesL_ (some 112) rfl rfl Try.func12 (by kernel_rfl) rfl #[.int .i64 t183] rfl (by (try simp only [List.map_toArray, List.map_cons, List.map_nil]); first | done | rfl | (simp only [List.length_drop, List.length_take]; rfl)) ?_; (with_reducible refine (ossuarylaw0_Num.calls t183 t186 _ A48.out).mono ?_); rintro e w' ⟨rfl, ⟨nd, rfl⟩⟩; refine ⟨_, rfl, ?_⟩) | (go_at_call 15; (with_reducible refine (ossuarylaw15_long.calls k2 (wrap64 (Int.tmod (IntKind.u64.wrap (a0)) 1249)) ((a1) % 256) t187 _ A51.out).mono ?_); rintro e w54 ⟨rfl, hb⟩; have n0_ := Aside0.mk (Kd.R_below (by (with_reducible repeat (first | apply Kd.R_alloc | apply Kd.R_drewN | apply Kd.R_drew)); exact HO_10.out) hb); have n1_ := Aside0.mk (Kd.R_below (by (with_reducible repeat (first | apply Kd.R_alloc | apply Kd.R_drewN | apply Kd.R_drew)); exact HO_12.out) hb); have n2_ := Aside0.mk (Kd.R_below (by (with_reducible repeat (first | apply Kd.R_alloc | apply Kd.R_drewN | apply Kd.R_drew)); exact HO_14.out) hb); have n3_ := Aside0.mk (below_step (by repeat (first | (with_reducible first | exact HB.out | apply below_alloc | apply pw_below_drewN | apply below_drew1) | exact HB.out)) hb); clear HO_10; clear HO_12; clear HO_14; clear HB; have HO_10 := n0_; have HO_12 := n1_; have HO_14 := n2_; have HB := n3_; clear n0_ n1_ n2_ n3_; (try clear hb); (try clear hb2); (try clear hk); (try clear hi)))
                        go_ret
                        exact ⟨by first | rfl | (simp [errW_none, errW_some] <;> rfl) | (simp [*, errW_none, errW_some] <;> rfl), by repeat (first | (with_reducible first | exact HB.out | apply below_alloc | apply pw_below_drewN | apply below_drew1) | exact HB.out)⟩
                      · rw [if_neg c50] at H
                        have c50b0 : (t181 == 4) = false := beq_eq_false_iff_ne.mpr c50
                        have c50b1 : (t181 != 4) = true := bne_iff_ne.mpr c50
                        exact absurd (Option.some.inj H) (by rw [HRT.out]; decide)
                    · rw [if_neg c49] at H
                      have c49b0 : (t186 == 0) = false := beq_eq_false_iff_ne.mpr c49
                      have c49b1 : (t186 != 0) = true := bne_iff_ne.mpr c49
                      exact absurd (Option.some.inj H) (by rw [HRT.out]; decide)
                  · rw [if_neg c47] at H
                    have c47b0 : (x15_2 == 24) = false := beq_eq_false_iff_ne.mpr c47
                    have c47b1 : (x15_2 != 24) = true := bne_iff_ne.mpr c47
                    replace H := Option.bind_eq_some_iff.mp H
                    obtain ⟨t188, A550, H⟩ := H
                    replace H : (if t188 = 1500 then (if t181 = 0 then (some (t182.toList == ([] : List UInt8))) else (some false)) else (some false)) = some r := H
                    have A55 := Aside0.mk A550
                    clear A550
                    by_cases c56 : t188 = 1500
                    · rw [if_pos c56] at H
                      have c56b0 : (t188 == 1500) = true := beq_iff_eq.mpr c56
                      have c56b1 : (t188 != 1500) = false := bne_eq_false_iff_eq.mpr c56
                      clear c56
                      by_cases c57 : t181 = 0
                      · rw [if_pos c57] at H
                        have c57b0 : (t181 == 0) = true := beq_iff_eq.mpr c57
                        have c57b1 : (t181 != 0) = false := bne_eq_false_iff_eq.mpr c57
                        clear c57
                        obtain rfl := Option.some.inj H
                        obtain ⟨Ao58, co58, eo58⟩ := Kd.R_slice HO_14.out
                        subst eo58
                        go_wp2_with (first | ((with_reducible refine gate_callee (f := 9) rfl ?_); refine goesL_ (some 87) rfl rfl Try.func9 (by kernel_rfl) rfl #[.slice Ao58 x14_2.length co58] rfl (by (try simp only [List.map_toArray, List.map_cons, List.map_nil]); first | done | rfl | (simp only [List.length_drop, List.length_take]; rfl)) ?_; (with_reducible refine (area_Get.calls k2 _ _ x14_2 t181 t182 t183 _ ?side1 ?side2 A38.out).mono ?_); (case side1 => repeat (first | exact (Kd.R_reads' HO_14.out).2.2 | (with_reducible refine Kd.C_alloc ?_ _) | (with_reducible refine Kd.C_drewN ?_ _) | (with_reducible refine Kd.C_drew ?_))); (case side2 => exact (Kd.R_reads' HO_14.out).2.1); rintro e w59 ⟨rfl, hb⟩; refine ⟨_, rfl, ?_⟩; have n0_ := Aside0.mk (Kd.R_below (by (with_reducible repeat (first | apply Kd.R_alloc | apply Kd.R_drewN | apply Kd.R_drew)); exact HO_10.out) hb); have n1_ := Aside0.mk (Kd.R_below (by (with_reducible repeat (first | apply Kd.R_alloc | apply Kd.R_drewN | apply Kd.R_drew)); exact HO_12.out) hb); have n2_ := Aside0.mk (Kd.R_below (by (with_reducible repeat (first | apply Kd.R_alloc | apply Kd.R_drewN | apply Kd.R_drew)); exact HO_14.out) hb); have n3_ := Aside0.mk (below_step (by repeat (first | (with_reducible first | exact HB.out | apply below_alloc | apply pw_below_drewN | apply below_drew1) | exact HB.out)) hb); clear HO_10; clear HO_12; clear HO_14; clear HB; have HO_10 := n0_; have HO_12 := n1_; have HO_14 := n2_; have HB := n3_; clear n0_ n1_ n2_ n3_; (try clear hb); (try clear hb2); (try clear hk); (try clear hi)) | ((with_reducible refine gate_callee (f := 12) rfl ?_); refine goesL_ (some 127) rfl rfl Try.func12 (by kernel_rfl) rfl #[.int .i64 t183] rfl (by (try simp only [List.map_toArray, List.map_cons, List.map_nil]); first | done | rfl | (simp only [List.length_drop, List.length_take]; rfl)) ?_; (with_reducible refine (ossuarylaw0_Num.calls t183 t188 _ A55.out).mono ?_); rintro e w' ⟨rfl, ⟨nd, rfl⟩⟩; refine ⟨_, rfl, ?_⟩))
                        go_ret
                        exact ⟨by first | rfl | (simp [errW_none, errW_some] <;> rfl) | (simp [*, errW_none, errW_some] <;> rfl), by repeat (first | (with_reducible first | exact HB.out | apply below_alloc | apply pw_below_drewN | apply below_drew1) | exact HB.out)⟩
                      · rw [if_neg c57] at H
                        have c57b0 : (t181 == 0) = false := beq_eq_false_iff_ne.mpr c57
                        have c57b1 : (t181 != 0) = true := bne_iff_ne.mpr c57
                        exact absurd (Option.some.inj H) (by rw [HRT.out]; decide)
                    · rw [if_neg c56] at H
                      have c56b0 : (t188 == 1500) = false := beq_eq_false_iff_ne.mpr c56
                      have c56b1 : (t188 != 1500) = true := bne_iff_ne.mpr c56
                      exact absurd (Option.some.inj H) (by rw [HRT.out]; decide)
  · replace c6 := Bool.eq_false_iff.mpr c6
    subst c6
    have H1 : (some false) = some r := by rw [if_neg (show ¬ (false = true) by decide)] at H; exact H
    clear H
    have H := H1
    clear H1
    exact absurd (Option.some.inj H) (by rw [HRT.out]; decide)

/-- THE ONE PURE STATEMENT of ossuarylaw15_AreaMixed: yours. -/
def ossuarylaw15_AreaMixed.Pure : Prop := ∀ (a0 : Int) (a1 : Int) (a2 : Int) (a3 : Int), (Lit.int .i64 a0).wf = true → (Lit.int .i64 a1).wf = true → (Lit.int .i64 a2).wf = true → (Lit.int .i64 a3).wf = true → ∃ k, ossuarylaw15_AreaMixed.f k a0 a1 a2 a3 = some true
theorem ossuarylaw15_AreaMixed.walk (P : ossuarylaw15_AreaMixed.Pure) (a0 : Int) (a1 : Int) (a2 : Int) (a3 : Int) (w : World) (w0 : (Lit.int .i64 a0).wf = true) (w1 : (Lit.int .i64 a1).wf = true) (w2 : (Lit.int .i64 a2).wf = true) (w3 : (Lit.int .i64 a3).wf = true) :
    Calls Try.prog 6 #[.int .i64 a0, .int .i64 a1, .int .i64 a2, .int .i64 a3] w fun e w' => e = .returned (.bool true) ∧ Below w.heap.size w w' := by
  obtain ⟨k, h⟩ := P a0 a1 a2 a3 w0 w1 w2 w3
  refine (ossuarylaw15_AreaMixed.calls k a0 a1 a2 a3 true w h).mono ?_
  rintro e w' ⟨rfl, hd⟩
  exact ⟨rfl, hd⟩

end Go.Proofs.Ytmphljlooopcdaa.HAreaMixed
