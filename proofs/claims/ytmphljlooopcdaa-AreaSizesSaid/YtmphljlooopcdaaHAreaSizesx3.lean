/- Lean functions for the Go functions that the law reaches, and proofs that the calls come to them: written by a program of this session. -/
import Derived.Test.YtmphljlooopcdaaHAreaSizesx0
import Derived.Test.YtmphljlooopcdaaHAreaSizesx1
import Derived.Test.YtmphljlooopcdaaHAreaSizesx2
namespace Go.Proofs.Ytmphljlooopcdaa.HAreaSizes
open Go.RowKit Go.Proofs.YtmphljlooopcdaaW.PrintWords Go.Proofs.YtmphljlooopcdaaW.PrintLast Go.Proofs.YtmphljlooopcdaaW.PrintMore
attribute [local go_sem] max2_int min2_int max_two min_two max_three min_three max_four min_four   -- for this text's walks alone
set_option linter.unusedVariables false
set_option linter.unusedSimpArgs false

/-! ### ossuarylaw15_awake: function 14 -/
def ossuarylaw15_awake.f (k : Nat)  : Option (Bool) := (area_Put.f k 7 (⟨#[97, 98, 99]⟩ : ByteArray)).bind fun bt135 => ((area_Get.f k bt135.1).bind fun bt139 => (if 0 ≤ (mn (bt135.1.length : Int) 3) then (if (mn (bt135.1.length : Int) 3) ≤ (bt135.1.length : Int) then ((area_Get.f k (bt135.1.take ((mn (bt135.1.length : Int) 3) : Int).toNat)).bind fun bt146 => ((ossuarylaw15_long.f k 1249 97).bind fun t149 => ((area_Put.f k 7 t149).bind fun bt150 => (if (bt135.1.length : Int) = 24 then ((ossuarylaw0_Num.f bt135.2).bind fun t154 => (if t154 = 0 then (if 0 < (bt135.1.length : Int) then (if ((rdOf ByteArray.empty bt135.1 0).size : Int) = 64 then (if 0 ≤ 8 then (if 8 ≤ ((rdOf ByteArray.empty bt135.1 0).size : Int) then (if ((rdOf ByteArray.empty bt135.1 0).extract 0 8).toList = ([77, 0, 3, 0, 7, 0, 0, 0] : List UInt8) then (if bt139.1 = 7 then (if bt139.2.1.toList = ([97, 98, 99] : List UInt8) then ((ossuarylaw0_Num.f bt139.2.2).bind fun t157 => (if t157 = 0 then ((ossuarylaw0_Num.f bt146.2.2).bind fun t158 => (if t158 = 1500 then ((ossuarylaw0_Num.f bt150.2).bind fun t159 => (some (t159 == 1500))) else (some false))) else (some false))) else (some false)) else (some false)) else (some false)) else (none)) else (none)) else (some false)) else (none)) else (some false))) else (some false))))) else (none)) else (none)))
theorem ossuarylaw15_awake.mono : ∀ k, LeO (ossuarylaw15_awake.f k ) (ossuarylaw15_awake.f (k + 1) ) := by
  intro  k
  unfold ossuarylaw15_awake.f
  repeat' first
      | (with_reducible exact area_Get.mono _ _)
      | (with_reducible exact area_Put.mono _ _ _)
      | (with_reducible exact ossuarylaw15_long.mono _ _ _)
      | (with_reducible exact LeO.refl _)
      | (with_reducible exact LeO.none _)
      | (with_reducible refine LeO.ite ?_ ?_)
      | (with_reducible refine LeO.bind ?_ (fun _ => ?_))
      | exact area_Get.mono _ _
      | exact area_Put.mono _ _ _
      | exact ossuarylaw15_long.mono _ _ _
      | exact LeO.none _
      | refine LeO.ite ?_ ?_
      | refine LeO.bind ?_ (fun _ => ?_)
set_option maxHeartbeats 8000000 in
set_option maxRecDepth 100000 in
theorem ossuarylaw15_awake.calls (k : Nat)  (r : Bool) (w : World) (h : ossuarylaw15_awake.f k  = some r) (hr_ : r = true := by rfl) :
    Calls Try.prog 14 #[] w fun e w' => e = .returned (.bool r) ∧ Below w.heap.size w w' := by
  have HRT := Aside0.mk hr_
  clear hr_
  have HB := Aside0.mk (Below.refl w.heap.size w)
  have H : ((area_Put.f k 7 (⟨#[97, 98, 99]⟩ : ByteArray)).bind fun bt135 => ((area_Get.f k bt135.1).bind fun bt139 => (if 0 ≤ (mn (bt135.1.length : Int) 3) then (if (mn (bt135.1.length : Int) 3) ≤ (bt135.1.length : Int) then ((area_Get.f k (bt135.1.take ((mn (bt135.1.length : Int) 3) : Int).toNat)).bind fun bt146 => ((ossuarylaw15_long.f k 1249 97).bind fun t149 => ((area_Put.f k 7 t149).bind fun bt150 => (if (bt135.1.length : Int) = 24 then ((ossuarylaw0_Num.f bt135.2).bind fun t154 => (if t154 = 0 then (if 0 < (bt135.1.length : Int) then (if ((rdOf ByteArray.empty bt135.1 0).size : Int) = 64 then (if 0 ≤ 8 then (if 8 ≤ ((rdOf ByteArray.empty bt135.1 0).size : Int) then (if ((rdOf ByteArray.empty bt135.1 0).extract 0 8).toList = ([77, 0, 3, 0, 7, 0, 0, 0] : List UInt8) then (if bt139.1 = 7 then (if bt139.2.1.toList = ([97, 98, 99] : List UInt8) then ((ossuarylaw0_Num.f bt139.2.2).bind fun t157 => (if t157 = 0 then ((ossuarylaw0_Num.f bt146.2.2).bind fun t158 => (if t158 = 1500 then ((ossuarylaw0_Num.f bt150.2).bind fun t159 => (some (t159 == 1500))) else (some false))) else (some false))) else (some false)) else (some false)) else (some false)) else (none)) else (none)) else (some false)) else (none)) else (some false))) else (some false))))) else (none)) else (none)))) = some r := h
  clear h
  replace H := Option.bind_eq_some_iff.mp H
  obtain ⟨⟨t135, t136⟩, A10, H⟩ := H
  replace H : ((area_Get.f k t135).bind fun bt139 => (if 0 ≤ (mn (t135.length : Int) 3) then (if (mn (t135.length : Int) 3) ≤ (t135.length : Int) then ((area_Get.f k (t135.take ((mn (t135.length : Int) 3) : Int).toNat)).bind fun bt146 => ((ossuarylaw15_long.f k 1249 97).bind fun t149 => ((area_Put.f k 7 t149).bind fun bt150 => (if (t135.length : Int) = 24 then ((ossuarylaw0_Num.f t136).bind fun t154 => (if t154 = 0 then (if 0 < (t135.length : Int) then (if ((rdOf ByteArray.empty t135 0).size : Int) = 64 then (if 0 ≤ 8 then (if 8 ≤ ((rdOf ByteArray.empty t135 0).size : Int) then (if ((rdOf ByteArray.empty t135 0).extract 0 8).toList = ([77, 0, 3, 0, 7, 0, 0, 0] : List UInt8) then (if bt139.1 = 7 then (if bt139.2.1.toList = ([97, 98, 99] : List UInt8) then ((ossuarylaw0_Num.f bt139.2.2).bind fun t157 => (if t157 = 0 then ((ossuarylaw0_Num.f bt146.2.2).bind fun t158 => (if t158 = 1500 then ((ossuarylaw0_Num.f bt150.2).bind fun t159 => (some (t159 == 1500))) else (some false))) else (some false))) else (some false)) else (some false)) else (some false)) else (none)) else (none)) else (some false)) else (none)) else (some false))) else (some false))))) else (none)) else (none))) = some r := H
  have A1 := Aside0.mk A10
  clear A10
  replace H := Option.bind_eq_some_iff.mp H
  obtain ⟨⟨t139, t140, t141⟩, A20, H⟩ := H
  replace H : (if 0 ≤ (mn (t135.length : Int) 3) then (if (mn (t135.length : Int) 3) ≤ (t135.length : Int) then ((area_Get.f k (t135.take ((mn (t135.length : Int) 3) : Int).toNat)).bind fun bt146 => ((ossuarylaw15_long.f k 1249 97).bind fun t149 => ((area_Put.f k 7 t149).bind fun bt150 => (if (t135.length : Int) = 24 then ((ossuarylaw0_Num.f t136).bind fun t154 => (if t154 = 0 then (if 0 < (t135.length : Int) then (if ((rdOf ByteArray.empty t135 0).size : Int) = 64 then (if 0 ≤ 8 then (if 8 ≤ ((rdOf ByteArray.empty t135 0).size : Int) then (if ((rdOf ByteArray.empty t135 0).extract 0 8).toList = ([77, 0, 3, 0, 7, 0, 0, 0] : List UInt8) then (if t139 = 7 then (if t140.toList = ([97, 98, 99] : List UInt8) then ((ossuarylaw0_Num.f t141).bind fun t157 => (if t157 = 0 then ((ossuarylaw0_Num.f bt146.2.2).bind fun t158 => (if t158 = 1500 then ((ossuarylaw0_Num.f bt150.2).bind fun t159 => (some (t159 == 1500))) else (some false))) else (some false))) else (some false)) else (some false)) else (some false)) else (none)) else (none)) else (some false)) else (none)) else (some false))) else (some false))))) else (none)) else (none)) = some r := H
  have A2 := Aside0.mk A20
  clear A20
  obtain ⟨ji3, hji3⟩ : ∃ j_ : Int, (mn (t135.length : Int) 3) = j_ := ⟨_, rfl⟩
  replace H : (if 0 ≤ (ji3) then (if (ji3) ≤ (t135.length : Int) then ((area_Get.f k (t135.take ((ji3) : Int).toNat)).bind fun bt146 => ((ossuarylaw15_long.f k 1249 97).bind fun t149 => ((area_Put.f k 7 t149).bind fun bt150 => (if (t135.length : Int) = 24 then ((ossuarylaw0_Num.f t136).bind fun t154 => (if t154 = 0 then (if 0 < (t135.length : Int) then (if ((rdOf ByteArray.empty t135 0).size : Int) = 64 then (if 0 ≤ 8 then (if 8 ≤ ((rdOf ByteArray.empty t135 0).size : Int) then (if ((rdOf ByteArray.empty t135 0).extract 0 8).toList = ([77, 0, 3, 0, 7, 0, 0, 0] : List UInt8) then (if t139 = 7 then (if t140.toList = ([97, 98, 99] : List UInt8) then ((ossuarylaw0_Num.f t141).bind fun t157 => (if t157 = 0 then ((ossuarylaw0_Num.f bt146.2.2).bind fun t158 => (if t158 = 1500 then ((ossuarylaw0_Num.f bt150.2).bind fun t159 => (some (t159 == 1500))) else (some false))) else (some false))) else (some false)) else (some false)) else (some false)) else (none)) else (none)) else (some false)) else (none)) else (some false))) else (some false))))) else (none)) else (none)) = some r := by first | (rw [hji3] at H; exact H) | (simp only [hji3] at H ⊢; exact H)
  (try rw [hji3] at A1)
  (try rw [hji3] at A2)
  (try (have hji3h : ji3 ≤ 3 := by (rw [← hji3]; unfold mn; (repeat' split) <;> omega)))
  (try (have hji3g : ji3 ≤ 64 := by omega))
  (try (have hji3l : 0 ≤ ji3 := by (rw [← hji3]; unfold mn; (repeat' split) <;> omega)))
  (try (have hji3m : 0 ≤ ji3 := by omega))
  have hji3_ : (if 3 < (t135.length : Int) then 3 else (t135.length : Int)) = ji3 := hji3
  by_cases c4 : 0 ≤ (ji3)
  · rw [if_pos c4] at H
    have c4b0 := eq_true c4
    have c4b1 : decide (0 ≤ (ji3)) = true := decide_eq_true c4
    clear c4
    by_cases c5 : (ji3) ≤ (t135.length : Int)
    · rw [if_pos c5] at H
      have c5b0 := eq_true c5
      have c5b1 : decide ((ji3) ≤ (t135.length : Int)) = true := decide_eq_true c5
      clear c5
      obtain ⟨y142, hy142⟩ : ∃ y_ : List ByteArray, y_ = (t135.take ((ji3) : Int).toNat) := ⟨_, rfl⟩
      replace H : ((area_Get.f k y142).bind fun bt146 => ((ossuarylaw15_long.f k 1249 97).bind fun t149 => ((area_Put.f k 7 t149).bind fun bt150 => (if (t135.length : Int) = 24 then ((ossuarylaw0_Num.f t136).bind fun t154 => (if t154 = 0 then (if 0 < (t135.length : Int) then (if ((rdOf ByteArray.empty t135 0).size : Int) = 64 then (if 0 ≤ 8 then (if 8 ≤ ((rdOf ByteArray.empty t135 0).size : Int) then (if ((rdOf ByteArray.empty t135 0).extract 0 8).toList = ([77, 0, 3, 0, 7, 0, 0, 0] : List UInt8) then (if t139 = 7 then (if t140.toList = ([97, 98, 99] : List UInt8) then ((ossuarylaw0_Num.f t141).bind fun t157 => (if t157 = 0 then ((ossuarylaw0_Num.f bt146.2.2).bind fun t158 => (if t158 = 1500 then ((ossuarylaw0_Num.f bt150.2).bind fun t159 => (some (t159 == 1500))) else (some false))) else (some false))) else (some false)) else (some false)) else (some false)) else (none)) else (none)) else (some false)) else (none)) else (some false))) else (some false))))) = some r := by first | (rw [hy142]; with_reducible exact H) | (have H2_ := (Option.bind_some _ _).symm.trans H; rw [hy142]; with_reducible exact H2_) | (have H2_ := (Option.bind_some _ _).symm.trans H; with_reducible exact H2_) | with_reducible exact H | (rw [hy142]; exact H) | exact H
      have Ny142 := Aside0.mk hy142
      clear hy142
      replace H := Option.bind_eq_some_iff.mp H
      obtain ⟨⟨t146, t147, t148⟩, A60, H⟩ := H
      replace H : ((ossuarylaw15_long.f k 1249 97).bind fun t149 => ((area_Put.f k 7 t149).bind fun bt150 => (if (t135.length : Int) = 24 then ((ossuarylaw0_Num.f t136).bind fun t154 => (if t154 = 0 then (if 0 < (t135.length : Int) then (if ((rdOf ByteArray.empty t135 0).size : Int) = 64 then (if 0 ≤ 8 then (if 8 ≤ ((rdOf ByteArray.empty t135 0).size : Int) then (if ((rdOf ByteArray.empty t135 0).extract 0 8).toList = ([77, 0, 3, 0, 7, 0, 0, 0] : List UInt8) then (if t139 = 7 then (if t140.toList = ([97, 98, 99] : List UInt8) then ((ossuarylaw0_Num.f t141).bind fun t157 => (if t157 = 0 then ((ossuarylaw0_Num.f t148).bind fun t158 => (if t158 = 1500 then ((ossuarylaw0_Num.f bt150.2).bind fun t159 => (some (t159 == 1500))) else (some false))) else (some false))) else (some false)) else (some false)) else (some false)) else (none)) else (none)) else (some false)) else (none)) else (some false))) else (some false)))) = some r := H
      have A6 := Aside0.mk A60
      clear A60
      replace H := Option.bind_eq_some_iff.mp H
      obtain ⟨t149, A70, H⟩ := H
      replace H : ((area_Put.f k 7 t149).bind fun bt150 => (if (t135.length : Int) = 24 then ((ossuarylaw0_Num.f t136).bind fun t154 => (if t154 = 0 then (if 0 < (t135.length : Int) then (if ((rdOf ByteArray.empty t135 0).size : Int) = 64 then (if 0 ≤ 8 then (if 8 ≤ ((rdOf ByteArray.empty t135 0).size : Int) then (if ((rdOf ByteArray.empty t135 0).extract 0 8).toList = ([77, 0, 3, 0, 7, 0, 0, 0] : List UInt8) then (if t139 = 7 then (if t140.toList = ([97, 98, 99] : List UInt8) then ((ossuarylaw0_Num.f t141).bind fun t157 => (if t157 = 0 then ((ossuarylaw0_Num.f t148).bind fun t158 => (if t158 = 1500 then ((ossuarylaw0_Num.f bt150.2).bind fun t159 => (some (t159 == 1500))) else (some false))) else (some false))) else (some false)) else (some false)) else (some false)) else (none)) else (none)) else (some false)) else (none)) else (some false))) else (some false))) = some r := H
      have A7 := Aside0.mk A70
      clear A70
      replace H := Option.bind_eq_some_iff.mp H
      obtain ⟨⟨t150, t151⟩, A80, H⟩ := H
      replace H : (if (t135.length : Int) = 24 then ((ossuarylaw0_Num.f t136).bind fun t154 => (if t154 = 0 then (if 0 < (t135.length : Int) then (if ((rdOf ByteArray.empty t135 0).size : Int) = 64 then (if 0 ≤ 8 then (if 8 ≤ ((rdOf ByteArray.empty t135 0).size : Int) then (if ((rdOf ByteArray.empty t135 0).extract 0 8).toList = ([77, 0, 3, 0, 7, 0, 0, 0] : List UInt8) then (if t139 = 7 then (if t140.toList = ([97, 98, 99] : List UInt8) then ((ossuarylaw0_Num.f t141).bind fun t157 => (if t157 = 0 then ((ossuarylaw0_Num.f t148).bind fun t158 => (if t158 = 1500 then ((ossuarylaw0_Num.f t151).bind fun t159 => (some (t159 == 1500))) else (some false))) else (some false))) else (some false)) else (some false)) else (some false)) else (none)) else (none)) else (some false)) else (none)) else (some false))) else (some false)) = some r := H
      have A8 := Aside0.mk A80
      clear A80
      by_cases c9 : (t135.length : Int) = 24
      · rw [if_pos c9] at H
        have c9b0 : ((t135.length : Int) == 24) = true := beq_iff_eq.mpr c9
        have c9b1 : ((t135.length : Int) != 24) = false := bne_eq_false_iff_eq.mpr c9
        clear c9
        replace H := Option.bind_eq_some_iff.mp H
        obtain ⟨t154, A100, H⟩ := H
        replace H : (if t154 = 0 then (if 0 < (t135.length : Int) then (if ((rdOf ByteArray.empty t135 0).size : Int) = 64 then (if 0 ≤ 8 then (if 8 ≤ ((rdOf ByteArray.empty t135 0).size : Int) then (if ((rdOf ByteArray.empty t135 0).extract 0 8).toList = ([77, 0, 3, 0, 7, 0, 0, 0] : List UInt8) then (if t139 = 7 then (if t140.toList = ([97, 98, 99] : List UInt8) then ((ossuarylaw0_Num.f t141).bind fun t157 => (if t157 = 0 then ((ossuarylaw0_Num.f t148).bind fun t158 => (if t158 = 1500 then ((ossuarylaw0_Num.f t151).bind fun t159 => (some (t159 == 1500))) else (some false))) else (some false))) else (some false)) else (some false)) else (some false)) else (none)) else (none)) else (some false)) else (none)) else (some false)) = some r := H
        have A10 := Aside0.mk A100
        clear A100
        by_cases c11 : t154 = 0
        · rw [if_pos c11] at H
          have c11b0 : (t154 == 0) = true := beq_iff_eq.mpr c11
          have c11b1 : (t154 != 0) = false := bne_eq_false_iff_eq.mpr c11
          clear c11
          by_cases c12 : 0 < (t135.length : Int)
          · rw [if_pos c12] at H
            have c12b0 : decide (0 < (t135.length : Int)) = true := decide_eq_true c12
            have c12b1 : decide (0 < t135.length) = true := decide_eq_true (by omega)
            clear c12
            by_cases c13 : ((rdOf ByteArray.empty t135 0).size : Int) = 64
            · rw [if_pos c13] at H
              have c13b0 : (((rdOf ByteArray.empty t135 0).size : Int) == 64) = true := beq_iff_eq.mpr c13
              have c13b1 : (((rdOf ByteArray.empty t135 0).size : Int) != 64) = false := bne_eq_false_iff_eq.mpr c13
              clear c13
              by_cases c14 : 0 ≤ 8
              · rw [if_pos c14] at H
                have c14b0 := eq_true c14
                have c14b1 : decide (0 ≤ 8) = true := decide_eq_true c14
                clear c14
                by_cases c15 : 8 ≤ ((rdOf ByteArray.empty t135 0).size : Int)
                · rw [if_pos c15] at H
                  have c15b0 := eq_true c15
                  have c15b1 : decide (8 ≤ ((rdOf ByteArray.empty t135 0).size : Int)) = true := decide_eq_true c15
                  clear c15
                  by_cases c16 : ((rdOf ByteArray.empty t135 0).extract 0 8).toList = ([77, 0, 3, 0, 7, 0, 0, 0] : List UInt8)
                  · rw [if_pos c16] at H
                    have c16b0 : (((rdOf ByteArray.empty t135 0).extract 0 8).toList == ([77, 0, 3, 0, 7, 0, 0, 0] : List UInt8)) = true := beq_iff_eq.mpr c16
                    have c16b1 : (((rdOf ByteArray.empty t135 0).extract 0 8).toList != ([77, 0, 3, 0, 7, 0, 0, 0] : List UInt8)) = false := bne_eq_false_iff_eq.mpr c16
                    clear c16
                    by_cases c17 : t139 = 7
                    · rw [if_pos c17] at H
                      have c17b0 : (t139 == 7) = true := beq_iff_eq.mpr c17
                      have c17b1 : (t139 != 7) = false := bne_eq_false_iff_eq.mpr c17
                      clear c17
                      by_cases c18 : t140.toList = ([97, 98, 99] : List UInt8)
                      · rw [if_pos c18] at H
                        have c18b0 : (t140.toList == ([97, 98, 99] : List UInt8)) = true := beq_iff_eq.mpr c18
                        have c18b1 : (t140.toList != ([97, 98, 99] : List UInt8)) = false := bne_eq_false_iff_eq.mpr c18
                        clear c18
                        replace H := Option.bind_eq_some_iff.mp H
                        obtain ⟨t157, A190, H⟩ := H
                        replace H : (if t157 = 0 then ((ossuarylaw0_Num.f t148).bind fun t158 => (if t158 = 1500 then ((ossuarylaw0_Num.f t151).bind fun t159 => (some (t159 == 1500))) else (some false))) else (some false)) = some r := H
                        have A19 := Aside0.mk A190
                        clear A190
                        by_cases c20 : t157 = 0
                        · rw [if_pos c20] at H
                          have c20b0 : (t157 == 0) = true := beq_iff_eq.mpr c20
                          have c20b1 : (t157 != 0) = false := bne_eq_false_iff_eq.mpr c20
                          clear c20
                          replace H := Option.bind_eq_some_iff.mp H
                          obtain ⟨t158, A210, H⟩ := H
                          replace H : (if t158 = 1500 then ((ossuarylaw0_Num.f t151).bind fun t159 => (some (t159 == 1500))) else (some false)) = some r := H
                          have A21 := Aside0.mk A210
                          clear A210
                          by_cases c22 : t158 = 1500
                          · rw [if_pos c22] at H
                            have c22b0 : (t158 == 1500) = true := beq_iff_eq.mpr c22
                            have c22b1 : (t158 != 1500) = false := bne_eq_false_iff_eq.mpr c22
                            clear c22
                            replace H := Option.bind_eq_some_iff.mp H
                            obtain ⟨t159, A230, H⟩ := H
                            replace H : (some (t159 == 1500)) = some r := H
                            have A23 := Aside0.mk A230
                            clear A230
                            obtain rfl := Option.some.inj H
                            go_enter Try.func14, Try.ntmps14
                            go_wp2_with (first | ((with_reducible refine gate_callee (f := 7) rfl ?_); refine goesL_ (some 12) rfl rfl Try.func7 (by kernel_rfl) rfl #[.int .i64 7, .string (⟨#[97, 98, 99]⟩ : ByteArray)] rfl (by (try simp only [List.map_toArray, List.map_cons, List.map_nil]); first | done | rfl | (simp only [List.length_drop, List.length_take]; rfl)) ?_; (with_reducible refine (area_Put.calls k 7 (⟨#[97, 98, 99]⟩ : ByteArray) t135 t136 _ A1.out).mono ?_); rintro e w24 ⟨v137, rfl, ho0, hb⟩; refine ⟨_, rfl, ?_⟩; have n0_ := Aside0.mk (Kd.R_lower ho0 (below_size (by repeat (first | (with_reducible first | exact HB.out | apply below_alloc | apply pw_below_drewN | apply below_drew1) | exact HB.out)))); have n1_ := Aside0.mk (below_step (by repeat (first | (with_reducible first | exact HB.out | apply below_alloc | apply pw_below_drewN | apply below_drew1) | exact HB.out)) hb); clear HB; have HO138 := n0_; have HB := n1_; clear n0_ n1_; (try clear hb); (try clear hb2); (try clear hk); (try clear hi); (try clear ho0); obtain ⟨Ao25, co25, eo25⟩ := Kd.R_slice HO138.out; subst eo25) | ((with_reducible refine gate_callee (f := 9) rfl ?_); refine goesL_ (some 17) rfl rfl Try.func9 (by kernel_rfl) rfl #[.slice Ao25 t135.length co25] rfl (by (try simp only [List.map_toArray, List.map_cons, List.map_nil]); first | done | rfl | (simp only [List.length_drop, List.length_take]; rfl)) ?_; (with_reducible refine (area_Get.calls k _ _ t135 t139 t140 t141 _ ?side1 ?side2 A2.out).mono ?_); (case side1 => repeat (first | exact (Kd.R_reads' HO138.out).2.2 | (with_reducible refine Kd.C_alloc ?_ _) | (with_reducible refine Kd.C_drewN ?_ _) | (with_reducible refine Kd.C_drew ?_))); (case side2 => exact (Kd.R_reads' HO138.out).2.1); rintro e w26 ⟨rfl, hb⟩; refine ⟨_, rfl, ?_⟩; have n0_ := Aside0.mk (Kd.R_below (by (with_reducible repeat (first | apply Kd.R_alloc | apply Kd.R_drewN | apply Kd.R_drew)); exact HO138.out) hb); have n1_ := Aside0.mk (below_step (by repeat (first | (with_reducible first | exact HB.out | apply below_alloc | apply pw_below_drewN | apply below_drew1) | exact HB.out)) hb); clear HO138; clear HB; have HO138 := n0_; have HB := n1_; clear n0_ n1_; (try clear hb); (try clear hb2); (try clear hk); (try clear hi); have q27 : ((ji3) : Int) ≤ ((t135.length : Int) : Int) := of_decide_eq_true (by first | (with_reducible assumption) | assumption); obtain ⟨i027, hi027, _, hsz27, _⟩ := info_parts info9; have hroom27 : t135.length ≤ co25 := (Kd.R_reads' HO138.out).2.1; have hC27 : Kd.C Kd.string _ Ao25 t135.length t135 := (Kd.R_reads' HO138.out).2.2; have hcut27 := cut_to (P := Try.prog) 22 9 .i64 Try.underlying22 hi027 Ao25 t135.length co25 (ji3) (of_decide_eq_true (by first | (with_reducible assumption) | assumption)) q27 hroom27; have hr27 := Kd.C_take (m := ((ji3) : Int).toNat) hC27 (by omega); have hy27 : y142.length = ((ji3) : Int).toNat := (by rw [Ny142.out, List.length_take]; omega); rw [← Ny142.out] at hr27; rw [← hy27] at hcut27; have HR145 := Aside0.mk hr27; have HC145 := Aside0.mk (show y142.length ≤ co25 from by omega); clear hr27 hC27 hroom27 hi027 hsz27; have KY27 := Aside0.mk hy27; clear hy27; have KL27 := Aside0.mk (show ((ji3) : Int).toNat ≤ t135.length from by omega); replace q27 := eq_true q27) | ((with_reducible refine gate_callee (f := 9) rfl ?_); refine goesL_ (some 27) rfl rfl Try.func9 (by kernel_rfl) rfl #[.slice Ao25 y142.length co25] rfl (by (try simp only [List.map_toArray, List.map_cons, List.map_nil]); first | done | rfl | (simp only [List.length_drop, List.length_take]; rfl)) ?_; (with_reducible refine (area_Get.calls k _ _ y142 t146 t147 t148 _ ?side1 ?side2 A6.out).mono ?_); (case side1 => repeat (first | exact (by repeat (first | (with_reducible exact HR145.out) | (with_reducible refine Kd.C_alloc ?_ _) | (with_reducible refine Kd.C_drewN ?_ _) | (with_reducible refine Kd.C_drew ?_) | exact HR145.out)) | (with_reducible refine Kd.C_alloc ?_ _) | (with_reducible refine Kd.C_drewN ?_ _) | (with_reducible refine Kd.C_drew ?_))); (case side2 => exact HC145.out); rintro e w28 ⟨rfl, hb⟩; refine ⟨_, rfl, ?_⟩; have n0_ := Aside0.mk (Kd.R_below (by (with_reducible repeat (first | apply Kd.R_alloc | apply Kd.R_drewN | apply Kd.R_drew)); exact HO138.out) hb); have n1_ := Aside0.mk (Kd.C_below (by repeat (first | (with_reducible exact HR145.out) | (with_reducible refine Kd.C_alloc ?_ _) | (with_reducible refine Kd.C_drewN ?_ _) | (with_reducible refine Kd.C_drew ?_) | exact HR145.out)) hb); have n2_ := Aside0.mk (below_step (by repeat (first | (with_reducible first | exact HB.out | apply below_alloc | apply pw_below_drewN | apply below_drew1) | exact HB.out)) hb); clear HO138; clear HR145; clear HB; have HO138 := n0_; have HR145 := n1_; have HB := n2_; clear n0_ n1_ n2_; (try clear hb); (try clear hb2); (try clear hk); (try clear hi)) | ((with_reducible refine gate_callee (f := 15) rfl ?_); refine goesL_ (some 32) rfl rfl Try.func15 (by kernel_rfl) rfl #[.int .i64 1249, .int .u8 97] rfl (by (try simp only [List.map_toArray, List.map_cons, List.map_nil]); first | done | rfl | (simp only [List.length_drop, List.length_take]; rfl)) ?_; (with_reducible refine (ossuarylaw15_long.calls k 1249 97 t149 _ A7.out).mono ?_); rintro e w29 ⟨rfl, hb⟩; refine ⟨_, rfl, ?_⟩; have n0_ := Aside0.mk (Kd.R_below (by (with_reducible repeat (first | apply Kd.R_alloc | apply Kd.R_drewN | apply Kd.R_drew)); exact HO138.out) hb); have n1_ := Aside0.mk (Kd.C_below (by repeat (first | (with_reducible exact HR145.out) | (with_reducible refine Kd.C_alloc ?_ _) | (with_reducible refine Kd.C_drewN ?_ _) | (with_reducible refine Kd.C_drew ?_) | exact HR145.out)) hb); have n2_ := Aside0.mk (below_step (by repeat (first | (with_reducible first | exact HB.out | apply below_alloc | apply pw_below_drewN | apply below_drew1) | exact HB.out)) hb); clear HO138; clear HR145; clear HB; have HO138 := n0_; have HR145 := n1_; have HB := n2_; clear n0_ n1_ n2_; (try clear hb); (try clear hb2); (try clear hk); (try clear hi)) | ((with_reducible refine gate_callee (f := 7) rfl ?_); refine goesL_ (some 33) rfl rfl Try.func7 (by kernel_rfl) rfl #[.int .i64 7, .string t149] rfl (by (try simp only [List.map_toArray, List.map_cons, List.map_nil]); first | done | rfl | (simp only [List.length_drop, List.length_take]; rfl)) ?_; (with_reducible refine (area_Put.calls k 7 t149 t150 t151 _ A8.out).mono ?_); rintro e w30 ⟨v152, rfl, ho0, hb⟩; refine ⟨_, rfl, ?_⟩; have n0_ := Aside0.mk (Kd.R_elder' (by (with_reducible repeat (first | apply Kd.R_alloc | apply Kd.R_drewN | apply Kd.R_drew)); exact HO138.out) (Kd.R_base ho0) hb); have n1_ := Aside0.mk (Kd.R_lower (Kd.R_new' ho0 (Kd.R_lt (by (with_reducible repeat (first | apply Kd.R_alloc | apply Kd.R_drewN | apply Kd.R_drew)); exact HO138.out))) (below_size (by repeat (first | (with_reducible first | exact HB.out | apply below_alloc | apply pw_below_drewN | apply below_drew1) | exact HB.out)))); have n2_ := Aside0.mk (Kd.C_below (by repeat (first | (with_reducible exact HR145.out) | (with_reducible refine Kd.C_alloc ?_ _) | (with_reducible refine Kd.C_drewN ?_ _) | (with_reducible refine Kd.C_drew ?_) | exact HR145.out)) hb); have n3_ := Aside0.mk (below_step (by repeat (first | (with_reducible first | exact HB.out | apply below_alloc | apply pw_below_drewN | apply below_drew1) | exact HB.out)) hb); clear HO138; clear HR145; clear HB; have HO138 := n0_; have HO153 := n1_; have HR145 := n2_; have HB := n3_; clear n0_ n1_ n2_ n3_; (try clear hb); (try clear hb2); (try clear hk); (try clear hi); (try clear ho0)) | (go_at_call 12; (with_reducible refine (ossuarylaw0_Num.calls t136 t154 _ A10.out).mono ?_); rintro e w' ⟨rfl, ⟨nd, rfl⟩⟩; have p155 : 0 ≤ (0 : Int) := (by omega); have q155 : 0 < (t135.length : Int) := of_decide_eq_true (by first | (with_reducible assumption) | assumption); obtain ⟨ad155, e155, hx155_0⟩ := Kd.at_string (Kd.R_reads' HO138.out).2.2 0 p155 q155; cases e155; have qi155 : (0 < t135.length) = True := eq_true (by omega); (try rw [show ((0 : Int)).toNat = 0 from rfl] at hx155_0); (try rw [Addr.add_zero'] at hx155_0); replace p155 := eq_true p155; replace q155 := eq_true q155; have p156 : 0 ≤ (0 : Int) := (by omega); have q156 : 0 < (t135.length : Int) := of_decide_eq_true (by first | (with_reducible assumption) | assumption); obtain ⟨ad156, e156, hx156_0⟩ := Kd.at_string (Kd.R_reads' HO138.out).2.2 0 p156 q156; obtain rfl : ad155 = ad156 := (by injection e156); have qi156 : (0 < t135.length) = True := eq_true (by omega); (try rw [show ((0 : Int)).toNat = 0 from rfl] at hx156_0); (try rw [Addr.add_zero'] at hx156_0); replace p156 := eq_true p156; replace q156 := eq_true q156) | (go_at_call 12; (with_reducible refine (ossuarylaw0_Num.calls t141 t157 _ A19.out).mono ?_); rintro e w' ⟨rfl, ⟨nd, rfl⟩⟩) | (go_at_call 12; (with_reducible refine (ossuarylaw0_Num.calls t148 t158 _ A21.out).mono ?_); rintro e w' ⟨rfl, ⟨nd, rfl⟩⟩) | (go_at_call 12; (with_reducible refine (ossuarylaw0_Num.calls t151 t159 _ A23.out).mono ?_); rintro e w' ⟨rfl, ⟨nd, rfl⟩⟩))
                            go_ret
                            exact ⟨by first | rfl | (simp [errW_none, errW_some] <;> rfl) | (simp only [← hji3]; first | rfl | (simp [errW_none, errW_some] <;> rfl)) | (simp [*, errW_none, errW_some] <;> rfl), by repeat (first | (with_reducible first | exact HB.out | apply below_alloc | apply pw_below_drewN | apply below_drew1) | exact HB.out)⟩
                          · rw [if_neg c22] at H
                            have c22b0 : (t158 == 1500) = false := beq_eq_false_iff_ne.mpr c22
                            have c22b1 : (t158 != 1500) = true := bne_iff_ne.mpr c22
                            exact absurd (Option.some.inj H) (by rw [HRT.out]; decide)
                        · rw [if_neg c20] at H
                          have c20b0 : (t157 == 0) = false := beq_eq_false_iff_ne.mpr c20
                          have c20b1 : (t157 != 0) = true := bne_iff_ne.mpr c20
                          exact absurd (Option.some.inj H) (by rw [HRT.out]; decide)
                      · rw [if_neg c18] at H
                        have c18b0 : (t140.toList == ([97, 98, 99] : List UInt8)) = false := beq_eq_false_iff_ne.mpr c18
                        have c18b1 : (t140.toList != ([97, 98, 99] : List UInt8)) = true := bne_iff_ne.mpr c18
                        exact absurd (Option.some.inj H) (by rw [HRT.out]; decide)
                    · rw [if_neg c17] at H
                      have c17b0 : (t139 == 7) = false := beq_eq_false_iff_ne.mpr c17
                      have c17b1 : (t139 != 7) = true := bne_iff_ne.mpr c17
                      exact absurd (Option.some.inj H) (by rw [HRT.out]; decide)
                  · rw [if_neg c16] at H
                    have c16b0 : (((rdOf ByteArray.empty t135 0).extract 0 8).toList == ([77, 0, 3, 0, 7, 0, 0, 0] : List UInt8)) = false := beq_eq_false_iff_ne.mpr c16
                    have c16b1 : (((rdOf ByteArray.empty t135 0).extract 0 8).toList != ([77, 0, 3, 0, 7, 0, 0, 0] : List UInt8)) = true := bne_iff_ne.mpr c16
                    exact absurd (Option.some.inj H) (by rw [HRT.out]; decide)
                · rw [if_neg c15] at H
                  exact absurd H (by simp)
              · rw [if_neg c14] at H
                exact absurd H (by simp)
            · rw [if_neg c13] at H
              have c13b0 : (((rdOf ByteArray.empty t135 0).size : Int) == 64) = false := beq_eq_false_iff_ne.mpr c13
              have c13b1 : (((rdOf ByteArray.empty t135 0).size : Int) != 64) = true := bne_iff_ne.mpr c13
              exact absurd (Option.some.inj H) (by rw [HRT.out]; decide)
          · rw [if_neg c12] at H
            exact absurd H (by simp)
        · rw [if_neg c11] at H
          have c11b0 : (t154 == 0) = false := beq_eq_false_iff_ne.mpr c11
          have c11b1 : (t154 != 0) = true := bne_iff_ne.mpr c11
          exact absurd (Option.some.inj H) (by rw [HRT.out]; decide)
      · rw [if_neg c9] at H
        have c9b0 : ((t135.length : Int) == 24) = false := beq_eq_false_iff_ne.mpr c9
        have c9b1 : ((t135.length : Int) != 24) = true := bne_iff_ne.mpr c9
        exact absurd (Option.some.inj H) (by rw [HRT.out]; decide)
    · rw [if_neg c5] at H
      exact absurd H (by simp)
  · rw [if_neg c4] at H
    exact absurd H (by simp)

/-! ### ossuarylaw15_AreaSizes: function 5 -/
mutual
def ossuarylaw15_AreaSizes.j0 : Nat → Int → ByteArray → List ByteArray → Int → ByteArray → Int → Int → Int → Int → Bool → Option (Bool)
  | 0, _, _, _, _, _, _, _, _, _, _ => none
  | k + 1, x8, x9, x10, x12, x13, x14, x16, x18, x20, x80 => if x80 = true then (some false) else (ossuarylaw15_AreaSizes.l0 k x8 x9 x10 x12 x13 x14 x16 x18 x20 0)
def ossuarylaw15_AreaSizes.l0 : Nat → Int → ByteArray → List ByteArray → Int → ByteArray → Int → Int → Int → Int → Int → Option (Bool)
  | 0, _, _, _, _, _, _, _, _, _, _ => none
  | k + 1, x8, x9, x10, x12, x13, x14, x16, x18, x20, x21 => if x21 < (x10.length : Int) then (if 0 ≤ x21 then (if ((rdOf ByteArray.empty x10 x21).size : Int) = 64 then (ossuarylaw15_AreaSizes.l0 k x8 x9 x10 x12 x13 x14 x16 x18 x20 (wrap64 (x21 + 1))) else (some false)) else (none)) else (if 23 ≤ (x10.length : Int) then ((area_Get.f k (x10.take 23)).bind fun bt188 => (if x12 = x8 then (if x13.toList = x9.toList then ((ossuarylaw0_Num.f x14).bind fun t191 => (if t191 = 0 then ((ossuarylaw0_Num.f x16).bind fun t192 => (if t192 = 1500 then ((ossuarylaw0_Num.f x18).bind fun t193 => (if t193 = 1500 then ((ossuarylaw0_Num.f x20).bind fun t194 => (if t194 = 1500 then ((ossuarylaw0_Num.f bt188.2.2).bind fun t195 => (some (t195 == 1500))) else (some false))) else (some false))) else (some false))) else (some false))) else (some false)) else (some false))) else (none))
end
def ossuarylaw15_AreaSizes.f (k : Nat) (a0 : Int) (a1 : Int) (a2 : Int) : Option (Bool) := (ossuarylaw15_awake.f k).bind fun t160 => (if t160 = true then ((ossuarylaw15_long.f k (wrap64 (Int.tmod (IntKind.u64.wrap (a0)) 1249)) ((a1) % 256)).bind fun t161 => ((area_Put.f k (wrap64 (Int.tmod (IntKind.u64.wrap (a2)) 1048577)) t161).bind fun bt162 => ((area_Get.f k bt162.1).bind fun bt166 => ((ossuarylaw15_long.f k (wrap64 (1249 + (wrap64 (Int.tmod (IntKind.u64.wrap (a0)) 1249)))) 97).bind fun t169 => ((area_Put.f k (wrap64 (Int.tmod (IntKind.u64.wrap (a2)) 1048577)) t169).bind fun bt170 => ((area_Put.f k (wrap64 (1048577 + (wrap64 (Int.tmod (IntKind.u64.wrap (a0)) 1249)))) t161).bind fun bt174 => ((area_Put.f k (wrap64 ((-1) - (wrap64 (Int.tmod (IntKind.u64.wrap (a0)) 1249)))) t161).bind fun bt178 => ((ossuarylaw0_Num.f bt162.2).bind fun t182 => (if t182 = 0 then (ossuarylaw15_AreaSizes.j0 k (wrap64 (Int.tmod (IntKind.u64.wrap (a2)) 1048577)) t161 bt162.1 bt166.1 bt166.2.1 bt166.2.2 bt170.2 bt174.2 bt178.2 ((bt162.1.length : Int) != 24)) else (ossuarylaw15_AreaSizes.j0 k (wrap64 (Int.tmod (IntKind.u64.wrap (a2)) 1048577)) t161 bt162.1 bt166.1 bt166.2.1 bt166.2.2 bt170.2 bt174.2 bt178.2 true)))))))))) else (some false))
theorem ossuarylaw15_AreaSizes.mono_l : ∀ k, (∀ y0 y1 y2 y3 y4 y5 y6 y7 y8 y9, LeO (ossuarylaw15_AreaSizes.j0 k y0 y1 y2 y3 y4 y5 y6 y7 y8 y9) (ossuarylaw15_AreaSizes.j0 (k + 1) y0 y1 y2 y3 y4 y5 y6 y7 y8 y9)) ∧ (∀ y0 y1 y2 y3 y4 y5 y6 y7 y8 y9, LeO (ossuarylaw15_AreaSizes.l0 k y0 y1 y2 y3 y4 y5 y6 y7 y8 y9) (ossuarylaw15_AreaSizes.l0 (k + 1) y0 y1 y2 y3 y4 y5 y6 y7 y8 y9))
  | 0 => ⟨fun _ _ _ _ _ _ _ _ _ _ r h => by simp [ossuarylaw15_AreaSizes.j0] at h, fun _ _ _ _ _ _ _ _ _ _ r h => by simp [ossuarylaw15_AreaSizes.l0] at h⟩
  | k + 1 => by
    obtain ⟨ih0, ih1⟩ := ossuarylaw15_AreaSizes.mono_l k
    refine ⟨?_, ?_⟩
    · intro y0 y1 y2 y3 y4 y5 y6 y7 y8 y9
      unfold ossuarylaw15_AreaSizes.j0
      repeat' first
      | (with_reducible exact ih0 _ _ _ _ _ _ _ _ _ _)
      | (with_reducible exact ih1 _ _ _ _ _ _ _ _ _ _)
      | (with_reducible exact area_Get.mono _ _)
      | (with_reducible exact area_Put.mono _ _ _)
      | (with_reducible exact ossuarylaw15_awake.mono _)
      | (with_reducible exact ossuarylaw15_long.mono _ _ _)
      | (with_reducible exact LeO.refl _)
      | (with_reducible exact LeO.none _)
      | (with_reducible refine LeO.ite ?_ ?_)
      | (with_reducible refine LeO.bind ?_ (fun _ => ?_))
      | exact ih0 _ _ _ _ _ _ _ _ _ _
      | exact ih1 _ _ _ _ _ _ _ _ _ _
      | exact area_Get.mono _ _
      | exact area_Put.mono _ _ _
      | exact ossuarylaw15_awake.mono _
      | exact ossuarylaw15_long.mono _ _ _
      | exact LeO.none _
      | refine LeO.ite ?_ ?_
      | refine LeO.bind ?_ (fun _ => ?_)
    · intro y0 y1 y2 y3 y4 y5 y6 y7 y8 y9
      unfold ossuarylaw15_AreaSizes.l0
      repeat' first
      | (with_reducible exact ih0 _ _ _ _ _ _ _ _ _ _)
      | (with_reducible exact ih1 _ _ _ _ _ _ _ _ _ _)
      | (with_reducible exact area_Get.mono _ _)
      | (with_reducible exact area_Put.mono _ _ _)
      | (with_reducible exact ossuarylaw15_awake.mono _)
      | (with_reducible exact ossuarylaw15_long.mono _ _ _)
      | (with_reducible exact LeO.refl _)
      | (with_reducible exact LeO.none _)
      | (with_reducible refine LeO.ite ?_ ?_)
      | (with_reducible refine LeO.bind ?_ (fun _ => ?_))
      | exact ih0 _ _ _ _ _ _ _ _ _ _
      | exact ih1 _ _ _ _ _ _ _ _ _ _
      | exact area_Get.mono _ _
      | exact area_Put.mono _ _ _
      | exact ossuarylaw15_awake.mono _
      | exact ossuarylaw15_long.mono _ _ _
      | exact LeO.none _
      | refine LeO.ite ?_ ?_
      | refine LeO.bind ?_ (fun _ => ?_)
theorem ossuarylaw15_AreaSizes.mono : ∀ a0 a1 a2 k, LeO (ossuarylaw15_AreaSizes.f k a0 a1 a2) (ossuarylaw15_AreaSizes.f (k + 1) a0 a1 a2) := by
  intro a0 a1 a2 k
  obtain ⟨ih0, ih1⟩ := ossuarylaw15_AreaSizes.mono_l k
  unfold ossuarylaw15_AreaSizes.f
  repeat' first
      | (with_reducible exact ih0 _ _ _ _ _ _ _ _ _ _)
      | (with_reducible exact ih1 _ _ _ _ _ _ _ _ _ _)
      | (with_reducible exact area_Get.mono _ _)
      | (with_reducible exact area_Put.mono _ _ _)
      | (with_reducible exact ossuarylaw15_awake.mono _)
      | (with_reducible exact ossuarylaw15_long.mono _ _ _)
      | (with_reducible exact LeO.refl _)
      | (with_reducible exact LeO.none _)
      | (with_reducible refine LeO.ite ?_ ?_)
      | (with_reducible refine LeO.bind ?_ (fun _ => ?_))
      | exact ih0 _ _ _ _ _ _ _ _ _ _
      | exact ih1 _ _ _ _ _ _ _ _ _ _
      | exact area_Get.mono _ _
      | exact area_Put.mono _ _ _
      | exact ossuarylaw15_awake.mono _
      | exact ossuarylaw15_long.mono _ _ _
      | exact LeO.none _
      | refine LeO.ite ?_ ?_
      | refine LeO.bind ?_ (fun _ => ?_)
set_option maxHeartbeats 8000000 in
set_option maxRecDepth 100000 in
theorem ossuarylaw15_AreaSizes.calls (k : Nat) (a0 : Int) (a1 : Int) (a2 : Int) (r : Bool) (w : World) (h : ossuarylaw15_AreaSizes.f k a0 a1 a2 = some r) (hr_ : r = true := by rfl) :
    Calls Try.prog 5 #[.int .i64 a0, .int .i64 a1, .int .i64 a2] w fun e w' => e = .returned (.bool r) ∧ Below w.heap.size w w' := by
  have HRT := Aside0.mk hr_
  clear hr_
  have HB := Aside0.mk (Below.refl w.heap.size w)
  have H : ((ossuarylaw15_awake.f k).bind fun t160 => (if t160 = true then ((ossuarylaw15_long.f k (wrap64 (Int.tmod (IntKind.u64.wrap (a0)) 1249)) ((a1) % 256)).bind fun t161 => ((area_Put.f k (wrap64 (Int.tmod (IntKind.u64.wrap (a2)) 1048577)) t161).bind fun bt162 => ((area_Get.f k bt162.1).bind fun bt166 => ((ossuarylaw15_long.f k (wrap64 (1249 + (wrap64 (Int.tmod (IntKind.u64.wrap (a0)) 1249)))) 97).bind fun t169 => ((area_Put.f k (wrap64 (Int.tmod (IntKind.u64.wrap (a2)) 1048577)) t169).bind fun bt170 => ((area_Put.f k (wrap64 (1048577 + (wrap64 (Int.tmod (IntKind.u64.wrap (a0)) 1249)))) t161).bind fun bt174 => ((area_Put.f k (wrap64 ((-1) - (wrap64 (Int.tmod (IntKind.u64.wrap (a0)) 1249)))) t161).bind fun bt178 => ((ossuarylaw0_Num.f bt162.2).bind fun t182 => (if t182 = 0 then (ossuarylaw15_AreaSizes.j0 k (wrap64 (Int.tmod (IntKind.u64.wrap (a2)) 1048577)) t161 bt162.1 bt166.1 bt166.2.1 bt166.2.2 bt170.2 bt174.2 bt178.2 ((bt162.1.length : Int) != 24)) else (ossuarylaw15_AreaSizes.j0 k (wrap64 (Int.tmod (IntKind.u64.wrap (a2)) 1048577)) t161 bt162.1 bt166.1 bt166.2.1 bt166.2.2 bt170.2 bt174.2 bt178.2 true)))))))))) else (some false))) = some r := h
  clear h
  replace H := Option.bind_eq_some_iff.mp H
  obtain ⟨t160, A40, H⟩ := H
  replace H : (if t160 = true then ((ossuarylaw15_long.f k (wrap64 (Int.tmod (IntKind.u64.wrap (a0)) 1249)) ((a1) % 256)).bind fun t161 => ((area_Put.f k (wrap64 (Int.tmod (IntKind.u64.wrap (a2)) 1048577)) t161).bind fun bt162 => ((area_Get.f k bt162.1).bind fun bt166 => ((ossuarylaw15_long.f k (wrap64 (1249 + (wrap64 (Int.tmod (IntKind.u64.wrap (a0)) 1249)))) 97).bind fun t169 => ((area_Put.f k (wrap64 (Int.tmod (IntKind.u64.wrap (a2)) 1048577)) t169).bind fun bt170 => ((area_Put.f k (wrap64 (1048577 + (wrap64 (Int.tmod (IntKind.u64.wrap (a0)) 1249)))) t161).bind fun bt174 => ((area_Put.f k (wrap64 ((-1) - (wrap64 (Int.tmod (IntKind.u64.wrap (a0)) 1249)))) t161).bind fun bt178 => ((ossuarylaw0_Num.f bt162.2).bind fun t182 => (if t182 = 0 then (ossuarylaw15_AreaSizes.j0 k (wrap64 (Int.tmod (IntKind.u64.wrap (a2)) 1048577)) t161 bt162.1 bt166.1 bt166.2.1 bt166.2.2 bt170.2 bt174.2 bt178.2 ((bt162.1.length : Int) != 24)) else (ossuarylaw15_AreaSizes.j0 k (wrap64 (Int.tmod (IntKind.u64.wrap (a2)) 1048577)) t161 bt162.1 bt166.1 bt166.2.1 bt166.2.2 bt170.2 bt174.2 bt178.2 true)))))))))) else (some false)) = some r := H
  have A4 := Aside0.mk A40
  clear A40
  by_cases c5 : t160 = true
  · subst c5
    have H1 : ((ossuarylaw15_long.f k (wrap64 (Int.tmod (IntKind.u64.wrap (a0)) 1249)) ((a1) % 256)).bind fun t161 => ((area_Put.f k (wrap64 (Int.tmod (IntKind.u64.wrap (a2)) 1048577)) t161).bind fun bt162 => ((area_Get.f k bt162.1).bind fun bt166 => ((ossuarylaw15_long.f k (wrap64 (1249 + (wrap64 (Int.tmod (IntKind.u64.wrap (a0)) 1249)))) 97).bind fun t169 => ((area_Put.f k (wrap64 (Int.tmod (IntKind.u64.wrap (a2)) 1048577)) t169).bind fun bt170 => ((area_Put.f k (wrap64 (1048577 + (wrap64 (Int.tmod (IntKind.u64.wrap (a0)) 1249)))) t161).bind fun bt174 => ((area_Put.f k (wrap64 ((-1) - (wrap64 (Int.tmod (IntKind.u64.wrap (a0)) 1249)))) t161).bind fun bt178 => ((ossuarylaw0_Num.f bt162.2).bind fun t182 => (if t182 = 0 then (ossuarylaw15_AreaSizes.j0 k (wrap64 (Int.tmod (IntKind.u64.wrap (a2)) 1048577)) t161 bt162.1 bt166.1 bt166.2.1 bt166.2.2 bt170.2 bt174.2 bt178.2 ((bt162.1.length : Int) != 24)) else (ossuarylaw15_AreaSizes.j0 k (wrap64 (Int.tmod (IntKind.u64.wrap (a2)) 1048577)) t161 bt162.1 bt166.1 bt166.2.1 bt166.2.2 bt170.2 bt174.2 bt178.2 true)))))))))) = some r := by rw [if_pos rfl] at H; exact H
    clear H
    have H := H1
    clear H1
    replace H := Option.bind_eq_some_iff.mp H
    obtain ⟨t161, A60, H⟩ := H
    replace H : ((area_Put.f k (wrap64 (Int.tmod (IntKind.u64.wrap (a2)) 1048577)) t161).bind fun bt162 => ((area_Get.f k bt162.1).bind fun bt166 => ((ossuarylaw15_long.f k (wrap64 (1249 + (wrap64 (Int.tmod (IntKind.u64.wrap (a0)) 1249)))) 97).bind fun t169 => ((area_Put.f k (wrap64 (Int.tmod (IntKind.u64.wrap (a2)) 1048577)) t169).bind fun bt170 => ((area_Put.f k (wrap64 (1048577 + (wrap64 (Int.tmod (IntKind.u64.wrap (a0)) 1249)))) t161).bind fun bt174 => ((area_Put.f k (wrap64 ((-1) - (wrap64 (Int.tmod (IntKind.u64.wrap (a0)) 1249)))) t161).bind fun bt178 => ((ossuarylaw0_Num.f bt162.2).bind fun t182 => (if t182 = 0 then (ossuarylaw15_AreaSizes.j0 k (wrap64 (Int.tmod (IntKind.u64.wrap (a2)) 1048577)) t161 bt162.1 bt166.1 bt166.2.1 bt166.2.2 bt170.2 bt174.2 bt178.2 ((bt162.1.length : Int) != 24)) else (ossuarylaw15_AreaSizes.j0 k (wrap64 (Int.tmod (IntKind.u64.wrap (a2)) 1048577)) t161 bt162.1 bt166.1 bt166.2.1 bt166.2.2 bt170.2 bt174.2 bt178.2 true))))))))) = some r := H
    have A6 := Aside0.mk A60
    clear A60
    replace H := Option.bind_eq_some_iff.mp H
    obtain ⟨⟨t162, t163⟩, A70, H⟩ := H
    replace H : ((area_Get.f k t162).bind fun bt166 => ((ossuarylaw15_long.f k (wrap64 (1249 + (wrap64 (Int.tmod (IntKind.u64.wrap (a0)) 1249)))) 97).bind fun t169 => ((area_Put.f k (wrap64 (Int.tmod (IntKind.u64.wrap (a2)) 1048577)) t169).bind fun bt170 => ((area_Put.f k (wrap64 (1048577 + (wrap64 (Int.tmod (IntKind.u64.wrap (a0)) 1249)))) t161).bind fun bt174 => ((area_Put.f k (wrap64 ((-1) - (wrap64 (Int.tmod (IntKind.u64.wrap (a0)) 1249)))) t161).bind fun bt178 => ((ossuarylaw0_Num.f t163).bind fun t182 => (if t182 = 0 then (ossuarylaw15_AreaSizes.j0 k (wrap64 (Int.tmod (IntKind.u64.wrap (a2)) 1048577)) t161 t162 bt166.1 bt166.2.1 bt166.2.2 bt170.2 bt174.2 bt178.2 ((t162.length : Int) != 24)) else (ossuarylaw15_AreaSizes.j0 k (wrap64 (Int.tmod (IntKind.u64.wrap (a2)) 1048577)) t161 t162 bt166.1 bt166.2.1 bt166.2.2 bt170.2 bt174.2 bt178.2 true)))))))) = some r := H
    have A7 := Aside0.mk A70
    clear A70
    replace H := Option.bind_eq_some_iff.mp H
    obtain ⟨⟨t166, t167, t168⟩, A80, H⟩ := H
    replace H : ((ossuarylaw15_long.f k (wrap64 (1249 + (wrap64 (Int.tmod (IntKind.u64.wrap (a0)) 1249)))) 97).bind fun t169 => ((area_Put.f k (wrap64 (Int.tmod (IntKind.u64.wrap (a2)) 1048577)) t169).bind fun bt170 => ((area_Put.f k (wrap64 (1048577 + (wrap64 (Int.tmod (IntKind.u64.wrap (a0)) 1249)))) t161).bind fun bt174 => ((area_Put.f k (wrap64 ((-1) - (wrap64 (Int.tmod (IntKind.u64.wrap (a0)) 1249)))) t161).bind fun bt178 => ((ossuarylaw0_Num.f t163).bind fun t182 => (if t182 = 0 then (ossuarylaw15_AreaSizes.j0 k (wrap64 (Int.tmod (IntKind.u64.wrap (a2)) 1048577)) t161 t162 t166 t167 t168 bt170.2 bt174.2 bt178.2 ((t162.length : Int) != 24)) else (ossuarylaw15_AreaSizes.j0 k (wrap64 (Int.tmod (IntKind.u64.wrap (a2)) 1048577)) t161 t162 t166 t167 t168 bt170.2 bt174.2 bt178.2 true))))))) = some r := H
    have A8 := Aside0.mk A80
    clear A80
    replace H := Option.bind_eq_some_iff.mp H
    obtain ⟨t169, A90, H⟩ := H
    replace H : ((area_Put.f k (wrap64 (Int.tmod (IntKind.u64.wrap (a2)) 1048577)) t169).bind fun bt170 => ((area_Put.f k (wrap64 (1048577 + (wrap64 (Int.tmod (IntKind.u64.wrap (a0)) 1249)))) t161).bind fun bt174 => ((area_Put.f k (wrap64 ((-1) - (wrap64 (Int.tmod (IntKind.u64.wrap (a0)) 1249)))) t161).bind fun bt178 => ((ossuarylaw0_Num.f t163).bind fun t182 => (if t182 = 0 then (ossuarylaw15_AreaSizes.j0 k (wrap64 (Int.tmod (IntKind.u64.wrap (a2)) 1048577)) t161 t162 t166 t167 t168 bt170.2 bt174.2 bt178.2 ((t162.length : Int) != 24)) else (ossuarylaw15_AreaSizes.j0 k (wrap64 (Int.tmod (IntKind.u64.wrap (a2)) 1048577)) t161 t162 t166 t167 t168 bt170.2 bt174.2 bt178.2 true)))))) = some r := H
    have A9 := Aside0.mk A90
    clear A90
    replace H := Option.bind_eq_some_iff.mp H
    obtain ⟨⟨t170, t171⟩, A100, H⟩ := H
    replace H : ((area_Put.f k (wrap64 (1048577 + (wrap64 (Int.tmod (IntKind.u64.wrap (a0)) 1249)))) t161).bind fun bt174 => ((area_Put.f k (wrap64 ((-1) - (wrap64 (Int.tmod (IntKind.u64.wrap (a0)) 1249)))) t161).bind fun bt178 => ((ossuarylaw0_Num.f t163).bind fun t182 => (if t182 = 0 then (ossuarylaw15_AreaSizes.j0 k (wrap64 (Int.tmod (IntKind.u64.wrap (a2)) 1048577)) t161 t162 t166 t167 t168 t171 bt174.2 bt178.2 ((t162.length : Int) != 24)) else (ossuarylaw15_AreaSizes.j0 k (wrap64 (Int.tmod (IntKind.u64.wrap (a2)) 1048577)) t161 t162 t166 t167 t168 t171 bt174.2 bt178.2 true))))) = some r := H
    have A10 := Aside0.mk A100
    clear A100
    replace H := Option.bind_eq_some_iff.mp H
    obtain ⟨⟨t174, t175⟩, A110, H⟩ := H
    replace H : ((area_Put.f k (wrap64 ((-1) - (wrap64 (Int.tmod (IntKind.u64.wrap (a0)) 1249)))) t161).bind fun bt178 => ((ossuarylaw0_Num.f t163).bind fun t182 => (if t182 = 0 then (ossuarylaw15_AreaSizes.j0 k (wrap64 (Int.tmod (IntKind.u64.wrap (a2)) 1048577)) t161 t162 t166 t167 t168 t171 t175 bt178.2 ((t162.length : Int) != 24)) else (ossuarylaw15_AreaSizes.j0 k (wrap64 (Int.tmod (IntKind.u64.wrap (a2)) 1048577)) t161 t162 t166 t167 t168 t171 t175 bt178.2 true)))) = some r := H
    have A11 := Aside0.mk A110
    clear A110
    replace H := Option.bind_eq_some_iff.mp H
    obtain ⟨⟨t178, t179⟩, A120, H⟩ := H
    replace H : ((ossuarylaw0_Num.f t163).bind fun t182 => (if t182 = 0 then (ossuarylaw15_AreaSizes.j0 k (wrap64 (Int.tmod (IntKind.u64.wrap (a2)) 1048577)) t161 t162 t166 t167 t168 t171 t175 t179 ((t162.length : Int) != 24)) else (ossuarylaw15_AreaSizes.j0 k (wrap64 (Int.tmod (IntKind.u64.wrap (a2)) 1048577)) t161 t162 t166 t167 t168 t171 t175 t179 true))) = some r := H
    have A12 := Aside0.mk A120
    clear A120
    have HC13 := Aside0.mk H
    clear H
    go_enter Try.func5, Try.ntmps5
    go_upto_region 11 with (first | ((with_reducible refine gate_callee (f := 14) rfl ?_); refine goesL_ (some 25) rfl rfl Try.func14 (by kernel_rfl) rfl #[] rfl (by (try simp only [List.map_toArray, List.map_cons, List.map_nil]); first | done | rfl | (simp only [List.length_drop, List.length_take]; rfl)) ?_; (with_reducible refine (ossuarylaw15_awake.calls k  true _ A4.out).mono ?_); rintro e w14 ⟨rfl, hb⟩; refine ⟨_, rfl, ?_⟩; have n0_ := Aside0.mk (below_step (by repeat (first | (with_reducible first | exact HB.out | apply below_alloc | apply pw_below_drewN | apply below_drew1) | exact HB.out)) hb); clear HB; have HB := n0_; clear n0_; (try clear hb); (try clear hb2); (try clear hk); (try clear hi)) | ((with_reducible refine gate_callee (f := 15) rfl ?_); refine goesL_ (some 38) rfl rfl Try.func15 (by kernel_rfl) rfl #[.int .i64 (wrap64 (Int.tmod (IntKind.u64.wrap (a0)) 1249)), .int .u8 ((a1) % 256)] rfl (by (try simp only [List.map_toArray, List.map_cons, List.map_nil]); first | done | rfl | (simp only [List.length_drop, List.length_take]; rfl)) ?_; (with_reducible refine (ossuarylaw15_long.calls k (wrap64 (Int.tmod (IntKind.u64.wrap (a0)) 1249)) ((a1) % 256) t161 _ A6.out).mono ?_); rintro e w15 ⟨rfl, hb⟩; refine ⟨_, rfl, ?_⟩; have n0_ := Aside0.mk (below_step (by repeat (first | (with_reducible first | exact HB.out | apply below_alloc | apply pw_below_drewN | apply below_drew1) | exact HB.out)) hb); clear HB; have HB := n0_; clear n0_; (try clear hb); (try clear hb2); (try clear hk); (try clear hi)) | ((with_reducible refine gate_callee (f := 7) rfl ?_); refine goesL_ (some 42) rfl rfl Try.func7 (by kernel_rfl) rfl #[.int .i64 (wrap64 (Int.tmod (IntKind.u64.wrap (a2)) 1048577)), .string t161] rfl (by (try simp only [List.map_toArray, List.map_cons, List.map_nil]); first | done | rfl | (simp only [List.length_drop, List.length_take]; rfl)) ?_; (with_reducible refine (area_Put.calls k (wrap64 (Int.tmod (IntKind.u64.wrap (a2)) 1048577)) t161 t162 t163 _ A7.out).mono ?_); rintro e w16 ⟨v164, rfl, ho0, hb⟩; refine ⟨_, rfl, ?_⟩; have n0_ := Aside0.mk (Kd.R_lower ho0 (below_size (by repeat (first | (with_reducible first | exact HB.out | apply below_alloc | apply pw_below_drewN | apply below_drew1) | exact HB.out)))); have n1_ := Aside0.mk (below_step (by repeat (first | (with_reducible first | exact HB.out | apply below_alloc | apply pw_below_drewN | apply below_drew1) | exact HB.out)) hb); clear HB; have HO165 := n0_; have HB := n1_; clear n0_ n1_; (try clear hb); (try clear hb2); (try clear hk); (try clear hi); (try clear ho0); obtain ⟨Ao17, co17, eo17⟩ := Kd.R_slice HO165.out; subst eo17) | ((with_reducible refine gate_callee (f := 9) rfl ?_); refine goesL_ (some 47) rfl rfl Try.func9 (by kernel_rfl) rfl #[.slice Ao17 t162.length co17] rfl (by (try simp only [List.map_toArray, List.map_cons, List.map_nil]); first | done | rfl | (simp only [List.length_drop, List.length_take]; rfl)) ?_; (with_reducible refine (area_Get.calls k _ _ t162 t166 t167 t168 _ ?side1 ?side2 A8.out).mono ?_); (case side1 => repeat (first | exact (Kd.R_reads' HO165.out).2.2 | (with_reducible refine Kd.C_alloc ?_ _) | (with_reducible refine Kd.C_drewN ?_ _) | (with_reducible refine Kd.C_drew ?_))); (case side2 => exact (Kd.R_reads' HO165.out).2.1); rintro e w18 ⟨rfl, hb⟩; refine ⟨_, rfl, ?_⟩; have n0_ := Aside0.mk (Kd.R_below (by (with_reducible repeat (first | apply Kd.R_alloc | apply Kd.R_drewN | apply Kd.R_drew)); exact HO165.out) hb); have n1_ := Aside0.mk (below_step (by repeat (first | (with_reducible first | exact HB.out | apply below_alloc | apply pw_below_drewN | apply below_drew1) | exact HB.out)) hb); clear HO165; clear HB; have HO165 := n0_; have HB := n1_; clear n0_ n1_; (try clear hb); (try clear hb2); (try clear hk); (try clear hi)) | ((with_reducible refine gate_callee (f := 15) rfl ?_); refine goesL_ (some 55) rfl rfl Try.func15 (by kernel_rfl) rfl #[.int .i64 (wrap64 (1249 + (wrap64 (Int.tmod (IntKind.u64.wrap (a0)) 1249)))), .int .u8 97] rfl (by (try simp only [List.map_toArray, List.map_cons, List.map_nil]); first | done | rfl | (simp only [List.length_drop, List.length_take]; rfl)) ?_; (with_reducible refine (ossuarylaw15_long.calls k (wrap64 (1249 + (wrap64 (Int.tmod (IntKind.u64.wrap (a0)) 1249)))) 97 t169 _ A9.out).mono ?_); rintro e w19 ⟨rfl, hb⟩; refine ⟨_, rfl, ?_⟩; have n0_ := Aside0.mk (Kd.R_below (by (with_reducible repeat (first | apply Kd.R_alloc | apply Kd.R_drewN | apply Kd.R_drew)); exact HO165.out) hb); have n1_ := Aside0.mk (below_step (by repeat (first | (with_reducible first | exact HB.out | apply below_alloc | apply pw_below_drewN | apply below_drew1) | exact HB.out)) hb); clear HO165; clear HB; have HO165 := n0_; have HB := n1_; clear n0_ n1_; (try clear hb); (try clear hb2); (try clear hk); (try clear hi)) | ((with_reducible refine gate_callee (f := 7) rfl ?_); refine goesL_ (some 56) rfl rfl Try.func7 (by kernel_rfl) rfl #[.int .i64 (wrap64 (Int.tmod (IntKind.u64.wrap (a2)) 1048577)), .string t169] rfl (by (try simp only [List.map_toArray, List.map_cons, List.map_nil]); first | done | rfl | (simp only [List.length_drop, List.length_take]; rfl)) ?_; (with_reducible refine (area_Put.calls k (wrap64 (Int.tmod (IntKind.u64.wrap (a2)) 1048577)) t169 t170 t171 _ A10.out).mono ?_); rintro e w20 ⟨v172, rfl, ho0, hb⟩; refine ⟨_, rfl, ?_⟩; have n0_ := Aside0.mk (Kd.R_elder' (by (with_reducible repeat (first | apply Kd.R_alloc | apply Kd.R_drewN | apply Kd.R_drew)); exact HO165.out) (Kd.R_base ho0) hb); have n1_ := Aside0.mk (Kd.R_lower (Kd.R_new' ho0 (Kd.R_lt (by (with_reducible repeat (first | apply Kd.R_alloc | apply Kd.R_drewN | apply Kd.R_drew)); exact HO165.out))) (below_size (by repeat (first | (with_reducible first | exact HB.out | apply below_alloc | apply pw_below_drewN | apply below_drew1) | exact HB.out)))); have n2_ := Aside0.mk (below_step (by repeat (first | (with_reducible first | exact HB.out | apply below_alloc | apply pw_below_drewN | apply below_drew1) | exact HB.out)) hb); clear HO165; clear HB; have HO165 := n0_; have HO173 := n1_; have HB := n2_; clear n0_ n1_ n2_; (try clear hb); (try clear hb2); (try clear hk); (try clear hi); (try clear ho0)) | ((with_reducible refine gate_callee (f := 7) rfl ?_); refine goesL_ (some 63) rfl rfl Try.func7 (by kernel_rfl) rfl #[.int .i64 (wrap64 (1048577 + (wrap64 (Int.tmod (IntKind.u64.wrap (a0)) 1249)))), .string t161] rfl (by (try simp only [List.map_toArray, List.map_cons, List.map_nil]); first | done | rfl | (simp only [List.length_drop, List.length_take]; rfl)) ?_; (with_reducible refine (area_Put.calls k (wrap64 (1048577 + (wrap64 (Int.tmod (IntKind.u64.wrap (a0)) 1249)))) t161 t174 t175 _ A11.out).mono ?_); rintro e w21 ⟨v176, rfl, ho0, hb⟩; refine ⟨_, rfl, ?_⟩; have n0_ := Aside0.mk (Kd.R_elder' (by (with_reducible repeat (first | apply Kd.R_alloc | apply Kd.R_drewN | apply Kd.R_drew)); exact HO165.out) (Kd.R_base ho0) hb); have n1_ := Aside0.mk (Kd.R_elder' (by (with_reducible repeat (first | apply Kd.R_alloc | apply Kd.R_drewN | apply Kd.R_drew)); exact HO173.out) (Kd.R_base ho0) hb); have n2_ := Aside0.mk (Kd.R_lower (Kd.R_new' (Kd.R_new' ho0 (Kd.R_lt (by (with_reducible repeat (first | apply Kd.R_alloc | apply Kd.R_drewN | apply Kd.R_drew)); exact HO165.out))) (Kd.R_lt (by (with_reducible repeat (first | apply Kd.R_alloc | apply Kd.R_drewN | apply Kd.R_drew)); exact HO173.out))) (below_size (by repeat (first | (with_reducible first | exact HB.out | apply below_alloc | apply pw_below_drewN | apply below_drew1) | exact HB.out)))); have n3_ := Aside0.mk (below_step (by repeat (first | (with_reducible first | exact HB.out | apply below_alloc | apply pw_below_drewN | apply below_drew1) | exact HB.out)) hb); clear HO165; clear HO173; clear HB; have HO165 := n0_; have HO173 := n1_; have HO177 := n2_; have HB := n3_; clear n0_ n1_ n2_ n3_; (try clear hb); (try clear hb2); (try clear hk); (try clear hi); (try clear ho0)) | ((with_reducible refine gate_callee (f := 7) rfl ?_); refine goesL_ (some 70) rfl rfl Try.func7 (by kernel_rfl) rfl #[.int .i64 (wrap64 ((-1) - (wrap64 (Int.tmod (IntKind.u64.wrap (a0)) 1249)))), .string t161] rfl (by (try simp only [List.map_toArray, List.map_cons, List.map_nil]); first | done | rfl | (simp only [List.length_drop, List.length_take]; rfl)) ?_; (with_reducible refine (area_Put.calls k (wrap64 ((-1) - (wrap64 (Int.tmod (IntKind.u64.wrap (a0)) 1249)))) t161 t178 t179 _ A12.out).mono ?_); rintro e w22 ⟨v180, rfl, ho0, hb⟩; refine ⟨_, rfl, ?_⟩; have n0_ := Aside0.mk (Kd.R_elder' (by (with_reducible repeat (first | apply Kd.R_alloc | apply Kd.R_drewN | apply Kd.R_drew)); exact HO165.out) (Kd.R_base ho0) hb); have n1_ := Aside0.mk (Kd.R_elder' (by (with_reducible repeat (first | apply Kd.R_alloc | apply Kd.R_drewN | apply Kd.R_drew)); exact HO173.out) (Kd.R_base ho0) hb); have n2_ := Aside0.mk (Kd.R_elder' (by (with_reducible repeat (first | apply Kd.R_alloc | apply Kd.R_drewN | apply Kd.R_drew)); exact HO177.out) (Kd.R_base ho0) hb); have n3_ := Aside0.mk (Kd.R_lower (Kd.R_new' (Kd.R_new' (Kd.R_new' ho0 (Kd.R_lt (by (with_reducible repeat (first | apply Kd.R_alloc | apply Kd.R_drewN | apply Kd.R_drew)); exact HO165.out))) (Kd.R_lt (by (with_reducible repeat (first | apply Kd.R_alloc | apply Kd.R_drewN | apply Kd.R_drew)); exact HO173.out))) (Kd.R_lt (by (with_reducible repeat (first | apply Kd.R_alloc | apply Kd.R_drewN | apply Kd.R_drew)); exact HO177.out))) (below_size (by repeat (first | (with_reducible first | exact HB.out | apply below_alloc | apply pw_below_drewN | apply below_drew1) | exact HB.out)))); have n4_ := Aside0.mk (below_step (by repeat (first | (with_reducible first | exact HB.out | apply below_alloc | apply pw_below_drewN | apply below_drew1) | exact HB.out)) hb); clear HO165; clear HO173; clear HO177; clear HB; have HO165 := n0_; have HO173 := n1_; have HO177 := n2_; have HO181 := n3_; have HB := n4_; clear n0_ n1_ n2_ n3_ n4_; (try clear hb); (try clear hb2); (try clear hk); (try clear hi); (try clear ho0)))
    (try simp only [Act.put, List.setIfInBounds_toArray, List.set_cons_zero, List.set_cons_succ])
    go_cut [80] (fun v80 wc => ∃ (kq : Nat) (x80_12 : Bool), v80 = .bool x80_12 ∧ Aside0 (ossuarylaw15_AreaSizes.j0 kq (wrap64 (Int.tmod (IntKind.u64.wrap (a2)) 1048577)) t161 t162 t166 t167 t168 t171 t175 t179 x80_12 = some r) ∧ Aside0 (kq ≤ k) ∧ Aside0 (Kd.R Kd.string 9 wc w.heap.size (fun _ => True) (.slice Ao17 t162.length co17) t162) ∧ Aside0 (Below w.heap.size w wc))
    case first =>
      have H := HC13.out
      clear HC13
      replace H := Option.bind_eq_some_iff.mp H
      obtain ⟨t182, A230, H⟩ := H
      replace H : (if t182 = 0 then (ossuarylaw15_AreaSizes.j0 k (wrap64 (Int.tmod (IntKind.u64.wrap (a2)) 1048577)) t161 t162 t166 t167 t168 t171 t175 t179 ((t162.length : Int) != 24)) else (ossuarylaw15_AreaSizes.j0 k (wrap64 (Int.tmod (IntKind.u64.wrap (a2)) 1048577)) t161 t162 t166 t167 t168 t171 t175 t179 true)) = some r := H
      have A23 := Aside0.mk A230
      clear A230
      by_cases c24 : t182 = 0
      · rw [if_pos c24] at H
        have c24b0 : (t182 == 0) = true := beq_iff_eq.mpr c24
        have c24b1 : (t182 != 0) = false := bne_eq_false_iff_eq.mpr c24
        clear c24
        (first | rw [c24b0] | (simp only [i64_w, i32_w]; rw [c24b0]) | skip)
        have H' := Aside0.mk H
        clear H
        go_wp2_with (first | ((with_reducible refine gate_callee (f := 12) rfl ?_); refine goesL_ (some 74) rfl rfl Try.func12 (by kernel_rfl) rfl #[.int .i64 t163] rfl (by (try simp only [List.map_toArray, List.map_cons, List.map_nil]); first | done | rfl | (simp only [List.length_drop, List.length_take]; rfl)) ?_; (with_reducible refine (ossuarylaw0_Num.calls t163 t182 _ A23.out).mono ?_); rintro e w' ⟨rfl, ⟨nd, rfl⟩⟩; refine ⟨_, rfl, ?_⟩))
        go_meet
        case rel => exact ⟨_, (((t162.length : Int) != 24)), (by first | rfl | (simp; done) | (simp [*]; done)), H', ⟨by first | omega | exact Nat.le_refl _⟩, ⟨by (with_reducible repeat (first | apply Kd.R_alloc | apply Kd.R_drewN | apply Kd.R_drew)); exact Kd.R_mono HO165.out (fun _ hk => trivial)⟩, ⟨by repeat (first | (with_reducible first | exact HB.out | apply below_alloc | apply pw_below_drewN | apply below_drew1) | exact HB.out)⟩⟩
      · rw [if_neg c24] at H
        have c24b0 : (t182 == 0) = false := beq_eq_false_iff_ne.mpr c24
        have c24b1 : (t182 != 0) = true := bne_iff_ne.mpr c24
        (first | rw [c24b0] | (simp only [i64_w, i32_w]; rw [c24b0]) | skip)
        have H' := Aside0.mk H
        clear H
        go_wp2_with (first | ((with_reducible refine gate_callee (f := 12) rfl ?_); refine goesL_ (some 74) rfl rfl Try.func12 (by kernel_rfl) rfl #[.int .i64 t163] rfl (by (try simp only [List.map_toArray, List.map_cons, List.map_nil]); first | done | rfl | (simp only [List.length_drop, List.length_take]; rfl)) ?_; (with_reducible refine (ossuarylaw0_Num.calls t163 t182 _ A23.out).mono ?_); rintro e w' ⟨rfl, ⟨nd, rfl⟩⟩; refine ⟨_, rfl, ?_⟩))
        go_meet
        case rel => exact ⟨_, (true), (by first | rfl | (simp; done) | (simp [*]; done)), H', ⟨by first | omega | exact Nat.le_refl _⟩, ⟨by (with_reducible repeat (first | apply Kd.R_alloc | apply Kd.R_drewN | apply Kd.R_drew)); exact Kd.R_mono HO165.out (fun _ hk => trivial)⟩, ⟨by repeat (first | (with_reducible first | exact HB.out | apply below_alloc | apply pw_below_drewN | apply below_drew1) | exact HB.out)⟩⟩
    case rest =>
      clear HC13
      try clear c1
      try clear c2
      try clear p2
      try clear c5
      try clear p6
      try clear c7
      try clear c9
      try clear c12
      try clear c14
      try clear c15
      try clear c24
      try clear c24b0
      try clear c24b1
      obtain ⟨kq, x80_12, rfl, HA, HJ12, HO_10, HB⟩ := hcut
      cases kq with
      | zero => exact absurd HA.out (by simp [ossuarylaw15_AreaSizes.j0])
      | succ kj12 =>
        have H := HA.out
        clear HA
        simp only [ossuarylaw15_AreaSizes.j0] at H
        by_cases c25 : x80_12 = true
        · subst c25
          have H1 : (some false) = some r := by rw [if_pos rfl] at H; exact H
          clear H
          have H := H1
          clear H1
          exact absurd (Option.some.inj H) (by rw [HRT.out]; decide)
        · replace c25 := Bool.eq_false_iff.mpr c25
          subst c25
          have H1 : (ossuarylaw15_AreaSizes.l0 kj12 (wrap64 (Int.tmod (IntKind.u64.wrap (a2)) 1048577)) t161 t162 t166 t167 t168 t171 t175 t179 0) = some r := by rw [if_neg (show ¬ (false = true) by decide)] at H; exact H
          clear H
          have H := H1
          clear H1
          have H' := Aside0.mk H
          clear H
          go_wp2
          go_loopg [21] kj12 (fun kq v21 w' => ∃ (x21_2 : Int), v21 = .int .i64 x21_2 ∧ Aside0 (ossuarylaw15_AreaSizes.l0 kq (wrap64 (Int.tmod (IntKind.u64.wrap (a2)) 1048577)) t161 t162 t166 t167 t168 t171 t175 t179 x21_2 = some r) ∧ Aside0 (kq ≤ kj12) ∧ Aside0 (Kd.R Kd.string 9 w' w.heap.size (fun _ => True) (.slice Ao17 t162.length co17) t162) ∧ Aside0 (Below w.heap.size w w'))
          case atStart => exact ⟨(0), (by first | rfl | (simp; done) | (simp [*]; done)), H', ⟨Nat.le_refl _⟩, ⟨by (with_reducible repeat (first | apply Kd.R_alloc | apply Kd.R_drewN | apply Kd.R_drew)); exact HO_10.out⟩, ⟨by repeat (first | (with_reducible first | exact HB.out | apply below_alloc | apply pw_below_drewN | apply below_drew1) | exact HB.out)⟩⟩
          case round =>
            clear H'
            try clear c1
            try clear c2
            try clear p2
            try clear c5
            try clear p6
            try clear c7
            try clear c9
            try clear c12
            try clear c14
            try clear c15
            try clear c24
            try clear c24b0
            try clear c24b1
            try clear c25
            try clear p2
            try clear p6
            obtain ⟨x21_2, rfl, HA, HK2, HO_10, HB⟩ := hrel
            cases gk with
            | zero => exact absurd HA.out (by simp [ossuarylaw15_AreaSizes.l0])
            | succ k2 =>
              have H := HA.out
              clear HA
              simp only [ossuarylaw15_AreaSizes.l0] at H
              by_cases c26 : x21_2 < (t162.length : Int)
              · rw [if_pos c26] at H
                have c26b0 : decide (x21_2 < (t162.length : Int)) = true := decide_eq_true c26
                clear c26
                by_cases c27 : 0 ≤ x21_2
                · rw [if_pos c27] at H
                  have c27b0 : decide (0 ≤ x21_2) = true := decide_eq_true c27
                  clear c27
                  by_cases c28 : ((rdOf ByteArray.empty t162 x21_2).size : Int) = 64
                  · rw [if_pos c28] at H
                    have c28b0 : (((rdOf ByteArray.empty t162 x21_2).size : Int) == 64) = true := beq_iff_eq.mpr c28
                    have c28b1 : (((rdOf ByteArray.empty t162 x21_2).size : Int) != 64) = false := bne_eq_false_iff_eq.mpr c28
                    clear c28
                    have H' := Aside0.mk H
                    clear H
                    have p183 : 0 ≤ (x21_2 : Int) := of_decide_eq_true (by first | (with_reducible assumption) | assumption)
                    have q183 : x21_2 < (t162.length : Int) := of_decide_eq_true (by first | (with_reducible assumption) | assumption)
                    obtain ⟨ad183, e183, hx183_0⟩ := Kd.at_string (Kd.R_reads' HO_10.out).2.2 x21_2 p183 q183
                    cases e183
                    replace p183 := eq_true p183
                    replace q183 := eq_true q183
                    go_wp2
                    go_roundg k2
                    case measure => have := HJ12.out; have := HK2.out; omega
                    case rel => exact ⟨(wrap64 (x21_2 + 1)), (by first | rfl | (simp; done) | (simp [*]; done)), H', ⟨by have := HJ12.out; have := HK2.out; omega⟩, ⟨by (with_reducible repeat (first | apply Kd.R_alloc | apply Kd.R_drewN | apply Kd.R_drew)); exact HO_10.out⟩, ⟨by repeat (first | (with_reducible first | exact HB.out | apply below_alloc | apply pw_below_drewN | apply below_drew1) | exact HB.out)⟩⟩
                  · rw [if_neg c28] at H
                    have c28b0 : (((rdOf ByteArray.empty t162 x21_2).size : Int) == 64) = false := beq_eq_false_iff_ne.mpr c28
                    have c28b1 : (((rdOf ByteArray.empty t162 x21_2).size : Int) != 64) = true := bne_iff_ne.mpr c28
                    exact absurd (Option.some.inj H) (by rw [HRT.out]; decide)
                · rw [if_neg c27] at H
                  exact absurd H (by simp)
              · rw [if_neg c26] at H
                have c26b0 : decide (x21_2 < (t162.length : Int)) = false := decide_eq_false c26
                clear c26
                by_cases c29 : 23 ≤ (t162.length : Int)
                · rw [if_pos c29] at H
                  have c29b0 := eq_true c29
                  have c29b1 : decide (23 ≤ (t162.length : Int)) = true := decide_eq_true c29
                  clear c29
                  obtain ⟨y184, hy184⟩ : ∃ y_ : List ByteArray, y_ = (t162.take 23) := ⟨_, rfl⟩
                  replace H : ((area_Get.f k2 y184).bind fun bt188 => (if t166 = (wrap64 (Int.tmod (IntKind.u64.wrap (a2)) 1048577)) then (if t167.toList = t161.toList then ((ossuarylaw0_Num.f t168).bind fun t191 => (if t191 = 0 then ((ossuarylaw0_Num.f t171).bind fun t192 => (if t192 = 1500 then ((ossuarylaw0_Num.f t175).bind fun t193 => (if t193 = 1500 then ((ossuarylaw0_Num.f t179).bind fun t194 => (if t194 = 1500 then ((ossuarylaw0_Num.f bt188.2.2).bind fun t195 => (some (t195 == 1500))) else (some false))) else (some false))) else (some false))) else (some false))) else (some false)) else (some false))) = some r := by first | (rw [hy184]; with_reducible exact H) | (have H2_ := (Option.bind_some _ _).symm.trans H; rw [hy184]; with_reducible exact H2_) | (have H2_ := (Option.bind_some _ _).symm.trans H; with_reducible exact H2_) | with_reducible exact H | (rw [hy184]; exact H) | exact H
                  have Ny184 := Aside0.mk hy184
                  clear hy184
                  replace H := Option.bind_eq_some_iff.mp H
                  obtain ⟨⟨t188, t189, t190⟩, A300, H⟩ := H
                  replace H : (if t166 = (wrap64 (Int.tmod (IntKind.u64.wrap (a2)) 1048577)) then (if t167.toList = t161.toList then ((ossuarylaw0_Num.f t168).bind fun t191 => (if t191 = 0 then ((ossuarylaw0_Num.f t171).bind fun t192 => (if t192 = 1500 then ((ossuarylaw0_Num.f t175).bind fun t193 => (if t193 = 1500 then ((ossuarylaw0_Num.f t179).bind fun t194 => (if t194 = 1500 then ((ossuarylaw0_Num.f t190).bind fun t195 => (some (t195 == 1500))) else (some false))) else (some false))) else (some false))) else (some false))) else (some false)) else (some false)) = some r := H
                  have A30 := Aside0.mk A300
                  clear A300
                  by_cases c31 : t166 = (wrap64 (Int.tmod (IntKind.u64.wrap (a2)) 1048577))
                  · rw [if_pos c31] at H
                    have c31b0 : (t166 == (wrap64 (Int.tmod (IntKind.u64.wrap (a2)) 1048577))) = true := beq_iff_eq.mpr c31
                    have c31b1 : (t166 != (wrap64 (Int.tmod (IntKind.u64.wrap (a2)) 1048577))) = false := bne_eq_false_iff_eq.mpr c31
                    clear c31
                    by_cases c32 : t167.toList = t161.toList
                    · rw [if_pos c32] at H
                      have c32b0 : (t167.toList == t161.toList) = true := beq_iff_eq.mpr c32
                      have c32b1 : (t167.toList != t161.toList) = false := bne_eq_false_iff_eq.mpr c32
                      clear c32
                      replace H := Option.bind_eq_some_iff.mp H
                      obtain ⟨t191, A330, H⟩ := H
                      replace H : (if t191 = 0 then ((ossuarylaw0_Num.f t171).bind fun t192 => (if t192 = 1500 then ((ossuarylaw0_Num.f t175).bind fun t193 => (if t193 = 1500 then ((ossuarylaw0_Num.f t179).bind fun t194 => (if t194 = 1500 then ((ossuarylaw0_Num.f t190).bind fun t195 => (some (t195 == 1500))) else (some false))) else (some false))) else (some false))) else (some false)) = some r := H
                      have A33 := Aside0.mk A330
                      clear A330
                      by_cases c34 : t191 = 0
                      · rw [if_pos c34] at H
                        have c34b0 : (t191 == 0) = true := beq_iff_eq.mpr c34
                        have c34b1 : (t191 != 0) = false := bne_eq_false_iff_eq.mpr c34
                        clear c34
                        replace H := Option.bind_eq_some_iff.mp H
                        obtain ⟨t192, A350, H⟩ := H
                        replace H : (if t192 = 1500 then ((ossuarylaw0_Num.f t175).bind fun t193 => (if t193 = 1500 then ((ossuarylaw0_Num.f t179).bind fun t194 => (if t194 = 1500 then ((ossuarylaw0_Num.f t190).bind fun t195 => (some (t195 == 1500))) else (some false))) else (some false))) else (some false)) = some r := H
                        have A35 := Aside0.mk A350
                        clear A350
                        by_cases c36 : t192 = 1500
                        · rw [if_pos c36] at H
                          have c36b0 : (t192 == 1500) = true := beq_iff_eq.mpr c36
                          have c36b1 : (t192 != 1500) = false := bne_eq_false_iff_eq.mpr c36
                          clear c36
                          replace H := Option.bind_eq_some_iff.mp H
                          obtain ⟨t193, A370, H⟩ := H
                          replace H : (if t193 = 1500 then ((ossuarylaw0_Num.f t179).bind fun t194 => (if t194 = 1500 then ((ossuarylaw0_Num.f t190).bind fun t195 => (some (t195 == 1500))) else (some false))) else (some false)) = some r := H
                          have A37 := Aside0.mk A370
                          clear A370
                          by_cases c38 : t193 = 1500
                          · rw [if_pos c38] at H
                            have c38b0 : (t193 == 1500) = true := beq_iff_eq.mpr c38
                            have c38b1 : (t193 != 1500) = false := bne_eq_false_iff_eq.mpr c38
                            clear c38
                            replace H := Option.bind_eq_some_iff.mp H
                            obtain ⟨t194, A390, H⟩ := H
                            replace H : (if t194 = 1500 then ((ossuarylaw0_Num.f t190).bind fun t195 => (some (t195 == 1500))) else (some false)) = some r := H
                            have A39 := Aside0.mk A390
                            clear A390
                            by_cases c40 : t194 = 1500
                            · rw [if_pos c40] at H
                              have c40b0 : (t194 == 1500) = true := beq_iff_eq.mpr c40
                              have c40b1 : (t194 != 1500) = false := bne_eq_false_iff_eq.mpr c40
                              clear c40
                              replace H := Option.bind_eq_some_iff.mp H
                              obtain ⟨t195, A410, H⟩ := H
                              replace H : (some (t195 == 1500)) = some r := H
                              have A41 := Aside0.mk A410
                              clear A410
                              obtain rfl := Option.some.inj H
                              have q42 : (23 : Int) ≤ ((t162.length : Int) : Int) := of_decide_eq_true (by first | (with_reducible assumption) | assumption)
                              obtain ⟨i042, hi042, _, hsz42, _⟩ := info_parts info9
                              have hroom42 : t162.length ≤ co17 := (Kd.R_reads' HO_10.out).2.1
                              have hC42 : Kd.C Kd.string _ Ao17 t162.length t162 := (Kd.R_reads' HO_10.out).2.2
                              have hcut42 := cut_to (P := Try.prog) 22 9 .i64 Try.underlying22 hi042 Ao17 t162.length co17 23 (by omega) q42 hroom42
                              have hr42 := Kd.C_take (m := 23) hC42 (by omega)
                              have hy42 : y184.length = (23 : Int).toNat := (by rw [Ny184.out, List.length_take]; omega)
                              rw [← Ny184.out] at hr42
                              rw [← hy42] at hcut42
                              have HR187 := Aside0.mk hr42
                              have HC187 := Aside0.mk (show y184.length ≤ co17 from by omega)
                              clear hr42 hC42 hroom42 hi042 hsz42
                              have KY42 := Aside0.mk hy42
                              clear hy42
                              have KL42 := Aside0.mk (show 23 ≤ t162.length from by omega)
                              replace q42 := eq_true q42
                              go_wp2_with (first | ((with_reducible refine gate_callee (f := 9) rfl ?_); refine goesL_ (some 96) rfl rfl Try.func9 (by kernel_rfl) rfl #[.slice Ao17 y184.length co17] rfl (by (try simp only [List.map_toArray, List.map_cons, List.map_nil]); first | done | rfl | (simp only [List.length_drop, List.length_take]; rfl)) ?_; (with_reducible refine (area_Get.calls k2 _ _ y184 t188 t189 t190 _ ?side1 ?side2 A30.out).mono ?_); (case side1 => repeat (first | exact (by repeat (first | (with_reducible exact HR187.out) | (with_reducible refine Kd.C_alloc ?_ _) | (with_reducible refine Kd.C_drewN ?_ _) | (with_reducible refine Kd.C_drew ?_) | exact HR187.out)) | (with_reducible refine Kd.C_alloc ?_ _) | (with_reducible refine Kd.C_drewN ?_ _) | (with_reducible refine Kd.C_drew ?_))); (case side2 => exact HC187.out); rintro e w43 ⟨rfl, hb⟩; refine ⟨_, rfl, ?_⟩; have n0_ := Aside0.mk (Kd.R_below (by (with_reducible repeat (first | apply Kd.R_alloc | apply Kd.R_drewN | apply Kd.R_drew)); exact HO_10.out) hb); have n1_ := Aside0.mk (Kd.C_below (by repeat (first | (with_reducible exact HR187.out) | (with_reducible refine Kd.C_alloc ?_ _) | (with_reducible refine Kd.C_drewN ?_ _) | (with_reducible refine Kd.C_drew ?_) | exact HR187.out)) hb); have n2_ := Aside0.mk (below_step (by repeat (first | (with_reducible first | exact HB.out | apply below_alloc | apply pw_below_drewN | apply below_drew1) | exact HB.out)) hb); clear HO_10; clear HR187; clear HB; have HO_10 := n0_; have HR187 := n1_; have HB := n2_; clear n0_ n1_ n2_; (try clear hb); (try clear hb2); (try clear hk); (try clear hi)) | (go_at_call 12; (with_reducible refine (ossuarylaw0_Num.calls t168 t191 _ A33.out).mono ?_); rintro e w' ⟨rfl, ⟨nd, rfl⟩⟩) | (go_at_call 12; (with_reducible refine (ossuarylaw0_Num.calls t171 t192 _ A35.out).mono ?_); rintro e w' ⟨rfl, ⟨nd, rfl⟩⟩) | (go_at_call 12; (with_reducible refine (ossuarylaw0_Num.calls t175 t193 _ A37.out).mono ?_); rintro e w' ⟨rfl, ⟨nd, rfl⟩⟩) | (go_at_call 12; (with_reducible refine (ossuarylaw0_Num.calls t179 t194 _ A39.out).mono ?_); rintro e w' ⟨rfl, ⟨nd, rfl⟩⟩) | (go_at_call 12; (with_reducible refine (ossuarylaw0_Num.calls t190 t195 _ A41.out).mono ?_); rintro e w' ⟨rfl, ⟨nd, rfl⟩⟩))
                              go_ret
                              exact ⟨by first | rfl | (simp [errW_none, errW_some] <;> rfl) | (simp [*, errW_none, errW_some] <;> rfl), by repeat (first | (with_reducible first | exact HB.out | apply below_alloc | apply pw_below_drewN | apply below_drew1) | exact HB.out)⟩
                            · rw [if_neg c40] at H
                              have c40b0 : (t194 == 1500) = false := beq_eq_false_iff_ne.mpr c40
                              have c40b1 : (t194 != 1500) = true := bne_iff_ne.mpr c40
                              exact absurd (Option.some.inj H) (by rw [HRT.out]; decide)
                          · rw [if_neg c38] at H
                            have c38b0 : (t193 == 1500) = false := beq_eq_false_iff_ne.mpr c38
                            have c38b1 : (t193 != 1500) = true := bne_iff_ne.mpr c38
                            exact absurd (Option.some.inj H) (by rw [HRT.out]; decide)
                        · rw [if_neg c36] at H
                          have c36b0 : (t192 == 1500) = false := beq_eq_false_iff_ne.mpr c36
                          have c36b1 : (t192 != 1500) = true := bne_iff_ne.mpr c36
                          exact absurd (Option.some.inj H) (by rw [HRT.out]; decide)
                      · rw [if_neg c34] at H
                        have c34b0 : (t191 == 0) = false := beq_eq_false_iff_ne.mpr c34
                        have c34b1 : (t191 != 0) = true := bne_iff_ne.mpr c34
                        exact absurd (Option.some.inj H) (by rw [HRT.out]; decide)
                    · rw [if_neg c32] at H
                      have c32b0 : (t167.toList == t161.toList) = false := beq_eq_false_iff_ne.mpr c32
                      have c32b1 : (t167.toList != t161.toList) = true := bne_iff_ne.mpr c32
                      exact absurd (Option.some.inj H) (by rw [HRT.out]; decide)
                  · rw [if_neg c31] at H
                    have c31b0 : (t166 == (wrap64 (Int.tmod (IntKind.u64.wrap (a2)) 1048577))) = false := beq_eq_false_iff_ne.mpr c31
                    have c31b1 : (t166 != (wrap64 (Int.tmod (IntKind.u64.wrap (a2)) 1048577))) = true := bne_iff_ne.mpr c31
                    exact absurd (Option.some.inj H) (by rw [HRT.out]; decide)
                · rw [if_neg c29] at H
                  exact absurd H (by simp)
  · replace c5 := Bool.eq_false_iff.mpr c5
    subst c5
    have H1 : (some false) = some r := by rw [if_neg (show ¬ (false = true) by decide)] at H; exact H
    clear H
    have H := H1
    clear H1
    exact absurd (Option.some.inj H) (by rw [HRT.out]; decide)

/-- THE ONE PURE STATEMENT of ossuarylaw15_AreaSizes: yours. -/
def ossuarylaw15_AreaSizes.Pure : Prop := ∀ (a0 : Int) (a1 : Int) (a2 : Int), (Lit.int .i64 a0).wf = true → (Lit.int .i64 a1).wf = true → (Lit.int .i64 a2).wf = true → ∃ k, ossuarylaw15_AreaSizes.f k a0 a1 a2 = some true
theorem ossuarylaw15_AreaSizes.walk (P : ossuarylaw15_AreaSizes.Pure) (a0 : Int) (a1 : Int) (a2 : Int) (w : World) (w0 : (Lit.int .i64 a0).wf = true) (w1 : (Lit.int .i64 a1).wf = true) (w2 : (Lit.int .i64 a2).wf = true) :
    Calls Try.prog 5 #[.int .i64 a0, .int .i64 a1, .int .i64 a2] w fun e w' => e = .returned (.bool true) ∧ Below w.heap.size w w' := by
  obtain ⟨k, h⟩ := P a0 a1 a2 w0 w1 w2
  refine (ossuarylaw15_AreaSizes.calls k a0 a1 a2 true w h).mono ?_
  rintro e w' ⟨rfl, hd⟩
  exact ⟨rfl, hd⟩

end Go.Proofs.Ytmphljlooopcdaa.HAreaSizes
