/- Lean functions for the Go functions that the law reaches, and proofs that the calls come to them: written by a program of this session. -/
import Derived.Test.YtmphljlooopcdaaHAreaTurnedx0
import Derived.Test.YtmphljlooopcdaaHAreaTurnedx1
import Derived.Test.YtmphljlooopcdaaHAreaTurnedx2
namespace Go.Proofs.Ytmphljlooopcdaa.HAreaTurned
open Go.RowKit Go.Proofs.YtmphljlooopcdaaW.PrintWords Go.Proofs.YtmphljlooopcdaaW.PrintLast Go.Proofs.YtmphljlooopcdaaW.PrintMore
attribute [local go_sem] max2_int min2_int max_two min_two max_three min_three max_four min_four   -- for this text's walks alone
set_option linter.unusedVariables false
set_option linter.unusedSimpArgs false

/-! ### ossuarylaw15_awake: function 14 -/
def ossuarylaw15_awake.f (k : Nat)  : Option (Bool) := (area_Put.f k 7 (⟨#[97, 98, 99]⟩ : ByteArray)).bind fun bt135 => ((area_Get.f k bt135.1).bind fun bt139 => (if 0 ≤ (mn (bt135.1.length : Int) 3) then (if (mn (bt135.1.length : Int) 3) ≤ (bt135.1.length : Int) then ((area_Get.f k (bt135.1.take ((mn (bt135.1.length : Int) 3) : Int).toNat)).bind fun bt146 => ((ossuarylaw15_long.f k 1249 97).bind fun t149 => ((area_Put.f k 7 t149).bind fun bt150 => (if (bt135.1.length : Int) = 24 then ((ossuarylaw0_Num.f bt135.2).bind fun t154 => (if t154 = 0 then (if 0 < (bt135.1.length : Int) then (if ((rdOf ByteArray.empty bt135.1 0).size : Int) = 64 then (if 0 ≤ 8 then (if 8 ≤ ((rdOf ByteArray.empty bt135.1 0).size : Int) then (if ((rdOf ByteArray.empty bt135.1 0).extract 0 8).toList = ([77, 0, 3, 0, 7, 0, 0, 0] : List UInt8) then (if bt139.1 = 7 then (if bt139.2.1.toList = ([97, 98, 99] : List UInt8) then ((ossuarylaw0_Num.f bt139.2.2).bind fun t157 => (if t157 = 0 then ((ossuarylaw0_Num.f bt146.2.2).bind fun t158 => (if t158 = 1500 then ((ossuarylaw0_Num.f bt150.2).bind fun t159 => (some (t159 == 1500))) else (some false))) else (some false))) else (some false)) else (some false)) else (some false)) else (none)) else (none)) else (some false)) else (none)) else (some false))) else (some false))))) else (none)) else (none)))
theorem ossuarylaw15_awake.mono : ∀ k, LeO (ossuarylaw15_awake.f k ) (ossuarylaw15_awake.f (k + 1) ) := by
  intro  k
  unfold ossuarylaw15_awake.f
  repeat' first
      | (with_reducible exact area_Get.mono _ _)
      | (with_reducible exact area_Put.mono _ _ _)
      | (with_reducible exact ossuarylaw15_long.mono _ _ _)
      | (with_reducible exact LeO.refl _)
      | (with_reducible exact LeO.none _)
      | (with_reducible refine LeO.ite ?_ ?_)
      | (with_reducible refine LeO.bind ?_ (fun _ => ?_))
      | exact area_Get.mono _ _
      | exact area_Put.mono _ _ _
      | exact ossuarylaw15_long.mono _ _ _
      | exact LeO.none _
      | refine LeO.ite ?_ ?_
      | refine LeO.bind ?_ (fun _ => ?_)
set_option maxHeartbeats 8000000 in
set_option maxRecDepth 100000 in
theorem ossuarylaw15_awake.calls (k : Nat)  (r : Bool) (w : World) (h : ossuarylaw15_awake.f k  = some r) (hr_ : r = true := by rfl) :
    Calls Try.prog 14 #[] w fun e w' => e = .returned (.bool r) ∧ Below w.heap.size w w' := by
  have HRT := Aside0.mk hr_
  clear hr_
  have HB := Aside0.mk (Below.refl w.heap.size w)
  have H : ((area_Put.f k 7 (⟨#[97, 98, 99]⟩ : ByteArray)).bind fun bt135 => ((area_Get.f k bt135.1).bind fun bt139 => (if 0 ≤ (mn (bt135.1.length : Int) 3) then (if (mn (bt135.1.length : Int) 3) ≤ (bt135.1.length : Int) then ((area_Get.f k (bt135.1.take ((mn (bt135.1.length : Int) 3) : Int).toNat)).bind fun bt146 => ((ossuarylaw15_long.f k 1249 97).bind fun t149 => ((area_Put.f k 7 t149).bind fun bt150 => (if (bt135.1.length : Int) = 24 then ((ossuarylaw0_Num.f bt135.2).bind fun t154 => (if t154 = 0 then (if 0 < (bt135.1.length : Int) then (if ((rdOf ByteArray.empty bt135.1 0).size : Int) = 64 then (if 0 ≤ 8 then (if 8 ≤ ((rdOf ByteArray.empty bt135.1 0).size : Int) then (if ((rdOf ByteArray.empty bt135.1 0).extract 0 8).toList = ([77, 0, 3, 0, 7, 0, 0, 0] : List UInt8) then (if bt139.1 = 7 then (if bt139.2.1.toList = ([97, 98, 99] : List UInt8) then ((ossuarylaw0_Num.f bt139.2.2).bind fun t157 => (if t157 = 0 then ((ossuarylaw0_Num.f bt146.2.2).bind fun t158 => (if t158 = 1500 then ((ossuarylaw0_Num.f bt150.2).bind fun t159 => (some (t159 == 1500))) else (some false))) else (some false))) else (some false)) else (some false)) else (some false)) else (none)) else (none)) else (some false)) else (none)) else (some false))) else (some false))))) else (none)) else (none)))) = some r := h
  clear h
  replace H := Option.bind_eq_some_iff.mp H
  obtain ⟨⟨t135, t136⟩, A10, H⟩ := H
  replace H : ((area_Get.f k t135).bind fun bt139 => (if 0 ≤ (mn (t135.length : Int) 3) then (if (mn (t135.length : Int) 3) ≤ (t135.length : Int) then ((area_Get.f k (t135.take ((mn (t135.length : Int) 3) : Int).toNat)).bind fun bt146 => ((ossuarylaw15_long.f k 1249 97).bind fun t149 => ((area_Put.f k 7 t149).bind fun bt150 => (if (t135.length : Int) = 24 then ((ossuarylaw0_Num.f t136).bind fun t154 => (if t154 = 0 then (if 0 < (t135.length : Int) then (if ((rdOf ByteArray.empty t135 0).size : Int) = 64 then (if 0 ≤ 8 then (if 8 ≤ ((rdOf ByteArray.empty t135 0).size : Int) then (if ((rdOf ByteArray.empty t135 0).extract 0 8).toList = ([77, 0, 3, 0, 7, 0, 0, 0] : List UInt8) then (if bt139.1 = 7 then (if bt139.2.1.toList = ([97, 98, 99] : List UInt8) then ((ossuarylaw0_Num.f bt139.2.2).bind fun t157 => (if t157 = 0 then ((ossuarylaw0_Num.f bt146.2.2).bind fun t158 => (if t158 = 1500 then ((ossuarylaw0_Num.f bt150.2).bind fun t159 => (some (t159 == 1500))) else (some false))) else (some false))) else (some false)) else (some false)) else (some false)) else (none)) else (none)) else (some false)) else (none)) else (some false))) else (some false))))) else (none)) else (none))) = some r := H
  have A1 := Aside0.mk A10
  clear A10
  replace H := Option.bind_eq_some_iff.mp H
  obtain ⟨⟨t139, t140, t141⟩, A20, H⟩ := H
  replace H : (if 0 ≤ (mn (t135.length : Int) 3) then (if (mn (t135.length : Int) 3) ≤ (t135.length : Int) then ((area_Get.f k (t135.take ((mn (t135.length : Int) 3) : Int).toNat)).bind fun bt146 => ((ossuarylaw15_long.f k 1249 97).bind fun t149 => ((area_Put.f k 7 t149).bind fun bt150 => (if (t135.length : Int) = 24 then ((ossuarylaw0_Num.f t136).bind fun t154 => (if t154 = 0 then (if 0 < (t135.length : Int) then (if ((rdOf ByteArray.empty t135 0).size : Int) = 64 then (if 0 ≤ 8 then (if 8 ≤ ((rdOf ByteArray.empty t135 0).size : Int) then (if ((rdOf ByteArray.empty t135 0).extract 0 8).toList = ([77, 0, 3, 0, 7, 0, 0, 0] : List UInt8) then (if t139 = 7 then (if t140.toList = ([97, 98, 99] : List UInt8) then ((ossuarylaw0_Num.f t141).bind fun t157 => (if t157 = 0 then ((ossuarylaw0_Num.f bt146.2.2).bind fun t158 => (if t158 = 1500 then ((ossuarylaw0_Num.f bt150.2).bind fun t159 => (some (t159 == 1500))) else (some false))) else (some false))) else (some false)) else (some false)) else (some false)) else (none)) else (none)) else (some false)) else (none)) else (some false))) else (some false))))) else (none)) else (none)) = some r := H
  have A2 := Aside0.mk A20
  clear A20
  obtain ⟨ji3, hji3⟩ : ∃ j_ : Int, (mn (t135.length : Int) 3) = j_ := ⟨_, rfl⟩
  replace H : (if 0 ≤ (ji3) then (if (ji3) ≤ (t135.length : Int) then ((area_Get.f k (t135.take ((ji3) : Int).toNat)).bind fun bt146 => ((ossuarylaw15_long.f k 1249 97).bind fun t149 => ((area_Put.f k 7 t149).bind fun bt150 => (if (t135.length : Int) = 24 then ((ossuarylaw0_Num.f t136).bind fun t154 => (if t154 = 0 then (if 0 < (t135.length : Int) then (if ((rdOf ByteArray.empty t135 0).size : Int) = 64 then (if 0 ≤ 8 then (if 8 ≤ ((rdOf ByteArray.empty t135 0).size : Int) then (if ((rdOf ByteArray.empty t135 0).extract 0 8).toList = ([77, 0, 3, 0, 7, 0, 0, 0] : List UInt8) then (if t139 = 7 then (if t140.toList = ([97, 98, 99] : List UInt8) then ((ossuarylaw0_Num.f t141).bind fun t157 => (if t157 = 0 then ((ossuarylaw0_Num.f bt146.2.2).bind fun t158 => (if t158 = 1500 then ((ossuarylaw0_Num.f bt150.2).bind fun t159 => (some (t159 == 1500))) else (some false))) else (some false))) else (some false)) else (some false)) else (some false)) else (none)) else (none)) else (some false)) else (none)) else (some false))) else (some false))))) else (none)) else (none)) = some r := by first | (rw [hji3] at H; exact H) | (simp only [hji3] at H ⊢; exact H)
  (try rw [hji3] at A1)
  (try rw [hji3] at A2)
  (try (have hji3h : ji3 ≤ 3 := by (rw [← hji3]; unfold mn; (repeat' split) <;> omega)))
  (try (have hji3g : ji3 ≤ 64 := by omega))
  (try (have hji3l : 0 ≤ ji3 := by (rw [← hji3]; unfold mn; (repeat' split) <;> omega)))
  (try (have hji3m : 0 ≤ ji3 := by omega))
  have hji3_ : (if 3 < (t135.length : Int) then 3 else (t135.length : Int)) = ji3 := hji3
  by_cases c4 : 0 ≤ (ji3)
  · rw [if_pos c4] at H
    have c4b0 := eq_true c4
    have c4b1 : decide (0 ≤ (ji3)) = true := decide_eq_true c4
    clear c4
    by_cases c5 : (ji3) ≤ (t135.length : Int)
    · rw [if_pos c5] at H
      have c5b0 := eq_true c5
      have c5b1 : decide ((ji3) ≤ (t135.length : Int)) = true := decide_eq_true c5
      clear c5
      obtain ⟨y142, hy142⟩ : ∃ y_ : List ByteArray, y_ = (t135.take ((ji3) : Int).toNat) := ⟨_, rfl⟩
      replace H : ((area_Get.f k y142).bind fun bt146 => ((ossuarylaw15_long.f k 1249 97).bind fun t149 => ((area_Put.f k 7 t149).bind fun bt150 => (if (t135.length : Int) = 24 then ((ossuarylaw0_Num.f t136).bind fun t154 => (if t154 = 0 then (if 0 < (t135.length : Int) then (if ((rdOf ByteArray.empty t135 0).size : Int) = 64 then (if 0 ≤ 8 then (if 8 ≤ ((rdOf ByteArray.empty t135 0).size : Int) then (if ((rdOf ByteArray.empty t135 0).extract 0 8).toList = ([77, 0, 3, 0, 7, 0, 0, 0] : List UInt8) then (if t139 = 7 then (if t140.toList = ([97, 98, 99] : List UInt8) then ((ossuarylaw0_Num.f t141).bind fun t157 => (if t157 = 0 then ((ossuarylaw0_Num.f bt146.2.2).bind fun t158 => (if t158 = 1500 then ((ossuarylaw0_Num.f bt150.2).bind fun t159 => (some (t159 == 1500))) else (some false))) else (some false))) else (some false)) else (some false)) else (some false)) else (none)) else (none)) else (some false)) else (none)) else (some false))) else (some false))))) = some r := by first | (rw [hy142]; with_reducible exact H) | (have H2_ := (Option.bind_some _ _).symm.trans H; rw [hy142]; with_reducible exact H2_) | (have H2_ := (Option.bind_some _ _).symm.trans H; with_reducible exact H2_) | with_reducible exact H | (rw [hy142]; exact H) | exact H
      have Ny142 := Aside0.mk hy142
      clear hy142
      replace H := Option.bind_eq_some_iff.mp H
      obtain ⟨⟨t146, t147, t148⟩, A60, H⟩ := H
      replace H : ((ossuarylaw15_long.f k 1249 97).bind fun t149 => ((area_Put.f k 7 t149).bind fun bt150 => (if (t135.length : Int) = 24 then ((ossuarylaw0_Num.f t136).bind fun t154 => (if t154 = 0 then (if 0 < (t135.length : Int) then (if ((rdOf ByteArray.empty t135 0).size : Int) = 64 then (if 0 ≤ 8 then (if 8 ≤ ((rdOf ByteArray.empty t135 0).size : Int) then (if ((rdOf ByteArray.empty t135 0).extract 0 8).toList = ([77, 0, 3, 0, 7, 0, 0, 0] : List UInt8) then (if t139 = 7 then (if t140.toList = ([97, 98, 99] : List UInt8) then ((ossuarylaw0_Num.f t141).bind fun t157 => (if t157 = 0 then ((ossuarylaw0_Num.f t148).bind fun t158 => (if t158 = 1500 then ((ossuarylaw0_Num.f bt150.2).bind fun t159 => (some (t159 == 1500))) else (some false))) else (some false))) else (some false)) else (some false)) else (some false)) else (none)) else (none)) else (some false)) else (none)) else (some false))) else (some false)))) = some r := H
      have A6 := Aside0.mk A60
      clear A60
      replace H := Option.bind_eq_some_iff.mp H
      obtain ⟨t149, A70, H⟩ := H
      replace H : ((area_Put.f k 7 t149).bind fun bt150 => (if (t135.length : Int) = 24 then ((ossuarylaw0_Num.f t136).bind fun t154 => (if t154 = 0 then (if 0 < (t135.length : Int) then (if ((rdOf ByteArray.empty t135 0).size : Int) = 64 then (if 0 ≤ 8 then (if 8 ≤ ((rdOf ByteArray.empty t135 0).size : Int) then (if ((rdOf ByteArray.empty t135 0).extract 0 8).toList = ([77, 0, 3, 0, 7, 0, 0, 0] : List UInt8) then (if t139 = 7 then (if t140.toList = ([97, 98, 99] : List UInt8) then ((ossuarylaw0_Num.f t141).bind fun t157 => (if t157 = 0 then ((ossuarylaw0_Num.f t148).bind fun t158 => (if t158 = 1500 then ((ossuarylaw0_Num.f bt150.2).bind fun t159 => (some (t159 == 1500))) else (some false))) else (some false))) else (some false)) else (some false)) else (some false)) else (none)) else (none)) else (some false)) else (none)) else (some false))) else (some false))) = some r := H
      have A7 := Aside0.mk A70
      clear A70
      replace H := Option.bind_eq_some_iff.mp H
      obtain ⟨⟨t150, t151⟩, A80, H⟩ := H
      replace H : (if (t135.length : Int) = 24 then ((ossuarylaw0_Num.f t136).bind fun t154 => (if t154 = 0 then (if 0 < (t135.length : Int) then (if ((rdOf ByteArray.empty t135 0).size : Int) = 64 then (if 0 ≤ 8 then (if 8 ≤ ((rdOf ByteArray.empty t135 0).size : Int) then (if ((rdOf ByteArray.empty t135 0).extract 0 8).toList = ([77, 0, 3, 0, 7, 0, 0, 0] : List UInt8) then (if t139 = 7 then (if t140.toList = ([97, 98, 99] : List UInt8) then ((ossuarylaw0_Num.f t141).bind fun t157 => (if t157 = 0 then ((ossuarylaw0_Num.f t148).bind fun t158 => (if t158 = 1500 then ((ossuarylaw0_Num.f t151).bind fun t159 => (some (t159 == 1500))) else (some false))) else (some false))) else (some false)) else (some false)) else (some false)) else (none)) else (none)) else (some false)) else (none)) else (some false))) else (some false)) = some r := H
      have A8 := Aside0.mk A80
      clear A80
      by_cases c9 : (t135.length : Int) = 24
      · rw [if_pos c9] at H
        have c9b0 : ((t135.length : Int) == 24) = true := beq_iff_eq.mpr c9
        have c9b1 : ((t135.length : Int) != 24) = false := bne_eq_false_iff_eq.mpr c9
        clear c9
        replace H := Option.bind_eq_some_iff.mp H
        obtain ⟨t154, A100, H⟩ := H
        replace H : (if t154 = 0 then (if 0 < (t135.length : Int) then (if ((rdOf ByteArray.empty t135 0).size : Int) = 64 then (if 0 ≤ 8 then (if 8 ≤ ((rdOf ByteArray.empty t135 0).size : Int) then (if ((rdOf ByteArray.empty t135 0).extract 0 8).toList = ([77, 0, 3, 0, 7, 0, 0, 0] : List UInt8) then (if t139 = 7 then (if t140.toList = ([97, 98, 99] : List UInt8) then ((ossuarylaw0_Num.f t141).bind fun t157 => (if t157 = 0 then ((ossuarylaw0_Num.f t148).bind fun t158 => (if t158 = 1500 then ((ossuarylaw0_Num.f t151).bind fun t159 => (some (t159 == 1500))) else (some false))) else (some false))) else (some false)) else (some false)) else (some false)) else (none)) else (none)) else (some false)) else (none)) else (some false)) = some r := H
        have A10 := Aside0.mk A100
        clear A100
        by_cases c11 : t154 = 0
        · rw [if_pos c11] at H
          have c11b0 : (t154 == 0) = true := beq_iff_eq.mpr c11
          have c11b1 : (t154 != 0) = false := bne_eq_false_iff_eq.mpr c11
          clear c11
          by_cases c12 : 0 < (t135.length : Int)
          · rw [if_pos c12] at H
            have c12b0 : decide (0 < (t135.length : Int)) = true := decide_eq_true c12
            have c12b1 : decide (0 < t135.length) = true := decide_eq_true (by omega)
            clear c12
            by_cases c13 : ((rdOf ByteArray.empty t135 0).size : Int) = 64
            · rw [if_pos c13] at H
              have c13b0 : (((rdOf ByteArray.empty t135 0).size : Int) == 64) = true := beq_iff_eq.mpr c13
              have c13b1 : (((rdOf ByteArray.empty t135 0).size : Int) != 64) = false := bne_eq_false_iff_eq.mpr c13
              clear c13
              by_cases c14 : 0 ≤ 8
              · rw [if_pos c14] at H
                have c14b0 := eq_true c14
                have c14b1 : decide (0 ≤ 8) = true := decide_eq_true c14
                clear c14
                by_cases c15 : 8 ≤ ((rdOf ByteArray.empty t135 0).size : Int)
                · rw [if_pos c15] at H
                  have c15b0 := eq_true c15
                  have c15b1 : decide (8 ≤ ((rdOf ByteArray.empty t135 0).size : Int)) = true := decide_eq_true c15
                  clear c15
                  by_cases c16 : ((rdOf ByteArray.empty t135 0).extract 0 8).toList = ([77, 0, 3, 0, 7, 0, 0, 0] : List UInt8)
                  · rw [if_pos c16] at H
                    have c16b0 : (((rdOf ByteArray.empty t135 0).extract 0 8).toList == ([77, 0, 3, 0, 7, 0, 0, 0] : List UInt8)) = true := beq_iff_eq.mpr c16
                    have c16b1 : (((rdOf ByteArray.empty t135 0).extract 0 8).toList != ([77, 0, 3, 0, 7, 0, 0, 0] : List UInt8)) = false := bne_eq_false_iff_eq.mpr c16
                    clear c16
                    by_cases c17 : t139 = 7
                    · rw [if_pos c17] at H
                      have c17b0 : (t139 == 7) = true := beq_iff_eq.mpr c17
                      have c17b1 : (t139 != 7) = false := bne_eq_false_iff_eq.mpr c17
                      clear c17
                      by_cases c18 : t140.toList = ([97, 98, 99] : List UInt8)
                      · rw [if_pos c18] at H
                        have c18b0 : (t140.toList == ([97, 98, 99] : List UInt8)) = true := beq_iff_eq.mpr c18
                        have c18b1 : (t140.toList != ([97, 98, 99] : List UInt8)) = false := bne_eq_false_iff_eq.mpr c18
                        clear c18
                        replace H := Option.bind_eq_some_iff.mp H
                        obtain ⟨t157, A190, H⟩ := H
                        replace H : (if t157 = 0 then ((ossuarylaw0_Num.f t148).bind fun t158 => (if t158 = 1500 then ((ossuarylaw0_Num.f t151).bind fun t159 => (some (t159 == 1500))) else (some false))) else (some false)) = some r := H
                        have A19 := Aside0.mk A190
                        clear A190
                        by_cases c20 : t157 = 0
                        · rw [if_pos c20] at H
                          have c20b0 : (t157 == 0) = true := beq_iff_eq.mpr c20
                          have c20b1 : (t157 != 0) = false := bne_eq_false_iff_eq.mpr c20
                          clear c20
                          replace H := Option.bind_eq_some_iff.mp H
                          obtain ⟨t158, A210, H⟩ := H
                          replace H : (if t158 = 1500 then ((ossuarylaw0_Num.f t151).bind fun t159 => (some (t159 == 1500))) else (some false)) = some r := H
                          have A21 := Aside0.mk A210
                          clear A210
                          by_cases c22 : t158 = 1500
                          · rw [if_pos c22] at H
                            have c22b0 : (t158 == 1500) = true := beq_iff_eq.mpr c22
                            have c22b1 : (t158 != 1500) = false := bne_eq_false_iff_eq.mpr c22
                            clear c22
                            replace H := Option.bind_eq_some_iff.mp H
                            obtain ⟨t159, A230, H⟩ := H
                            replace H : (some (t159 == 1500)) = some r := H
                            have A23 := Aside0.mk A230
                            clear A230
                            obtain rfl := Option.some.inj H
                            go_enter Try.func14, Try.ntmps14
                            go_wp2_with (first | ((with_reducible refine gate_callee (f := 7) rfl ?_); refine goesL_ (some 12) rfl rfl Try.func7 (by kernel_rfl) rfl #[.int .i64 7, .string (⟨#[97, 98, 99]⟩ : ByteArray)] rfl (by (try simp only [List.map_toArray, List.map_cons, List.map_nil]); first | done | rfl | (simp only [List.length_drop, List.length_take]; rfl)) ?_; (with_reducible refine (area_Put.calls k 7 (⟨#[97, 98, 99]⟩ : ByteArray) t135 t136 _ A1.out).mono ?_); rintro e w24 ⟨v137, rfl, ho0, hb⟩; refine ⟨_, rfl, ?_⟩; have n0_ := Aside0.mk (Kd.R_lower ho0 (below_size (by repeat (first | (with_reducible first | exact HB.out | apply below_alloc | apply pw_below_drewN | apply below_drew1) | exact HB.out)))); have n1_ := Aside0.mk (below_step (by repeat (first | (with_reducible first | exact HB.out | apply below_alloc | apply pw_below_drewN | apply below_drew1) | exact HB.out)) hb); clear HB; have HO138 := n0_; have HB := n1_; clear n0_ n1_; (try clear hb); (try clear hb2); (try clear hk); (try clear hi); (try clear ho0); obtain ⟨Ao25, co25, eo25⟩ := Kd.R_slice HO138.out; subst eo25) | ((with_reducible refine gate_callee (f := 9) rfl ?_); refine goesL_ (some 17) rfl rfl Try.func9 (by kernel_rfl) rfl #[.slice Ao25 t135.length co25] rfl (by (try simp only [List.map_toArray, List.map_cons, List.map_nil]); first | done | rfl | (simp only [List.length_drop, List.length_take]; rfl)) ?_; (with_reducible refine (area_Get.calls k _ _ t135 t139 t140 t141 _ ?side1 ?side2 A2.out).mono ?_); (case side1 => repeat (first | exact (Kd.R_reads' HO138.out).2.2 | (with_reducible refine Kd.C_alloc ?_ _) | (with_reducible refine Kd.C_drewN ?_ _) | (with_reducible refine Kd.C_drew ?_))); (case side2 => exact (Kd.R_reads' HO138.out).2.1); rintro e w26 ⟨rfl, hb⟩; refine ⟨_, rfl, ?_⟩; have n0_ := Aside0.mk (Kd.R_below (by (with_reducible repeat (first | apply Kd.R_alloc | apply Kd.R_drewN | apply Kd.R_drew)); exact HO138.out) hb); have n1_ := Aside0.mk (below_step (by repeat (first | (with_reducible first | exact HB.out | apply below_alloc | apply pw_below_drewN | apply below_drew1) | exact HB.out)) hb); clear HO138; clear HB; have HO138 := n0_; have HB := n1_; clear n0_ n1_; (try clear hb); (try clear hb2); (try clear hk); (try clear hi); have q27 : ((ji3) : Int) ≤ ((t135.length : Int) : Int) := of_decide_eq_true (by first | (with_reducible assumption) | assumption); obtain ⟨i027, hi027, _, hsz27, _⟩ := info_parts info9; have hroom27 : t135.length ≤ co25 := (Kd.R_reads' HO138.out).2.1; have hC27 : Kd.C Kd.string _ Ao25 t135.length t135 := (Kd.R_reads' HO138.out).2.2; have hcut27 := cut_to (P := Try.prog) 22 9 .i64 Try.underlying22 hi027 Ao25 t135.length co25 (ji3) (of_decide_eq_true (by first | (with_reducible assumption) | assumption)) q27 hroom27; have hr27 := Kd.C_take (m := ((ji3) : Int).toNat) hC27 (by omega); have hy27 : y142.length = ((ji3) : Int).toNat := (by rw [Ny142.out, List.length_take]; omega); rw [← Ny142.out] at hr27; rw [← hy27] at hcut27; have HR145 := Aside0.mk hr27; have HC145 := Aside0.mk (show y142.length ≤ co25 from by omega); clear hr27 hC27 hroom27 hi027 hsz27; have KY27 := Aside0.mk hy27; clear hy27; have KL27 := Aside0.mk (show ((ji3) : Int).toNat ≤ t135.length from by omega); replace q27 := eq_true q27) | ((with_reducible refine gate_callee (f := 9) rfl ?_); refine goesL_ (some 27) rfl rfl Try.func9 (by kernel_rfl) rfl #[.slice Ao25 y142.length co25] rfl (by (try simp only [List.map_toArray, List.map_cons, List.map_nil]); first | done | rfl | (simp only [List.length_drop, List.length_take]; rfl)) ?_; (with_reducible refine (area_Get.calls k _ _ y142 t146 t147 t148 _ ?side1 ?side2 A6.out).mono ?_); (case side1 => repeat (first | exact (by repeat (first | (with_reducible exact HR145.out) | (with_reducible refine Kd.C_alloc ?_ _) | (with_reducible refine Kd.C_drewN ?_ _) | (with_reducible refine Kd.C_drew ?_) | exact HR145.out)) | (with_reducible refine Kd.C_alloc ?_ _) | (with_reducible refine Kd.C_drewN ?_ _) | (with_reducible refine Kd.C_drew ?_))); (case side2 => exact HC145.out); rintro e w28 ⟨rfl, hb⟩; refine ⟨_, rfl, ?_⟩; have n0_ := Aside0.mk (Kd.R_below (by (with_reducible repeat (first | apply Kd.R_alloc | apply Kd.R_drewN | apply Kd.R_drew)); exact HO138.out) hb); have n1_ := Aside0.mk (Kd.C_below (by repeat (first | (with_reducible exact HR145.out) | (with_reducible refine Kd.C_alloc ?_ _) | (with_reducible refine Kd.C_drewN ?_ _) | (with_reducible refine Kd.C_drew ?_) | exact HR145.out)) hb); have n2_ := Aside0.mk (below_step (by repeat (first | (with_reducible first | exact HB.out | apply below_alloc | apply pw_below_drewN | apply below_drew1) | exact HB.out)) hb); clear HO138; clear HR145; clear HB; have HO138 := n0_; have HR145 := n1_; have HB := n2_; clear n0_ n1_ n2_; (try clear hb); (try clear hb2); (try clear hk); (try clear hi)) | ((with_reducible refine gate_callee (f := 15) rfl ?_); refine goesL_ (some 32) rfl rfl Try.func15 (by kernel_rfl) rfl #[.int .i64 1249, .int .u8 97] rfl (by (try simp only [List.map_toArray, List.map_cons, List.map_nil]); first | done | rfl | (simp only [List.length_drop, List.length_take]; rfl)) ?_; (with_reducible refine (ossuarylaw15_long.calls k 1249 97 t149 _ A7.out).mono ?_); rintro e w29 ⟨rfl, hb⟩; refine ⟨_, rfl, ?_⟩; have n0_ := Aside0.mk (Kd.R_below (by (with_reducible repeat (first | apply Kd.R_alloc | apply Kd.R_drewN | apply Kd.R_drew)); exact HO138.out) hb); have n1_ := Aside0.mk (Kd.C_below (by repeat (first | (with_reducible exact HR145.out) | (with_reducible refine Kd.C_alloc ?_ _) | (with_reducible refine Kd.C_drewN ?_ _) | (with_reducible refine Kd.C_drew ?_) | exact HR145.out)) hb); have n2_ := Aside0.mk (below_step (by repeat (first | (with_reducible first | exact HB.out | apply below_alloc | apply pw_below_drewN | apply below_drew1) | exact HB.out)) hb); clear HO138; clear HR145; clear HB; have HO138 := n0_; have HR145 := n1_; have HB := n2_; clear n0_ n1_ n2_; (try clear hb); (try clear hb2); (try clear hk); (try clear hi)) | ((with_reducible refine gate_callee (f := 7) rfl ?_); refine goesL_ (some 33) rfl rfl Try.func7 (by kernel_rfl) rfl #[.int .i64 7, .string t149] rfl (by (try simp only [List.map_toArray, List.map_cons, List.map_nil]); first | done | rfl | (simp only [List.length_drop, List.length_take]; rfl)) ?_; (with_reducible refine (area_Put.calls k 7 t149 t150 t151 _ A8.out).mono ?_); rintro e w30 ⟨v152, rfl, ho0, hb⟩; refine ⟨_, rfl, ?_⟩; have n0_ := Aside0.mk (Kd.R_elder' (by (with_reducible repeat (first | apply Kd.R_alloc | apply Kd.R_drewN | apply Kd.R_drew)); exact HO138.out) (Kd.R_base ho0) hb); have n1_ := Aside0.mk (Kd.R_lower (Kd.R_new' ho0 (Kd.R_lt (by (with_reducible repeat (first | apply Kd.R_alloc | apply Kd.R_drewN | apply Kd.R_drew)); exact HO138.out))) (below_size (by repeat (first | (with_reducible first | exact HB.out | apply below_alloc | apply pw_below_drewN | apply below_drew1) | exact HB.out)))); have n2_ := Aside0.mk (Kd.C_below (by repeat (first | (with_reducible exact HR145.out) | (with_reducible refine Kd.C_alloc ?_ _) | (with_reducible refine Kd.C_drewN ?_ _) | (with_reducible refine Kd.C_drew ?_) | exact HR145.out)) hb); have n3_ := Aside0.mk (below_step (by repeat (first | (with_reducible first | exact HB.out | apply below_alloc | apply pw_below_drewN | apply below_drew1) | exact HB.out)) hb); clear HO138; clear HR145; clear HB; have HO138 := n0_; have HO153 := n1_; have HR145 := n2_; have HB := n3_; clear n0_ n1_ n2_ n3_; (try clear hb); (try clear hb2); (try clear hk); (try clear hi); (try clear ho0)) | (go_at_call 12; (with_reducible refine (ossuarylaw0_Num.calls t136 t154 _ A10.out).mono ?_); rintro e w' ⟨rfl, ⟨nd, rfl⟩⟩; have p155 : 0 ≤ (0 : Int) := (by omega); have q155 : 0 < (t135.length : Int) := of_decide_eq_true (by first | (with_reducible assumption) | assumption); obtain ⟨ad155, e155, hx155_0⟩ := Kd.at_string (Kd.R_reads' HO138.out).2.2 0 p155 q155; cases e155; have qi155 : (0 < t135.length) = True := eq_true (by omega); (try rw [show ((0 : Int)).toNat = 0 from rfl] at hx155_0); (try rw [Addr.add_zero'] at hx155_0); replace p155 := eq_true p155; replace q155 := eq_true q155; have p156 : 0 ≤ (0 : Int) := (by omega); have q156 : 0 < (t135.length : Int) := of_decide_eq_true (by first | (with_reducible assumption) | assumption); obtain ⟨ad156, e156, hx156_0⟩ := Kd.at_string (Kd.R_reads' HO138.out).2.2 0 p156 q156; obtain rfl : ad155 = ad156 := (by injection e156); have qi156 : (0 < t135.length) = True := eq_true (by omega); (try rw [show ((0 : Int)).toNat = 0 from rfl] at hx156_0); (try rw [Addr.add_zero'] at hx156_0); replace p156 := eq_true p156; replace q156 := eq_true q156) | (go_at_call 12; (with_reducible refine (ossuarylaw0_Num.calls t141 t157 _ A19.out).mono ?_); rintro e w' ⟨rfl, ⟨nd, rfl⟩⟩) | (go_at_call 12; (with_reducible refine (ossuarylaw0_Num.calls t148 t158 _ A21.out).mono ?_); rintro e w' ⟨rfl, ⟨nd, rfl⟩⟩) | (go_at_call 12; (with_reducible refine (ossuarylaw0_Num.calls t151 t159 _ A23.out).mono ?_); rintro e w' ⟨rfl, ⟨nd, rfl⟩⟩))
                            go_ret
                            exact ⟨by first | rfl | (simp [errW_none, errW_some] <;> rfl) | (simp only [← hji3]; first | rfl | (simp [errW_none, errW_some] <;> rfl)) | (simp [*, errW_none, errW_some] <;> rfl), by repeat (first | (with_reducible first | exact HB.out | apply below_alloc | apply pw_below_drewN | apply below_drew1) | exact HB.out)⟩
                          · rw [if_neg c22] at H
                            have c22b0 : (t158 == 1500) = false := beq_eq_false_iff_ne.mpr c22
                            have c22b1 : (t158 != 1500) = true := bne_iff_ne.mpr c22
                            exact absurd (Option.some.inj H) (by rw [HRT.out]; decide)
                        · rw [if_neg c20] at H
                          have c20b0 : (t157 == 0) = false := beq_eq_false_iff_ne.mpr c20
                          have c20b1 : (t157 != 0) = true := bne_iff_ne.mpr c20
                          exact absurd (Option.some.inj H) (by rw [HRT.out]; decide)
                      · rw [if_neg c18] at H
                        have c18b0 : (t140.toList == ([97, 98, 99] : List UInt8)) = false := beq_eq_false_iff_ne.mpr c18
                        have c18b1 : (t140.toList != ([97, 98, 99] : List UInt8)) = true := bne_iff_ne.mpr c18
                        exact absurd (Option.some.inj H) (by rw [HRT.out]; decide)
                    · rw [if_neg c17] at H
                      have c17b0 : (t139 == 7) = false := beq_eq_false_iff_ne.mpr c17
                      have c17b1 : (t139 != 7) = true := bne_iff_ne.mpr c17
                      exact absurd (Option.some.inj H) (by rw [HRT.out]; decide)
                  · rw [if_neg c16] at H
                    have c16b0 : (((rdOf ByteArray.empty t135 0).extract 0 8).toList == ([77, 0, 3, 0, 7, 0, 0, 0] : List UInt8)) = false := beq_eq_false_iff_ne.mpr c16
                    have c16b1 : (((rdOf ByteArray.empty t135 0).extract 0 8).toList != ([77, 0, 3, 0, 7, 0, 0, 0] : List UInt8)) = true := bne_iff_ne.mpr c16
                    exact absurd (Option.some.inj H) (by rw [HRT.out]; decide)
                · rw [if_neg c15] at H
                  exact absurd H (by simp)
              · rw [if_neg c14] at H
                exact absurd H (by simp)
            · rw [if_neg c13] at H
              have c13b0 : (((rdOf ByteArray.empty t135 0).size : Int) == 64) = false := beq_eq_false_iff_ne.mpr c13
              have c13b1 : (((rdOf ByteArray.empty t135 0).size : Int) != 64) = true := bne_iff_ne.mpr c13
              exact absurd (Option.some.inj H) (by rw [HRT.out]; decide)
          · rw [if_neg c12] at H
            exact absurd H (by simp)
        · rw [if_neg c11] at H
          have c11b0 : (t154 == 0) = false := beq_eq_false_iff_ne.mpr c11
          have c11b1 : (t154 != 0) = true := bne_iff_ne.mpr c11
          exact absurd (Option.some.inj H) (by rw [HRT.out]; decide)
      · rw [if_neg c9] at H
        have c9b0 : ((t135.length : Int) == 24) = false := beq_eq_false_iff_ne.mpr c9
        have c9b1 : ((t135.length : Int) != 24) = true := bne_iff_ne.mpr c9
        exact absurd (Option.some.inj H) (by rw [HRT.out]; decide)
    · rw [if_neg c5] at H
      exact absurd H (by simp)
  · rw [if_neg c4] at H
    exact absurd H (by simp)

/-! ### ossuarylaw15_AreaTurned: function 4 -/
def ossuarylaw15_AreaTurned.j0 : Nat → Int → Int → Int → List ByteArray → List ByteArray → Bool → Option (Bool)
  | 0, _, _, _, _, _, _ => none
  | k + 1, x2, x3, x4, x14, x16, x99 => if x99 = true then (some false) else ((some (([] : List ByteArray) : List ByteArray)).bind fun y176 => (if y176.length + x14.length < 8796093022208 then ((some (y176 ++ x14 : List ByteArray)).bind fun y179 => (if 0 ≤ (wrap64 (Int.tmod (IntKind.u64.wrap (x2)) 24)) then (if (wrap64 (Int.tmod (IntKind.u64.wrap (x2)) 24)) < (y179.length : Int) then (if ((rdOf ByteArray.empty y179 (wrap64 (Int.tmod (IntKind.u64.wrap (x2)) 24))).size : Int) = 64 then (if (rdOf ByteArray.empty y179 (wrap64 (Int.tmod (IntKind.u64.wrap (x2)) 24))).size ≤ 281474976710656 then ((some (bytesOf (rdOf ByteArray.empty y179 (wrap64 (Int.tmod (IntKind.u64.wrap (x2)) 24))) : List Int)).bind fun y184 => (if 0 ≤ (wrap64 (Int.tmod (IntKind.u64.wrap (x3)) 64)) then (if (wrap64 (Int.tmod (IntKind.u64.wrap (x3)) 64)) < (y184.length : Int) then ((some (y179.set ((wrap64 (Int.tmod (IntKind.u64.wrap (x2)) 24)) : Int).toNat (strOfNums (y184.set ((wrap64 (Int.tmod (IntKind.u64.wrap (x3)) 64)) : Int).toNat (Go.bits .xor .u8 (rd y184 (wrap64 (Int.tmod (IntKind.u64.wrap (x3)) 64))) ((wrap64 (1 + (Go.bits .and .i64 x4 127))) % 256)))) : List ByteArray)).bind fun y189 => ((area_Get.f k y189).bind fun bt190 => (if (wrap64 (Int.tmod (IntKind.u64.wrap (x2)) 24)) < (x16.length : Int) then ((some (y189.set ((wrap64 (Int.tmod (IntKind.u64.wrap (x2)) 24)) : Int).toNat (rdOf ByteArray.empty x16 (wrap64 (Int.tmod (IntKind.u64.wrap (x2)) 24))) : List ByteArray)).bind fun y194 => ((area_Get.f k y194).bind fun bt195 => (if 0 ≤ (Int.tmod (wrap64 ((wrap64 (Int.tmod (IntKind.u64.wrap (x2)) 24)) + 1)) 24) then (if (Int.tmod (wrap64 ((wrap64 (Int.tmod (IntKind.u64.wrap (x2)) 24)) + 1)) 24) < (x14.length : Int) then ((area_Get.f k (y194.set ((wrap64 (Int.tmod (IntKind.u64.wrap (x2)) 24)) : Int).toNat (rdOf ByteArray.empty x14 (Int.tmod (wrap64 ((wrap64 (Int.tmod (IntKind.u64.wrap (x2)) 24)) + 1)) 24)))).bind fun bt200 => ((ossuarylaw0_Num.f bt190.2.2).bind fun t203 => (if t203 = 1500 then ((ossuarylaw0_Num.f bt195.2.2).bind fun t204 => (if t204 = 1500 then ((ossuarylaw0_Num.f bt200.2.2).bind fun t205 => (some (t205 == 1500))) else (some false))) else (some false)))) else (none)) else (none)))) else (none)))) else (none)) else (none))) else (none)) else (some false)) else (none)) else (none))) else (none)))
def ossuarylaw15_AreaTurned.f (k : Nat) (a0 : Int) (a1 : Int) (a2 : Int) (a3 : Int) (a4 : Int) : Option (Bool) := (ossuarylaw15_awake.f k).bind fun t160 => (if t160 = true then ((ossuarylaw15_long.f k (wrap64 (Int.tmod (IntKind.u64.wrap (a0)) 1248)) ((a1) % 256)).bind fun t161 => ((area_Put.f k (wrap64 (Int.tmod (IntKind.u64.wrap (a4)) 1048576)) t161).bind fun bt162 => ((area_Put.f k (wrap64 ((wrap64 (Int.tmod (IntKind.u64.wrap (a4)) 1048576)) + 1)) t161).bind fun bt166 => ((area_Get.f k bt162.1).bind fun bt170 => ((ossuarylaw0_Num.f bt162.2).bind fun t173 => (if t173 = 0 then ((ossuarylaw0_Num.f bt166.2).bind fun t174 => (if t174 = 0 then ((ossuarylaw0_Num.f bt170.2.2).bind fun t175 => (if t175 = 0 then (if bt170.1 = (wrap64 (Int.tmod (IntKind.u64.wrap (a4)) 1048576)) then (if bt170.2.1.toList = t161.toList then (if (bt162.1.length : Int) = 24 then (ossuarylaw15_AreaTurned.j0 k a2 a3 a4 bt162.1 bt166.1 ((bt166.1.length : Int) != 24)) else (ossuarylaw15_AreaTurned.j0 k a2 a3 a4 bt162.1 bt166.1 true)) else (ossuarylaw15_AreaTurned.j0 k a2 a3 a4 bt162.1 bt166.1 true)) else (ossuarylaw15_AreaTurned.j0 k a2 a3 a4 bt162.1 bt166.1 true)) else (ossuarylaw15_AreaTurned.j0 k a2 a3 a4 bt162.1 bt166.1 true))) else (ossuarylaw15_AreaTurned.j0 k a2 a3 a4 bt162.1 bt166.1 true))) else (ossuarylaw15_AreaTurned.j0 k a2 a3 a4 bt162.1 bt166.1 true))))))) else (some false))
theorem ossuarylaw15_AreaTurned.mono_l : ∀ k, (∀ y0 y1 y2 y3 y4 y5, LeO (ossuarylaw15_AreaTurned.j0 k y0 y1 y2 y3 y4 y5) (ossuarylaw15_AreaTurned.j0 (k + 1) y0 y1 y2 y3 y4 y5))
  | 0 => fun _ _ _ _ _ _ r h => by simp [ossuarylaw15_AreaTurned.j0] at h
  | k + 1 => by
    have ih0 := ossuarylaw15_AreaTurned.mono_l k
    · intro y0 y1 y2 y3 y4 y5
      unfold ossuarylaw15_AreaTurned.j0
      repeat' first
      | (with_reducible exact ih0 _ _ _ _ _ _)
      | (with_reducible exact area_Get.mono _ _)
      | (with_reducible exact area_Put.mono _ _ _)
      | (with_reducible exact ossuarylaw15_awake.mono _)
      | (with_reducible exact ossuarylaw15_long.mono _ _ _)
      | (with_reducible exact LeO.refl _)
      | (with_reducible exact LeO.none _)
      | (with_reducible refine LeO.ite ?_ ?_)
      | (with_reducible refine LeO.bind ?_ (fun _ => ?_))
      | exact ih0 _ _ _ _ _ _
      | exact area_Get.mono _ _
      | exact area_Put.mono _ _ _
      | exact ossuarylaw15_awake.mono _
      | exact ossuarylaw15_long.mono _ _ _
      | exact LeO.none _
      | refine LeO.ite ?_ ?_
      | refine LeO.bind ?_ (fun _ => ?_)
theorem ossuarylaw15_AreaTurned.mono : ∀ a0 a1 a2 a3 a4 k, LeO (ossuarylaw15_AreaTurned.f k a0 a1 a2 a3 a4) (ossuarylaw15_AreaTurned.f (k + 1) a0 a1 a2 a3 a4) := by
  intro a0 a1 a2 a3 a4 k
  have ih0 := ossuarylaw15_AreaTurned.mono_l k
  unfold ossuarylaw15_AreaTurned.f
  repeat' first
      | (with_reducible exact ih0 _ _ _ _ _ _)
      | (with_reducible exact area_Get.mono _ _)
      | (with_reducible exact area_Put.mono _ _ _)
      | (with_reducible exact ossuarylaw15_awake.mono _)
      | (with_reducible exact ossuarylaw15_long.mono _ _ _)
      | (with_reducible exact LeO.refl _)
      | (with_reducible exact LeO.none _)
      | (with_reducible refine LeO.ite ?_ ?_)
      | (with_reducible refine LeO.bind ?_ (fun _ => ?_))
      | exact ih0 _ _ _ _ _ _
      | exact area_Get.mono _ _
      | exact area_Put.mono _ _ _
      | exact ossuarylaw15_awake.mono _
      | exact ossuarylaw15_long.mono _ _ _
      | exact LeO.none _
      | refine LeO.ite ?_ ?_
      | refine LeO.bind ?_ (fun _ => ?_)
set_option maxHeartbeats 8000000 in
set_option maxRecDepth 100000 in
theorem ossuarylaw15_AreaTurned.calls (k : Nat) (a0 : Int) (a1 : Int) (a2 : Int) (a3 : Int) (a4 : Int) (r : Bool) (w : World) (h : ossuarylaw15_AreaTurned.f k a0 a1 a2 a3 a4 = some r) (hr_ : r = true := by rfl) :
    Calls Try.prog 4 #[.int .i64 a0, .int .i64 a1, .int .i64 a2, .int .i64 a3, .int .i64 a4] w fun e w' => e = .returned (.bool r) ∧ Below w.heap.size w w' := by
  have HRT := Aside0.mk hr_
  clear hr_
  have HB := Aside0.mk (Below.refl w.heap.size w)
  have H : ((ossuarylaw15_awake.f k).bind fun t160 => (if t160 = true then ((ossuarylaw15_long.f k (wrap64 (Int.tmod (IntKind.u64.wrap (a0)) 1248)) ((a1) % 256)).bind fun t161 => ((area_Put.f k (wrap64 (Int.tmod (IntKind.u64.wrap (a4)) 1048576)) t161).bind fun bt162 => ((area_Put.f k (wrap64 ((wrap64 (Int.tmod (IntKind.u64.wrap (a4)) 1048576)) + 1)) t161).bind fun bt166 => ((area_Get.f k bt162.1).bind fun bt170 => ((ossuarylaw0_Num.f bt162.2).bind fun t173 => (if t173 = 0 then ((ossuarylaw0_Num.f bt166.2).bind fun t174 => (if t174 = 0 then ((ossuarylaw0_Num.f bt170.2.2).bind fun t175 => (if t175 = 0 then (if bt170.1 = (wrap64 (Int.tmod (IntKind.u64.wrap (a4)) 1048576)) then (if bt170.2.1.toList = t161.toList then (if (bt162.1.length : Int) = 24 then (ossuarylaw15_AreaTurned.j0 k a2 a3 a4 bt162.1 bt166.1 ((bt166.1.length : Int) != 24)) else (ossuarylaw15_AreaTurned.j0 k a2 a3 a4 bt162.1 bt166.1 true)) else (ossuarylaw15_AreaTurned.j0 k a2 a3 a4 bt162.1 bt166.1 true)) else (ossuarylaw15_AreaTurned.j0 k a2 a3 a4 bt162.1 bt166.1 true)) else (ossuarylaw15_AreaTurned.j0 k a2 a3 a4 bt162.1 bt166.1 true))) else (ossuarylaw15_AreaTurned.j0 k a2 a3 a4 bt162.1 bt166.1 true))) else (ossuarylaw15_AreaTurned.j0 k a2 a3 a4 bt162.1 bt166.1 true))))))) else (some false))) = some r := h
  clear h
  replace H := Option.bind_eq_some_iff.mp H
  obtain ⟨t160, A60, H⟩ := H
  replace H : (if t160 = true then ((ossuarylaw15_long.f k (wrap64 (Int.tmod (IntKind.u64.wrap (a0)) 1248)) ((a1) % 256)).bind fun t161 => ((area_Put.f k (wrap64 (Int.tmod (IntKind.u64.wrap (a4)) 1048576)) t161).bind fun bt162 => ((area_Put.f k (wrap64 ((wrap64 (Int.tmod (IntKind.u64.wrap (a4)) 1048576)) + 1)) t161).bind fun bt166 => ((area_Get.f k bt162.1).bind fun bt170 => ((ossuarylaw0_Num.f bt162.2).bind fun t173 => (if t173 = 0 then ((ossuarylaw0_Num.f bt166.2).bind fun t174 => (if t174 = 0 then ((ossuarylaw0_Num.f bt170.2.2).bind fun t175 => (if t175 = 0 then (if bt170.1 = (wrap64 (Int.tmod (IntKind.u64.wrap (a4)) 1048576)) then (if bt170.2.1.toList = t161.toList then (if (bt162.1.length : Int) = 24 then (ossuarylaw15_AreaTurned.j0 k a2 a3 a4 bt162.1 bt166.1 ((bt166.1.length : Int) != 24)) else (ossuarylaw15_AreaTurned.j0 k a2 a3 a4 bt162.1 bt166.1 true)) else (ossuarylaw15_AreaTurned.j0 k a2 a3 a4 bt162.1 bt166.1 true)) else (ossuarylaw15_AreaTurned.j0 k a2 a3 a4 bt162.1 bt166.1 true)) else (ossuarylaw15_AreaTurned.j0 k a2 a3 a4 bt162.1 bt166.1 true))) else (ossuarylaw15_AreaTurned.j0 k a2 a3 a4 bt162.1 bt166.1 true))) else (ossuarylaw15_AreaTurned.j0 k a2 a3 a4 bt162.1 bt166.1 true))))))) else (some false)) = some r := H
  have A6 := Aside0.mk A60
  clear A60
  by_cases c7 : t160 = true
  · subst c7
    have H1 : ((ossuarylaw15_long.f k (wrap64 (Int.tmod (IntKind.u64.wrap (a0)) 1248)) ((a1) % 256)).bind fun t161 => ((area_Put.f k (wrap64 (Int.tmod (IntKind.u64.wrap (a4)) 1048576)) t161).bind fun bt162 => ((area_Put.f k (wrap64 ((wrap64 (Int.tmod (IntKind.u64.wrap (a4)) 1048576)) + 1)) t161).bind fun bt166 => ((area_Get.f k bt162.1).bind fun bt170 => ((ossuarylaw0_Num.f bt162.2).bind fun t173 => (if t173 = 0 then ((ossuarylaw0_Num.f bt166.2).bind fun t174 => (if t174 = 0 then ((ossuarylaw0_Num.f bt170.2.2).bind fun t175 => (if t175 = 0 then (if bt170.1 = (wrap64 (Int.tmod (IntKind.u64.wrap (a4)) 1048576)) then (if bt170.2.1.toList = t161.toList then (if (bt162.1.length : Int) = 24 then (ossuarylaw15_AreaTurned.j0 k a2 a3 a4 bt162.1 bt166.1 ((bt166.1.length : Int) != 24)) else (ossuarylaw15_AreaTurned.j0 k a2 a3 a4 bt162.1 bt166.1 true)) else (ossuarylaw15_AreaTurned.j0 k a2 a3 a4 bt162.1 bt166.1 true)) else (ossuarylaw15_AreaTurned.j0 k a2 a3 a4 bt162.1 bt166.1 true)) else (ossuarylaw15_AreaTurned.j0 k a2 a3 a4 bt162.1 bt166.1 true))) else (ossuarylaw15_AreaTurned.j0 k a2 a3 a4 bt162.1 bt166.1 true))) else (ossuarylaw15_AreaTurned.j0 k a2 a3 a4 bt162.1 bt166.1 true))))))) = some r := by rw [if_pos rfl] at H; exact H
    clear H
    have H := H1
    clear H1
    replace H := Option.bind_eq_some_iff.mp H
    obtain ⟨t161, A80, H⟩ := H
    replace H : ((area_Put.f k (wrap64 (Int.tmod (IntKind.u64.wrap (a4)) 1048576)) t161).bind fun bt162 => ((area_Put.f k (wrap64 ((wrap64 (Int.tmod (IntKind.u64.wrap (a4)) 1048576)) + 1)) t161).bind fun bt166 => ((area_Get.f k bt162.1).bind fun bt170 => ((ossuarylaw0_Num.f bt162.2).bind fun t173 => (if t173 = 0 then ((ossuarylaw0_Num.f bt166.2).bind fun t174 => (if t174 = 0 then ((ossuarylaw0_Num.f bt170.2.2).bind fun t175 => (if t175 = 0 then (if bt170.1 = (wrap64 (Int.tmod (IntKind.u64.wrap (a4)) 1048576)) then (if bt170.2.1.toList = t161.toList then (if (bt162.1.length : Int) = 24 then (ossuarylaw15_AreaTurned.j0 k a2 a3 a4 bt162.1 bt166.1 ((bt166.1.length : Int) != 24)) else (ossuarylaw15_AreaTurned.j0 k a2 a3 a4 bt162.1 bt166.1 true)) else (ossuarylaw15_AreaTurned.j0 k a2 a3 a4 bt162.1 bt166.1 true)) else (ossuarylaw15_AreaTurned.j0 k a2 a3 a4 bt162.1 bt166.1 true)) else (ossuarylaw15_AreaTurned.j0 k a2 a3 a4 bt162.1 bt166.1 true))) else (ossuarylaw15_AreaTurned.j0 k a2 a3 a4 bt162.1 bt166.1 true))) else (ossuarylaw15_AreaTurned.j0 k a2 a3 a4 bt162.1 bt166.1 true)))))) = some r := H
    have A8 := Aside0.mk A80
    clear A80
    replace H := Option.bind_eq_some_iff.mp H
    obtain ⟨⟨t162, t163⟩, A90, H⟩ := H
    replace H : ((area_Put.f k (wrap64 ((wrap64 (Int.tmod (IntKind.u64.wrap (a4)) 1048576)) + 1)) t161).bind fun bt166 => ((area_Get.f k t162).bind fun bt170 => ((ossuarylaw0_Num.f t163).bind fun t173 => (if t173 = 0 then ((ossuarylaw0_Num.f bt166.2).bind fun t174 => (if t174 = 0 then ((ossuarylaw0_Num.f bt170.2.2).bind fun t175 => (if t175 = 0 then (if bt170.1 = (wrap64 (Int.tmod (IntKind.u64.wrap (a4)) 1048576)) then (if bt170.2.1.toList = t161.toList then (if (t162.length : Int) = 24 then (ossuarylaw15_AreaTurned.j0 k a2 a3 a4 t162 bt166.1 ((bt166.1.length : Int) != 24)) else (ossuarylaw15_AreaTurned.j0 k a2 a3 a4 t162 bt166.1 true)) else (ossuarylaw15_AreaTurned.j0 k a2 a3 a4 t162 bt166.1 true)) else (ossuarylaw15_AreaTurned.j0 k a2 a3 a4 t162 bt166.1 true)) else (ossuarylaw15_AreaTurned.j0 k a2 a3 a4 t162 bt166.1 true))) else (ossuarylaw15_AreaTurned.j0 k a2 a3 a4 t162 bt166.1 true))) else (ossuarylaw15_AreaTurned.j0 k a2 a3 a4 t162 bt166.1 true))))) = some r := H
    have A9 := Aside0.mk A90
    clear A90
    replace H := Option.bind_eq_some_iff.mp H
    obtain ⟨⟨t166, t167⟩, A100, H⟩ := H
    replace H : ((area_Get.f k t162).bind fun bt170 => ((ossuarylaw0_Num.f t163).bind fun t173 => (if t173 = 0 then ((ossuarylaw0_Num.f t167).bind fun t174 => (if t174 = 0 then ((ossuarylaw0_Num.f bt170.2.2).bind fun t175 => (if t175 = 0 then (if bt170.1 = (wrap64 (Int.tmod (IntKind.u64.wrap (a4)) 1048576)) then (if bt170.2.1.toList = t161.toList then (if (t162.length : Int) = 24 then (ossuarylaw15_AreaTurned.j0 k a2 a3 a4 t162 t166 ((t166.length : Int) != 24)) else (ossuarylaw15_AreaTurned.j0 k a2 a3 a4 t162 t166 true)) else (ossuarylaw15_AreaTurned.j0 k a2 a3 a4 t162 t166 true)) else (ossuarylaw15_AreaTurned.j0 k a2 a3 a4 t162 t166 true)) else (ossuarylaw15_AreaTurned.j0 k a2 a3 a4 t162 t166 true))) else (ossuarylaw15_AreaTurned.j0 k a2 a3 a4 t162 t166 true))) else (ossuarylaw15_AreaTurned.j0 k a2 a3 a4 t162 t166 true)))) = some r := H
    have A10 := Aside0.mk A100
    clear A100
    replace H := Option.bind_eq_some_iff.mp H
    obtain ⟨⟨t170, t171, t172⟩, A110, H⟩ := H
    replace H : ((ossuarylaw0_Num.f t163).bind fun t173 => (if t173 = 0 then ((ossuarylaw0_Num.f t167).bind fun t174 => (if t174 = 0 then ((ossuarylaw0_Num.f t172).bind fun t175 => (if t175 = 0 then (if t170 = (wrap64 (Int.tmod (IntKind.u64.wrap (a4)) 1048576)) then (if t171.toList = t161.toList then (if (t162.length : Int) = 24 then (ossuarylaw15_AreaTurned.j0 k a2 a3 a4 t162 t166 ((t166.length : Int) != 24)) else (ossuarylaw15_AreaTurned.j0 k a2 a3 a4 t162 t166 true)) else (ossuarylaw15_AreaTurned.j0 k a2 a3 a4 t162 t166 true)) else (ossuarylaw15_AreaTurned.j0 k a2 a3 a4 t162 t166 true)) else (ossuarylaw15_AreaTurned.j0 k a2 a3 a4 t162 t166 true))) else (ossuarylaw15_AreaTurned.j0 k a2 a3 a4 t162 t166 true))) else (ossuarylaw15_AreaTurned.j0 k a2 a3 a4 t162 t166 true))) = some r := H
    have A11 := Aside0.mk A110
    clear A110
    have HC12 := Aside0.mk H
    clear H
    go_enter Try.func4, Try.ntmps4
    go_upto_region 9 with (first | ((with_reducible refine gate_callee (f := 14) rfl ?_); refine goesL_ (some 34) rfl rfl Try.func14 (by kernel_rfl) rfl #[] rfl (by (try simp only [List.map_toArray, List.map_cons, List.map_nil]); first | done | rfl | (simp only [List.length_drop, List.length_take]; rfl)) ?_; (with_reducible refine (ossuarylaw15_awake.calls k  true _ A6.out).mono ?_); rintro e w13 ⟨rfl, hb⟩; refine ⟨_, rfl, ?_⟩; have n0_ := Aside0.mk (below_step (by repeat (first | (with_reducible first | exact HB.out | apply below_alloc | apply pw_below_drewN | apply below_drew1) | exact HB.out)) hb); clear HB; have HB := n0_; clear n0_; (try clear hb); (try clear hb2); (try clear hk); (try clear hi)) | ((with_reducible refine gate_callee (f := 15) rfl ?_); refine goesL_ (some 43) rfl rfl Try.func15 (by kernel_rfl) rfl #[.int .i64 (wrap64 (Int.tmod (IntKind.u64.wrap (a0)) 1248)), .int .u8 ((a1) % 256)] rfl (by (try simp only [List.map_toArray, List.map_cons, List.map_nil]); first | done | rfl | (simp only [List.length_drop, List.length_take]; rfl)) ?_; (with_reducible refine (ossuarylaw15_long.calls k (wrap64 (Int.tmod (IntKind.u64.wrap (a0)) 1248)) ((a1) % 256) t161 _ A8.out).mono ?_); rintro e w14 ⟨rfl, hb⟩; refine ⟨_, rfl, ?_⟩; have n0_ := Aside0.mk (below_step (by repeat (first | (with_reducible first | exact HB.out | apply below_alloc | apply pw_below_drewN | apply below_drew1) | exact HB.out)) hb); clear HB; have HB := n0_; clear n0_; (try clear hb); (try clear hb2); (try clear hk); (try clear hi)) | ((with_reducible refine gate_callee (f := 7) rfl ?_); refine goesL_ (some 51) rfl rfl Try.func7 (by kernel_rfl) rfl #[.int .i64 (wrap64 (Int.tmod (IntKind.u64.wrap (a4)) 1048576)), .string t161] rfl (by (try simp only [List.map_toArray, List.map_cons, List.map_nil]); first | done | rfl | (simp only [List.length_drop, List.length_take]; rfl)) ?_; (with_reducible refine (area_Put.calls k (wrap64 (Int.tmod (IntKind.u64.wrap (a4)) 1048576)) t161 t162 t163 _ A9.out).mono ?_); rintro e w15 ⟨v164, rfl, ho0, hb⟩; refine ⟨_, rfl, ?_⟩; have n0_ := Aside0.mk (Kd.R_lower ho0 (below_size (by repeat (first | (with_reducible first | exact HB.out | apply below_alloc | apply pw_below_drewN | apply below_drew1) | exact HB.out)))); have n1_ := Aside0.mk (below_step (by repeat (first | (with_reducible first | exact HB.out | apply below_alloc | apply pw_below_drewN | apply below_drew1) | exact HB.out)) hb); clear HB; have HO165 := n0_; have HB := n1_; clear n0_ n1_; (try clear hb); (try clear hb2); (try clear hk); (try clear hi); (try clear ho0)) | ((with_reducible refine gate_callee (f := 7) rfl ?_); refine goesL_ (some 58) rfl rfl Try.func7 (by kernel_rfl) rfl #[.int .i64 (wrap64 ((wrap64 (Int.tmod (IntKind.u64.wrap (a4)) 1048576)) + 1)), .string t161] rfl (by (try simp only [List.map_toArray, List.map_cons, List.map_nil]); first | done | rfl | (simp only [List.length_drop, List.length_take]; rfl)) ?_; (with_reducible refine (area_Put.calls k (wrap64 ((wrap64 (Int.tmod (IntKind.u64.wrap (a4)) 1048576)) + 1)) t161 t166 t167 _ A10.out).mono ?_); rintro e w16 ⟨v168, rfl, ho0, hb⟩; refine ⟨_, rfl, ?_⟩; have n0_ := Aside0.mk (Kd.R_elder' (by (with_reducible repeat (first | apply Kd.R_alloc | apply Kd.R_drewN | apply Kd.R_drew)); exact HO165.out) (Kd.R_base ho0) hb); have n1_ := Aside0.mk (Kd.R_lower (Kd.R_new' ho0 (Kd.R_lt (by (with_reducible repeat (first | apply Kd.R_alloc | apply Kd.R_drewN | apply Kd.R_drew)); exact HO165.out))) (below_size (by repeat (first | (with_reducible first | exact HB.out | apply below_alloc | apply pw_below_drewN | apply below_drew1) | exact HB.out)))); have n2_ := Aside0.mk (below_step (by repeat (first | (with_reducible first | exact HB.out | apply below_alloc | apply pw_below_drewN | apply below_drew1) | exact HB.out)) hb); clear HO165; clear HB; have HO165 := n0_; have HO169 := n1_; have HB := n2_; clear n0_ n1_ n2_; (try clear hb); (try clear hb2); (try clear hk); (try clear hi); (try clear ho0); obtain ⟨Ao17, co17, eo17⟩ := Kd.R_slice HO165.out; subst eo17) | ((with_reducible refine gate_callee (f := 9) rfl ?_); refine goesL_ (some 63) rfl rfl Try.func9 (by kernel_rfl) rfl #[.slice Ao17 t162.length co17] rfl (by (try simp only [List.map_toArray, List.map_cons, List.map_nil]); first | done | rfl | (simp only [List.length_drop, List.length_take]; rfl)) ?_; (with_reducible refine (area_Get.calls k _ _ t162 t170 t171 t172 _ ?side1 ?side2 A11.out).mono ?_); (case side1 => repeat (first | exact (Kd.R_reads' HO165.out).2.2 | (with_reducible refine Kd.C_alloc ?_ _) | (with_reducible refine Kd.C_drewN ?_ _) | (with_reducible refine Kd.C_drew ?_))); (case side2 => exact (Kd.R_reads' HO165.out).2.1); rintro e w18 ⟨rfl, hb⟩; refine ⟨_, rfl, ?_⟩; have n0_ := Aside0.mk (Kd.R_below (by (with_reducible repeat (first | apply Kd.R_alloc | apply Kd.R_drewN | apply Kd.R_drew)); exact HO165.out) hb); have n1_ := Aside0.mk (Kd.R_below (by (with_reducible repeat (first | apply Kd.R_alloc | apply Kd.R_drewN | apply Kd.R_drew)); exact HO169.out) hb); have n2_ := Aside0.mk (below_step (by repeat (first | (with_reducible first | exact HB.out | apply below_alloc | apply pw_below_drewN | apply below_drew1) | exact HB.out)) hb); clear HO165; clear HO169; clear HB; have HO165 := n0_; have HO169 := n1_; have HB := n2_; clear n0_ n1_ n2_; (try clear hb); (try clear hb2); (try clear hk); (try clear hi)))
    (try simp only [Act.put, List.setIfInBounds_toArray, List.set_cons_zero, List.set_cons_succ])
    go_cut [99] (fun v99 wc => ∃ (kq : Nat) (x99_11 : Bool), v99 = .bool x99_11 ∧ Aside0 (ossuarylaw15_AreaTurned.j0 kq a2 a3 a4 t162 t166 x99_11 = some r) ∧ Aside0 (kq ≤ k) ∧ Aside0 (Kd.R Kd.string 9 wc w.heap.size (fun k_ => some k_ ≠ (v168 : Value).ownBlock) (.slice Ao17 t162.length co17) t162) ∧ Aside0 (Kd.R Kd.string 9 wc w.heap.size (fun k_ => some k_ ≠ ((.slice Ao17 t162.length co17) : Value).ownBlock) v168 t166) ∧ Aside0 (Below w.heap.size w wc))
    case first =>
      have H := HC12.out
      clear HC12
      replace H := Option.bind_eq_some_iff.mp H
      obtain ⟨t173, A190, H⟩ := H
      replace H : (if t173 = 0 then ((ossuarylaw0_Num.f t167).bind fun t174 => (if t174 = 0 then ((ossuarylaw0_Num.f t172).bind fun t175 => (if t175 = 0 then (if t170 = (wrap64 (Int.tmod (IntKind.u64.wrap (a4)) 1048576)) then (if t171.toList = t161.toList then (if (t162.length : Int) = 24 then (ossuarylaw15_AreaTurned.j0 k a2 a3 a4 t162 t166 ((t166.length : Int) != 24)) else (ossuarylaw15_AreaTurned.j0 k a2 a3 a4 t162 t166 true)) else (ossuarylaw15_AreaTurned.j0 k a2 a3 a4 t162 t166 true)) else (ossuarylaw15_AreaTurned.j0 k a2 a3 a4 t162 t166 true)) else (ossuarylaw15_AreaTurned.j0 k a2 a3 a4 t162 t166 true))) else (ossuarylaw15_AreaTurned.j0 k a2 a3 a4 t162 t166 true))) else (ossuarylaw15_AreaTurned.j0 k a2 a3 a4 t162 t166 true)) = some r := H
      have A19 := Aside0.mk A190
      clear A190
      by_cases c20 : t173 = 0
      · rw [if_pos c20] at H
        have c20b0 : (t173 == 0) = true := beq_iff_eq.mpr c20
        have c20b1 : (t173 != 0) = false := bne_eq_false_iff_eq.mpr c20
        clear c20
        (first | rw [c20b0] | (simp only [i64_w, i32_w]; rw [c20b0]) | skip)
        replace H := Option.bind_eq_some_iff.mp H
        obtain ⟨t174, A210, H⟩ := H
        replace H : (if t174 = 0 then ((ossuarylaw0_Num.f t172).bind fun t175 => (if t175 = 0 then (if t170 = (wrap64 (Int.tmod (IntKind.u64.wrap (a4)) 1048576)) then (if t171.toList = t161.toList then (if (t162.length : Int) = 24 then (ossuarylaw15_AreaTurned.j0 k a2 a3 a4 t162 t166 ((t166.length : Int) != 24)) else (ossuarylaw15_AreaTurned.j0 k a2 a3 a4 t162 t166 true)) else (ossuarylaw15_AreaTurned.j0 k a2 a3 a4 t162 t166 true)) else (ossuarylaw15_AreaTurned.j0 k a2 a3 a4 t162 t166 true)) else (ossuarylaw15_AreaTurned.j0 k a2 a3 a4 t162 t166 true))) else (ossuarylaw15_AreaTurned.j0 k a2 a3 a4 t162 t166 true)) = some r := H
        have A21 := Aside0.mk A210
        clear A210
        by_cases c22 : t174 = 0
        · rw [if_pos c22] at H
          have c22b0 : (t174 == 0) = true := beq_iff_eq.mpr c22
          have c22b1 : (t174 != 0) = false := bne_eq_false_iff_eq.mpr c22
          clear c22
          replace H := Option.bind_eq_some_iff.mp H
          obtain ⟨t175, A230, H⟩ := H
          replace H : (if t175 = 0 then (if t170 = (wrap64 (Int.tmod (IntKind.u64.wrap (a4)) 1048576)) then (if t171.toList = t161.toList then (if (t162.length : Int) = 24 then (ossuarylaw15_AreaTurned.j0 k a2 a3 a4 t162 t166 ((t166.length : Int) != 24)) else (ossuarylaw15_AreaTurned.j0 k a2 a3 a4 t162 t166 true)) else (ossuarylaw15_AreaTurned.j0 k a2 a3 a4 t162 t166 true)) else (ossuarylaw15_AreaTurned.j0 k a2 a3 a4 t162 t166 true)) else (ossuarylaw15_AreaTurned.j0 k a2 a3 a4 t162 t166 true)) = some r := H
          have A23 := Aside0.mk A230
          clear A230
          by_cases c24 : t175 = 0
          · rw [if_pos c24] at H
            have c24b0 : (t175 == 0) = true := beq_iff_eq.mpr c24
            have c24b1 : (t175 != 0) = false := bne_eq_false_iff_eq.mpr c24
            clear c24
            by_cases c25 : t170 = (wrap64 (Int.tmod (IntKind.u64.wrap (a4)) 1048576))
            · rw [if_pos c25] at H
              have c25b0 : (t170 == (wrap64 (Int.tmod (IntKind.u64.wrap (a4)) 1048576))) = true := beq_iff_eq.mpr c25
              have c25b1 : (t170 != (wrap64 (Int.tmod (IntKind.u64.wrap (a4)) 1048576))) = false := bne_eq_false_iff_eq.mpr c25
              clear c25
              by_cases c26 : t171.toList = t161.toList
              · rw [if_pos c26] at H
                have c26b0 : (t171.toList == t161.toList) = true := beq_iff_eq.mpr c26
                have c26b1 : (t171.toList != t161.toList) = false := bne_eq_false_iff_eq.mpr c26
                clear c26
                by_cases c27 : (t162.length : Int) = 24
                · rw [if_pos c27] at H
                  have c27b0 : ((t162.length : Int) == 24) = true := beq_iff_eq.mpr c27
                  have c27b1 : ((t162.length : Int) != 24) = false := bne_eq_false_iff_eq.mpr c27
                  clear c27
                  have H' := Aside0.mk H
                  clear H
                  go_wp2_with (first | ((with_reducible refine gate_callee (f := 12) rfl ?_); refine goesL_ (some 68) rfl rfl Try.func12 (by kernel_rfl) rfl #[.int .i64 t163] rfl (by (try simp only [List.map_toArray, List.map_cons, List.map_nil]); first | done | rfl | (simp only [List.length_drop, List.length_take]; rfl)) ?_; (with_reducible refine (ossuarylaw0_Num.calls t163 t173 _ A19.out).mono ?_); rintro e w' ⟨rfl, ⟨nd, rfl⟩⟩; refine ⟨_, rfl, ?_⟩) | (go_at_call 12; (with_reducible refine (ossuarylaw0_Num.calls t167 t174 _ A21.out).mono ?_); rintro e w' ⟨rfl, ⟨nd, rfl⟩⟩) | (go_at_call 12; (with_reducible refine (ossuarylaw0_Num.calls t172 t175 _ A23.out).mono ?_); rintro e w' ⟨rfl, ⟨nd, rfl⟩⟩; obtain ⟨Ao28, co28, eo28⟩ := Kd.R_slice HO169.out; subst eo28))
                  go_meet
                  case rel => exact ⟨_, (((t166.length : Int) != 24)), (by first | rfl | (simp; done) | (simp [*]; done)), H', ⟨by first | omega | exact Nat.le_refl _⟩, ⟨by (with_reducible repeat (first | apply Kd.R_alloc | apply Kd.R_drewN | apply Kd.R_drew)); exact Kd.R_mono HO165.out (fun _ hk => hk.2)⟩, ⟨by (with_reducible repeat (first | apply Kd.R_alloc | apply Kd.R_drewN | apply Kd.R_drew)); exact Kd.R_mono HO169.out (fun _ hk => hk.2)⟩, ⟨by repeat (first | (with_reducible first | exact HB.out | apply below_alloc | apply pw_below_drewN | apply below_drew1) | exact HB.out)⟩⟩
                · rw [if_neg c27] at H
                  have c27b0 : ((t162.length : Int) == 24) = false := beq_eq_false_iff_ne.mpr c27
                  have c27b1 : ((t162.length : Int) != 24) = true := bne_iff_ne.mpr c27
                  have H' := Aside0.mk H
                  clear H
                  go_wp2_with (first | ((with_reducible refine gate_callee (f := 12) rfl ?_); refine goesL_ (some 68) rfl rfl Try.func12 (by kernel_rfl) rfl #[.int .i64 t163] rfl (by (try simp only [List.map_toArray, List.map_cons, List.map_nil]); first | done | rfl | (simp only [List.length_drop, List.length_take]; rfl)) ?_; (with_reducible refine (ossuarylaw0_Num.calls t163 t173 _ A19.out).mono ?_); rintro e w' ⟨rfl, ⟨nd, rfl⟩⟩; refine ⟨_, rfl, ?_⟩) | (go_at_call 12; (with_reducible refine (ossuarylaw0_Num.calls t167 t174 _ A21.out).mono ?_); rintro e w' ⟨rfl, ⟨nd, rfl⟩⟩) | (go_at_call 12; (with_reducible refine (ossuarylaw0_Num.calls t172 t175 _ A23.out).mono ?_); rintro e w' ⟨rfl, ⟨nd, rfl⟩⟩))
                  go_meet
                  case rel => exact ⟨_, (true), (by first | rfl | (simp; done) | (simp [*]; done)), H', ⟨by first | omega | exact Nat.le_refl _⟩, ⟨by (with_reducible repeat (first | apply Kd.R_alloc | apply Kd.R_drewN | apply Kd.R_drew)); exact Kd.R_mono HO165.out (fun _ hk => hk.2)⟩, ⟨by (with_reducible repeat (first | apply Kd.R_alloc | apply Kd.R_drewN | apply Kd.R_drew)); exact Kd.R_mono HO169.out (fun _ hk => hk.2)⟩, ⟨by repeat (first | (with_reducible first | exact HB.out | apply below_alloc | apply pw_below_drewN | apply below_drew1) | exact HB.out)⟩⟩
              · rw [if_neg c26] at H
                have c26b0 : (t171.toList == t161.toList) = false := beq_eq_false_iff_ne.mpr c26
                have c26b1 : (t171.toList != t161.toList) = true := bne_iff_ne.mpr c26
                have H' := Aside0.mk H
                clear H
                go_wp2_with (first | ((with_reducible refine gate_callee (f := 12) rfl ?_); refine goesL_ (some 68) rfl rfl Try.func12 (by kernel_rfl) rfl #[.int .i64 t163] rfl (by (try simp only [List.map_toArray, List.map_cons, List.map_nil]); first | done | rfl | (simp only [List.length_drop, List.length_take]; rfl)) ?_; (with_reducible refine (ossuarylaw0_Num.calls t163 t173 _ A19.out).mono ?_); rintro e w' ⟨rfl, ⟨nd, rfl⟩⟩; refine ⟨_, rfl, ?_⟩) | (go_at_call 12; (with_reducible refine (ossuarylaw0_Num.calls t167 t174 _ A21.out).mono ?_); rintro e w' ⟨rfl, ⟨nd, rfl⟩⟩) | (go_at_call 12; (with_reducible refine (ossuarylaw0_Num.calls t172 t175 _ A23.out).mono ?_); rintro e w' ⟨rfl, ⟨nd, rfl⟩⟩))
                go_meet
                case rel => exact ⟨_, (true), (by first | rfl | (simp; done) | (simp [*]; done)), H', ⟨by first | omega | exact Nat.le_refl _⟩, ⟨by (with_reducible repeat (first | apply Kd.R_alloc | apply Kd.R_drewN | apply Kd.R_drew)); exact Kd.R_mono HO165.out (fun _ hk => hk.2)⟩, ⟨by (with_reducible repeat (first | apply Kd.R_alloc | apply Kd.R_drewN | apply Kd.R_drew)); exact Kd.R_mono HO169.out (fun _ hk => hk.2)⟩, ⟨by repeat (first | (with_reducible first | exact HB.out | apply below_alloc | apply pw_below_drewN | apply below_drew1) | exact HB.out)⟩⟩
            · rw [if_neg c25] at H
              have c25b0 : (t170 == (wrap64 (Int.tmod (IntKind.u64.wrap (a4)) 1048576))) = false := beq_eq_false_iff_ne.mpr c25
              have c25b1 : (t170 != (wrap64 (Int.tmod (IntKind.u64.wrap (a4)) 1048576))) = true := bne_iff_ne.mpr c25
              have H' := Aside0.mk H
              clear H
              go_wp2_with (first | ((with_reducible refine gate_callee (f := 12) rfl ?_); refine goesL_ (some 68) rfl rfl Try.func12 (by kernel_rfl) rfl #[.int .i64 t163] rfl (by (try simp only [List.map_toArray, List.map_cons, List.map_nil]); first | done | rfl | (simp only [List.length_drop, List.length_take]; rfl)) ?_; (with_reducible refine (ossuarylaw0_Num.calls t163 t173 _ A19.out).mono ?_); rintro e w' ⟨rfl, ⟨nd, rfl⟩⟩; refine ⟨_, rfl, ?_⟩) | (go_at_call 12; (with_reducible refine (ossuarylaw0_Num.calls t167 t174 _ A21.out).mono ?_); rintro e w' ⟨rfl, ⟨nd, rfl⟩⟩) | (go_at_call 12; (with_reducible refine (ossuarylaw0_Num.calls t172 t175 _ A23.out).mono ?_); rintro e w' ⟨rfl, ⟨nd, rfl⟩⟩))
              go_meet
              case rel => exact ⟨_, (true), (by first | rfl | (simp; done) | (simp [*]; done)), H', ⟨by first | omega | exact Nat.le_refl _⟩, ⟨by (with_reducible repeat (first | apply Kd.R_alloc | apply Kd.R_drewN | apply Kd.R_drew)); exact Kd.R_mono HO165.out (fun _ hk => hk.2)⟩, ⟨by (with_reducible repeat (first | apply Kd.R_alloc | apply Kd.R_drewN | apply Kd.R_drew)); exact Kd.R_mono HO169.out (fun _ hk => hk.2)⟩, ⟨by repeat (first | (with_reducible first | exact HB.out | apply below_alloc | apply pw_below_drewN | apply below_drew1) | exact HB.out)⟩⟩
          · rw [if_neg c24] at H
            have c24b0 : (t175 == 0) = false := beq_eq_false_iff_ne.mpr c24
            have c24b1 : (t175 != 0) = true := bne_iff_ne.mpr c24
            have H' := Aside0.mk H
            clear H
            go_wp2_with (first | ((with_reducible refine gate_callee (f := 12) rfl ?_); refine goesL_ (some 68) rfl rfl Try.func12 (by kernel_rfl) rfl #[.int .i64 t163] rfl (by (try simp only [List.map_toArray, List.map_cons, List.map_nil]); first | done | rfl | (simp only [List.length_drop, List.length_take]; rfl)) ?_; (with_reducible refine (ossuarylaw0_Num.calls t163 t173 _ A19.out).mono ?_); rintro e w' ⟨rfl, ⟨nd, rfl⟩⟩; refine ⟨_, rfl, ?_⟩) | (go_at_call 12; (with_reducible refine (ossuarylaw0_Num.calls t167 t174 _ A21.out).mono ?_); rintro e w' ⟨rfl, ⟨nd, rfl⟩⟩) | (go_at_call 12; (with_reducible refine (ossuarylaw0_Num.calls t172 t175 _ A23.out).mono ?_); rintro e w' ⟨rfl, ⟨nd, rfl⟩⟩))
            go_meet
            case rel => exact ⟨_, (true), (by first | rfl | (simp; done) | (simp [*]; done)), H', ⟨by first | omega | exact Nat.le_refl _⟩, ⟨by (with_reducible repeat (first | apply Kd.R_alloc | apply Kd.R_drewN | apply Kd.R_drew)); exact Kd.R_mono HO165.out (fun _ hk => hk.2)⟩, ⟨by (with_reducible repeat (first | apply Kd.R_alloc | apply Kd.R_drewN | apply Kd.R_drew)); exact Kd.R_mono HO169.out (fun _ hk => hk.2)⟩, ⟨by repeat (first | (with_reducible first | exact HB.out | apply below_alloc | apply pw_below_drewN | apply below_drew1) | exact HB.out)⟩⟩
        · rw [if_neg c22] at H
          have c22b0 : (t174 == 0) = false := beq_eq_false_iff_ne.mpr c22
          have c22b1 : (t174 != 0) = true := bne_iff_ne.mpr c22
          have H' := Aside0.mk H
          clear H
          go_wp2_with (first | ((with_reducible refine gate_callee (f := 12) rfl ?_); refine goesL_ (some 68) rfl rfl Try.func12 (by kernel_rfl) rfl #[.int .i64 t163] rfl (by (try simp only [List.map_toArray, List.map_cons, List.map_nil]); first | done | rfl | (simp only [List.length_drop, List.length_take]; rfl)) ?_; (with_reducible refine (ossuarylaw0_Num.calls t163 t173 _ A19.out).mono ?_); rintro e w' ⟨rfl, ⟨nd, rfl⟩⟩; refine ⟨_, rfl, ?_⟩) | (go_at_call 12; (with_reducible refine (ossuarylaw0_Num.calls t167 t174 _ A21.out).mono ?_); rintro e w' ⟨rfl, ⟨nd, rfl⟩⟩))
          go_meet
          case rel => exact ⟨_, (true), (by first | rfl | (simp; done) | (simp [*]; done)), H', ⟨by first | omega | exact Nat.le_refl _⟩, ⟨by (with_reducible repeat (first | apply Kd.R_alloc | apply Kd.R_drewN | apply Kd.R_drew)); exact Kd.R_mono HO165.out (fun _ hk => hk.2)⟩, ⟨by (with_reducible repeat (first | apply Kd.R_alloc | apply Kd.R_drewN | apply Kd.R_drew)); exact Kd.R_mono HO169.out (fun _ hk => hk.2)⟩, ⟨by repeat (first | (with_reducible first | exact HB.out | apply below_alloc | apply pw_below_drewN | apply below_drew1) | exact HB.out)⟩⟩
      · rw [if_neg c20] at H
        have c20b0 : (t173 == 0) = false := beq_eq_false_iff_ne.mpr c20
        have c20b1 : (t173 != 0) = true := bne_iff_ne.mpr c20
        (first | rw [c20b0] | (simp only [i64_w, i32_w]; rw [c20b0]) | skip)
        have H' := Aside0.mk H
        clear H
        go_wp2_with (first | ((with_reducible refine gate_callee (f := 12) rfl ?_); refine goesL_ (some 68) rfl rfl Try.func12 (by kernel_rfl) rfl #[.int .i64 t163] rfl (by (try simp only [List.map_toArray, List.map_cons, List.map_nil]); first | done | rfl | (simp only [List.length_drop, List.length_take]; rfl)) ?_; (with_reducible refine (ossuarylaw0_Num.calls t163 t173 _ A19.out).mono ?_); rintro e w' ⟨rfl, ⟨nd, rfl⟩⟩; refine ⟨_, rfl, ?_⟩))
        go_meet
        case rel => exact ⟨_, (true), (by first | rfl | (simp; done) | (simp [*]; done)), H', ⟨by first | omega | exact Nat.le_refl _⟩, ⟨by (with_reducible repeat (first | apply Kd.R_alloc | apply Kd.R_drewN | apply Kd.R_drew)); exact Kd.R_mono HO165.out (fun _ hk => hk.2)⟩, ⟨by (with_reducible repeat (first | apply Kd.R_alloc | apply Kd.R_drewN | apply Kd.R_drew)); exact Kd.R_mono HO169.out (fun _ hk => hk.2)⟩, ⟨by repeat (first | (with_reducible first | exact HB.out | apply below_alloc | apply pw_below_drewN | apply below_drew1) | exact HB.out)⟩⟩
    case rest =>
      clear HC12
      try clear c1
      try clear c2
      try clear p2
      try clear c4
      try clear p6
      try clear c7
      try clear c9
      try clear c12
      try clear c14
      try clear c15
      try clear c20
      try clear c20b0
      try clear c20b1
      try clear c22
      try clear c22b0
      try clear c22b1
      try clear c24
      try clear c24b0
      try clear c24b1
      try clear c25
      try clear c25b0
      try clear c25b1
      try clear c26
      try clear c26b0
      try clear c26b1
      try clear c27
      try clear c27b0
      try clear c27b1
      obtain ⟨kq, x99_11, rfl, HA, HJ11, HO_14, HO_16, HB⟩ := hcut
      cases kq with
      | zero => exact absurd HA.out (by simp [ossuarylaw15_AreaTurned.j0])
      | succ kj11 =>
        have H := HA.out
        clear HA
        simp only [ossuarylaw15_AreaTurned.j0] at H
        by_cases c29 : x99_11 = true
        · subst c29
          have H1 : (some false) = some r := by rw [if_pos rfl] at H; exact H
          clear H
          have H := H1
          clear H1
          exact absurd (Option.some.inj H) (by rw [HRT.out]; decide)
        · replace c29 := Bool.eq_false_iff.mpr c29
          subst c29
          have H1 : ((some (([] : List ByteArray) : List ByteArray)).bind fun y176 => (if y176.length + t162.length < 8796093022208 then ((some (y176 ++ t162 : List ByteArray)).bind fun y179 => (if 0 ≤ (wrap64 (Int.tmod (IntKind.u64.wrap (a2)) 24)) then (if (wrap64 (Int.tmod (IntKind.u64.wrap (a2)) 24)) < (y179.length : Int) then (if ((rdOf ByteArray.empty y179 (wrap64 (Int.tmod (IntKind.u64.wrap (a2)) 24))).size : Int) = 64 then (if (rdOf ByteArray.empty y179 (wrap64 (Int.tmod (IntKind.u64.wrap (a2)) 24))).size ≤ 281474976710656 then ((some (bytesOf (rdOf ByteArray.empty y179 (wrap64 (Int.tmod (IntKind.u64.wrap (a2)) 24))) : List Int)).bind fun y184 => (if 0 ≤ (wrap64 (Int.tmod (IntKind.u64.wrap (a3)) 64)) then (if (wrap64 (Int.tmod (IntKind.u64.wrap (a3)) 64)) < (y184.length : Int) then ((some (y179.set ((wrap64 (Int.tmod (IntKind.u64.wrap (a2)) 24)) : Int).toNat (strOfNums (y184.set ((wrap64 (Int.tmod (IntKind.u64.wrap (a3)) 64)) : Int).toNat (Go.bits .xor .u8 (rd y184 (wrap64 (Int.tmod (IntKind.u64.wrap (a3)) 64))) ((wrap64 (1 + (Go.bits .and .i64 a4 127))) % 256)))) : List ByteArray)).bind fun y189 => ((area_Get.f kj11 y189).bind fun bt190 => (if (wrap64 (Int.tmod (IntKind.u64.wrap (a2)) 24)) < (t166.length : Int) then ((some (y189.set ((wrap64 (Int.tmod (IntKind.u64.wrap (a2)) 24)) : Int).toNat (rdOf ByteArray.empty t166 (wrap64 (Int.tmod (IntKind.u64.wrap (a2)) 24))) : List ByteArray)).bind fun y194 => ((area_Get.f kj11 y194).bind fun bt195 => (if 0 ≤ (Int.tmod (wrap64 ((wrap64 (Int.tmod (IntKind.u64.wrap (a2)) 24)) + 1)) 24) then (if (Int.tmod (wrap64 ((wrap64 (Int.tmod (IntKind.u64.wrap (a2)) 24)) + 1)) 24) < (t162.length : Int) then ((area_Get.f kj11 (y194.set ((wrap64 (Int.tmod (IntKind.u64.wrap (a2)) 24)) : Int).toNat (rdOf ByteArray.empty t162 (Int.tmod (wrap64 ((wrap64 (Int.tmod (IntKind.u64.wrap (a2)) 24)) + 1)) 24)))).bind fun bt200 => ((ossuarylaw0_Num.f bt190.2.2).bind fun t203 => (if t203 = 1500 then ((ossuarylaw0_Num.f bt195.2.2).bind fun t204 => (if t204 = 1500 then ((ossuarylaw0_Num.f bt200.2.2).bind fun t205 => (some (t205 == 1500))) else (some false))) else (some false)))) else (none)) else (none)))) else (none)))) else (none)) else (none))) else (none)) else (some false)) else (none)) else (none))) else (none))) = some r := by rw [if_neg (show ¬ (false = true) by decide)] at H; exact H
          clear H
          have H := H1
          clear H1
          obtain ⟨y176, hy176⟩ : ∃ y_ : List ByteArray, y_ = (([] : List ByteArray)) := ⟨_, rfl⟩
          replace H : (if y176.length + t162.length < 8796093022208 then ((some (y176 ++ t162 : List ByteArray)).bind fun y179 => (if 0 ≤ (wrap64 (Int.tmod (IntKind.u64.wrap (a2)) 24)) then (if (wrap64 (Int.tmod (IntKind.u64.wrap (a2)) 24)) < (y179.length : Int) then (if ((rdOf ByteArray.empty y179 (wrap64 (Int.tmod (IntKind.u64.wrap (a2)) 24))).size : Int) = 64 then (if (rdOf ByteArray.empty y179 (wrap64 (Int.tmod (IntKind.u64.wrap (a2)) 24))).size ≤ 281474976710656 then ((some (bytesOf (rdOf ByteArray.empty y179 (wrap64 (Int.tmod (IntKind.u64.wrap (a2)) 24))) : List Int)).bind fun y184 => (if 0 ≤ (wrap64 (Int.tmod (IntKind.u64.wrap (a3)) 64)) then (if (wrap64 (Int.tmod (IntKind.u64.wrap (a3)) 64)) < (y184.length : Int) then ((some (y179.set ((wrap64 (Int.tmod (IntKind.u64.wrap (a2)) 24)) : Int).toNat (strOfNums (y184.set ((wrap64 (Int.tmod (IntKind.u64.wrap (a3)) 64)) : Int).toNat (Go.bits .xor .u8 (rd y184 (wrap64 (Int.tmod (IntKind.u64.wrap (a3)) 64))) ((wrap64 (1 + (Go.bits .and .i64 a4 127))) % 256)))) : List ByteArray)).bind fun y189 => ((area_Get.f kj11 y189).bind fun bt190 => (if (wrap64 (Int.tmod (IntKind.u64.wrap (a2)) 24)) < (t166.length : Int) then ((some (y189.set ((wrap64 (Int.tmod (IntKind.u64.wrap (a2)) 24)) : Int).toNat (rdOf ByteArray.empty t166 (wrap64 (Int.tmod (IntKind.u64.wrap (a2)) 24))) : List ByteArray)).bind fun y194 => ((area_Get.f kj11 y194).bind fun bt195 => (if 0 ≤ (Int.tmod (wrap64 ((wrap64 (Int.tmod (IntKind.u64.wrap (a2)) 24)) + 1)) 24) then (if (Int.tmod (wrap64 ((wrap64 (Int.tmod (IntKind.u64.wrap (a2)) 24)) + 1)) 24) < (t162.length : Int) then ((area_Get.f kj11 (y194.set ((wrap64 (Int.tmod (IntKind.u64.wrap (a2)) 24)) : Int).toNat (rdOf ByteArray.empty t162 (Int.tmod (wrap64 ((wrap64 (Int.tmod (IntKind.u64.wrap (a2)) 24)) + 1)) 24)))).bind fun bt200 => ((ossuarylaw0_Num.f bt190.2.2).bind fun t203 => (if t203 = 1500 then ((ossuarylaw0_Num.f bt195.2.2).bind fun t204 => (if t204 = 1500 then ((ossuarylaw0_Num.f bt200.2.2).bind fun t205 => (some (t205 == 1500))) else (some false))) else (some false)))) else (none)) else (none)))) else (none)))) else (none)) else (none))) else (none)) else (some false)) else (none)) else (none))) else (none)) = some r := by first | (rw [hy176]; with_reducible exact H) | (have H2_ := (Option.bind_some _ _).symm.trans H; rw [hy176]; with_reducible exact H2_) | (have H2_ := (Option.bind_some _ _).symm.trans H; with_reducible exact H2_) | with_reducible exact H | (rw [hy176]; exact H) | exact H
          have Ny176 := Aside0.mk hy176
          clear hy176
          by_cases c30 : y176.length + t162.length < 8796093022208
          · rw [if_pos c30] at H
            have LMc30 := Aside0.mk c30
            clear c30
            obtain ⟨y179, hy179⟩ : ∃ y_ : List ByteArray, y_ = (y176 ++ t162) := ⟨_, rfl⟩
            replace H : (if 0 ≤ (wrap64 (Int.tmod (IntKind.u64.wrap (a2)) 24)) then (if (wrap64 (Int.tmod (IntKind.u64.wrap (a2)) 24)) < (y179.length : Int) then (if ((rdOf ByteArray.empty y179 (wrap64 (Int.tmod (IntKind.u64.wrap (a2)) 24))).size : Int) = 64 then (if (rdOf ByteArray.empty y179 (wrap64 (Int.tmod (IntKind.u64.wrap (a2)) 24))).size ≤ 281474976710656 then ((some (bytesOf (rdOf ByteArray.empty y179 (wrap64 (Int.tmod (IntKind.u64.wrap (a2)) 24))) : List Int)).bind fun y184 => (if 0 ≤ (wrap64 (Int.tmod (IntKind.u64.wrap (a3)) 64)) then (if (wrap64 (Int.tmod (IntKind.u64.wrap (a3)) 64)) < (y184.length : Int) then ((some (y179.set ((wrap64 (Int.tmod (IntKind.u64.wrap (a2)) 24)) : Int).toNat (strOfNums (y184.set ((wrap64 (Int.tmod (IntKind.u64.wrap (a3)) 64)) : Int).toNat (Go.bits .xor .u8 (rd y184 (wrap64 (Int.tmod (IntKind.u64.wrap (a3)) 64))) ((wrap64 (1 + (Go.bits .and .i64 a4 127))) % 256)))) : List ByteArray)).bind fun y189 => ((area_Get.f kj11 y189).bind fun bt190 => (if (wrap64 (Int.tmod (IntKind.u64.wrap (a2)) 24)) < (t166.length : Int) then ((some (y189.set ((wrap64 (Int.tmod (IntKind.u64.wrap (a2)) 24)) : Int).toNat (rdOf ByteArray.empty t166 (wrap64 (Int.tmod (IntKind.u64.wrap (a2)) 24))) : List ByteArray)).bind fun y194 => ((area_Get.f kj11 y194).bind fun bt195 => (if 0 ≤ (Int.tmod (wrap64 ((wrap64 (Int.tmod (IntKind.u64.wrap (a2)) 24)) + 1)) 24) then (if (Int.tmod (wrap64 ((wrap64 (Int.tmod (IntKind.u64.wrap (a2)) 24)) + 1)) 24) < (t162.length : Int) then ((area_Get.f kj11 (y194.set ((wrap64 (Int.tmod (IntKind.u64.wrap (a2)) 24)) : Int).toNat (rdOf ByteArray.empty t162 (Int.tmod (wrap64 ((wrap64 (Int.tmod (IntKind.u64.wrap (a2)) 24)) + 1)) 24)))).bind fun bt200 => ((ossuarylaw0_Num.f bt190.2.2).bind fun t203 => (if t203 = 1500 then ((ossuarylaw0_Num.f bt195.2.2).bind fun t204 => (if t204 = 1500 then ((ossuarylaw0_Num.f bt200.2.2).bind fun t205 => (some (t205 == 1500))) else (some false))) else (some false)))) else (none)) else (none)))) else (none)))) else (none)) else (none))) else (none)) else (some false)) else (none)) else (none)) = some r := by first | (rw [hy179]; with_reducible exact H) | (have H2_ := (Option.bind_some _ _).symm.trans H; rw [hy179]; with_reducible exact H2_) | (have H2_ := (Option.bind_some _ _).symm.trans H; with_reducible exact H2_) | with_reducible exact H | (rw [hy179]; exact H) | exact H
            have Ny179 := Aside0.mk hy179
            clear hy179
            obtain ⟨ji31, hji31⟩ : ∃ j_ : Int, (wrap64 (Int.tmod (IntKind.u64.wrap (a2)) 24)) = j_ := ⟨_, rfl⟩
            replace H : (if 0 ≤ (ji31) then (if (ji31) < (y179.length : Int) then (if ((rdOf ByteArray.empty y179 (ji31)).size : Int) = 64 then (if (rdOf ByteArray.empty y179 (ji31)).size ≤ 281474976710656 then ((some (bytesOf (rdOf ByteArray.empty y179 (ji31)) : List Int)).bind fun y184 => (if 0 ≤ (wrap64 (Int.tmod (IntKind.u64.wrap (a3)) 64)) then (if (wrap64 (Int.tmod (IntKind.u64.wrap (a3)) 64)) < (y184.length : Int) then ((some (y179.set ((ji31) : Int).toNat (strOfNums (y184.set ((wrap64 (Int.tmod (IntKind.u64.wrap (a3)) 64)) : Int).toNat (Go.bits .xor .u8 (rd y184 (wrap64 (Int.tmod (IntKind.u64.wrap (a3)) 64))) ((wrap64 (1 + (Go.bits .and .i64 a4 127))) % 256)))) : List ByteArray)).bind fun y189 => ((area_Get.f kj11 y189).bind fun bt190 => (if (ji31) < (t166.length : Int) then ((some (y189.set ((ji31) : Int).toNat (rdOf ByteArray.empty t166 (ji31)) : List ByteArray)).bind fun y194 => ((area_Get.f kj11 y194).bind fun bt195 => (if 0 ≤ (Int.tmod (wrap64 ((ji31) + 1)) 24) then (if (Int.tmod (wrap64 ((ji31) + 1)) 24) < (t162.length : Int) then ((area_Get.f kj11 (y194.set ((ji31) : Int).toNat (rdOf ByteArray.empty t162 (Int.tmod (wrap64 ((ji31) + 1)) 24)))).bind fun bt200 => ((ossuarylaw0_Num.f bt190.2.2).bind fun t203 => (if t203 = 1500 then ((ossuarylaw0_Num.f bt195.2.2).bind fun t204 => (if t204 = 1500 then ((ossuarylaw0_Num.f bt200.2.2).bind fun t205 => (some (t205 == 1500))) else (some false))) else (some false)))) else (none)) else (none)))) else (none)))) else (none)) else (none))) else (none)) else (some false)) else (none)) else (none)) = some r := by first | (rw [hji31] at H; exact H) | (simp only [hji31] at H ⊢; exact H)
            have hji31w : (IntKind.i64.wrap (Int.tmod (IntKind.u64.wrap (a2)) 24)) = ji31 := (i64_w _).trans hji31
            by_cases c32 : 0 ≤ (ji31)
            · rw [if_pos c32] at H
              have c32b0 : decide (0 ≤ (ji31)) = true := decide_eq_true c32
              clear c32
              by_cases c33 : (ji31) < (y179.length : Int)
              · rw [if_pos c33] at H
                have c33b0 : decide ((ji31) < (y179.length : Int)) = true := decide_eq_true c33
                clear c33
                by_cases c34 : ((rdOf ByteArray.empty y179 (ji31)).size : Int) = 64
                · rw [if_pos c34] at H
                  have c34b0 : (((rdOf ByteArray.empty y179 (ji31)).size : Int) == 64) = true := beq_iff_eq.mpr c34
                  have c34b1 : (((rdOf ByteArray.empty y179 (ji31)).size : Int) != 64) = false := bne_eq_false_iff_eq.mpr c34
                  clear c34
                  by_cases c35 : (rdOf ByteArray.empty y179 (ji31)).size ≤ 281474976710656
                  · rw [if_pos c35] at H
                    have c35b0 := eq_true c35
                    have c35b1 : decide ((rdOf ByteArray.empty y179 (ji31)).size ≤ 281474976710656) = true := decide_eq_true c35
                    clear c35
                    obtain ⟨y184, hy184⟩ : ∃ y_ : List Int, y_ = (bytesOf (rdOf ByteArray.empty y179 (ji31))) := ⟨_, rfl⟩
                    replace H : (if 0 ≤ (wrap64 (Int.tmod (IntKind.u64.wrap (a3)) 64)) then (if (wrap64 (Int.tmod (IntKind.u64.wrap (a3)) 64)) < (y184.length : Int) then ((some (y179.set ((ji31) : Int).toNat (strOfNums (y184.set ((wrap64 (Int.tmod (IntKind.u64.wrap (a3)) 64)) : Int).toNat (Go.bits .xor .u8 (rd y184 (wrap64 (Int.tmod (IntKind.u64.wrap (a3)) 64))) ((wrap64 (1 + (Go.bits .and .i64 a4 127))) % 256)))) : List ByteArray)).bind fun y189 => ((area_Get.f kj11 y189).bind fun bt190 => (if (ji31) < (t166.length : Int) then ((some (y189.set ((ji31) : Int).toNat (rdOf ByteArray.empty t166 (ji31)) : List ByteArray)).bind fun y194 => ((area_Get.f kj11 y194).bind fun bt195 => (if 0 ≤ (Int.tmod (wrap64 ((ji31) + 1)) 24) then (if (Int.tmod (wrap64 ((ji31) + 1)) 24) < (t162.length : Int) then ((area_Get.f kj11 (y194.set ((ji31) : Int).toNat (rdOf ByteArray.empty t162 (Int.tmod (wrap64 ((ji31) + 1)) 24)))).bind fun bt200 => ((ossuarylaw0_Num.f bt190.2.2).bind fun t203 => (if t203 = 1500 then ((ossuarylaw0_Num.f bt195.2.2).bind fun t204 => (if t204 = 1500 then ((ossuarylaw0_Num.f bt200.2.2).bind fun t205 => (some (t205 == 1500))) else (some false))) else (some false)))) else (none)) else (none)))) else (none)))) else (none)) else (none)) = some r := by first | (rw [hy184]; with_reducible exact H) | (have H2_ := (Option.bind_some _ _).symm.trans H; rw [hy184]; with_reducible exact H2_) | (have H2_ := (Option.bind_some _ _).symm.trans H; with_reducible exact H2_) | with_reducible exact H | (rw [hy184]; exact H) | exact H
                    have Ny184 := Aside0.mk hy184
                    clear hy184
                    obtain ⟨ji36, hji36⟩ : ∃ j_ : Int, (wrap64 (Int.tmod (IntKind.u64.wrap (a3)) 64)) = j_ := ⟨_, rfl⟩
                    replace H : (if 0 ≤ (ji36) then (if (ji36) < (y184.length : Int) then ((some (y179.set ((ji31) : Int).toNat (strOfNums (y184.set ((ji36) : Int).toNat (Go.bits .xor .u8 (rd y184 (ji36)) ((wrap64 (1 + (Go.bits .and .i64 a4 127))) % 256)))) : List ByteArray)).bind fun y189 => ((area_Get.f kj11 y189).bind fun bt190 => (if (ji31) < (t166.length : Int) then ((some (y189.set ((ji31) : Int).toNat (rdOf ByteArray.empty t166 (ji31)) : List ByteArray)).bind fun y194 => ((area_Get.f kj11 y194).bind fun bt195 => (if 0 ≤ (Int.tmod (wrap64 ((ji31) + 1)) 24) then (if (Int.tmod (wrap64 ((ji31) + 1)) 24) < (t162.length : Int) then ((area_Get.f kj11 (y194.set ((ji31) : Int).toNat (rdOf ByteArray.empty t162 (Int.tmod (wrap64 ((ji31) + 1)) 24)))).bind fun bt200 => ((ossuarylaw0_Num.f bt190.2.2).bind fun t203 => (if t203 = 1500 then ((ossuarylaw0_Num.f bt195.2.2).bind fun t204 => (if t204 = 1500 then ((ossuarylaw0_Num.f bt200.2.2).bind fun t205 => (some (t205 == 1500))) else (some false))) else (some false)))) else (none)) else (none)))) else (none)))) else (none)) else (none)) = some r := by first | (rw [hji36] at H; exact H) | (simp only [hji36] at H ⊢; exact H)
                    have hji36w : (IntKind.i64.wrap (Int.tmod (IntKind.u64.wrap (a3)) 64)) = ji36 := (i64_w _).trans hji36
                    by_cases c37 : 0 ≤ (ji36)
                    · rw [if_pos c37] at H
                      have c37b0 : decide (0 ≤ (ji36)) = true := decide_eq_true c37
                      clear c37
                      by_cases c38 : (ji36) < (y184.length : Int)
                      · rw [if_pos c38] at H
                        have c38b0 : decide ((ji36) < (y184.length : Int)) = true := decide_eq_true c38
                        clear c38
                        obtain ⟨y188, hy188⟩ : ∃ y_ : List Int, y_ = (y184.set ((ji36) : Int).toNat (Go.bits .xor .u8 (rd y184 (ji36)) ((wrap64 (1 + (Go.bits .and .i64 a4 127))) % 256))) := ⟨_, rfl⟩
                        replace H : ((some (y179.set ((ji31) : Int).toNat (strOfNums y188) : List ByteArray)).bind fun y189 => ((area_Get.f kj11 y189).bind fun bt190 => (if (ji31) < (t166.length : Int) then ((some (y189.set ((ji31) : Int).toNat (rdOf ByteArray.empty t166 (ji31)) : List ByteArray)).bind fun y194 => ((area_Get.f kj11 y194).bind fun bt195 => (if 0 ≤ (Int.tmod (wrap64 ((ji31) + 1)) 24) then (if (Int.tmod (wrap64 ((ji31) + 1)) 24) < (t162.length : Int) then ((area_Get.f kj11 (y194.set ((ji31) : Int).toNat (rdOf ByteArray.empty t162 (Int.tmod (wrap64 ((ji31) + 1)) 24)))).bind fun bt200 => ((ossuarylaw0_Num.f bt190.2.2).bind fun t203 => (if t203 = 1500 then ((ossuarylaw0_Num.f bt195.2.2).bind fun t204 => (if t204 = 1500 then ((ossuarylaw0_Num.f bt200.2.2).bind fun t205 => (some (t205 == 1500))) else (some false))) else (some false)))) else (none)) else (none)))) else (none)))) = some r := by first | (rw [hy188]; with_reducible exact H) | (have H2_ := (Option.bind_some _ _).symm.trans H; rw [hy188]; with_reducible exact H2_) | (have H2_ := (Option.bind_some _ _).symm.trans H; with_reducible exact H2_) | with_reducible exact H | (rw [hy188]; exact H) | exact H
                        have Ny188 := Aside0.mk hy188
                        clear hy188
                        obtain ⟨y189, hy189⟩ : ∃ y_ : List ByteArray, y_ = (y179.set ((ji31) : Int).toNat (strOfNums y188)) := ⟨_, rfl⟩
                        replace H : ((area_Get.f kj11 y189).bind fun bt190 => (if (ji31) < (t166.length : Int) then ((some (y189.set ((ji31) : Int).toNat (rdOf ByteArray.empty t166 (ji31)) : List ByteArray)).bind fun y194 => ((area_Get.f kj11 y194).bind fun bt195 => (if 0 ≤ (Int.tmod (wrap64 ((ji31) + 1)) 24) then (if (Int.tmod (wrap64 ((ji31) + 1)) 24) < (t162.length : Int) then ((area_Get.f kj11 (y194.set ((ji31) : Int).toNat (rdOf ByteArray.empty t162 (Int.tmod (wrap64 ((ji31) + 1)) 24)))).bind fun bt200 => ((ossuarylaw0_Num.f bt190.2.2).bind fun t203 => (if t203 = 1500 then ((ossuarylaw0_Num.f bt195.2.2).bind fun t204 => (if t204 = 1500 then ((ossuarylaw0_Num.f bt200.2.2).bind fun t205 => (some (t205 == 1500))) else (some false))) else (some false)))) else (none)) else (none)))) else (none))) = some r := by first | (rw [hy189]; with_reducible exact H) | (have H2_ := (Option.bind_some _ _).symm.trans H; rw [hy189]; with_reducible exact H2_) | (have H2_ := (Option.bind_some _ _).symm.trans H; with_reducible exact H2_) | with_reducible exact H | (rw [hy189]; exact H) | exact H
                        have Ny189 := Aside0.mk hy189
                        clear hy189
                        replace H := Option.bind_eq_some_iff.mp H
                        obtain ⟨⟨t190, t191, t192⟩, A410, H⟩ := H
                        replace H : (if (ji31) < (t166.length : Int) then ((some (y189.set ((ji31) : Int).toNat (rdOf ByteArray.empty t166 (ji31)) : List ByteArray)).bind fun y194 => ((area_Get.f kj11 y194).bind fun bt195 => (if 0 ≤ (Int.tmod (wrap64 ((ji31) + 1)) 24) then (if (Int.tmod (wrap64 ((ji31) + 1)) 24) < (t162.length : Int) then ((area_Get.f kj11 (y194.set ((ji31) : Int).toNat (rdOf ByteArray.empty t162 (Int.tmod (wrap64 ((ji31) + 1)) 24)))).bind fun bt200 => ((ossuarylaw0_Num.f t192).bind fun t203 => (if t203 = 1500 then ((ossuarylaw0_Num.f bt195.2.2).bind fun t204 => (if t204 = 1500 then ((ossuarylaw0_Num.f bt200.2.2).bind fun t205 => (some (t205 == 1500))) else (some false))) else (some false)))) else (none)) else (none)))) else (none)) = some r := H
                        have A41 := Aside0.mk A410
                        clear A410
                        by_cases c42 : (ji31) < (t166.length : Int)
                        · rw [if_pos c42] at H
                          have c42b0 : decide ((ji31) < (t166.length : Int)) = true := decide_eq_true c42
                          clear c42
                          obtain ⟨y194, hy194⟩ : ∃ y_ : List ByteArray, y_ = (y189.set ((ji31) : Int).toNat (rdOf ByteArray.empty t166 (ji31))) := ⟨_, rfl⟩
                          replace H : ((area_Get.f kj11 y194).bind fun bt195 => (if 0 ≤ (Int.tmod (wrap64 ((ji31) + 1)) 24) then (if (Int.tmod (wrap64 ((ji31) + 1)) 24) < (t162.length : Int) then ((area_Get.f kj11 (y194.set ((ji31) : Int).toNat (rdOf ByteArray.empty t162 (Int.tmod (wrap64 ((ji31) + 1)) 24)))).bind fun bt200 => ((ossuarylaw0_Num.f t192).bind fun t203 => (if t203 = 1500 then ((ossuarylaw0_Num.f bt195.2.2).bind fun t204 => (if t204 = 1500 then ((ossuarylaw0_Num.f bt200.2.2).bind fun t205 => (some (t205 == 1500))) else (some false))) else (some false)))) else (none)) else (none))) = some r := by first | (rw [hy194]; with_reducible exact H) | (have H2_ := (Option.bind_some _ _).symm.trans H; rw [hy194]; with_reducible exact H2_) | (have H2_ := (Option.bind_some _ _).symm.trans H; with_reducible exact H2_) | with_reducible exact H | (rw [hy194]; exact H) | exact H
                          have Ny194 := Aside0.mk hy194
                          clear hy194
                          replace H := Option.bind_eq_some_iff.mp H
                          obtain ⟨⟨t195, t196, t197⟩, A440, H⟩ := H
                          replace H : (if 0 ≤ (Int.tmod (wrap64 ((ji31) + 1)) 24) then (if (Int.tmod (wrap64 ((ji31) + 1)) 24) < (t162.length : Int) then ((area_Get.f kj11 (y194.set ((ji31) : Int).toNat (rdOf ByteArray.empty t162 (Int.tmod (wrap64 ((ji31) + 1)) 24)))).bind fun bt200 => ((ossuarylaw0_Num.f t192).bind fun t203 => (if t203 = 1500 then ((ossuarylaw0_Num.f t197).bind fun t204 => (if t204 = 1500 then ((ossuarylaw0_Num.f bt200.2.2).bind fun t205 => (some (t205 == 1500))) else (some false))) else (some false)))) else (none)) else (none)) = some r := H
                          have A44 := Aside0.mk A440
                          clear A440
                          obtain ⟨ji45, hji45⟩ : ∃ j_ : Int, (Int.tmod (wrap64 ((ji31) + 1)) 24) = j_ := ⟨_, rfl⟩
                          replace H : (if 0 ≤ (ji45) then (if (ji45) < (t162.length : Int) then ((area_Get.f kj11 (y194.set ((ji31) : Int).toNat (rdOf ByteArray.empty t162 (ji45)))).bind fun bt200 => ((ossuarylaw0_Num.f t192).bind fun t203 => (if t203 = 1500 then ((ossuarylaw0_Num.f t197).bind fun t204 => (if t204 = 1500 then ((ossuarylaw0_Num.f bt200.2.2).bind fun t205 => (some (t205 == 1500))) else (some false))) else (some false)))) else (none)) else (none)) = some r := by first | (rw [hji45] at H; exact H) | (simp only [hji45] at H ⊢; exact H)
                          (try rw [hji45] at A41)
                          (try rw [hji45] at A44)
                          by_cases c46 : 0 ≤ (ji45)
                          · rw [if_pos c46] at H
                            have c46b0 : decide (0 ≤ (ji45)) = true := decide_eq_true c46
                            clear c46
                            by_cases c47 : (ji45) < (t162.length : Int)
                            · rw [if_pos c47] at H
                              have c47b0 : decide ((ji45) < (t162.length : Int)) = true := decide_eq_true c47
                              clear c47
                              obtain ⟨y199, hy199⟩ : ∃ y_ : List ByteArray, y_ = (y194.set ((ji31) : Int).toNat (rdOf ByteArray.empty t162 (ji45))) := ⟨_, rfl⟩
                              replace H : ((area_Get.f kj11 y199).bind fun bt200 => ((ossuarylaw0_Num.f t192).bind fun t203 => (if t203 = 1500 then ((ossuarylaw0_Num.f t197).bind fun t204 => (if t204 = 1500 then ((ossuarylaw0_Num.f bt200.2.2).bind fun t205 => (some (t205 == 1500))) else (some false))) else (some false)))) = some r := by first | (rw [hy199]; with_reducible exact H) | (have H2_ := (Option.bind_some _ _).symm.trans H; rw [hy199]; with_reducible exact H2_) | (have H2_ := (Option.bind_some _ _).symm.trans H; with_reducible exact H2_) | with_reducible exact H | (rw [hy199]; exact H) | exact H
                              have Ny199 := Aside0.mk hy199
                              clear hy199
                              replace H := Option.bind_eq_some_iff.mp H
                              obtain ⟨⟨t200, t201, t202⟩, A490, H⟩ := H
                              replace H : ((ossuarylaw0_Num.f t192).bind fun t203 => (if t203 = 1500 then ((ossuarylaw0_Num.f t197).bind fun t204 => (if t204 = 1500 then ((ossuarylaw0_Num.f t202).bind fun t205 => (some (t205 == 1500))) else (some false))) else (some false))) = some r := H
                              have A49 := Aside0.mk A490
                              clear A490
                              replace H := Option.bind_eq_some_iff.mp H
                              obtain ⟨t203, A500, H⟩ := H
                              replace H : (if t203 = 1500 then ((ossuarylaw0_Num.f t197).bind fun t204 => (if t204 = 1500 then ((ossuarylaw0_Num.f t202).bind fun t205 => (some (t205 == 1500))) else (some false))) else (some false)) = some r := H
                              have A50 := Aside0.mk A500
                              clear A500
                              by_cases c51 : t203 = 1500
                              · rw [if_pos c51] at H
                                have c51b0 : (t203 == 1500) = true := beq_iff_eq.mpr c51
                                have c51b1 : (t203 != 1500) = false := bne_eq_false_iff_eq.mpr c51
                                clear c51
                                replace H := Option.bind_eq_some_iff.mp H
                                obtain ⟨t204, A520, H⟩ := H
                                replace H : (if t204 = 1500 then ((ossuarylaw0_Num.f t202).bind fun t205 => (some (t205 == 1500))) else (some false)) = some r := H
                                have A52 := Aside0.mk A520
                                clear A520
                                by_cases c53 : t204 = 1500
                                · rw [if_pos c53] at H
                                  have c53b0 : (t204 == 1500) = true := beq_iff_eq.mpr c53
                                  have c53b1 : (t204 != 1500) = false := bne_eq_false_iff_eq.mpr c53
                                  clear c53
                                  replace H := Option.bind_eq_some_iff.mp H
                                  obtain ⟨t205, A540, H⟩ := H
                                  replace H : (some (t205 == 1500)) = some r := H
                                  have A54 := Aside0.mk A540
                                  clear A540
                                  obtain rfl := Option.some.inj H
                                  go_wp2_with (first | ((with_reducible refine gate_dst (N := 104) rfl ?_); (try (refine gate_guard (by rfl) ?_; dsimp only)); refine Kd.R_lit Kd.string _ 9 ?hg (N := 104) ?hd (xs := ([] : List ByteArray)) (inner := []) (ok := fun _ => True) (okp := fun _ => True) ?hr ?hp (fun _ hk => hk) trivial (Below.refl _ _) (Nat.le_refl _) (by simp) ?_; (case hd => rfl); (case hg => rfl); (case hr => first | (go_simp; done) | (go_simp; rfl)); (case hp => exact (Reps.none _ _)); intro v177 w55 ho56 hb hg_ hnew_; clear hg_ hnew_; (first | rw [← Ny176.out] at ho56 | (simp only [Int.reduceToNat] at ho56; rw [← Ny176.out] at ho56)); have n0_ := Aside0.mk (Kd.R_elder' (by (with_reducible repeat (first | apply Kd.R_alloc | apply Kd.R_drewN | apply Kd.R_drew)); exact HO_14.out) (Kd.R_base ho56) hb); have n1_ := Aside0.mk (Kd.R_elder' (by (with_reducible repeat (first | apply Kd.R_alloc | apply Kd.R_drewN | apply Kd.R_drew)); exact HO_16.out) (Kd.R_base ho56) hb); have n2_ := Aside0.mk (Kd.R_lower (Kd.R_new' (Kd.R_new' ho56 (Kd.R_lt (by (with_reducible repeat (first | apply Kd.R_alloc | apply Kd.R_drewN | apply Kd.R_drew)); exact HO_14.out))) (Kd.R_lt (by (with_reducible repeat (first | apply Kd.R_alloc | apply Kd.R_drewN | apply Kd.R_drew)); exact HO_16.out))) (below_size (by repeat (first | (with_reducible first | exact HB.out | apply below_alloc | apply pw_below_drewN | apply below_drew1) | exact HB.out)))); have n3_ := Aside0.mk (below_step (by repeat (first | (with_reducible first | exact HB.out | apply below_alloc | apply pw_below_drewN | apply below_drew1) | exact HB.out)) hb); clear HO_14; clear HO_16; clear HB; have HO_14 := n0_; have HO_16 := n1_; have HO178 := n2_; have HB := n3_; clear n0_ n1_ n2_ n3_; clear hb ho56) | ((with_reducible refine gate_builtin (b := .append) (xs := #[.tmp 104, .tmp 105]) rfl ?_); (try (refine gate_guard (by rfl) ?_; dsimp only)); at_builtin; refine Kd.R_append_rows Kd.string (w0 := w) w.heap.size rfl (.tmp 104) (.tmp 105) 22 9 (.string ⟨#[]⟩) 16 rfl Try.underlying22 info9 rfl (by decide) (by omega) v177 y176 t162 _ _ _ (fun k_ => some k_ ≠ (.slice Ao17 t162.length co17 : Value).ownBlock ∧ some k_ ≠ (v168 : Value).ownBlock) (fun _ => False) rfl rfl ?aO ?aR (fun _ _ h => h) (fun _ h => h.elim) ?aF ?aB ?aS ?aL ?_; (case aR => repeat (first | exact (Kd.R_reads' HO_14.out).2.2 | (with_reducible refine Kd.C_alloc ?_ _) | (with_reducible refine Kd.C_drewN ?_ _) | (with_reducible refine Kd.C_drew ?_))); (case aB => exact (by repeat (first | (with_reducible first | exact HB.out | apply below_alloc | apply pw_below_drewN | apply below_drew1) | exact HB.out))); (case aF => exact (fun k_ hk => ⟨Kd.fresh' (Kd.R_lt (by (with_reducible repeat (first | apply Kd.R_alloc | apply Kd.R_drewN | apply Kd.R_drew)); exact HO_14.out)) k_ hk, Kd.fresh' (Kd.R_lt (by (with_reducible repeat (first | apply Kd.R_alloc | apply Kd.R_drewN | apply Kd.R_drew)); exact HO_16.out)) k_ hk⟩)); (case aO => exact (by (with_reducible repeat (first | apply Kd.R_alloc | apply Kd.R_drewN | apply Kd.R_drew)); exact Kd.R_mono HO178.out (fun _ hk => ⟨hk.1.2, hk.2⟩))); (case aS => exact (below_size (by repeat (first | (with_reducible first | exact HB.out | apply below_alloc | apply pw_below_drewN | apply below_drew1) | exact HB.out)))); (case aL => have := LMc30.out; omega); intro v180 w57 ho hb hg hat; rw [← Ny179.out] at ho; have n0_ := Aside0.mk (Kd.R_after (ok := (fun k_ => some k_ ≠ (v168 : Value).ownBlock)) (by (with_reducible repeat (first | apply Kd.R_alloc | apply Kd.R_drewN | apply Kd.R_drew)); exact HO_14.out) hg hat); have n1_ := Aside0.mk (Kd.R_after (ok := (fun k_ => some k_ ≠ (.slice Ao17 t162.length co17 : Value).ownBlock)) (by (with_reducible repeat (first | apply Kd.R_alloc | apply Kd.R_drewN | apply Kd.R_drew)); exact HO_16.out) hg hat); have n2_ := Aside0.mk (hb); have n3_ := Aside0.mk (ho); clear HO_14; clear HO_16; clear HB; clear HO178; have HO_14 := n0_; have HO_16 := n1_; have HB := n2_; have HO181 := n3_; clear n0_ n1_ n2_ n3_; clear ho hb hg hat; obtain ⟨Ao58, co58, eo58⟩ := Kd.R_slice HO181.out; subst eo58; have p182 : 0 ≤ ((ji31) : Int) := of_decide_eq_true (by first | (with_reducible assumption) | assumption); have q182 : (ji31) < (y179.length : Int) := of_decide_eq_true (by first | (with_reducible assumption) | assumption); obtain ⟨ad182, e182, hx182_0⟩ := Kd.at_string (Kd.R_reads' HO181.out).2.2 (ji31) p182 q182; cases e182; replace p182 := eq_true p182; replace q182 := eq_true q182; have p183 : 0 ≤ ((ji31) : Int) := of_decide_eq_true (by first | (with_reducible assumption) | assumption); have q183 : (ji31) < (y179.length : Int) := of_decide_eq_true (by first | (with_reducible assumption) | assumption); obtain ⟨ad183, e183, hx183_0⟩ := Kd.at_string (Kd.R_reads' HO181.out).2.2 (ji31) p183 q183; obtain rfl : ad182 = ad183 := (by injection e183); replace p183 := eq_true p183; replace q183 := eq_true q183) | ((with_reducible refine gate_dst (N := 117) rfl ?_); (try (refine gate_guard (by rfl) ?_; dsimp only)); refine RB_make _ rfl (N := 117) rfl 9 39 5 _ rfl (rdOf ByteArray.empty y179 (ji31)) rfl Try.underlying9 Try.underlying39 Try.underlying5 (of_decide_eq_true (by first | (with_reducible assumption) | assumption)) (Below.refl _ _) (Nat.le_refl _) ?_; intro v185 w59 ho60 hb hg_ hnew_; clear hg_ hnew_; (first | rw [← Ny184.out] at ho60 | (simp only [Int.reduceToNat] at ho60; rw [← Ny184.out] at ho60)); have n0_ := Aside0.mk (Kd.R_below (by (with_reducible repeat (first | apply Kd.R_alloc | apply Kd.R_drewN | apply Kd.R_drew)); exact HO_14.out) hb); have n1_ := Aside0.mk (Kd.R_below (by (with_reducible repeat (first | apply Kd.R_alloc | apply Kd.R_drewN | apply Kd.R_drew)); exact HO_16.out) hb); have n2_ := Aside0.mk (Kd.R_below (by (with_reducible repeat (first | apply Kd.R_alloc | apply Kd.R_drewN | apply Kd.R_drew)); exact HO181.out) hb); have n3_ := Aside0.mk (RB.lower ho60 (below_size (by repeat (first | (with_reducible first | exact HB.out | apply below_alloc | apply pw_below_drewN | apply below_drew1) | exact HB.out)))); have n4_ := Aside0.mk (below_step (by repeat (first | (with_reducible first | exact HB.out | apply below_alloc | apply pw_below_drewN | apply below_drew1) | exact HB.out)) hb); clear HO_14; clear HO_16; clear HO181; clear HB; have HO_14 := n0_; have HO_16 := n1_; have HO181 := n2_; have HO186 := n3_; have HB := n4_; clear n0_ n1_ n2_ n3_ n4_; clear hb ho60; obtain ⟨Ao61, co61, eo61⟩ := RB.slice HO186.out; subst eo61; have p187 : 0 ≤ ((ji36) : Int) := of_decide_eq_true (by first | (with_reducible assumption) | assumption); have q187 : (ji36) < (y184.length : Int) := of_decide_eq_true (by first | (with_reducible assumption) | assumption); obtain ⟨ad187, e187, hx187_0⟩ := Kd.at_int (RB.reads' HO186.out).2.2 (ji36) p187 q187; cases e187; replace p187 := eq_true p187; replace q187 := eq_true q187; have p39 : 0 ≤ ((ji36) : Int) := of_decide_eq_true (by first | (with_reducible assumption) | assumption); have q39 : ((ji36) : Int) < ((y184.length : Int) : Int) := of_decide_eq_true (by first | (with_reducible assumption) | assumption); obtain ⟨go39, co39, eo39, gb39, gl39, cl39, HG39⟩ := RB.form HO186.out (by omega); (first | cases eo39 | (injection eo39 with ea_ en_ ec_; (first | subst ea_ | (injection ea_ with ea_; subst ea_)); subst ec_; clear en_)); have GB39 := Aside0.mk gb39; have GG39 := Aside0.mk HG39; clear gb39 gl39 HG39; (first | simp only [add_plain] at hx187_0 | skip); obtain ⟨hx39_0, hf39_0⟩ := RB.celln 0 HO186.out ((ji36) : Int) p39 q39; replace p39 := eq_true p39; replace q39 := eq_true q39; obtain ⟨hy62_, hz62_⟩ := RB.celln 0 HO186.out ((ji36) : Int) (of_decide_eq_true (by first | (with_reducible assumption) | assumption)) (of_decide_eq_true (by first | (with_reducible assumption) | assumption)); have HP62 := RB.putg HO186.out ((ji36) : Int) (Go.bits .xor .u8 (rd y184 (ji36)) ((wrap64 (1 + (Go.bits .and .i64 a4 127))) % 256))) | ((with_reducible refine gate_store (t := 5) (p := 133) rfl ?_); refine store_event (t := 5) (p := 133) (v := ?vo_w63) (w1 := (w59.setCell ⟨go39, ((ji36) : Int).toNat, none⟩ (.int .u8 (Go.bits .xor .u8 (rd y184 (ji36)) ((wrap64 (1 + (Go.bits .and .i64 a4 127))) % 256))))) ?hg ?ho ?hn ?hr ?_; (case ho => rfl); (case hg => rfl); (case hn => rfl); (case hr => first | (go_simp; done) | (go_simp; rfl)); intro w63 hw; have hg : w59.grownBy w63 (some go39) := (by rw [hw]; exact HP62.2); have hp_ : RB 5 w63 w.heap.size (fun _ => True) (.slice (some ⟨go39, 0, none⟩) y184.length co61) y188 := (by rw [hw, Ny188.out]; exact HP62.1); clear HP62; have n0_ := Aside0.mk (RB.over' (v := (.slice (some ⟨go39, 0, none⟩) y184.length co61)) (by (with_reducible repeat (first | apply Kd.R_alloc | apply Kd.R_drewN | apply Kd.R_drew)); exact HO_14.out) (RB.typed HO186.out) (by decide) hg); have n1_ := Aside0.mk (RB.over' (v := (.slice (some ⟨go39, 0, none⟩) y184.length co61)) (by (with_reducible repeat (first | apply Kd.R_alloc | apply Kd.R_drewN | apply Kd.R_drew)); exact HO_16.out) (RB.typed HO186.out) (by decide) hg); have n2_ := Aside0.mk (RB.over' (v := (.slice (some ⟨go39, 0, none⟩) y184.length co61)) (by (with_reducible repeat (first | apply Kd.R_alloc | apply Kd.R_drewN | apply Kd.R_drew)); exact HO181.out) (RB.typed HO186.out) (by decide) hg); have n3_ := Aside0.mk (hp_); have n4_ := Aside0.mk ((by rw [hw]; exact below_set (HB.out) GB39.out : Below w.heap.size w w63)); clear HO_14; clear HO_16; clear HO181; clear HO186; clear HB; have HO_14 := n0_; have HO_16 := n1_; have HO181 := n2_; have HO186 := n3_; have HB := n4_; clear n0_ n1_ n2_ n3_ n4_; clear hg hw hp_; have hcv64 := RB.string (P := Try.prog) Try.underlying39 Try.underlying5 Try.underlying9 HO186.out; have p40 : 0 ≤ ((ji31) : Int) := of_decide_eq_true (by first | (with_reducible assumption) | assumption); have q40 : ((ji31) : Int) < ((y179.length : Int) : Int) := of_decide_eq_true (by first | (with_reducible assumption) | assumption); obtain ⟨go40, co40, eo40, gb40, gl40, cl40, HG40⟩ := Kd.R_form HO181.out (by omega); (first | cases eo40 | (injection eo40 with ea_ en_ ec_; (first | subst ea_ | (injection ea_ with ea_; subst ea_)); subst ec_; clear en_)); have GB40 := Aside0.mk gb40; have GG40 := Aside0.mk HG40; clear gb40 gl40 HG40; (first | simp only [add_plain] at hx182_0 | skip); (first | simp only [add_plain] at hx183_0 | skip); obtain ⟨hx40_0, hf40_0⟩ := Kd.R_celln (⟨#[]⟩ : ByteArray) HO181.out ((ji31) : Int) p40 q40; replace p40 := eq_true p40; replace q40 := eq_true q40; obtain ⟨hy65_, hz65_⟩ := Kd.R_celln (⟨#[]⟩ : ByteArray) HO181.out ((ji31) : Int) (of_decide_eq_true (by first | (with_reducible assumption) | assumption)) (of_decide_eq_true (by first | (with_reducible assumption) | assumption)); have HP65 := Kd.R_putg HO181.out ((ji31) : Int) (strOfNums y188)) | ((with_reducible refine gate_store (t := 9) (p := 138) rfl ?_); refine store_event (t := 9) (p := 138) (v := ?vo_w66) (w1 := (w63.setCell ⟨go40, ((ji31) : Int).toNat, none⟩ (.string (strOfNums y188)))) ?hg ?ho ?hn ?hr ?_; (case ho => rfl); (case hg => rfl); (case hn => rfl); (case hr => first | (go_simp; done) | (go_simp; rfl)); intro w66 hw; have hg : w63.grownBy w66 (some go40) := (by rw [hw]; exact HP65.2); have hp_ : Kd.R Kd.string 9 w66 w.heap.size (fun k_ => some k_ ≠ (.slice Ao17 t162.length co17 : Value).ownBlock ∧ some k_ ≠ (v168 : Value).ownBlock) (.slice (some ⟨go40, 0, none⟩) y179.length co58) y189 := (by rw [hw, Ny189.out]; exact HP65.1); clear HP65; have n0_ := Aside0.mk (Kd.R_after (v := (.slice (some ⟨go40, 0, none⟩) y179.length co58)) (v1 := (.slice (some ⟨go40, 0, none⟩) y179.length co58)) (ok := (fun k_ => some k_ ≠ (v168 : Value).ownBlock)) (by (with_reducible repeat (first | apply Kd.R_alloc | apply Kd.R_drewN | apply Kd.R_drew)); exact HO_14.out) hg (.inl rfl)); have n1_ := Aside0.mk (Kd.R_after (v := (.slice (some ⟨go40, 0, none⟩) y179.length co58)) (v1 := (.slice (some ⟨go40, 0, none⟩) y179.length co58)) (ok := (fun k_ => some k_ ≠ (.slice Ao17 t162.length co17 : Value).ownBlock)) (by (with_reducible repeat (first | apply Kd.R_alloc | apply Kd.R_drewN | apply Kd.R_drew)); exact HO_16.out) hg (.inl rfl)); have n2_ := Aside0.mk (hp_); have n3_ := Aside0.mk (RB.over2 (v := (.slice (some ⟨go40, 0, none⟩) y179.length co58)) (by (with_reducible repeat (first | apply RB.alloc | apply RB.drewN | apply RB.drew)); exact HO186.out) (Kd.R_typed HO181.out) (by decide) hg); have n4_ := Aside0.mk ((by rw [hw]; exact below_set (HB.out) GB40.out : Below w.heap.size w w66)); clear HO_14; clear HO_16; clear HO181; clear HO186; clear HB; have HO_14 := n0_; have HO_16 := n1_; have HO181 := n2_; have HO186 := n3_; have HB := n4_; clear n0_ n1_ n2_ n3_ n4_; clear hg hw hp_) | ((with_reducible refine gate_callee (f := 9) rfl ?_); refine goesL_ (some 141) rfl rfl Try.func9 (by kernel_rfl) rfl #[.slice (some ⟨go40, 0, none⟩) y189.length co58] rfl (by (try simp only [List.map_toArray, List.map_cons, List.map_nil]); first | done | (rw [show y189.length = y179.length from (Kd.R_reads' HO181.out).1.symm] <;> rfl) | rfl | (simp only [List.length_drop, List.length_take]; rfl)) ?_; (with_reducible refine (area_Get.calls kj11 _ _ y189 t190 t191 t192 _ ?side1 ?side2 A41.out).mono ?_); (case side1 => repeat (first | exact (Kd.R_reads' HO181.out).2.2 | (with_reducible refine Kd.C_alloc ?_ _) | (with_reducible refine Kd.C_drewN ?_ _) | (with_reducible refine Kd.C_drew ?_))); (case side2 => rw [show y189.length = y179.length from (Kd.R_reads' HO181.out).1.symm]; exact (Kd.R_reads' HO181.out).2.1); rintro e w67 ⟨rfl, hb⟩; refine ⟨_, rfl, ?_⟩; have n0_ := Aside0.mk (Kd.R_below (by (with_reducible repeat (first | apply Kd.R_alloc | apply Kd.R_drewN | apply Kd.R_drew)); exact HO_14.out) hb); have n1_ := Aside0.mk (Kd.R_below (by (with_reducible repeat (first | apply Kd.R_alloc | apply Kd.R_drewN | apply Kd.R_drew)); exact HO_16.out) hb); have n2_ := Aside0.mk (Kd.R_below (by (with_reducible repeat (first | apply Kd.R_alloc | apply Kd.R_drewN | apply Kd.R_drew)); exact HO181.out) hb); have n3_ := Aside0.mk (RB.below (by (with_reducible repeat (first | apply RB.alloc | apply RB.drewN | apply RB.drew)); exact HO186.out) hb); have n4_ := Aside0.mk (below_step (by repeat (first | (with_reducible first | exact HB.out | apply below_alloc | apply pw_below_drewN | apply below_drew1) | exact HB.out)) hb); clear HO_14; clear HO_16; clear HO181; clear HO186; clear HB; have HO_14 := n0_; have HO_16 := n1_; have HO181 := n2_; have HO186 := n3_; have HB := n4_; clear n0_ n1_ n2_ n3_ n4_; (try clear hb); (try clear hb2); (try clear hk); (try clear hi); obtain ⟨Ao68, co68, eo68⟩ := Kd.R_slice HO_16.out; subst eo68; have p193 : 0 ≤ ((ji31) : Int) := of_decide_eq_true (by first | (with_reducible assumption) | assumption); have q193 : (ji31) < (t166.length : Int) := of_decide_eq_true (by first | (with_reducible assumption) | assumption); obtain ⟨ad193, e193, hx193_0⟩ := Kd.at_string (Kd.R_reads' HO_16.out).2.2 (ji31) p193 q193; cases e193; replace p193 := eq_true p193; replace q193 := eq_true q193; have p43 : 0 ≤ ((ji31) : Int) := of_decide_eq_true (by first | (with_reducible assumption) | assumption); have q43 : ((ji31) : Int) < ((y179.length : Int) : Int) := of_decide_eq_true (by first | (with_reducible assumption) | assumption); obtain ⟨hx43_0, hf43_0⟩ := Kd.R_celln (⟨#[]⟩ : ByteArray) HO181.out ((ji31) : Int) p43 q43; replace p43 := eq_true p43; replace q43 := eq_true q43; obtain ⟨hy69_, hz69_⟩ := Kd.R_celln (⟨#[]⟩ : ByteArray) HO181.out ((ji31) : Int) (of_decide_eq_true (by first | (with_reducible assumption) | assumption)) (of_decide_eq_true (by first | (with_reducible assumption) | assumption)); have HP69 := Kd.R_putg HO181.out ((ji31) : Int) (rdOf ByteArray.empty t166 (ji31))) | ((with_reducible refine gate_store (t := 9) (p := 151) rfl ?_); refine store_event (t := 9) (p := 151) (v := ?vo_w70) (w1 := (w67.setCell ⟨go40, ((ji31) : Int).toNat, none⟩ (.string (rdOf ByteArray.empty t166 (ji31))))) ?hg ?ho ?hn ?hr ?_; (case ho => rfl); (case hg => rfl); (case hn => rfl); (case hr => first | (go_simp; done) | (go_simp; rfl)); intro w70 hw; have hg : w67.grownBy w70 (some go40) := (by rw [hw]; exact HP69.2); have hp_ : Kd.R Kd.string 9 w70 w.heap.size (fun k_ => some k_ ≠ (.slice Ao17 t162.length co17 : Value).ownBlock ∧ some k_ ≠ (.slice (some ad193) t166.length co68 : Value).ownBlock) (.slice (some ⟨go40, 0, none⟩) y179.length co58) y194 := (by rw [hw, Ny194.out]; exact HP69.1); clear HP69; have n0_ := Aside0.mk (Kd.R_after (v := (.slice (some ⟨go40, 0, none⟩) y179.length co58)) (v1 := (.slice (some ⟨go40, 0, none⟩) y179.length co58)) (ok := (fun k_ => some k_ ≠ (.slice (some ad193) t166.length co68 : Value).ownBlock)) (by (with_reducible repeat (first | apply Kd.R_alloc | apply Kd.R_drewN | apply Kd.R_drew)); exact HO_14.out) hg (.inl rfl)); have n1_ := Aside0.mk (Kd.R_after (v := (.slice (some ⟨go40, 0, none⟩) y179.length co58)) (v1 := (.slice (some ⟨go40, 0, none⟩) y179.length co58)) (ok := (fun k_ => some k_ ≠ (.slice Ao17 t162.length co17 : Value).ownBlock)) (by (with_reducible repeat (first | apply Kd.R_alloc | apply Kd.R_drewN | apply Kd.R_drew)); exact HO_16.out) hg (.inl rfl)); have n2_ := Aside0.mk (hp_); have n3_ := Aside0.mk (RB.over2 (v := (.slice (some ⟨go40, 0, none⟩) y179.length co58)) (by (with_reducible repeat (first | apply RB.alloc | apply RB.drewN | apply RB.drew)); exact HO186.out) (Kd.R_typed HO181.out) (by decide) hg); have n4_ := Aside0.mk ((by rw [hw]; exact below_set (HB.out) GB40.out : Below w.heap.size w w70)); clear HO_14; clear HO_16; clear HO181; clear HO186; clear HB; have HO_14 := n0_; have HO_16 := n1_; have HO181 := n2_; have HO186 := n3_; have HB := n4_; clear n0_ n1_ n2_ n3_ n4_; clear hg hw hp_) | ((with_reducible refine gate_callee (f := 9) rfl ?_); refine goesL_ (some 154) rfl rfl Try.func9 (by kernel_rfl) rfl #[.slice (some ⟨go40, 0, none⟩) y194.length co58] rfl (by (try simp only [List.map_toArray, List.map_cons, List.map_nil]); first | done | (rw [show y194.length = y179.length from (Kd.R_reads' HO181.out).1.symm] <;> rfl) | rfl | (simp only [List.length_drop, List.length_take]; rfl)) ?_; (with_reducible refine (area_Get.calls kj11 _ _ y194 t195 t196 t197 _ ?side1 ?side2 A44.out).mono ?_); (case side1 => repeat (first | exact (Kd.R_reads' HO181.out).2.2 | (with_reducible refine Kd.C_alloc ?_ _) | (with_reducible refine Kd.C_drewN ?_ _) | (with_reducible refine Kd.C_drew ?_))); (case side2 => rw [show y194.length = y179.length from (Kd.R_reads' HO181.out).1.symm]; exact (Kd.R_reads' HO181.out).2.1); rintro e w71 ⟨rfl, hb⟩; refine ⟨_, rfl, ?_⟩; have n0_ := Aside0.mk (Kd.R_below (by (with_reducible repeat (first | apply Kd.R_alloc | apply Kd.R_drewN | apply Kd.R_drew)); exact HO_14.out) hb); have n1_ := Aside0.mk (Kd.R_below (by (with_reducible repeat (first | apply Kd.R_alloc | apply Kd.R_drewN | apply Kd.R_drew)); exact HO_16.out) hb); have n2_ := Aside0.mk (Kd.R_below (by (with_reducible repeat (first | apply Kd.R_alloc | apply Kd.R_drewN | apply Kd.R_drew)); exact HO181.out) hb); have n3_ := Aside0.mk (RB.below (by (with_reducible repeat (first | apply RB.alloc | apply RB.drewN | apply RB.drew)); exact HO186.out) hb); have n4_ := Aside0.mk (below_step (by repeat (first | (with_reducible first | exact HB.out | apply below_alloc | apply pw_below_drewN | apply below_drew1) | exact HB.out)) hb); clear HO_14; clear HO_16; clear HO181; clear HO186; clear HB; have HO_14 := n0_; have HO_16 := n1_; have HO181 := n2_; have HO186 := n3_; have HB := n4_; clear n0_ n1_ n2_ n3_ n4_; (try clear hb); (try clear hb2); (try clear hk); (try clear hi); have p198 : 0 ≤ ((ji45) : Int) := of_decide_eq_true (by first | (with_reducible assumption) | assumption); have q198 : (ji45) < (t162.length : Int) := of_decide_eq_true (by first | (with_reducible assumption) | assumption); obtain ⟨ad198, e198, hx198_0⟩ := Kd.at_string (Kd.R_reads' HO_14.out).2.2 (ji45) p198 q198; cases e198; replace p198 := eq_true p198; replace q198 := eq_true q198; have p48 : 0 ≤ ((ji31) : Int) := of_decide_eq_true (by first | (with_reducible assumption) | assumption); have q48 : ((ji31) : Int) < ((y179.length : Int) : Int) := of_decide_eq_true (by first | (with_reducible assumption) | assumption); obtain ⟨hx48_0, hf48_0⟩ := Kd.R_celln (⟨#[]⟩ : ByteArray) HO181.out ((ji31) : Int) p48 q48; replace p48 := eq_true p48; replace q48 := eq_true q48; obtain ⟨hy72_, hz72_⟩ := Kd.R_celln (⟨#[]⟩ : ByteArray) HO181.out ((ji31) : Int) (of_decide_eq_true (by first | (with_reducible assumption) | assumption)) (of_decide_eq_true (by first | (with_reducible assumption) | assumption)); have HP72 := Kd.R_putg HO181.out ((ji31) : Int) (rdOf ByteArray.empty t162 (ji45))) | ((with_reducible refine gate_store (t := 9) (p := 166) rfl ?_); refine store_event (t := 9) (p := 166) (v := ?vo_w73) (w1 := (w71.setCell ⟨go40, ((ji31) : Int).toNat, none⟩ (.string (rdOf ByteArray.empty t162 (ji45))))) ?hg ?ho ?hn ?hr ?_; (case ho => rfl); (case hg => rfl); (case hn => rfl); (case hr => first | (go_simp; done) | (go_simp; rfl)); intro w73 hw; have hg : w71.grownBy w73 (some go40) := (by rw [hw]; exact HP72.2); have hp_ : Kd.R Kd.string 9 w73 w.heap.size (fun k_ => some k_ ≠ (.slice (some ad198) t162.length co17 : Value).ownBlock ∧ some k_ ≠ (.slice (some ad193) t166.length co68 : Value).ownBlock) (.slice (some ⟨go40, 0, none⟩) y179.length co58) y199 := (by rw [hw, Ny199.out]; exact HP72.1); clear HP72; have n0_ := Aside0.mk (Kd.R_after (v := (.slice (some ⟨go40, 0, none⟩) y179.length co58)) (v1 := (.slice (some ⟨go40, 0, none⟩) y179.length co58)) (ok := (fun k_ => some k_ ≠ (.slice (some ad193) t166.length co68 : Value).ownBlock)) (by (with_reducible repeat (first | apply Kd.R_alloc | apply Kd.R_drewN | apply Kd.R_drew)); exact HO_14.out) hg (.inl rfl)); have n1_ := Aside0.mk (Kd.R_after (v := (.slice (some ⟨go40, 0, none⟩) y179.length co58)) (v1 := (.slice (some ⟨go40, 0, none⟩) y179.length co58)) (ok := (fun k_ => some k_ ≠ (.slice (some ad198) t162.length co17 : Value).ownBlock)) (by (with_reducible repeat (first | apply Kd.R_alloc | apply Kd.R_drewN | apply Kd.R_drew)); exact HO_16.out) hg (.inl rfl)); have n2_ := Aside0.mk (hp_); have n3_ := Aside0.mk (RB.over2 (v := (.slice (some ⟨go40, 0, none⟩) y179.length co58)) (by (with_reducible repeat (first | apply RB.alloc | apply RB.drewN | apply RB.drew)); exact HO186.out) (Kd.R_typed HO181.out) (by decide) hg); have n4_ := Aside0.mk ((by rw [hw]; exact below_set (HB.out) GB40.out : Below w.heap.size w w73)); clear HO_14; clear HO_16; clear HO181; clear HO186; clear HB; have HO_14 := n0_; have HO_16 := n1_; have HO181 := n2_; have HO186 := n3_; have HB := n4_; clear n0_ n1_ n2_ n3_ n4_; clear hg hw hp_) | ((with_reducible refine gate_callee (f := 9) rfl ?_); refine goesL_ (some 169) rfl rfl Try.func9 (by kernel_rfl) rfl #[.slice (some ⟨go40, 0, none⟩) y199.length co58] rfl (by (try simp only [List.map_toArray, List.map_cons, List.map_nil]); first | done | (rw [show y199.length = y179.length from (Kd.R_reads' HO181.out).1.symm] <;> rfl) | rfl | (simp only [List.length_drop, List.length_take]; rfl)) ?_; (with_reducible refine (area_Get.calls kj11 _ _ y199 t200 t201 t202 _ ?side1 ?side2 A49.out).mono ?_); (case side1 => repeat (first | exact (Kd.R_reads' HO181.out).2.2 | (with_reducible refine Kd.C_alloc ?_ _) | (with_reducible refine Kd.C_drewN ?_ _) | (with_reducible refine Kd.C_drew ?_))); (case side2 => rw [show y199.length = y179.length from (Kd.R_reads' HO181.out).1.symm]; exact (Kd.R_reads' HO181.out).2.1); rintro e w74 ⟨rfl, hb⟩; refine ⟨_, rfl, ?_⟩; have n0_ := Aside0.mk (Kd.R_below (by (with_reducible repeat (first | apply Kd.R_alloc | apply Kd.R_drewN | apply Kd.R_drew)); exact HO_14.out) hb); have n1_ := Aside0.mk (Kd.R_below (by (with_reducible repeat (first | apply Kd.R_alloc | apply Kd.R_drewN | apply Kd.R_drew)); exact HO_16.out) hb); have n2_ := Aside0.mk (Kd.R_below (by (with_reducible repeat (first | apply Kd.R_alloc | apply Kd.R_drewN | apply Kd.R_drew)); exact HO181.out) hb); have n3_ := Aside0.mk (RB.below (by (with_reducible repeat (first | apply RB.alloc | apply RB.drewN | apply RB.drew)); exact HO186.out) hb); have n4_ := Aside0.mk (below_step (by repeat (first | (with_reducible first | exact HB.out | apply below_alloc | apply pw_below_drewN | apply below_drew1) | exact HB.out)) hb); clear HO_14; clear HO_16; clear HO181; clear HO186; clear HB; have HO_14 := n0_; have HO_16 := n1_; have HO181 := n2_; have HO186 := n3_; have HB := n4_; clear n0_ n1_ n2_ n3_ n4_; (try clear hb); (try clear hb2); (try clear hk); (try clear hi)) | ((with_reducible refine gate_callee (f := 12) rfl ?_); refine goesL_ (some 174) rfl rfl Try.func12 (by kernel_rfl) rfl #[.int .i64 t192] rfl (by (try simp only [List.map_toArray, List.map_cons, List.map_nil]); first | done | rfl | (simp only [List.length_drop, List.length_take]; rfl)) ?_; (with_reducible refine (ossuarylaw0_Num.calls t192 t203 _ A50.out).mono ?_); rintro e w' ⟨rfl, ⟨nd, rfl⟩⟩; refine ⟨_, rfl, ?_⟩) | (go_at_call 12; (with_reducible refine (ossuarylaw0_Num.calls t197 t204 _ A52.out).mono ?_); rintro e w' ⟨rfl, ⟨nd, rfl⟩⟩) | (go_at_call 12; (with_reducible refine (ossuarylaw0_Num.calls t202 t205 _ A54.out).mono ?_); rintro e w' ⟨rfl, ⟨nd, rfl⟩⟩))
                                  go_ret
                                  exact ⟨by first | rfl | (simp [errW_none, errW_some] <;> rfl) | (simp only [← hji31, ← hji36, ← hji45]; first | rfl | (simp [errW_none, errW_some] <;> rfl)) | (simp [*, errW_none, errW_some] <;> rfl), by repeat (first | (with_reducible first | exact HB.out | apply below_alloc | apply pw_below_drewN | apply below_drew1) | exact HB.out)⟩
                                · rw [if_neg c53] at H
                                  have c53b0 : (t204 == 1500) = false := beq_eq_false_iff_ne.mpr c53
                                  have c53b1 : (t204 != 1500) = true := bne_iff_ne.mpr c53
                                  exact absurd (Option.some.inj H) (by rw [HRT.out]; decide)
                              · rw [if_neg c51] at H
                                have c51b0 : (t203 == 1500) = false := beq_eq_false_iff_ne.mpr c51
                                have c51b1 : (t203 != 1500) = true := bne_iff_ne.mpr c51
                                exact absurd (Option.some.inj H) (by rw [HRT.out]; decide)
                            · rw [if_neg c47] at H
                              exact absurd H (by simp)
                          · rw [if_neg c46] at H
                            exact absurd H (by simp)
                        · rw [if_neg c42] at H
                          exact absurd H (by simp)
                      · rw [if_neg c38] at H
                        exact absurd H (by simp)
                    · rw [if_neg c37] at H
                      exact absurd H (by simp)
                  · rw [if_neg c35] at H
                    exact absurd H (by simp)
                · rw [if_neg c34] at H
                  have c34b0 : (((rdOf ByteArray.empty y179 (ji31)).size : Int) == 64) = false := beq_eq_false_iff_ne.mpr c34
                  have c34b1 : (((rdOf ByteArray.empty y179 (ji31)).size : Int) != 64) = true := bne_iff_ne.mpr c34
                  exact absurd (Option.some.inj H) (by rw [HRT.out]; decide)
              · rw [if_neg c33] at H
                exact absurd H (by simp)
            · rw [if_neg c32] at H
              exact absurd H (by simp)
          · rw [if_neg c30] at H
            exact absurd H (by simp)
  · replace c7 := Bool.eq_false_iff.mpr c7
    subst c7
    have H1 : (some false) = some r := by rw [if_neg (show ¬ (false = true) by decide)] at H; exact H
    clear H
    have H := H1
    clear H1
    exact absurd (Option.some.inj H) (by rw [HRT.out]; decide)

/-- THE ONE PURE STATEMENT of ossuarylaw15_AreaTurned: yours. -/
def ossuarylaw15_AreaTurned.Pure : Prop := ∀ (a0 : Int) (a1 : Int) (a2 : Int) (a3 : Int) (a4 : Int), (Lit.int .i64 a0).wf = true → (Lit.int .i64 a1).wf = true → (Lit.int .i64 a2).wf = true → (Lit.int .i64 a3).wf = true → (Lit.int .i64 a4).wf = true → ∃ k, ossuarylaw15_AreaTurned.f k a0 a1 a2 a3 a4 = some true
theorem ossuarylaw15_AreaTurned.walk (P : ossuarylaw15_AreaTurned.Pure) (a0 : Int) (a1 : Int) (a2 : Int) (a3 : Int) (a4 : Int) (w : World) (w0 : (Lit.int .i64 a0).wf = true) (w1 : (Lit.int .i64 a1).wf = true) (w2 : (Lit.int .i64 a2).wf = true) (w3 : (Lit.int .i64 a3).wf = true) (w4 : (Lit.int .i64 a4).wf = true) :
    Calls Try.prog 4 #[.int .i64 a0, .int .i64 a1, .int .i64 a2, .int .i64 a3, .int .i64 a4] w fun e w' => e = .returned (.bool true) ∧ Below w.heap.size w w' := by
  obtain ⟨k, h⟩ := P a0 a1 a2 a3 a4 w0 w1 w2 w3 w4
  refine (ossuarylaw15_AreaTurned.calls k a0 a1 a2 a3 a4 true w h).mono ?_
  rintro e w' ⟨rfl, hd⟩
  exact ⟨rfl, hd⟩

end Go.Proofs.Ytmphljlooopcdaa.HAreaTurned
