/- Lean functions for the Go functions that the law reaches, and proofs that the calls come to them: written by a program of this session. -/
import Derived.Test.YtoloonnoobnafaaHDiskReadsx0
import Derived.Test.YtoloonnoobnafaaHDiskReadsx1
import Derived.Test.YtoloonnoobnafaaHDiskReadsx2
import Derived.Test.YtoloonnoobnafaaHDiskReadsx3
namespace Go.Proofs.Ytoloonnoobnafaa.HDiskReads
open Go.RowKit Go.Proofs.YtoloonnoobnafaaW.PrintWords Go.Proofs.YtoloonnoobnafaaW.PrintLast Go.Proofs.YtoloonnoobnafaaW.PrintMore
attribute [local go_sem] max2_int min2_int max_two min_two max_three min_three max_four min_four   -- for this text's walks alone
set_option linter.unusedVariables false
set_option linter.unusedSimpArgs false

/-! ### ossuarylaw13_DiskReads: function 4 -/
mutual
def ossuarylaw13_DiskReads.l0 : Nat → List Int → List Int → List Int → Int → Bool → List ByteArray → List (S62) → Option (Bool)
  | 0, _, _, _, _, _, _, _ => none
  | k + 1, x0, x1, x7, x8, x323000, x323001, x323002 => if x8 < (x0.length : Int) then (ossuarylaw13_DiskReads.j1 k x0 x1 x7 x8 (decide (x8 < 40)) x323000 x323001 x323002) else (ossuarylaw13_DiskReads.j1 k x0 x1 x7 x8 false x323000 x323001 x323002)
def ossuarylaw13_DiskReads.j1 : Nat → List Int → List Int → List Int → Int → Bool → Bool → List ByteArray → List (S62) → Option (Bool)
  | 0, _, _, _, _, _, _, _, _ => none
  | k + 1, x0, x1, x7, x8, x35, x323000, x323001, x323002 => if x35 = true then (if 0 ≤ x8 then (if x8 < (x0.length : Int) then ((ossuarylaw13_full.f k ((wrap64 (1 + x8)) % 256)).bind fun t328 => ((disk_Write.f x323000 x323001 x323002 (wrap64 (Int.tmod (IntKind.u64.wrap (rd x0 x8)) 5)) t328).bind fun bt329 => ((ossuarylaw0_Num.f bt329.2.2.2).bind fun t338 => (if t338 = 0 then (if 0 ≤ (wrap64 (Int.tmod (IntKind.u64.wrap (rd x0 x8)) 5)) then (if (wrap64 (Int.tmod (IntKind.u64.wrap (rd x0 x8)) 5)) < (x7.length : Int) then ((some (x7.set ((wrap64 (Int.tmod (IntKind.u64.wrap (rd x0 x8)) 5)) : Int).toNat ((wrap64 (1 + x8)) % 256) : List Int)).bind fun y339 => (if x8 < (x1.length : Int) then (ossuarylaw13_DiskReads.j2 k x0 x1 y339 x8 ((Go.bits .and .i64 (rd x1 x8) 1) == 1) bt329.1 bt329.2.1 bt329.2.2.1) else (ossuarylaw13_DiskReads.j2 k x0 x1 y339 x8 false bt329.1 bt329.2.1 bt329.2.2.1))) else (none)) else (none)) else (some false))))) else (none)) else (none)) else (some true)
def ossuarylaw13_DiskReads.j2 : Nat → List Int → List Int → List Int → Int → Bool → Bool → List ByteArray → List (S62) → Option (Bool)
  | 0, _, _, _, _, _, _, _, _ => none
  | k + 1, x0, x1, x7, x8, x75, x323000, x323001, x323002 => if x75 = true then ((disk_Flush.f k x323000 x323001 x323002).bind fun bt341 => ((ossuarylaw0_Num.f bt341.2.2.2).bind fun t350 => (if t350 = 0 then (if (bt341.2.2.1.length : Int) = 0 then (ossuarylaw13_DiskReads.j3 k x0 x1 x7 x8 bt341.1 bt341.2.1 bt341.2.2.1) else (some false)) else (some false)))) else (ossuarylaw13_DiskReads.j3 k x0 x1 x7 x8 x323000 x323001 x323002)
def ossuarylaw13_DiskReads.j3 : Nat → List Int → List Int → List Int → Int → Bool → List ByteArray → List (S62) → Option (Bool)
  | 0, _, _, _, _, _, _, _ => none
  | k + 1, x0, x1, x7, x8, x323000, x323001, x323002 => ossuarylaw13_DiskReads.l1 k x0 x1 x7 x8 0 x323000 x323001 x323002
def ossuarylaw13_DiskReads.l1 : Nat → List Int → List Int → List Int → Int → Int → Bool → List ByteArray → List (S62) → Option (Bool)
  | 0, _, _, _, _, _, _, _, _ => none
  | k + 1, x0, x1, x7, x8, x15, x323000, x323001, x323002 => if x15 < 5 then ((disk_Read.f x323000 x323001 x323002 x15).bind fun bt351 => ((ossuarylaw0_Num.f bt351.2).bind fun t353 => (if t353 = 0 then (if 0 ≤ x15 then (if x15 < (x7.length : Int) then ((ossuarylaw13_full.f k (rd x7 x15)).bind fun t355 => (if bt351.1.toList = t355.toList then (ossuarylaw13_DiskReads.l1 k x0 x1 x7 x8 (wrap64 (x15 + 1)) x323000 x323001 x323002) else (some false))) else (none)) else (none)) else (some false)))) else (ossuarylaw13_DiskReads.l0 k x0 x1 x7 (wrap64 (x8 + 1)) x323000 x323001 x323002)
end
def ossuarylaw13_DiskReads.f (k : Nat) (l0 : List Int) (l1 : List Int) : Option (Bool) := (ossuarylaw13_awake.f k).bind fun t313 => (if t313 = true then ((disk_New.f k 5).bind fun bt314 => ((ossuarylaw0_Num.f bt314.2.2.2).bind fun t323 => (if t323 = 0 then (ossuarylaw13_DiskReads.l0 k l0 l1 (([0, 0, 0, 0, 0] : List Int)) 0 bt314.1 bt314.2.1 bt314.2.2.1) else (some false)))) else (some false))
theorem ossuarylaw13_DiskReads.mono_l : ∀ k, (∀ y0 y1 y2 y3 y4 y5 y6, LeO (ossuarylaw13_DiskReads.l0 k y0 y1 y2 y3 y4 y5 y6) (ossuarylaw13_DiskReads.l0 (k + 1) y0 y1 y2 y3 y4 y5 y6)) ∧ (∀ y0 y1 y2 y3 y4 y5 y6 y7, LeO (ossuarylaw13_DiskReads.j1 k y0 y1 y2 y3 y4 y5 y6 y7) (ossuarylaw13_DiskReads.j1 (k + 1) y0 y1 y2 y3 y4 y5 y6 y7)) ∧ (∀ y0 y1 y2 y3 y4 y5 y6 y7, LeO (ossuarylaw13_DiskReads.j2 k y0 y1 y2 y3 y4 y5 y6 y7) (ossuarylaw13_DiskReads.j2 (k + 1) y0 y1 y2 y3 y4 y5 y6 y7)) ∧ (∀ y0 y1 y2 y3 y4 y5 y6, LeO (ossuarylaw13_DiskReads.j3 k y0 y1 y2 y3 y4 y5 y6) (ossuarylaw13_DiskReads.j3 (k + 1) y0 y1 y2 y3 y4 y5 y6)) ∧ (∀ y0 y1 y2 y3 y4 y5 y6 y7, LeO (ossuarylaw13_DiskReads.l1 k y0 y1 y2 y3 y4 y5 y6 y7) (ossuarylaw13_DiskReads.l1 (k + 1) y0 y1 y2 y3 y4 y5 y6 y7))
 | 0 => ⟨fun _ _ _ _ _ _ _ r h => by simp [ossuarylaw13_DiskReads.l0] at h, fun _ _ _ _ _ _ _ _ r h => by simp [ossuarylaw13_DiskReads.j1] at h, fun _ _ _ _ _ _ _ _ r h => by simp [ossuarylaw13_DiskReads.j2] at h, fun _ _ _ _ _ _ _ r h => by simp [ossuarylaw13_DiskReads.j3] at h, fun _ _ _ _ _ _ _ _ r h => by simp [ossuarylaw13_DiskReads.l1] at h⟩
 | k + 1 => by
  obtain ⟨ih0, ih1, ih2, ih3, ih4⟩ := ossuarylaw13_DiskReads.mono_l k
  refine ⟨?_, ?_, ?_, ?_, ?_⟩
  ·
   intro y0 y1 y2 y3 y4 y5 y6
   unfold ossuarylaw13_DiskReads.l0
   repeat' first
   | (with_reducible exact ih0 _ _ _ _ _ _ _)
   | (with_reducible exact ih1 _ _ _ _ _ _ _ _)
   | (with_reducible exact ih2 _ _ _ _ _ _ _ _)
   | (with_reducible exact ih3 _ _ _ _ _ _ _)
   | (with_reducible exact ih4 _ _ _ _ _ _ _ _)
   | (with_reducible exact disk_Flush.mono _ _ _ _)
   | (with_reducible exact disk_New.mono _ _)
   | (with_reducible exact ossuarylaw13_awake.mono _)
   | (with_reducible exact ossuarylaw13_full.mono _ _)
   | (with_reducible exact LeO.refl _)
   | (with_reducible exact LeO.none _)
   | (with_reducible refine LeO.ite ?_ ?_)
   | (with_reducible refine LeO.bind ?_ (fun _ => ?_))
   | exact ih0 _ _ _ _ _ _ _
   | exact ih1 _ _ _ _ _ _ _ _
   | exact ih2 _ _ _ _ _ _ _ _
   | exact ih3 _ _ _ _ _ _ _
   | exact ih4 _ _ _ _ _ _ _ _
   | exact disk_Flush.mono _ _ _ _
   | exact disk_New.mono _ _
   | exact ossuarylaw13_awake.mono _
   | exact ossuarylaw13_full.mono _ _
   | exact LeO.none _
   | refine LeO.ite ?_ ?_
   | refine LeO.bind ?_ (fun _ => ?_)
  ·
   intro y0 y1 y2 y3 y4 y5 y6 y7
   unfold ossuarylaw13_DiskReads.j1
   repeat' first
   | (with_reducible exact ih0 _ _ _ _ _ _ _)
   | (with_reducible exact ih1 _ _ _ _ _ _ _ _)
   | (with_reducible exact ih2 _ _ _ _ _ _ _ _)
   | (with_reducible exact ih3 _ _ _ _ _ _ _)
   | (with_reducible exact ih4 _ _ _ _ _ _ _ _)
   | (with_reducible exact disk_Flush.mono _ _ _ _)
   | (with_reducible exact disk_New.mono _ _)
   | (with_reducible exact ossuarylaw13_awake.mono _)
   | (with_reducible exact ossuarylaw13_full.mono _ _)
   | (with_reducible exact LeO.refl _)
   | (with_reducible exact LeO.none _)
   | (with_reducible refine LeO.ite ?_ ?_)
   | (with_reducible refine LeO.bind ?_ (fun _ => ?_))
   | exact ih0 _ _ _ _ _ _ _
   | exact ih1 _ _ _ _ _ _ _ _
   | exact ih2 _ _ _ _ _ _ _ _
   | exact ih3 _ _ _ _ _ _ _
   | exact ih4 _ _ _ _ _ _ _ _
   | exact disk_Flush.mono _ _ _ _
   | exact disk_New.mono _ _
   | exact ossuarylaw13_awake.mono _
   | exact ossuarylaw13_full.mono _ _
   | exact LeO.none _
   | refine LeO.ite ?_ ?_
   | refine LeO.bind ?_ (fun _ => ?_)
  ·
   intro y0 y1 y2 y3 y4 y5 y6 y7
   unfold ossuarylaw13_DiskReads.j2
   repeat' first
   | (with_reducible exact ih0 _ _ _ _ _ _ _)
   | (with_reducible exact ih1 _ _ _ _ _ _ _ _)
   | (with_reducible exact ih2 _ _ _ _ _ _ _ _)
   | (with_reducible exact ih3 _ _ _ _ _ _ _)
   | (with_reducible exact ih4 _ _ _ _ _ _ _ _)
   | (with_reducible exact disk_Flush.mono _ _ _ _)
   | (with_reducible exact disk_New.mono _ _)
   | (with_reducible exact ossuarylaw13_awake.mono _)
   | (with_reducible exact ossuarylaw13_full.mono _ _)
   | (with_reducible exact LeO.refl _)
   | (with_reducible exact LeO.none _)
   | (with_reducible refine LeO.ite ?_ ?_)
   | (with_reducible refine LeO.bind ?_ (fun _ => ?_))
   | exact ih0 _ _ _ _ _ _ _
   | exact ih1 _ _ _ _ _ _ _ _
   | exact ih2 _ _ _ _ _ _ _ _
   | exact ih3 _ _ _ _ _ _ _
   | exact ih4 _ _ _ _ _ _ _ _
   | exact disk_Flush.mono _ _ _ _
   | exact disk_New.mono _ _
   | exact ossuarylaw13_awake.mono _
   | exact ossuarylaw13_full.mono _ _
   | exact LeO.none _
   | refine LeO.ite ?_ ?_
   | refine LeO.bind ?_ (fun _ => ?_)
  ·
   intro y0 y1 y2 y3 y4 y5 y6
   unfold ossuarylaw13_DiskReads.j3
   repeat' first
   | (with_reducible exact ih0 _ _ _ _ _ _ _)
   | (with_reducible exact ih1 _ _ _ _ _ _ _ _)
   | (with_reducible exact ih2 _ _ _ _ _ _ _ _)
   | (with_reducible exact ih3 _ _ _ _ _ _ _)
   | (with_reducible exact ih4 _ _ _ _ _ _ _ _)
   | (with_reducible exact disk_Flush.mono _ _ _ _)
   | (with_reducible exact disk_New.mono _ _)
   | (with_reducible exact ossuarylaw13_awake.mono _)
   | (with_reducible exact ossuarylaw13_full.mono _ _)
   | (with_reducible exact LeO.refl _)
   | (with_reducible exact LeO.none _)
   | (with_reducible refine LeO.ite ?_ ?_)
   | (with_reducible refine LeO.bind ?_ (fun _ => ?_))
   | exact ih0 _ _ _ _ _ _ _
   | exact ih1 _ _ _ _ _ _ _ _
   | exact ih2 _ _ _ _ _ _ _ _
   | exact ih3 _ _ _ _ _ _ _
   | exact ih4 _ _ _ _ _ _ _ _
   | exact disk_Flush.mono _ _ _ _
   | exact disk_New.mono _ _
   | exact ossuarylaw13_awake.mono _
   | exact ossuarylaw13_full.mono _ _
   | exact LeO.none _
   | refine LeO.ite ?_ ?_
   | refine LeO.bind ?_ (fun _ => ?_)
  ·
   intro y0 y1 y2 y3 y4 y5 y6 y7
   unfold ossuarylaw13_DiskReads.l1
   repeat' first
   | (with_reducible exact ih0 _ _ _ _ _ _ _)
   | (with_reducible exact ih1 _ _ _ _ _ _ _ _)
   | (with_reducible exact ih2 _ _ _ _ _ _ _ _)
   | (with_reducible exact ih3 _ _ _ _ _ _ _)
   | (with_reducible exact ih4 _ _ _ _ _ _ _ _)
   | (with_reducible exact disk_Flush.mono _ _ _ _)
   | (with_reducible exact disk_New.mono _ _)
   | (with_reducible exact ossuarylaw13_awake.mono _)
   | (with_reducible exact ossuarylaw13_full.mono _ _)
   | (with_reducible exact LeO.refl _)
   | (with_reducible exact LeO.none _)
   | (with_reducible refine LeO.ite ?_ ?_)
   | (with_reducible refine LeO.bind ?_ (fun _ => ?_))
   | exact ih0 _ _ _ _ _ _ _
   | exact ih1 _ _ _ _ _ _ _ _
   | exact ih2 _ _ _ _ _ _ _ _
   | exact ih3 _ _ _ _ _ _ _
   | exact ih4 _ _ _ _ _ _ _ _
   | exact disk_Flush.mono _ _ _ _
   | exact disk_New.mono _ _
   | exact ossuarylaw13_awake.mono _
   | exact ossuarylaw13_full.mono _ _
   | exact LeO.none _
   | refine LeO.ite ?_ ?_
   | refine LeO.bind ?_ (fun _ => ?_)
theorem ossuarylaw13_DiskReads.mono : ∀ a0 a1 k, LeO (ossuarylaw13_DiskReads.f k a0 a1) (ossuarylaw13_DiskReads.f (k + 1) a0 a1) := by
 intro a0 a1 k
 obtain ⟨ih0, ih1, ih2, ih3, ih4⟩ := ossuarylaw13_DiskReads.mono_l k
 unfold ossuarylaw13_DiskReads.f
 repeat' first
   | (with_reducible exact ih0 _ _ _ _ _ _ _)
   | (with_reducible exact ih1 _ _ _ _ _ _ _ _)
   | (with_reducible exact ih2 _ _ _ _ _ _ _ _)
   | (with_reducible exact ih3 _ _ _ _ _ _ _)
   | (with_reducible exact ih4 _ _ _ _ _ _ _ _)
   | (with_reducible exact disk_Flush.mono _ _ _ _)
   | (with_reducible exact disk_New.mono _ _)
   | (with_reducible exact ossuarylaw13_awake.mono _)
   | (with_reducible exact ossuarylaw13_full.mono _ _)
   | (with_reducible exact LeO.refl _)
   | (with_reducible exact LeO.none _)
   | (with_reducible refine LeO.ite ?_ ?_)
   | (with_reducible refine LeO.bind ?_ (fun _ => ?_))
   | exact ih0 _ _ _ _ _ _ _
   | exact ih1 _ _ _ _ _ _ _ _
   | exact ih2 _ _ _ _ _ _ _ _
   | exact ih3 _ _ _ _ _ _ _
   | exact ih4 _ _ _ _ _ _ _ _
   | exact disk_Flush.mono _ _ _ _
   | exact disk_New.mono _ _
   | exact ossuarylaw13_awake.mono _
   | exact ossuarylaw13_full.mono _ _
   | exact LeO.none _
   | refine LeO.ite ?_ ?_
   | refine LeO.bind ?_ (fun _ => ?_)
def ossuarylaw13_DiskReads.T12 : Bool × List (List Nat × List Nat) := (true, [([], []), ([], []), ([], []), ([2], [2]), ([0, 1, 3, 3], [0, 1, 3]), ([4], [4]), ([5], [5]), ([5], [5]), ([], []), ([8, 6, 4, 0, 1, 2, 3, 4, 5, 6, 8], [6, 8]), ([7, 9, 0, 1, 2, 3, 4, 5, 6, 7, 8, 9], [7])])
def ossuarylaw13_DiskReads.B12 : List Nat := [0, 0, 0, 4, 15, 31, 63, 63, 0, 383, 1023]
theorem ossuarylaw13_DiskReads.tab12 : rtab .any (opsOf Try.f4 12) = ossuarylaw13_DiskReads.T12 := by kernel_rfl
theorem ossuarylaw13_DiskReads.bits12 : waitsOk ossuarylaw13_DiskReads.T12.2 ossuarylaw13_DiskReads.B12 = true := by kernel_rfl
set_option maxHeartbeats 8000000 in
set_option maxRecDepth 100000 in
theorem ossuarylaw13_DiskReads.calls (k : Nat) (A0 : Option Addr) (c0 : Nat) (l0 : List Int) (A1 : Option Addr) (c1 : Nat) (l1 : List Int) (r : Bool) (w : World) (hr0 : Kd.C (Kd.int .i64) w A0 l0.length l0) (hc0 : l0.length ≤ c0) (hr1 : Kd.C (Kd.int .i64) w A1 l1.length l1) (hc1 : l1.length ≤ c1) (h : ossuarylaw13_DiskReads.f k l0 l1 = some r) (hr_ : r = true := by rfl) :
  Calls Try.prog 4 #[.slice A0 l0.length c0, .slice A1 l1.length c1] w fun e w' => e = .returned (.bool r) ∧ Below w.heap.size w w' := by
 have HRT := Aside0.mk hr_; clear hr_
 have hu25 := Try.underlying25
 have HR0 := Aside0.mk hr0; have HC0 := Aside0.mk hc0; clear hr0 hc0; have HR1 := Aside0.mk hr1; have HC1 := Aside0.mk hc1; clear hr1 hc1
 have HB := Aside0.mk (Below.refl w.heap.size w)
 have H : ((ossuarylaw13_awake.f k).bind fun t313 => (if t313 = true then ((disk_New.f k 5).bind fun bt314 => ((ossuarylaw0_Num.f bt314.2.2.2).bind fun t323 => (if t323 = 0 then (ossuarylaw13_DiskReads.l0 k l0 l1 (([0, 0, 0, 0, 0] : List Int)) 0 bt314.1 bt314.2.1 bt314.2.2.1) else (some false)))) else (some false))) = some r := h
 clear h; replace H := Option.bind_eq_some_iff.mp H; obtain ⟨t313, A30, H⟩ := H
 replace H : (if t313 = true then ((disk_New.f k 5).bind fun bt314 => ((ossuarylaw0_Num.f bt314.2.2.2).bind fun t323 => (if t323 = 0 then (ossuarylaw13_DiskReads.l0 k l0 l1 (([0, 0, 0, 0, 0] : List Int)) 0 bt314.1 bt314.2.1 bt314.2.2.1) else (some false)))) else (some false)) = some r := H
 have A3 := Aside0.mk A30; clear A30
 by_cases c4 : t313 = true
 ·
  subst c4
  have H1 : ((disk_New.f k 5).bind fun bt314 => ((ossuarylaw0_Num.f bt314.2.2.2).bind fun t323 => (if t323 = 0 then (ossuarylaw13_DiskReads.l0 k l0 l1 (([0, 0, 0, 0, 0] : List Int)) 0 bt314.1 bt314.2.1 bt314.2.2.1) else (some false)))) = some r := by rw [if_pos rfl] at H; exact H
  clear H
  have H := H1
  clear H1; replace H := Option.bind_eq_some_iff.mp H; obtain ⟨⟨t314, t315, t318, t321⟩, A50, H⟩ := H
  replace H : ((ossuarylaw0_Num.f t321).bind fun t323 => (if t323 = 0 then (ossuarylaw13_DiskReads.l0 k l0 l1 (([0, 0, 0, 0, 0] : List Int)) 0 t314 t315 t318) else (some false))) = some r := H
  have A5 := Aside0.mk A50; clear A50; replace H := Option.bind_eq_some_iff.mp H; obtain ⟨t323, A60, H⟩ := H
  replace H : (if t323 = 0 then (ossuarylaw13_DiskReads.l0 k l0 l1 (([0, 0, 0, 0, 0] : List Int)) 0 t314 t315 t318) else (some false)) = some r := H
  have A6 := Aside0.mk A60; clear A60
  by_cases c7 : t323 = 0
  ·
   rw [if_pos c7] at H
   have c7b0 : (t323 == 0) = true := beq_iff_eq.mpr c7; have c7b1 : (t323 != 0) = false := bne_eq_false_iff_eq.mpr c7; clear c7
   obtain ⟨y324, hy324⟩ : ∃ y_ : List Int, y_ = (([0, 0, 0, 0, 0] : List Int)) := ⟨_, rfl⟩
   replace H : (ossuarylaw13_DiskReads.l0 k l0 l1 y324 0 t314 t315 t318) = some r := by first | (rw [hy324]; with_reducible exact H) | (have H2_ := (Option.bind_some _ _).symm.trans H; rw [hy324]; with_reducible exact H2_) | (have H2_ := (Option.bind_some _ _).symm.trans H; with_reducible exact H2_) | with_reducible exact H | (rw [hy324]; exact H) | exact H
   have Ny324 := Aside0.mk hy324; clear hy324
   have H' := Aside0.mk H
   clear H
   go_enter Try.func4, Try.ntmps4
   go_wp2_with (first | ((with_reducible refine gate_callee (f := 29) rfl ?_); refine goesL_ (some 18) rfl rfl Try.func29 (by kernel_rfl) rfl #[] rfl (by (try simp only [List.map_toArray, List.map_cons, List.map_nil]); first | done | rfl | (simp only [List.length_drop, List.length_take]; rfl)) ?_; (with_reducible refine (ossuarylaw13_awake.calls k  true _ A3.out).mono ?_); rintro e w8 ⟨rfl, hb⟩; refine ⟨_, rfl, ?_⟩; (try replace hb := sq_un hb); have n0_ := sq_st hb HB; clear HB; have HB := n0_; clear n0_; (try clear hb); (try clear hb2); (try clear hk); (try clear hi)) | ((with_reducible refine gate_callee (f := 9) rfl ?_); refine goesL_ (some 21) rfl rfl Try.func9 (by kernel_rfl) rfl #[.int .i64 5] rfl (by (try simp only [List.map_toArray, List.map_cons, List.map_nil]); first | done | rfl | (simp only [List.length_drop, List.length_take]; rfl)) ?_; (with_reducible refine (disk_New.calls k 5 t314 t315 t318 t321 _ A5.out).mono ?_); rintro e w9 ⟨v316, v319, rfl, ho0, ho1, hb⟩; refine ⟨_, rfl, ?_⟩; (try replace hb := sq_un hb); have n0_ := Aside0.mk (Kd.R_lower ho0 (below_size (by repeat (first | (with_reducible first | exact HB.out | apply below_alloc | apply pw_below_drewN | apply below_drew1) | exact HB.out)))); have n1_ := Aside0.mk (Kd.R_lower ho1 (below_size (by repeat (first | (with_reducible first | exact HB.out | apply below_alloc | apply pw_below_drewN | apply below_drew1) | exact HB.out)))); have n2_ := sq_st hb HB; clear HB; have HO317 := n0_; have HO320 := n1_; have HB := n2_; clear n0_ n1_ n2_; (try clear hb); (try clear hb2); (try clear hk); (try clear hi); (try clear ho0); (try clear ho1)) | ((with_reducible refine gate_dst (N := 5) rfl ?_); (try (refine gate_guard (by rfl) ?_; dsimp only)); refine box_event ?hg (N := 5) ?hd (cs := #[.bool false, .slice none 0 0, .slice none 0 0]) (t := 25) ?hr ?_; (case hd => rfl); (case hg => rfl); (case hr => first | (go_simp; done) | (go_simp; rfl)); intro gb322 hg w10 hbox hb; (try replace hb := sq_un hb); have n0_ := sq_rb hb HO317; have n1_ := sq_rb hb HO320; have n2_ := sq_st hb HB; have n3_ := Aside0.mk (hbox); have n4_ := sq_sz HB hg; have n5_ := sq_sz HB hg; clear HO317 HO320 HB; have HO317 := n0_; have HO320 := n1_; have HB := n2_; have BK322 := n3_; have GW322 := n4_; have GE322 := n5_; clear n0_ n1_ n2_ n3_ n4_ n5_; clear hb hbox hg; have hcz11_0 := sq_c0 BK322; have hcz11_1 := sq_c1 BK322; have hcz11_2 := sq_c2 BK322; have hfz11_0 := blk_frozen BK322.out 0; have hfz11_1 := blk_frozen BK322.out 1; have hfz11_2 := blk_frozen BK322.out 2; obtain ⟨Ao12, co12, eo12⟩ := Kd.R_slice HO317.out; subst eo12; obtain ⟨Ao13, co13, eo13⟩ := Kd.R_slice HO320.out; subst eo13) | ((with_reducible refine gate_callee (f := 12) rfl ?_); refine goesL_ (some 25) rfl rfl Try.func12 (by kernel_rfl) rfl #[.int .i64 t321] rfl (by (try simp only [List.map_toArray, List.map_cons, List.map_nil]); first | done | rfl | (simp only [List.length_drop, List.length_take]; rfl)) ?_; (with_reducible refine (ossuarylaw0_Num.calls t321 t323 _ A6.out).mono ?_); rintro e w' ⟨rfl, ⟨nd, rfl⟩⟩; refine ⟨_, rfl, ?_⟩) | ((with_reducible refine gate_dst (N := 27) rfl ?_); (try (refine gate_guard (by rfl) ?_; dsimp only)); refine Kd.R_lit (Kd.int .u8) _ 5 ?hg (N := 27) ?hd (xs := ([0, 0, 0, 0, 0] : List Int)) (inner := [.int .u8 0, .int .u8 0, .int .u8 0, .int .u8 0, .int .u8 0]) (ok := fun _ => True) (okp := fun _ => True) ?hr ?hp (fun _ hk => hk) trivial (Below.refl _ _) (Nat.le_refl _) (by simp) ?_; (case hd => rfl); (case hg => rfl); (case hr => first | (go_simp; done) | (go_simp; rfl)); (case hp => exact (Reps.one (show Kd.M (Kd.int .u8) _ _ _ 0 [.int .u8 0] from rfl) (Reps.one (show Kd.M (Kd.int .u8) _ _ _ 0 [.int .u8 0] from rfl) (Reps.one (show Kd.M (Kd.int .u8) _ _ _ 0 [.int .u8 0] from rfl) (Reps.one (show Kd.M (Kd.int .u8) _ _ _ 0 [.int .u8 0] from rfl) (Reps.one (show Kd.M (Kd.int .u8) _ _ _ 0 [.int .u8 0] from rfl) (Reps.none _ _))))))); intro v325 w14 ho15 hb hg_ hnew_; clear hg_ hnew_; (first | rw [← Ny324.out] at ho15 | (simp only [Int.reduceToNat] at ho15; rw [← Ny324.out] at ho15)); have n0_ := Aside0.mk (Kd.R_below (by (with_reducible repeat (first | apply Kd.R_alloc | apply Kd.R_drewN | apply Kd.R_drew)); exact (sq_f3 HO317 BK322 (by decide))) hb); have n1_ := Aside0.mk (Kd.R_below (by (with_reducible repeat (first | apply Kd.R_alloc | apply Kd.R_drewN | apply Kd.R_drew)); exact (sq_f3 HO320 BK322 (by decide))) hb); have n2_ := Aside0.mk (Kd.R_lower ho15 (below_size (by repeat (first | (with_reducible first | exact HB.out | apply below_alloc | apply pw_below_drewN | apply below_drew1 | refine below_set ?_ GE322.out) | exact HB.out)))); have n3_ := Aside0.mk (blk_below (g := gb322) (o := .cells #[.bool t314, .slice Ao12 t315.length co12, .slice Ao13 t318.length co13] 25 (0, 0)) (by (with_reducible repeat (first | refine blk_drewN ?_ _ | refine blk_drew ?_ | refine blk_alloc ?_ _)); refine blk_put (cs := #[.bool t314, .slice Ao12 t315.length co12, .slice none 0 0]) ?_ 2 _ rfl; (with_reducible repeat (first | refine blk_drewN ?_ _ | refine blk_drew ?_ | refine blk_alloc ?_ _)); refine blk_put (cs := #[.bool t314, .slice none 0 0, .slice none 0 0]) ?_ 1 _ rfl; (with_reducible repeat (first | refine blk_drewN ?_ _ | refine blk_drew ?_ | refine blk_alloc ?_ _)); refine blk_put (cs := #[.bool false, .slice none 0 0, .slice none 0 0]) ?_ 0 _ rfl; (with_reducible repeat (first | refine blk_drewN ?_ _ | refine blk_drew ?_ | refine blk_alloc ?_ _)); exact BK322.out) hb); have n4_ := Aside0.mk (below_step (by repeat (first | (with_reducible first | exact HB.out | apply below_alloc | apply pw_below_drewN | apply below_drew1 | refine below_set ?_ GE322.out) | exact HB.out)) hb); clear HO317 HO320 BK322 HB; have HO317 := n0_; have HO320 := n1_; have HO326 := n2_; have BK322 := n3_; have HB := n4_; clear n0_ n1_ n2_ n3_ n4_; clear hb ho15))
   go_loopg [8] k (fun kq v8 w' => ∃ (x7_1 : List Int) (x8_1 : Int) (x323000_1 : Bool) (x323001_1 : List ByteArray) (x323002_1 : List (S62)) (u323001 : Value) (u323002 : Value), v8 = .int .i64 x8_1 ∧ Aside0 (ossuarylaw13_DiskReads.l0 kq l0 l1 x7_1 x8_1 x323000_1 x323001_1 x323002_1 = some r) ∧ Aside0 (kq ≤ k) ∧ Aside0 (Kd.R (Kd.int .u8) 5 w' w.heap.size (fun _ => True) v325 x7_1) ∧ Aside0 (Kd.R Kd.string 9 w' w.heap.size (fun _ => True) u323001 x323001_1) ∧ Aside0 (Kd.R k62 62 w' w.heap.size (fun _ => True) u323002 x323002_1) ∧ Aside0 (w'.heap[gb322]? = some (.cells #[.bool x323000_1, u323001, u323002] 25 (0, 0))) ∧ Aside0 (Below w.heap.size w w'))
   case atStart => exact ⟨(y324), (0), (t314), (t315), (t318), (.slice Ao12 t315.length co12), (.slice Ao13 t318.length co13), (by first | rfl | (simp; done) | (simp [*]; done)), H', ⟨Nat.le_refl _⟩, ⟨by (with_reducible repeat (first | apply Kd.R_alloc | apply Kd.R_drewN | apply Kd.R_drew)); exact HO326.out⟩, ⟨by (with_reducible repeat (first | apply Kd.R_alloc | apply Kd.R_drewN | apply Kd.R_drew)); exact HO317.out⟩, ⟨by (with_reducible repeat (first | apply Kd.R_alloc | apply Kd.R_drewN | apply Kd.R_drew)); exact HO320.out⟩, ⟨by (with_reducible repeat (first | refine blk_drewN ?_ _ | refine blk_drew ?_ | refine blk_alloc ?_ _)); exact BK322.out⟩, ⟨by repeat (first | (with_reducible first | exact HB.out | apply below_alloc | apply pw_below_drewN | apply below_drew1 | refine below_set ?_ GE322.out) | exact HB.out)⟩⟩
   case round =>
    clear H'
    (try clear c1); (try clear c2); (try clear p2); (try clear c4); (try clear c7); (try clear c7b0); (try clear c7b1); (try clear c9); (try clear c12); (try clear hcz11_0); (try clear hcz11_1); (try clear hcz11_2); (try clear hfz11_0); (try clear hfz11_1); (try clear hfz11_2); obtain ⟨x7_1, x8_1, x323000_1, x323001_1, x323002_1, u323001, u323002, rfl, HA, HK1, HO_7, HO_323001, HO_323002, BK322, HB⟩ := hrel
    cases gk with
    | zero => exact absurd HA.out (by simp [ossuarylaw13_DiskReads.l0])
    | succ k1 =>
     have H := HA.out; clear HA
     simp only [ossuarylaw13_DiskReads.l0] at H
     have HC16 := Aside0.mk H; clear H
     go_upto_region 8 with (fail)
     go_cut [35] (fun v35 wc => ∃ (kq : Nat) (x35_15 : Bool), v35 = .bool x35_15 ∧ Aside0 (ossuarylaw13_DiskReads.j1 kq l0 l1 x7_1 x8_1 x35_15 x323000_1 x323001_1 x323002_1 = some r) ∧ Aside0 (kq ≤ k1) ∧ Aside0 (Kd.R (Kd.int .u8) 5 wc w.heap.size (fun _ => True) v325 x7_1) ∧ Aside0 (Kd.R Kd.string 9 wc w.heap.size (fun _ => True) u323001 x323001_1) ∧ Aside0 (Kd.R k62 62 wc w.heap.size (fun _ => True) u323002 x323002_1) ∧ Aside0 (wc.heap[gb322]? = some (.cells #[.bool x323000_1, u323001, u323002] 25 (0, 0))) ∧ Aside0 (Below w.heap.size w wc))
     case first =>
      have H := HC16.out; clear HC16
      by_cases c17 : x8_1 < (l0.length : Int)
      ·
       rw [if_pos c17] at H
       have c17b0 : decide (x8_1 < (l0.length : Int)) = true := decide_eq_true c17; clear c17
       (first | rw [c17b0] | (simp only [i64_w, i32_w]; rw [c17b0]) | skip)
       have H' := Aside0.mk H
       clear H
       go_wp2
       go_meet
       case rel => exact ⟨_, (decide (x8_1 < 40)), (by first | rfl | (simp; done) | (simp [*]; done)), H', ⟨by have := HK1.out; first | omega | exact Nat.le_refl _⟩, ⟨by (with_reducible repeat (first | apply Kd.R_alloc | apply Kd.R_drewN | apply Kd.R_drew)); exact HO_7.out⟩, ⟨by (with_reducible repeat (first | apply Kd.R_alloc | apply Kd.R_drewN | apply Kd.R_drew)); exact HO_323001.out⟩, ⟨by (with_reducible repeat (first | apply Kd.R_alloc | apply Kd.R_drewN | apply Kd.R_drew)); exact HO_323002.out⟩, ⟨by (with_reducible repeat (first | refine blk_drewN ?_ _ | refine blk_drew ?_ | refine blk_alloc ?_ _)); exact BK322.out⟩, ⟨by repeat (first | (with_reducible first | exact HB.out | apply below_alloc | apply pw_below_drewN | apply below_drew1 | refine below_set ?_ GE322.out) | exact HB.out)⟩⟩
      ·
       rw [if_neg c17] at H
       have c17b0 : decide (x8_1 < (l0.length : Int)) = false := decide_eq_false c17; clear c17
       (first | rw [c17b0] | (simp only [i64_w, i32_w]; rw [c17b0]) | skip)
       have H' := Aside0.mk H
       clear H
       go_wp2
       go_meet
       case rel => exact ⟨_, (false), (by first | rfl | (simp; done) | (simp [*]; done)), H', ⟨by have := HK1.out; first | omega | exact Nat.le_refl _⟩, ⟨by (with_reducible repeat (first | apply Kd.R_alloc | apply Kd.R_drewN | apply Kd.R_drew)); exact HO_7.out⟩, ⟨by (with_reducible repeat (first | apply Kd.R_alloc | apply Kd.R_drewN | apply Kd.R_drew)); exact HO_323001.out⟩, ⟨by (with_reducible repeat (first | apply Kd.R_alloc | apply Kd.R_drewN | apply Kd.R_drew)); exact HO_323002.out⟩, ⟨by (with_reducible repeat (first | refine blk_drewN ?_ _ | refine blk_drew ?_ | refine blk_alloc ?_ _)); exact BK322.out⟩, ⟨by repeat (first | (with_reducible first | exact HB.out | apply below_alloc | apply pw_below_drewN | apply below_drew1 | refine below_set ?_ GE322.out) | exact HB.out)⟩⟩
     case rest =>
      clear HC16; (try clear c1); (try clear c2); (try clear p2); (try clear c4); (try clear c7); (try clear c7b0); (try clear c7b1); (try clear c9); (try clear c12); (try clear c17); (try clear c17b0); (try clear hcz11_0); (try clear hcz11_1); (try clear hcz11_2); (try clear hfz11_0); (try clear hfz11_1); (try clear hfz11_2); (try clear p2); obtain ⟨kq, x35_15, rfl, HA, HJ15, HO_7, HO_323001, HO_323002, BK322, HB⟩ := hcut
      cases kq with
      | zero => exact absurd HA.out (by simp [ossuarylaw13_DiskReads.j1])
      | succ kj15 =>
       have H := HA.out; clear HA
       simp only [ossuarylaw13_DiskReads.j1] at H
       by_cases c18 : x35_15 = true
       ·
        subst c18
        have H1 : (if 0 ≤ x8_1 then (if x8_1 < (l0.length : Int) then ((ossuarylaw13_full.f kj15 ((wrap64 (1 + x8_1)) % 256)).bind fun t328 => ((disk_Write.f x323000_1 x323001_1 x323002_1 (wrap64 (Int.tmod (IntKind.u64.wrap (rd l0 x8_1)) 5)) t328).bind fun bt329 => ((ossuarylaw0_Num.f bt329.2.2.2).bind fun t338 => (if t338 = 0 then (if 0 ≤ (wrap64 (Int.tmod (IntKind.u64.wrap (rd l0 x8_1)) 5)) then (if (wrap64 (Int.tmod (IntKind.u64.wrap (rd l0 x8_1)) 5)) < (x7_1.length : Int) then ((some (x7_1.set ((wrap64 (Int.tmod (IntKind.u64.wrap (rd l0 x8_1)) 5)) : Int).toNat ((wrap64 (1 + x8_1)) % 256) : List Int)).bind fun y339 => (if x8_1 < (l1.length : Int) then (ossuarylaw13_DiskReads.j2 kj15 l0 l1 y339 x8_1 ((Go.bits .and .i64 (rd l1 x8_1) 1) == 1) bt329.1 bt329.2.1 bt329.2.2.1) else (ossuarylaw13_DiskReads.j2 kj15 l0 l1 y339 x8_1 false bt329.1 bt329.2.1 bt329.2.2.1))) else (none)) else (none)) else (some false))))) else (none)) else (none)) = some r := by rw [if_pos rfl] at H; exact H
        clear H
        have H := H1
        clear H1
        by_cases c19 : 0 ≤ x8_1
        ·
         rw [if_pos c19] at H
         have c19b0 : decide (0 ≤ x8_1) = true := decide_eq_true c19; clear c19
         by_cases c20 : x8_1 < (l0.length : Int)
         ·
          rw [if_pos c20] at H
          have c20b0 : decide (x8_1 < (l0.length : Int)) = true := decide_eq_true c20; clear c20; replace H := Option.bind_eq_some_iff.mp H; obtain ⟨t328, A210, H⟩ := H; (try dsimp only at H); have A21 := Aside0.mk A210; clear A210; replace H := Option.bind_eq_some_iff.mp H; obtain ⟨⟨t329, t330, t333, t336⟩, A220, H⟩ := H; (try dsimp only at H); have A22 := Aside0.mk A220; clear A220; replace H := Option.bind_eq_some_iff.mp H; obtain ⟨t338, A230, H⟩ := H; (try dsimp only at H); have A23 := Aside0.mk A230; clear A230
          by_cases c24 : t338 = 0
          ·
           rw [if_pos c24] at H
           have c24b0 : (t338 == 0) = true := beq_iff_eq.mpr c24; have c24b1 : (t338 != 0) = false := bne_eq_false_iff_eq.mpr c24; clear c24
           obtain ⟨ji25, hji25⟩ : ∃ j_ : Int, (wrap64 (Int.tmod (IntKind.u64.wrap (rd l0 x8_1)) 5)) = j_ := ⟨_, rfl⟩
           replace H : (if 0 ≤ (ji25) then (if (ji25) < (x7_1.length : Int) then ((some (x7_1.set ((ji25) : Int).toNat ((wrap64 (1 + x8_1)) % 256) : List Int)).bind fun y339 => (if x8_1 < (l1.length : Int) then (ossuarylaw13_DiskReads.j2 kj15 l0 l1 y339 x8_1 ((Go.bits .and .i64 (rd l1 x8_1) 1) == 1) t329 t330 t333) else (ossuarylaw13_DiskReads.j2 kj15 l0 l1 y339 x8_1 false t329 t330 t333))) else (none)) else (none)) = some r := by first | (rw [hji25] at H; exact H) | (simp only [hji25] at H ⊢; exact H)
           (try rw [hji25] at A21)
           (try rw [hji25] at A22)
           (try rw [hji25] at A23)
           have hji25w : (IntKind.i64.wrap (Int.tmod (IntKind.u64.wrap (rd l0 x8_1)) 5)) = ji25 := (i64_w _).trans hji25
           by_cases c26 : 0 ≤ (ji25)
           ·
            rw [if_pos c26] at H
            have c26b0 : decide (0 ≤ (ji25)) = true := decide_eq_true c26; clear c26
            by_cases c27 : (ji25) < (x7_1.length : Int)
            ·
             rw [if_pos c27] at H
             have c27b0 : decide ((ji25) < (x7_1.length : Int)) = true := decide_eq_true c27; clear c27
             obtain ⟨y339, hy339⟩ : ∃ y_ : List Int, y_ = (x7_1.set ((ji25) : Int).toNat ((wrap64 (1 + x8_1)) % 256)) := ⟨_, rfl⟩
             replace H : (if x8_1 < (l1.length : Int) then (ossuarylaw13_DiskReads.j2 kj15 l0 l1 y339 x8_1 ((Go.bits .and .i64 (rd l1 x8_1) 1) == 1) t329 t330 t333) else (ossuarylaw13_DiskReads.j2 kj15 l0 l1 y339 x8_1 false t329 t330 t333)) = some r := by first | (rw [hy339]; with_reducible exact H) | (have H2_ := (Option.bind_some _ _).symm.trans H; rw [hy339]; with_reducible exact H2_) | (have H2_ := (Option.bind_some _ _).symm.trans H; with_reducible exact H2_) | with_reducible exact H | (rw [hy339]; exact H) | exact H
             have Ny339 := Aside0.mk hy339; clear hy339; have HC29 := Aside0.mk H; clear H
             have p327 : 0 ≤ (x8_1 : Int) := of_decide_eq_true (by first | (with_reducible assumption) | assumption)
             have q327 : x8_1 < (l0.length : Int) := of_decide_eq_true (by first | (with_reducible assumption) | assumption)
             obtain ⟨ad327, e327, hx327_0⟩ := Kd.at_int HR0.out x8_1 p327 q327
             cases e327
             replace hx327_0 := (HB.out.cell (World.block_lt_of_cell? w _ hx327_0)).trans hx327_0
             replace p327 := eq_true p327
             replace q327 := eq_true q327
             obtain ⟨Ao30, co30, eo30⟩ := Kd.R_slice HO_323001.out; subst eo30; obtain ⟨Ao31, co31, eo31⟩ := Kd.R_slice HO_323002.out; subst eo31
             try go_wp2
             have n0_ := Aside0.mk (Kd.R_drew HO_7.out); have n1_ := Aside0.mk (Kd.R_drew HO_323001.out); have n2_ := Aside0.mk (Kd.R_drew HO_323002.out); have n3_ := Aside0.mk (blk_drew BK322.out); have n4_ := Aside0.mk (below_drew1 HB.out); clear HO_7; clear HO_323001; clear HO_323002; clear BK322; clear HB; have HO_7 := n0_; have HO_323001 := n1_; have HO_323002 := n2_; have BK322 := n3_; have HB := n4_; clear n0_ n1_ n2_ n3_ n4_
             refine start_ (n := 11) (S := fun w' => w'.cell? ⟨gb322, 0, none⟩ = some (.bool x323000_1) ∧ w'.cell? ⟨gb322, 1, none⟩ = some (.slice Ao30 x323001_1.length co30) ∧ w'.cell? ⟨gb322, 2, none⟩ = some (.slice Ao31 x323002_1.length co31)) (ds := []) #[false, false, false, false, false, false, false, false, false, false, false] (by kernel_rfl) rfl rfl ⟨(blk_cell BK322.out 0).trans rfl, (blk_cell BK322.out 1).trans rfl, (blk_cell BK322.out 2).trans rfl⟩ (fun hHeld => ?_); refine with_tabW ossuarylaw13_DiskReads.tab12 ossuarylaw13_DiskReads.bits12 (fun HT_ HW_ => ?_)
             generalize wc.drew = w32 at HO_7 HO_323001 HO_323002 BK322 HB hHeld ⊢
             refine pure_ (i := 1) (N := some 50) (v := ?_) (a' := ?_) #[false, true, false, false, false, false, false, false, false, false, false] rfl rfl (any_of HT_.out (by kernel_rfl)) (fun _ _ _ h => h) (Or.inl ⟨by rfl, ?_⟩) ?_ ?_
             rotate_left
             ·
              intro w'
              go_simp
              with_reducible rfl
             rotate_left
             ·
              simp only [Act.put, List.setIfInBounds_toArray, List.set_cons_zero, List.set_cons_succ, i64_w, i32_w]
              rfl
             refine pure_ (i := 2) (N := some 51) (v := ?_) (a' := ?_) #[false, true, true, false, false, false, false, false, false, false, false] rfl rfl (any_of HT_.out (by kernel_rfl)) (fun _ _ _ h => h) (Or.inl ⟨by rfl, ?_⟩) ?_ ?_
             rotate_left
             ·
              intro w'
              go_simp
              with_reducible rfl
             rotate_left
             ·
              simp only [Act.put, List.setIfInBounds_toArray, List.set_cons_zero, List.set_cons_succ, i64_w, i32_w]
              rfl
             refine take_ (i := 0) (N := some 49) (v := ?_) (a' := ?_) #[true, true, true, false, false, false, false, false, false, false, false] rfl rfl (take_ofW HT_.out HW_.out (by kernel_rfl)) (fun _ _ _ h => h) (Or.inl ⟨by rfl, ?_⟩) hHeld ?_ ?_
             rotate_left
             ·
              rintro w' ⟨s0, s1, s2⟩
              go_simp
              with_reducible rfl
             rotate_left
             ·
              simp only [Act.put, List.setIfInBounds_toArray, List.set_cons_zero, List.set_cons_succ, i64_w, i32_w]
              rfl
             refine join_ (σ := Value × Value × Nat) 2 #[true, true, true, true, true, true, true, true, true, false, false] (fun s_ => [(52, .string t328), (53, .tuple #[.agg #[.bool t329, s_.1, s_.2.1], .int .i64 t336]), (11, .pointer (some ⟨s_.2.2, 0, none⟩)), (48, .tuple #[.agg #[.bool t329, s_.1, s_.2.1], .int .i64 t336]), (54, .agg #[.bool t329, s_.1, s_.2.1]), (55, .int .i64 t336)]) (fun s_ w' => (w'.cell? ⟨gb322, 0, none⟩ = some (.bool x323000_1) ∧ w'.cell? ⟨gb322, 1, none⟩ = some (.slice Ao30 x323001_1.length co30) ∧ w'.cell? ⟨gb322, 2, none⟩ = some (.slice Ao31 x323002_1.length co31)) ∧ (Kd.R Kd.string 9 w' w.heap.size (fun k_ => some k_ ≠ (.slice Ao30 x323001_1.length co30 : Value).ownBlock) s_.1 t330) ∧ (Kd.R k62 62 w' w.heap.size (fun k_ => some k_ ≠ (.slice Ao31 x323002_1.length co31 : Value).ownBlock) s_.2.1 t333) ∧ (Kd.R Kd.string 9 w' w.heap.size (fun k_ => some k_ ≠ (s_.1 : Value).ownBlock) (.slice Ao30 x323001_1.length co30) x323001_1) ∧ (Kd.R k62 62 w' w.heap.size (fun k_ => some k_ ≠ (s_.2.1 : Value).ownBlock) (.slice Ao31 x323002_1.length co31) x323002_1) ∧ (Kd.R (Kd.int .u8) 5 w' w.heap.size (fun _ => True) v325 x7_1) ∧ (w'.heap[gb322]? = some (.cells #[.bool x323000_1, .slice Ao30 x323001_1.length co30, .slice Ao31 x323002_1.length co31] 25 (0, 0))) ∧ (w'.heap[s_.2.2]? = some (.cells #[.bool false, .slice none 0 0, .slice none 0 0] 25 (0, 0))) ∧ (w.heap.size ≤ s_.2.2) ∧ (w.heap.size ≤ s_.2.2) ∧ (gb322 ≠ s_.2.2) ∧ (s_.2.2 ≠ gb322) ∧ (Below w.heap.size w w')) ?_ ?_
             rotate_left
             ·
              intro hCont
              refine two_ (i := 3) (j := 8) (Ni := some 52) (Nj := some 11) #[true, true, true, true, false, false, false, false, false, false, false] #[true, true, true, false, false, false, false, false, true, false, false] rfl rfl rfl rfl (two_of HT_.out (by kernel_rfl)) (by decide) (by decide) (fun K hK => ?_) (fun K hK => ?_)
              ·
               skip
               refine goes_ Try.func30 (by kernel_rfl) rfl #[.int .u8 ((wrap64 (1 + x8_1)) % 256)] (by rfl) rfl rfl (by (try simp only [List.map_toArray, List.map_cons, List.map_nil]); first | done | rfl | (simp only [List.length_drop, List.length_take]; rfl)) ?_
               with_reducible refine (ossuarylaw13_full.calls kj15 ((wrap64 (1 + x8_1)) % 256) t328 _ A21.out).mono ?_
               rintro e w33 ⟨rfl, hb⟩
               refine ⟨_, rfl, ?_⟩
               have n0_ := Aside0.mk (Kd.R_below (by (with_reducible repeat (first | apply Kd.R_alloc | apply Kd.R_drewN | apply Kd.R_drew)); exact HO_7.out) hb)
               have n1_ := Aside0.mk (Kd.R_below (by (with_reducible repeat (first | apply Kd.R_alloc | apply Kd.R_drewN | apply Kd.R_drew)); exact HO_323001.out) hb)
               have n2_ := Aside0.mk (Kd.R_below (by (with_reducible repeat (first | apply Kd.R_alloc | apply Kd.R_drewN | apply Kd.R_drew)); exact HO_323002.out) hb)
               have n3_ := Aside0.mk (blk_below (g := gb322) (o := .cells #[.bool x323000_1, .slice Ao30 x323001_1.length co30, .slice Ao31 x323002_1.length co31] 25 (0, 0)) (by (with_reducible repeat (first | refine blk_drewN ?_ _ | refine blk_drew ?_ | refine blk_alloc ?_ _)); exact BK322.out) hb)
               have n4_ := sq_st hb HB; clear HO_7; clear HO_323001; clear HO_323002; clear BK322; clear HB; have HO_7 := n0_; have HO_323001 := n1_; have HO_323002 := n2_; have BK322 := n3_; have HB := n4_; clear n0_ n1_ n2_ n3_ n4_
               (try clear hb)
               (try clear hb2)
               (try clear hk)
               (try clear hi)
               refine hK.out _ _ ⟨(blk_cell BK322.out 0).trans rfl, (blk_cell BK322.out 1).trans rfl, (blk_cell BK322.out 2).trans rfl⟩ (fun hHeld => ?_)
               clear hK K
               refine norm_ (a' := ?_) ?_ ?_
               rotate_left
               ·
                show Act.put _ (some 52) _ = _
                simp only [Act.put, List.setIfInBounds_toArray, List.set_cons_zero, List.set_cons_succ, i64_w, i32_w]
                rfl
               refine two_ (i := 4) (j := 8) (Ni := some 53) (Nj := some 11) #[true, true, true, true, true, false, false, false, false, false, false] #[true, true, true, true, false, false, false, false, true, false, false] rfl rfl rfl rfl (two_of HT_.out (by kernel_rfl)) (by decide) (by decide) (fun K hK => ?_) (fun K hK => ?_)
               ·
                skip
                refine goes_ Try.func16 (by kernel_rfl) rfl #[.agg #[.bool x323000_1, .slice Ao30 x323001_1.length co30, .slice Ao31 x323002_1.length co31], .int .i64 ji25, .string t328] (by rfl) rfl rfl (by (try simp only [List.map_toArray, List.map_cons, List.map_nil]); first | done | (simp only [hji25]; rfl) | rfl | (simp only [List.length_drop, List.length_take]; rfl)) ?_
                with_reducible refine (disk_Write.calls x323000_1 _ _ x323001_1 _ _ x323002_1 ji25 t328 t329 t330 t333 t336 _ ?side1 ?side2 ?side3 ?side4 A22.out).mono ?_
                (case side1 => repeat (first | exact (Kd.R_reads' HO_323001.out).2.2 | (with_reducible refine Kd.C_alloc ?_ _) | (with_reducible refine Kd.C_drewN ?_ _) | (with_reducible refine Kd.C_drew ?_)))
                (case side2 => exact (Kd.R_reads' HO_323001.out).2.1)
                (case side3 => repeat (first | exact (Kd.R_reads' HO_323002.out).2.2 | (with_reducible refine Kd.C_alloc ?_ _) | (with_reducible refine Kd.C_drewN ?_ _) | (with_reducible refine Kd.C_drew ?_)))
                (case side4 => exact (Kd.R_reads' HO_323002.out).2.1)
                rintro e w34 ⟨v331, v334, rfl, ho0, ho1, hb⟩
                refine ⟨_, rfl, ?_⟩
                have n0_ := Aside0.mk (Kd.R_below (by (with_reducible repeat (first | apply Kd.R_alloc | apply Kd.R_drewN | apply Kd.R_drew)); exact HO_7.out) hb)
                have n1_ := Aside0.mk (Kd.R_elder' (by (with_reducible repeat (first | apply Kd.R_alloc | apply Kd.R_drewN | apply Kd.R_drew)); exact HO_323001.out) (Kd.R_base ho0) hb)
                have n2_ := Aside0.mk (Kd.R_elder' (by (with_reducible repeat (first | apply Kd.R_alloc | apply Kd.R_drewN | apply Kd.R_drew)); exact HO_323002.out) (Kd.R_base ho1) hb)
                have n3_ := Aside0.mk (Kd.R_lower (Kd.R_new' ho0 (Kd.R_lt (by (with_reducible repeat (first | apply Kd.R_alloc | apply Kd.R_drewN | apply Kd.R_drew)); exact HO_323001.out))) (below_size (by repeat (first | (with_reducible first | exact HB.out | apply below_alloc | apply pw_below_drewN | apply below_drew1 | refine below_set ?_ GE322.out) | exact HB.out))))
                have n4_ := Aside0.mk (Kd.R_lower (Kd.R_new' ho1 (Kd.R_lt (by (with_reducible repeat (first | apply Kd.R_alloc | apply Kd.R_drewN | apply Kd.R_drew)); exact HO_323002.out))) (below_size (by repeat (first | (with_reducible first | exact HB.out | apply below_alloc | apply pw_below_drewN | apply below_drew1 | refine below_set ?_ GE322.out) | exact HB.out))))
                have n5_ := Aside0.mk (blk_below (g := gb322) (o := .cells #[.bool x323000_1, .slice Ao30 x323001_1.length co30, .slice Ao31 x323002_1.length co31] 25 (0, 0)) (by (with_reducible repeat (first | refine blk_drewN ?_ _ | refine blk_drew ?_ | refine blk_alloc ?_ _)); exact BK322.out) hb)
                have n6_ := sq_st hb HB; clear HO_7; clear HO_323001; clear HO_323002; clear BK322; clear HB; have HO_7 := n0_; have HO_323001 := n1_; have HO_323002 := n2_; have HO332 := n3_; have HO335 := n4_; have BK322 := n5_; have HB := n6_; clear n0_ n1_ n2_ n3_ n4_ n5_ n6_
                (try clear hb)
                (try clear hb2)
                (try clear hk)
                (try clear hi)
                (try clear ho0)
                (try clear ho1)
                refine hK.out _ _ ⟨(blk_cell BK322.out 0).trans rfl, (blk_cell BK322.out 1).trans rfl, (blk_cell BK322.out 2).trans rfl⟩ (fun hHeld => ?_)
                clear hK K
                refine norm_ (a' := ?_) ?_ ?_
                rotate_left
                ·
                 show Act.put _ (some 53) _ = _
                 simp only [Act.put, List.setIfInBounds_toArray, List.set_cons_zero, List.set_cons_succ, i64_w, i32_w]
                 rfl
                refine pure_ (i := 5) (N := some 48) (v := ?_) (a' := ?_) #[true, true, true, true, true, true, false, false, false, false, false] rfl rfl (any_of HT_.out (by kernel_rfl)) (fun _ _ _ h => h) (Or.inl ⟨by rfl, ?_⟩) ?_ ?_
                rotate_left
                ·
                 intro w'
                 go_simp
                 with_reducible rfl
                rotate_left
                ·
                 simp only [Act.put, List.setIfInBounds_toArray, List.set_cons_zero, List.set_cons_succ, i64_w, i32_w]
                 rfl
                refine pure_ (i := 6) (N := some 54) (v := ?_) (a' := ?_) #[true, true, true, true, true, true, true, false, false, false, false] rfl rfl (any_of HT_.out (by kernel_rfl)) (fun _ _ _ h => h) (Or.inl ⟨by rfl, ?_⟩) ?_ ?_
                rotate_left
                ·
                 intro w'
                 go_simp
                 with_reducible rfl
                rotate_left
                ·
                 simp only [Act.put, List.setIfInBounds_toArray, List.set_cons_zero, List.set_cons_succ, i64_w, i32_w]
                 rfl
                refine pure_ (i := 7) (N := some 55) (v := ?_) (a' := ?_) #[true, true, true, true, true, true, true, true, false, false, false] rfl rfl (any_of HT_.out (by kernel_rfl)) (fun _ _ _ h => h) (Or.inl ⟨by rfl, ?_⟩) ?_ ?_
                rotate_left
                ·
                 intro w'
                 go_simp
                 with_reducible rfl
                rotate_left
                ·
                 simp only [Act.put, List.setIfInBounds_toArray, List.set_cons_zero, List.set_cons_succ, i64_w, i32_w]
                 rfl
                refine one_ (i := 8) (N := some 11) #[true, true, true, true, true, true, true, true, true, false, false] rfl rfl (one_of HT_.out (by kernel_rfl)) (by decide) (fun K hK => ?_)
                refine box_step ?hg (N := 11) ?hd (cs := #[.bool false, .slice none 0 0, .slice none 0 0]) (t := 25) ?hr ?_; (case hd => rfl); (case hg => rfl); (case hr => first | (go_simp; done) | (go_simp; rfl))
                intro gb337 hg w35 hbox hb
                have n0_ := Aside0.mk (Kd.R_below (by (with_reducible repeat (first | apply Kd.R_alloc | apply Kd.R_drewN | apply Kd.R_drew)); exact HO_7.out) hb)
                have n1_ := Aside0.mk (Kd.R_below (by (with_reducible repeat (first | apply Kd.R_alloc | apply Kd.R_drewN | apply Kd.R_drew)); exact HO_323001.out) hb)
                have n2_ := Aside0.mk (Kd.R_below (by (with_reducible repeat (first | apply Kd.R_alloc | apply Kd.R_drewN | apply Kd.R_drew)); exact HO_323002.out) hb)
                have n3_ := Aside0.mk (Kd.R_below (by (with_reducible repeat (first | apply Kd.R_alloc | apply Kd.R_drewN | apply Kd.R_drew)); exact HO332.out) hb)
                have n4_ := Aside0.mk (Kd.R_below (by (with_reducible repeat (first | apply Kd.R_alloc | apply Kd.R_drewN | apply Kd.R_drew)); exact HO335.out) hb)
                have n5_ := Aside0.mk (blk_below (g := gb322) (o := .cells #[.bool x323000_1, .slice Ao30 x323001_1.length co30, .slice Ao31 x323002_1.length co31] 25 (0, 0)) (by (with_reducible repeat (first | refine blk_drewN ?_ _ | refine blk_drew ?_ | refine blk_alloc ?_ _)); exact BK322.out) hb)
                have n6_ := sq_st hb HB; have n7_ := Aside0.mk (hbox)
                have n8_ := Aside0.mk ((by rw [hg]; exact (below_size (by repeat (first | (with_reducible first | exact HB.out | apply below_alloc | apply pw_below_drewN | apply below_drew1 | refine below_set ?_ GE322.out) | exact HB.out))) : w.heap.size ≤ gb337))
                have n9_ := Aside0.mk ((by rw [hg]; exact (below_size (by repeat (first | (with_reducible first | exact HB.out | apply below_alloc | apply pw_below_drewN | apply below_drew1 | refine below_set ?_ GE322.out) | exact HB.out))) : w.heap.size ≤ gb337))
                have n10_ := Aside0.mk ((by rw [hg]; exact Nat.ne_of_lt (blk_lt (g := gb322) (o := .cells #[.bool x323000_1, .slice Ao30 x323001_1.length co30, .slice Ao31 x323002_1.length co31] 25 (0, 0)) (by (with_reducible repeat (first | refine blk_drewN ?_ _ | refine blk_drew ?_ | refine blk_alloc ?_ _)); exact BK322.out)) : gb322 ≠ gb337))
                have n11_ := Aside0.mk ((by rw [hg]; exact Nat.ne_of_gt (blk_lt (g := gb322) (o := .cells #[.bool x323000_1, .slice Ao30 x323001_1.length co30, .slice Ao31 x323002_1.length co31] 25 (0, 0)) (by (with_reducible repeat (first | refine blk_drewN ?_ _ | refine blk_drew ?_ | refine blk_alloc ?_ _)); exact BK322.out)) : gb337 ≠ gb322))
                clear HO_7; clear HO_323001; clear HO_323002; clear HO332; clear HO335; clear BK322; clear HB; have HO_7 := n0_; have HO_323001 := n1_; have HO_323002 := n2_; have HO332 := n3_; have HO335 := n4_; have BK322 := n5_; have HB := n6_; have BK337 := n7_; have GW337 := n8_; have GE337 := n9_; have NB322_337 := n10_; have NB337_322 := n11_; clear n0_ n1_ n2_ n3_ n4_ n5_ n6_ n7_ n8_ n9_ n10_ n11_; clear hb hbox hg
                refine hK.out _ _ ⟨(blk_cell BK322.out 0).trans rfl, (blk_cell BK322.out 1).trans rfl, (blk_cell BK322.out 2).trans rfl⟩ (fun hHeld => ?_)
                clear hK K
                refine norm_ (a' := ?_) ?_ ?_
                rotate_left
                ·
                 show Act.put _ (some 11) _ = _
                 simp only [Act.put, List.setIfInBounds_toArray, List.set_cons_zero, List.set_cons_succ, i64_w, i32_w]
                 rfl
                exact norm_ (by simp only [putAll, Act.put, List.setIfInBounds_toArray, List.set_cons_zero, List.set_cons_succ]) (hCont (v331, v334, gb337) _ ⟨hHeld, (by (with_reducible repeat (first | apply Kd.R_alloc | apply Kd.R_drewN | apply Kd.R_drew)); exact Kd.R_mono HO332.out (fun _ hk => hk.2)), (by (with_reducible repeat (first | apply Kd.R_alloc | apply Kd.R_drewN | apply Kd.R_drew)); exact Kd.R_mono HO335.out (fun _ hk => hk.2)), (by (with_reducible repeat (first | apply Kd.R_alloc | apply Kd.R_drewN | apply Kd.R_drew)); exact Kd.R_mono HO_323001.out (fun _ hk => hk.2)), (by (with_reducible repeat (first | apply Kd.R_alloc | apply Kd.R_drewN | apply Kd.R_drew)); exact Kd.R_mono HO_323002.out (fun _ hk => hk.2)), (by (with_reducible repeat (first | apply Kd.R_alloc | apply Kd.R_drewN | apply Kd.R_drew)); exact HO_7.out), (by (with_reducible repeat (first | refine blk_drewN ?_ _ | refine blk_drew ?_ | refine blk_alloc ?_ _)); exact BK322.out), (by (with_reducible repeat (first | refine blk_drewN ?_ _ | refine blk_drew ?_ | refine blk_alloc ?_ _)); exact BK337.out), GW337.out, GE337.out, NB322_337.out, NB337_322.out, (by repeat (first | (with_reducible first | exact HB.out | apply below_alloc | apply pw_below_drewN | apply below_drew1 | refine below_set ?_ GE322.out | refine below_set ?_ GE337.out) | exact HB.out))⟩)
               ·
                skip
                refine box_step ?hg (N := 11) ?hd (cs := #[.bool false, .slice none 0 0, .slice none 0 0]) (t := 25) ?hr ?_; (case hd => rfl); (case hg => rfl); (case hr => first | (go_simp; done) | (go_simp; rfl))
                intro gb337 hg w34 hbox hb
                have n0_ := Aside0.mk (Kd.R_below (by (with_reducible repeat (first | apply Kd.R_alloc | apply Kd.R_drewN | apply Kd.R_drew)); exact HO_7.out) hb)
                have n1_ := Aside0.mk (Kd.R_below (by (with_reducible repeat (first | apply Kd.R_alloc | apply Kd.R_drewN | apply Kd.R_drew)); exact HO_323001.out) hb)
                have n2_ := Aside0.mk (Kd.R_below (by (with_reducible repeat (first | apply Kd.R_alloc | apply Kd.R_drewN | apply Kd.R_drew)); exact HO_323002.out) hb)
                have n3_ := Aside0.mk (blk_below (g := gb322) (o := .cells #[.bool x323000_1, .slice Ao30 x323001_1.length co30, .slice Ao31 x323002_1.length co31] 25 (0, 0)) (by (with_reducible repeat (first | refine blk_drewN ?_ _ | refine blk_drew ?_ | refine blk_alloc ?_ _)); exact BK322.out) hb)
                have n4_ := sq_st hb HB; have n5_ := Aside0.mk (hbox)
                have n6_ := Aside0.mk ((by rw [hg]; exact (below_size (by repeat (first | (with_reducible first | exact HB.out | apply below_alloc | apply pw_below_drewN | apply below_drew1 | refine below_set ?_ GE322.out) | exact HB.out))) : w.heap.size ≤ gb337))
                have n7_ := Aside0.mk ((by rw [hg]; exact (below_size (by repeat (first | (with_reducible first | exact HB.out | apply below_alloc | apply pw_below_drewN | apply below_drew1 | refine below_set ?_ GE322.out) | exact HB.out))) : w.heap.size ≤ gb337))
                have n8_ := Aside0.mk ((by rw [hg]; exact Nat.ne_of_lt (blk_lt (g := gb322) (o := .cells #[.bool x323000_1, .slice Ao30 x323001_1.length co30, .slice Ao31 x323002_1.length co31] 25 (0, 0)) (by (with_reducible repeat (first | refine blk_drewN ?_ _ | refine blk_drew ?_ | refine blk_alloc ?_ _)); exact BK322.out)) : gb322 ≠ gb337))
                have n9_ := Aside0.mk ((by rw [hg]; exact Nat.ne_of_gt (blk_lt (g := gb322) (o := .cells #[.bool x323000_1, .slice Ao30 x323001_1.length co30, .slice Ao31 x323002_1.length co31] 25 (0, 0)) (by (with_reducible repeat (first | refine blk_drewN ?_ _ | refine blk_drew ?_ | refine blk_alloc ?_ _)); exact BK322.out)) : gb337 ≠ gb322))
                clear HO_7; clear HO_323001; clear HO_323002; clear BK322; clear HB; have HO_7 := n0_; have HO_323001 := n1_; have HO_323002 := n2_; have BK322 := n3_; have HB := n4_; have BK337 := n5_; have GW337 := n6_; have GE337 := n7_; have NB322_337 := n8_; have NB337_322 := n9_; clear n0_ n1_ n2_ n3_ n4_ n5_ n6_ n7_ n8_ n9_; clear hb hbox hg
                refine hK.out _ _ ⟨(blk_cell BK322.out 0).trans rfl, (blk_cell BK322.out 1).trans rfl, (blk_cell BK322.out 2).trans rfl⟩ (fun hHeld => ?_)
                clear hK K
                refine norm_ (a' := ?_) ?_ ?_
                rotate_left
                ·
                 show Act.put _ (some 11) _ = _
                 simp only [Act.put, List.setIfInBounds_toArray, List.set_cons_zero, List.set_cons_succ, i64_w, i32_w]
                 rfl
                refine one_ (i := 4) (N := some 53) #[true, true, true, true, true, false, false, false, true, false, false] rfl rfl (one_of HT_.out (by kernel_rfl)) (by decide) (fun K hK => ?_)
                refine goes_ Try.func16 (by kernel_rfl) rfl #[.agg #[.bool x323000_1, .slice Ao30 x323001_1.length co30, .slice Ao31 x323002_1.length co31], .int .i64 ji25, .string t328] (by rfl) rfl rfl (by (try simp only [List.map_toArray, List.map_cons, List.map_nil]); first | done | (simp only [hji25]; rfl) | rfl | (simp only [List.length_drop, List.length_take]; rfl)) ?_
                with_reducible refine (disk_Write.calls x323000_1 _ _ x323001_1 _ _ x323002_1 ji25 t328 t329 t330 t333 t336 _ ?side1 ?side2 ?side3 ?side4 A22.out).mono ?_
                (case side1 => repeat (first | exact (Kd.R_reads' HO_323001.out).2.2 | (with_reducible refine Kd.C_alloc ?_ _) | (with_reducible refine Kd.C_drewN ?_ _) | (with_reducible refine Kd.C_drew ?_)))
                (case side2 => exact (Kd.R_reads' HO_323001.out).2.1)
                (case side3 => repeat (first | exact (Kd.R_reads' HO_323002.out).2.2 | (with_reducible refine Kd.C_alloc ?_ _) | (with_reducible refine Kd.C_drewN ?_ _) | (with_reducible refine Kd.C_drew ?_)))
                (case side4 => exact (Kd.R_reads' HO_323002.out).2.1)
                rintro e w35 ⟨v331, v334, rfl, ho0, ho1, hb⟩
                refine ⟨_, rfl, ?_⟩
                have n0_ := Aside0.mk (Kd.R_below (by (with_reducible repeat (first | apply Kd.R_alloc | apply Kd.R_drewN | apply Kd.R_drew)); exact HO_7.out) hb)
                have n1_ := Aside0.mk (Kd.R_elder' (by (with_reducible repeat (first | apply Kd.R_alloc | apply Kd.R_drewN | apply Kd.R_drew)); exact HO_323001.out) (Kd.R_base ho0) hb)
                have n2_ := Aside0.mk (Kd.R_elder' (by (with_reducible repeat (first | apply Kd.R_alloc | apply Kd.R_drewN | apply Kd.R_drew)); exact HO_323002.out) (Kd.R_base ho1) hb)
                have n3_ := Aside0.mk (Kd.R_lower (Kd.R_new' ho0 (Kd.R_lt (by (with_reducible repeat (first | apply Kd.R_alloc | apply Kd.R_drewN | apply Kd.R_drew)); exact HO_323001.out))) (below_size (by repeat (first | (with_reducible first | exact HB.out | apply below_alloc | apply pw_below_drewN | apply below_drew1 | refine below_set ?_ GE322.out | refine below_set ?_ GE337.out) | exact HB.out))))
                have n4_ := Aside0.mk (Kd.R_lower (Kd.R_new' ho1 (Kd.R_lt (by (with_reducible repeat (first | apply Kd.R_alloc | apply Kd.R_drewN | apply Kd.R_drew)); exact HO_323002.out))) (below_size (by repeat (first | (with_reducible first | exact HB.out | apply below_alloc | apply pw_below_drewN | apply below_drew1 | refine below_set ?_ GE322.out | refine below_set ?_ GE337.out) | exact HB.out))))
                have n5_ := Aside0.mk (blk_below (g := gb322) (o := .cells #[.bool x323000_1, .slice Ao30 x323001_1.length co30, .slice Ao31 x323002_1.length co31] 25 (0, 0)) (by (with_reducible repeat (first | refine blk_drewN ?_ _ | refine blk_drew ?_ | refine blk_alloc ?_ _)); exact BK322.out) hb)
                have n6_ := Aside0.mk (blk_below (g := gb337) (o := .cells #[.bool false, .slice none 0 0, .slice none 0 0] 25 (0, 0)) (by (with_reducible repeat (first | refine blk_drewN ?_ _ | refine blk_drew ?_ | refine blk_alloc ?_ _)); exact BK337.out) hb)
                have n7_ := sq_st hb HB; clear HO_7; clear HO_323001; clear HO_323002; clear BK322; clear BK337; clear HB; have HO_7 := n0_; have HO_323001 := n1_; have HO_323002 := n2_; have HO332 := n3_; have HO335 := n4_; have BK322 := n5_; have BK337 := n6_; have HB := n7_; clear n0_ n1_ n2_ n3_ n4_ n5_ n6_ n7_
                (try clear hb)
                (try clear hb2)
                (try clear hk)
                (try clear hi)
                (try clear ho0)
                (try clear ho1)
                refine hK.out _ _ ⟨(blk_cell BK322.out 0).trans rfl, (blk_cell BK322.out 1).trans rfl, (blk_cell BK322.out 2).trans rfl⟩ (fun hHeld => ?_)
                clear hK K
                refine norm_ (a' := ?_) ?_ ?_
                rotate_left
                ·
                 show Act.put _ (some 53) _ = _
                 simp only [Act.put, List.setIfInBounds_toArray, List.set_cons_zero, List.set_cons_succ, i64_w, i32_w]
                 rfl
                refine pure_ (i := 5) (N := some 48) (v := ?_) (a' := ?_) #[true, true, true, true, true, true, false, false, true, false, false] rfl rfl (any_of HT_.out (by kernel_rfl)) (fun _ _ _ h => h) (Or.inl ⟨by rfl, ?_⟩) ?_ ?_
                rotate_left
                ·
                 intro w'
                 go_simp
                 with_reducible rfl
                rotate_left
                ·
                 simp only [Act.put, List.setIfInBounds_toArray, List.set_cons_zero, List.set_cons_succ, i64_w, i32_w]
                 rfl
                refine pure_ (i := 6) (N := some 54) (v := ?_) (a' := ?_) #[true, true, true, true, true, true, true, false, true, false, false] rfl rfl (any_of HT_.out (by kernel_rfl)) (fun _ _ _ h => h) (Or.inl ⟨by rfl, ?_⟩) ?_ ?_
                rotate_left
                ·
                 intro w'
                 go_simp
                 with_reducible rfl
                rotate_left
                ·
                 simp only [Act.put, List.setIfInBounds_toArray, List.set_cons_zero, List.set_cons_succ, i64_w, i32_w]
                 rfl
                refine pure_ (i := 7) (N := some 55) (v := ?_) (a' := ?_) #[true, true, true, true, true, true, true, true, true, false, false] rfl rfl (any_of HT_.out (by kernel_rfl)) (fun _ _ _ h => h) (Or.inl ⟨by rfl, ?_⟩) ?_ ?_
                rotate_left
                ·
                 intro w'
                 go_simp
                 with_reducible rfl
                rotate_left
                ·
                 simp only [Act.put, List.setIfInBounds_toArray, List.set_cons_zero, List.set_cons_succ, i64_w, i32_w]
                 rfl
                exact norm_ (by simp only [putAll, Act.put, List.setIfInBounds_toArray, List.set_cons_zero, List.set_cons_succ]) (hCont (v331, v334, gb337) _ ⟨hHeld, (by (with_reducible repeat (first | apply Kd.R_alloc | apply Kd.R_drewN | apply Kd.R_drew)); exact Kd.R_mono HO332.out (fun _ hk => hk.2)), (by (with_reducible repeat (first | apply Kd.R_alloc | apply Kd.R_drewN | apply Kd.R_drew)); exact Kd.R_mono HO335.out (fun _ hk => hk.2)), (by (with_reducible repeat (first | apply Kd.R_alloc | apply Kd.R_drewN | apply Kd.R_drew)); exact Kd.R_mono HO_323001.out (fun _ hk => hk.2)), (by (with_reducible repeat (first | apply Kd.R_alloc | apply Kd.R_drewN | apply Kd.R_drew)); exact Kd.R_mono HO_323002.out (fun _ hk => hk.2)), (by (with_reducible repeat (first | apply Kd.R_alloc | apply Kd.R_drewN | apply Kd.R_drew)); exact HO_7.out), (by (with_reducible repeat (first | refine blk_drewN ?_ _ | refine blk_drew ?_ | refine blk_alloc ?_ _)); exact BK322.out), (by (with_reducible repeat (first | refine blk_drewN ?_ _ | refine blk_drew ?_ | refine blk_alloc ?_ _)); exact BK337.out), GW337.out, GE337.out, NB322_337.out, NB337_322.out, (by repeat (first | (with_reducible first | exact HB.out | apply below_alloc | apply pw_below_drewN | apply below_drew1 | refine below_set ?_ GE322.out | refine below_set ?_ GE337.out) | exact HB.out))⟩)
              ·
               skip
               refine box_step ?hg (N := 11) ?hd (cs := #[.bool false, .slice none 0 0, .slice none 0 0]) (t := 25) ?hr ?_; (case hd => rfl); (case hg => rfl); (case hr => first | (go_simp; done) | (go_simp; rfl))
               intro gb337 hg w33 hbox hb
               have n0_ := Aside0.mk (Kd.R_below (by (with_reducible repeat (first | apply Kd.R_alloc | apply Kd.R_drewN | apply Kd.R_drew)); exact HO_7.out) hb)
               have n1_ := Aside0.mk (Kd.R_below (by (with_reducible repeat (first | apply Kd.R_alloc | apply Kd.R_drewN | apply Kd.R_drew)); exact HO_323001.out) hb)
               have n2_ := Aside0.mk (Kd.R_below (by (with_reducible repeat (first | apply Kd.R_alloc | apply Kd.R_drewN | apply Kd.R_drew)); exact HO_323002.out) hb)
               have n3_ := Aside0.mk (blk_below (g := gb322) (o := .cells #[.bool x323000_1, .slice Ao30 x323001_1.length co30, .slice Ao31 x323002_1.length co31] 25 (0, 0)) (by (with_reducible repeat (first | refine blk_drewN ?_ _ | refine blk_drew ?_ | refine blk_alloc ?_ _)); exact BK322.out) hb)
               have n4_ := sq_st hb HB; have n5_ := Aside0.mk (hbox)
               have n6_ := Aside0.mk ((by rw [hg]; exact (below_size (by repeat (first | (with_reducible first | exact HB.out | apply below_alloc | apply pw_below_drewN | apply below_drew1 | refine below_set ?_ GE322.out) | exact HB.out))) : w.heap.size ≤ gb337))
               have n7_ := Aside0.mk ((by rw [hg]; exact (below_size (by repeat (first | (with_reducible first | exact HB.out | apply below_alloc | apply pw_below_drewN | apply below_drew1 | refine below_set ?_ GE322.out) | exact HB.out))) : w.heap.size ≤ gb337))
               have n8_ := Aside0.mk ((by rw [hg]; exact Nat.ne_of_lt (blk_lt (g := gb322) (o := .cells #[.bool x323000_1, .slice Ao30 x323001_1.length co30, .slice Ao31 x323002_1.length co31] 25 (0, 0)) (by (with_reducible repeat (first | refine blk_drewN ?_ _ | refine blk_drew ?_ | refine blk_alloc ?_ _)); exact BK322.out)) : gb322 ≠ gb337))
               have n9_ := Aside0.mk ((by rw [hg]; exact Nat.ne_of_gt (blk_lt (g := gb322) (o := .cells #[.bool x323000_1, .slice Ao30 x323001_1.length co30, .slice Ao31 x323002_1.length co31] 25 (0, 0)) (by (with_reducible repeat (first | refine blk_drewN ?_ _ | refine blk_drew ?_ | refine blk_alloc ?_ _)); exact BK322.out)) : gb337 ≠ gb322))
               clear HO_7; clear HO_323001; clear HO_323002; clear BK322; clear HB; have HO_7 := n0_; have HO_323001 := n1_; have HO_323002 := n2_; have BK322 := n3_; have HB := n4_; have BK337 := n5_; have GW337 := n6_; have GE337 := n7_; have NB322_337 := n8_; have NB337_322 := n9_; clear n0_ n1_ n2_ n3_ n4_ n5_ n6_ n7_ n8_ n9_; clear hb hbox hg
               refine hK.out _ _ ⟨(blk_cell BK322.out 0).trans rfl, (blk_cell BK322.out 1).trans rfl, (blk_cell BK322.out 2).trans rfl⟩ (fun hHeld => ?_)
               clear hK K
               refine norm_ (a' := ?_) ?_ ?_
               rotate_left
               ·
                show Act.put _ (some 11) _ = _
                simp only [Act.put, List.setIfInBounds_toArray, List.set_cons_zero, List.set_cons_succ, i64_w, i32_w]
                rfl
               refine one_ (i := 3) (N := some 52) #[true, true, true, true, false, false, false, false, true, false, false] rfl rfl (one_of HT_.out (by kernel_rfl)) (by decide) (fun K hK => ?_)
               refine goes_ Try.func30 (by kernel_rfl) rfl #[.int .u8 ((wrap64 (1 + x8_1)) % 256)] (by rfl) rfl rfl (by (try simp only [List.map_toArray, List.map_cons, List.map_nil]); first | done | rfl | (simp only [List.length_drop, List.length_take]; rfl)) ?_
               with_reducible refine (ossuarylaw13_full.calls kj15 ((wrap64 (1 + x8_1)) % 256) t328 _ A21.out).mono ?_
               rintro e w34 ⟨rfl, hb⟩
               refine ⟨_, rfl, ?_⟩
               have n0_ := Aside0.mk (Kd.R_below (by (with_reducible repeat (first | apply Kd.R_alloc | apply Kd.R_drewN | apply Kd.R_drew)); exact HO_7.out) hb)
               have n1_ := Aside0.mk (Kd.R_below (by (with_reducible repeat (first | apply Kd.R_alloc | apply Kd.R_drewN | apply Kd.R_drew)); exact HO_323001.out) hb)
               have n2_ := Aside0.mk (Kd.R_below (by (with_reducible repeat (first | apply Kd.R_alloc | apply Kd.R_drewN | apply Kd.R_drew)); exact HO_323002.out) hb)
               have n3_ := Aside0.mk (blk_below (g := gb322) (o := .cells #[.bool x323000_1, .slice Ao30 x323001_1.length co30, .slice Ao31 x323002_1.length co31] 25 (0, 0)) (by (with_reducible repeat (first | refine blk_drewN ?_ _ | refine blk_drew ?_ | refine blk_alloc ?_ _)); exact BK322.out) hb)
               have n4_ := Aside0.mk (blk_below (g := gb337) (o := .cells #[.bool false, .slice none 0 0, .slice none 0 0] 25 (0, 0)) (by (with_reducible repeat (first | refine blk_drewN ?_ _ | refine blk_drew ?_ | refine blk_alloc ?_ _)); exact BK337.out) hb)
               have n5_ := sq_st hb HB; clear HO_7; clear HO_323001; clear HO_323002; clear BK322; clear BK337; clear HB; have HO_7 := n0_; have HO_323001 := n1_; have HO_323002 := n2_; have BK322 := n3_; have BK337 := n4_; have HB := n5_; clear n0_ n1_ n2_ n3_ n4_ n5_
               (try clear hb)
               (try clear hb2)
               (try clear hk)
               (try clear hi)
               refine hK.out _ _ ⟨(blk_cell BK322.out 0).trans rfl, (blk_cell BK322.out 1).trans rfl, (blk_cell BK322.out 2).trans rfl⟩ (fun hHeld => ?_)
               clear hK K
               refine norm_ (a' := ?_) ?_ ?_
               rotate_left
               ·
                show Act.put _ (some 52) _ = _
                simp only [Act.put, List.setIfInBounds_toArray, List.set_cons_zero, List.set_cons_succ, i64_w, i32_w]
                rfl
               refine one_ (i := 4) (N := some 53) #[true, true, true, true, true, false, false, false, true, false, false] rfl rfl (one_of HT_.out (by kernel_rfl)) (by decide) (fun K hK => ?_)
               refine goes_ Try.func16 (by kernel_rfl) rfl #[.agg #[.bool x323000_1, .slice Ao30 x323001_1.length co30, .slice Ao31 x323002_1.length co31], .int .i64 ji25, .string t328] (by rfl) rfl rfl (by (try simp only [List.map_toArray, List.map_cons, List.map_nil]); first | done | (simp only [hji25]; rfl) | rfl | (simp only [List.length_drop, List.length_take]; rfl)) ?_
               with_reducible refine (disk_Write.calls x323000_1 _ _ x323001_1 _ _ x323002_1 ji25 t328 t329 t330 t333 t336 _ ?side1 ?side2 ?side3 ?side4 A22.out).mono ?_
               (case side1 => repeat (first | exact (Kd.R_reads' HO_323001.out).2.2 | (with_reducible refine Kd.C_alloc ?_ _) | (with_reducible refine Kd.C_drewN ?_ _) | (with_reducible refine Kd.C_drew ?_)))
               (case side2 => exact (Kd.R_reads' HO_323001.out).2.1)
               (case side3 => repeat (first | exact (Kd.R_reads' HO_323002.out).2.2 | (with_reducible refine Kd.C_alloc ?_ _) | (with_reducible refine Kd.C_drewN ?_ _) | (with_reducible refine Kd.C_drew ?_)))
               (case side4 => exact (Kd.R_reads' HO_323002.out).2.1)
               rintro e w35 ⟨v331, v334, rfl, ho0, ho1, hb⟩
               refine ⟨_, rfl, ?_⟩
               have n0_ := Aside0.mk (Kd.R_below (by (with_reducible repeat (first | apply Kd.R_alloc | apply Kd.R_drewN | apply Kd.R_drew)); exact HO_7.out) hb)
               have n1_ := Aside0.mk (Kd.R_elder' (by (with_reducible repeat (first | apply Kd.R_alloc | apply Kd.R_drewN | apply Kd.R_drew)); exact HO_323001.out) (Kd.R_base ho0) hb)
               have n2_ := Aside0.mk (Kd.R_elder' (by (with_reducible repeat (first | apply Kd.R_alloc | apply Kd.R_drewN | apply Kd.R_drew)); exact HO_323002.out) (Kd.R_base ho1) hb)
               have n3_ := Aside0.mk (Kd.R_lower (Kd.R_new' ho0 (Kd.R_lt (by (with_reducible repeat (first | apply Kd.R_alloc | apply Kd.R_drewN | apply Kd.R_drew)); exact HO_323001.out))) (below_size (by repeat (first | (with_reducible first | exact HB.out | apply below_alloc | apply pw_below_drewN | apply below_drew1 | refine below_set ?_ GE322.out | refine below_set ?_ GE337.out) | exact HB.out))))
               have n4_ := Aside0.mk (Kd.R_lower (Kd.R_new' ho1 (Kd.R_lt (by (with_reducible repeat (first | apply Kd.R_alloc | apply Kd.R_drewN | apply Kd.R_drew)); exact HO_323002.out))) (below_size (by repeat (first | (with_reducible first | exact HB.out | apply below_alloc | apply pw_below_drewN | apply below_drew1 | refine below_set ?_ GE322.out | refine below_set ?_ GE337.out) | exact HB.out))))
               have n5_ := Aside0.mk (blk_below (g := gb322) (o := .cells #[.bool x323000_1, .slice Ao30 x323001_1.length co30, .slice Ao31 x323002_1.length co31] 25 (0, 0)) (by (with_reducible repeat (first | refine blk_drewN ?_ _ | refine blk_drew ?_ | refine blk_alloc ?_ _)); exact BK322.out) hb)
               have n6_ := Aside0.mk (blk_below (g := gb337) (o := .cells #[.bool false, .slice none 0 0, .slice none 0 0] 25 (0, 0)) (by (with_reducible repeat (first | refine blk_drewN ?_ _ | refine blk_drew ?_ | refine blk_alloc ?_ _)); exact BK337.out) hb)
               have n7_ := sq_st hb HB; clear HO_7; clear HO_323001; clear HO_323002; clear BK322; clear BK337; clear HB; have HO_7 := n0_; have HO_323001 := n1_; have HO_323002 := n2_; have HO332 := n3_; have HO335 := n4_; have BK322 := n5_; have BK337 := n6_; have HB := n7_; clear n0_ n1_ n2_ n3_ n4_ n5_ n6_ n7_
               (try clear hb)
               (try clear hb2)
               (try clear hk)
               (try clear hi)
               (try clear ho0)
               (try clear ho1)
               refine hK.out _ _ ⟨(blk_cell BK322.out 0).trans rfl, (blk_cell BK322.out 1).trans rfl, (blk_cell BK322.out 2).trans rfl⟩ (fun hHeld => ?_)
               clear hK K
               refine norm_ (a' := ?_) ?_ ?_
               rotate_left
               ·
                show Act.put _ (some 53) _ = _
                simp only [Act.put, List.setIfInBounds_toArray, List.set_cons_zero, List.set_cons_succ, i64_w, i32_w]
                rfl
               refine pure_ (i := 5) (N := some 48) (v := ?_) (a' := ?_) #[true, true, true, true, true, true, false, false, true, false, false] rfl rfl (any_of HT_.out (by kernel_rfl)) (fun _ _ _ h => h) (Or.inl ⟨by rfl, ?_⟩) ?_ ?_
               rotate_left
               ·
                intro w'
                go_simp
                with_reducible rfl
               rotate_left
               ·
                simp only [Act.put, List.setIfInBounds_toArray, List.set_cons_zero, List.set_cons_succ, i64_w, i32_w]
                rfl
               refine pure_ (i := 6) (N := some 54) (v := ?_) (a' := ?_) #[true, true, true, true, true, true, true, false, true, false, false] rfl rfl (any_of HT_.out (by kernel_rfl)) (fun _ _ _ h => h) (Or.inl ⟨by rfl, ?_⟩) ?_ ?_
               rotate_left
               ·
                intro w'
                go_simp
                with_reducible rfl
               rotate_left
               ·
                simp only [Act.put, List.setIfInBounds_toArray, List.set_cons_zero, List.set_cons_succ, i64_w, i32_w]
                rfl
               refine pure_ (i := 7) (N := some 55) (v := ?_) (a' := ?_) #[true, true, true, true, true, true, true, true, true, false, false] rfl rfl (any_of HT_.out (by kernel_rfl)) (fun _ _ _ h => h) (Or.inl ⟨by rfl, ?_⟩) ?_ ?_
               rotate_left
               ·
                intro w'
                go_simp
                with_reducible rfl
               rotate_left
               ·
                simp only [Act.put, List.setIfInBounds_toArray, List.set_cons_zero, List.set_cons_succ, i64_w, i32_w]
                rfl
               exact norm_ (by simp only [putAll, Act.put, List.setIfInBounds_toArray, List.set_cons_zero, List.set_cons_succ]) (hCont (v331, v334, gb337) _ ⟨hHeld, (by (with_reducible repeat (first | apply Kd.R_alloc | apply Kd.R_drewN | apply Kd.R_drew)); exact Kd.R_mono HO332.out (fun _ hk => hk.2)), (by (with_reducible repeat (first | apply Kd.R_alloc | apply Kd.R_drewN | apply Kd.R_drew)); exact Kd.R_mono HO335.out (fun _ hk => hk.2)), (by (with_reducible repeat (first | apply Kd.R_alloc | apply Kd.R_drewN | apply Kd.R_drew)); exact Kd.R_mono HO_323001.out (fun _ hk => hk.2)), (by (with_reducible repeat (first | apply Kd.R_alloc | apply Kd.R_drewN | apply Kd.R_drew)); exact Kd.R_mono HO_323002.out (fun _ hk => hk.2)), (by (with_reducible repeat (first | apply Kd.R_alloc | apply Kd.R_drewN | apply Kd.R_drew)); exact HO_7.out), (by (with_reducible repeat (first | refine blk_drewN ?_ _ | refine blk_drew ?_ | refine blk_alloc ?_ _)); exact BK322.out), (by (with_reducible repeat (first | refine blk_drewN ?_ _ | refine blk_drew ?_ | refine blk_alloc ?_ _)); exact BK337.out), GW337.out, GE337.out, NB322_337.out, NB337_322.out, (by repeat (first | (with_reducible first | exact HB.out | apply below_alloc | apply pw_below_drewN | apply below_drew1 | refine below_set ?_ GE322.out | refine below_set ?_ GE337.out) | exact HB.out))⟩)
             rintro ⟨v331, v334, gb337⟩ w36 ⟨hS_, h0_, h1_, h2_, h3_, h4_, h5_, h6_, h7_, h8_, h9_, h10_, h11_⟩
             have n0_ : Aside0 (Kd.R Kd.string 9 w36 w.heap.size (fun k_ => some k_ ≠ (.slice Ao30 x323001_1.length co30 : Value).ownBlock) v331 t330) := ⟨h0_⟩
             have n1_ : Aside0 (Kd.R k62 62 w36 w.heap.size (fun k_ => some k_ ≠ (.slice Ao31 x323002_1.length co31 : Value).ownBlock) v334 t333) := ⟨h1_⟩
             have n2_ : Aside0 (Kd.R Kd.string 9 w36 w.heap.size (fun k_ => some k_ ≠ (v331 : Value).ownBlock) (.slice Ao30 x323001_1.length co30) x323001_1) := ⟨h2_⟩
             have n3_ : Aside0 (Kd.R k62 62 w36 w.heap.size (fun k_ => some k_ ≠ (v334 : Value).ownBlock) (.slice Ao31 x323002_1.length co31) x323002_1) := ⟨h3_⟩
             have n4_ : Aside0 (Kd.R (Kd.int .u8) 5 w36 w.heap.size (fun _ => True) v325 x7_1) := ⟨h4_⟩
             have n5_ : Aside0 (w36.heap[gb322]? = some (.cells #[.bool x323000_1, .slice Ao30 x323001_1.length co30, .slice Ao31 x323002_1.length co31] 25 (0, 0))) := ⟨h5_⟩
             have n6_ : Aside0 (w36.heap[gb337]? = some (.cells #[.bool false, .slice none 0 0, .slice none 0 0] 25 (0, 0))) := ⟨h6_⟩
             have n7_ : Aside0 (w.heap.size ≤ gb337) := ⟨h7_⟩
             have n8_ : Aside0 (w.heap.size ≤ gb337) := ⟨h8_⟩
             have n9_ : Aside0 (gb322 ≠ gb337) := ⟨h9_⟩
             have n10_ : Aside0 (gb337 ≠ gb322) := ⟨h10_⟩
             have n11_ : Aside0 (Below w.heap.size w w36) := ⟨h11_⟩
             clear HO_7; clear HO_323001; clear HO_323002; clear BK322; clear HB; clear h0_ h1_ h2_ h3_ h4_ h5_ h6_ h7_ h8_ h9_ h10_ h11_; have HO332 := n0_; have HO335 := n1_; have HO_323001 := n2_; have HO_323002 := n3_; have HO_7 := n4_; have BK322 := n5_; have BK337 := n6_; have GW337 := n7_; have GE337 := n8_; have NB322_337 := n9_; have NB337_322 := n10_; have HB := n11_; clear n0_ n1_ n2_ n3_ n4_ n5_ n6_ n7_ n8_ n9_ n10_ n11_
             have hHeld : w36.cell? ⟨gb322, 0, none⟩ = some (.bool x323000_1) ∧ w36.cell? ⟨gb322, 1, none⟩ = some (.slice Ao30 x323001_1.length co30) ∧ w36.cell? ⟨gb322, 2, none⟩ = some (.slice Ao31 x323002_1.length co31) := hS_
             obtain ⟨Ao38, co38, eo38⟩ := Kd.R_slice HO332.out
             (first | subst eo38 | (injection eo38 with f1_ f2_ f3_; have f4_ := f1_.symm; have f5_ := f3_.symm; clear f1_ f2_ f3_; subst f4_; subst f5_))
             obtain ⟨Ao40, co40, eo40⟩ := Kd.R_slice HO335.out
             (first | subst eo40 | (injection eo40 with f1_ f2_ f3_; have f4_ := f1_.symm; have f5_ := f3_.symm; clear f1_ f2_ f3_; subst f4_; subst f5_))
             refine norm_ (a' := ?_) ?_ ?_
             rotate_left
             ·
              simp only [putAll, Act.put, List.setIfInBounds_toArray, List.set_cons_zero, List.set_cons_succ]
              rfl
             refine one_ (i := 9) (N := none) #[true, true, true, true, true, true, true, true, true, true, false] rfl rfl (one_of HT_.out (by kernel_rfl)) (by decide) (fun K hK => ?_)
             have hs37 : w36.cell? ⟨gb337, 0, none⟩ = some (.bool false) := (blk_cell BK337.out 0).trans rfl; have hfs37 := blk_frozen BK337.out 0; have hns37_0 := NB322_337.out; have hms37_0 := NB337_322.out; have hs39 : w36.cell? ⟨gb337, 1, none⟩ = some (.slice none 0 0) := (blk_cell BK337.out 1).trans rfl; have hfs39 := blk_frozen BK337.out 1; have hns39_0 := NB322_337.out; have hms39_0 := NB337_322.out; have hs41 : w36.cell? ⟨gb337, 2, none⟩ = some (.slice none 0 0) := (blk_cell BK337.out 2).trans rfl; have hfs41 := blk_frozen BK337.out 2; have hns41_0 := NB322_337.out; have hms41_0 := NB337_322.out
             refine skip_ (w1 := ?_) (by rfl) rfl ?_ ?_
             rotate_left
             ·
              go_simp
              rfl
             refine hK.out _ _ ⟨((cell_far (p := ⟨gb337, _, none⟩) NB322_337.out _).trans (((cell_far (p := ⟨gb337, _, none⟩) NB322_337.out _).trans (((cell_far (p := ⟨gb337, _, none⟩) NB322_337.out _).trans (hHeld.1)))))), ((cell_far (p := ⟨gb337, _, none⟩) NB322_337.out _).trans (((cell_far (p := ⟨gb337, _, none⟩) NB322_337.out _).trans (((cell_far (p := ⟨gb337, _, none⟩) NB322_337.out _).trans (hHeld.2.1)))))), ((cell_far (p := ⟨gb337, _, none⟩) NB322_337.out _).trans (((cell_far (p := ⟨gb337, _, none⟩) NB322_337.out _).trans (((cell_far (p := ⟨gb337, _, none⟩) NB322_337.out _).trans (hHeld.2.2))))))⟩ (fun hHeld => ?_)
             clear hK K
             refine pure_ (i := 10) (N := some 12) (v := ?_) (a' := ?_) #[true, true, true, true, true, true, true, true, true, true, true] rfl rfl (any_of HT_.out (by kernel_rfl)) (fun _ _ _ h => h) (Or.inl ⟨by rfl, ?_⟩) ?_ ?_
             rotate_left
             ·
              intro w'
              go_simp
              with_reducible rfl
             rotate_left
             ·
              simp only [Act.put, List.setIfInBounds_toArray, List.set_cons_zero, List.set_cons_succ, i64_w, i32_w]
              rfl
             refine done_ (done_of HT_.out (by kernel_rfl)) ?_
             have n0_ : Aside0 (Kd.R (Kd.int .u8) 5 (((w36.setCell ⟨gb337, 0, none⟩ (.bool t329)).setCell ⟨gb337, 1, none⟩ (.slice Ao38 t330.length co38)).setCell ⟨gb337, 2, none⟩ (.slice Ao40 t333.length co40)) w.heap.size (fun _ => True) v325 x7_1) := ⟨by (with_reducible repeat (first | apply Kd.R_alloc | apply Kd.R_drewN | apply Kd.R_drew)); exact Kd.R_mono (sq_f3 HO_7 BK337 (by decide)) (fun _ _ => trivial)⟩
             have n1_ : Aside0 (Kd.R Kd.string 9 (((w36.setCell ⟨gb337, 0, none⟩ (.bool t329)).setCell ⟨gb337, 1, none⟩ (.slice Ao38 t330.length co38)).setCell ⟨gb337, 2, none⟩ (.slice Ao40 t333.length co40)) w.heap.size (fun k_ => some k_ ≠ (.slice Ao38 t330.length co38 : Value).ownBlock) (.slice Ao30 x323001_1.length co30) x323001_1) := ⟨by (with_reducible repeat (first | apply Kd.R_alloc | apply Kd.R_drewN | apply Kd.R_drew)); exact Kd.R_mono (Kd.R_far (p := ⟨gb337, 2, none⟩) (Kd.R_far (p := ⟨gb337, 1, none⟩) (Kd.R_far (p := ⟨gb337, 0, none⟩) (Kd.R_types HO_323001.out BK337.out (by decide)) (fun _ hk => hk.2) (.bool t329)) (fun _ hk => hk.2) (.slice Ao38 t330.length co38)) (fun _ hk => hk.2) (.slice Ao40 t333.length co40)) (fun _ hk => hk.1)⟩
             have n2_ : Aside0 (Kd.R k62 62 (((w36.setCell ⟨gb337, 0, none⟩ (.bool t329)).setCell ⟨gb337, 1, none⟩ (.slice Ao38 t330.length co38)).setCell ⟨gb337, 2, none⟩ (.slice Ao40 t333.length co40)) w.heap.size (fun k_ => some k_ ≠ (.slice Ao40 t333.length co40 : Value).ownBlock) (.slice Ao31 x323002_1.length co31) x323002_1) := ⟨by (with_reducible repeat (first | apply Kd.R_alloc | apply Kd.R_drewN | apply Kd.R_drew)); exact Kd.R_mono (Kd.R_far (p := ⟨gb337, 2, none⟩) (Kd.R_far (p := ⟨gb337, 1, none⟩) (Kd.R_far (p := ⟨gb337, 0, none⟩) (Kd.R_types HO_323002.out BK337.out (by decide)) (fun _ hk => hk.2) (.bool t329)) (fun _ hk => hk.2) (.slice Ao38 t330.length co38)) (fun _ hk => hk.2) (.slice Ao40 t333.length co40)) (fun _ hk => hk.1)⟩
             have n3_ : Aside0 (Kd.R Kd.string 9 (((w36.setCell ⟨gb337, 0, none⟩ (.bool t329)).setCell ⟨gb337, 1, none⟩ (.slice Ao38 t330.length co38)).setCell ⟨gb337, 2, none⟩ (.slice Ao40 t333.length co40)) w.heap.size (fun k_ => some k_ ≠ (.slice Ao30 x323001_1.length co30 : Value).ownBlock) (.slice Ao38 t330.length co38) t330) := ⟨by (with_reducible repeat (first | apply Kd.R_alloc | apply Kd.R_drewN | apply Kd.R_drew)); exact Kd.R_mono (Kd.R_far (p := ⟨gb337, 2, none⟩) (Kd.R_far (p := ⟨gb337, 1, none⟩) (Kd.R_far (p := ⟨gb337, 0, none⟩) (Kd.R_types HO332.out BK337.out (by decide)) (fun _ hk => hk.2) (.bool t329)) (fun _ hk => hk.2) (.slice Ao38 t330.length co38)) (fun _ hk => hk.2) (.slice Ao40 t333.length co40)) (fun _ hk => hk.1)⟩
             have n4_ : Aside0 (Kd.R k62 62 (((w36.setCell ⟨gb337, 0, none⟩ (.bool t329)).setCell ⟨gb337, 1, none⟩ (.slice Ao38 t330.length co38)).setCell ⟨gb337, 2, none⟩ (.slice Ao40 t333.length co40)) w.heap.size (fun k_ => some k_ ≠ (.slice Ao31 x323002_1.length co31 : Value).ownBlock) (.slice Ao40 t333.length co40) t333) := ⟨by (with_reducible repeat (first | apply Kd.R_alloc | apply Kd.R_drewN | apply Kd.R_drew)); exact Kd.R_mono (Kd.R_far (p := ⟨gb337, 2, none⟩) (Kd.R_far (p := ⟨gb337, 1, none⟩) (Kd.R_far (p := ⟨gb337, 0, none⟩) (Kd.R_types HO335.out BK337.out (by decide)) (fun _ hk => hk.2) (.bool t329)) (fun _ hk => hk.2) (.slice Ao38 t330.length co38)) (fun _ hk => hk.2) (.slice Ao40 t333.length co40)) (fun _ hk => hk.1)⟩
             have n5_ : Aside0 ((((w36.setCell ⟨gb337, 0, none⟩ (.bool t329)).setCell ⟨gb337, 1, none⟩ (.slice Ao38 t330.length co38)).setCell ⟨gb337, 2, none⟩ (.slice Ao40 t333.length co40)).heap[gb322]? = some (.cells #[.bool x323000_1, .slice Ao30 x323001_1.length co30, .slice Ao31 x323002_1.length co31] 25 (0, 0))) := ⟨by (with_reducible repeat (first | refine blk_drewN ?_ _ | refine blk_drew ?_ | refine blk_alloc ?_ _)); refine blk_far ?_ NB322_337.out _; (with_reducible repeat (first | refine blk_drewN ?_ _ | refine blk_drew ?_ | refine blk_alloc ?_ _)); refine blk_far ?_ NB322_337.out _; (with_reducible repeat (first | refine blk_drewN ?_ _ | refine blk_drew ?_ | refine blk_alloc ?_ _)); refine blk_far ?_ NB322_337.out _; (with_reducible repeat (first | refine blk_drewN ?_ _ | refine blk_drew ?_ | refine blk_alloc ?_ _)); exact BK322.out⟩
             have n6_ : Aside0 ((((w36.setCell ⟨gb337, 0, none⟩ (.bool t329)).setCell ⟨gb337, 1, none⟩ (.slice Ao38 t330.length co38)).setCell ⟨gb337, 2, none⟩ (.slice Ao40 t333.length co40)).heap[gb337]? = some (.cells #[.bool t329, .slice Ao38 t330.length co38, .slice Ao40 t333.length co40] 25 (0, 0))) := ⟨by (with_reducible repeat (first | refine blk_drewN ?_ _ | refine blk_drew ?_ | refine blk_alloc ?_ _)); refine blk_put (cs := #[.bool t329, .slice Ao38 t330.length co38, .slice none 0 0]) ?_ 2 _ rfl; (with_reducible repeat (first | refine blk_drewN ?_ _ | refine blk_drew ?_ | refine blk_alloc ?_ _)); refine blk_put (cs := #[.bool t329, .slice none 0 0, .slice none 0 0]) ?_ 1 _ rfl; (with_reducible repeat (first | refine blk_drewN ?_ _ | refine blk_drew ?_ | refine blk_alloc ?_ _)); refine blk_put (cs := #[.bool false, .slice none 0 0, .slice none 0 0]) ?_ 0 _ rfl; (with_reducible repeat (first | refine blk_drewN ?_ _ | refine blk_drew ?_ | refine blk_alloc ?_ _)); exact BK337.out⟩
             have n7_ : Aside0 (Below w.heap.size w (((w36.setCell ⟨gb337, 0, none⟩ (.bool t329)).setCell ⟨gb337, 1, none⟩ (.slice Ao38 t330.length co38)).setCell ⟨gb337, 2, none⟩ (.slice Ao40 t333.length co40))) := ⟨by repeat (first | (with_reducible first | exact HB.out | apply below_alloc | apply pw_below_drewN | apply below_drew1 | refine below_set ?_ GE322.out | refine below_set ?_ GE337.out) | exact HB.out)⟩
             (try clear HO_7)
             (try clear HO_323001)
             (try clear HO_323002)
             (try clear HO332)
             (try clear HO335)
             (try clear BK322)
             (try clear BK337)
             (try clear HB)
             generalize (((w36.setCell ⟨gb337, 0, none⟩ (.bool t329)).setCell ⟨gb337, 1, none⟩ (.slice Ao38 t330.length co38)).setCell ⟨gb337, 2, none⟩ (.slice Ao40 t333.length co40)) = w42 at n0_ n1_ n2_ n3_ n4_ n5_ n6_ n7_ ⊢
             have HO_7 := n0_; have HO_323001 := n1_; have HO_323002 := n2_; have HO332 := n3_; have HO335 := n4_; have BK322 := n5_; have BK337 := n6_; have HB := n7_; clear n0_ n1_ n2_ n3_ n4_ n5_ n6_ n7_
             go_upto_region 17 with (first | ((with_reducible refine gate_callee (f := 12) rfl ?_); refine goesL_ (some 57) rfl rfl Try.func12 (by kernel_rfl) rfl #[.int .i64 t336] rfl (by (try simp only [List.map_toArray, List.map_cons, List.map_nil]); first | done | rfl | (simp only [List.length_drop, List.length_take]; rfl)) ?_; (with_reducible refine (ossuarylaw0_Num.calls t336 t338 _ A23.out).mono ?_); rintro e w' ⟨rfl, ⟨nd, rfl⟩⟩; refine ⟨_, rfl, ?_⟩; (try (rw [drewN_self w42]; generalize hq_ : World.drewN w42 _ = w42; have n0_ : Aside0 (Kd.R Kd.string 9 w42 w.heap.size (fun k_ => some k_ ≠ (.slice Ao30 x323001_1.length co30 : Value).ownBlock) (.slice Ao38 t330.length co38) t330) := ⟨by rw [← hq_]; exact (by (with_reducible repeat (first | apply Kd.R_alloc | apply Kd.R_drewN | apply Kd.R_drew)); exact HO332.out)⟩; have n1_ : Aside0 (Kd.R k62 62 w42 w.heap.size (fun k_ => some k_ ≠ (.slice Ao31 x323002_1.length co31 : Value).ownBlock) (.slice Ao40 t333.length co40) t333) := ⟨by rw [← hq_]; exact (by (with_reducible repeat (first | apply Kd.R_alloc | apply Kd.R_drewN | apply Kd.R_drew)); exact HO335.out)⟩; have n2_ : Aside0 (Kd.R Kd.string 9 w42 w.heap.size (fun k_ => some k_ ≠ (.slice Ao38 t330.length co38 : Value).ownBlock) (.slice Ao30 x323001_1.length co30) x323001_1) := ⟨by rw [← hq_]; exact (by (with_reducible repeat (first | apply Kd.R_alloc | apply Kd.R_drewN | apply Kd.R_drew)); exact HO_323001.out)⟩; have n3_ : Aside0 (Kd.R k62 62 w42 w.heap.size (fun k_ => some k_ ≠ (.slice Ao40 t333.length co40 : Value).ownBlock) (.slice Ao31 x323002_1.length co31) x323002_1) := ⟨by rw [← hq_]; exact (by (with_reducible repeat (first | apply Kd.R_alloc | apply Kd.R_drewN | apply Kd.R_drew)); exact HO_323002.out)⟩; have n4_ : Aside0 (Kd.R (Kd.int .u8) 5 w42 w.heap.size (fun _ => True) v325 x7_1) := ⟨by rw [← hq_]; exact (by (with_reducible repeat (first | apply Kd.R_alloc | apply Kd.R_drewN | apply Kd.R_drew)); exact HO_7.out)⟩; have n5_ : Aside0 (w42.heap[gb322]? = some (.cells #[.bool x323000_1, .slice Ao30 x323001_1.length co30, .slice Ao31 x323002_1.length co31] 25 (0, 0))) := ⟨by rw [← hq_]; exact (by (with_reducible repeat (first | refine blk_drewN ?_ _ | refine blk_drew ?_ | refine blk_alloc ?_ _)); exact BK322.out)⟩; have n6_ : Aside0 (w42.heap[gb337]? = some (.cells #[.bool t329, .slice Ao38 t330.length co38, .slice Ao40 t333.length co40] 25 (0, 0))) := ⟨by rw [← hq_]; exact (by (with_reducible repeat (first | refine blk_drewN ?_ _ | refine blk_drew ?_ | refine blk_alloc ?_ _)); exact BK337.out)⟩; have n7_ : Aside0 (Below w.heap.size w w42) := ⟨by rw [← hq_]; exact (by repeat (first | (with_reducible first | exact HB.out | apply below_alloc | apply pw_below_drewN | apply below_drew1 | refine below_set ?_ GE322.out | refine below_set ?_ GE337.out) | exact HB.out))⟩; clear HO332 HO335 HO_323001 HO_323002 HO_7 BK322 BK337 HB hq_; have HO332 := n0_; have HO335 := n1_; have HO_323001 := n2_; have HO_323002 := n3_; have HO_7 := n4_; have BK322 := n5_; have BK337 := n6_; have HB := n7_; clear n0_ n1_ n2_ n3_ n4_ n5_ n6_ n7_)); have hnb43 := NB337_322.out; have hnc43 := NB322_337.out; have hcz44_0 := sq_c0 BK337; have hcz44_1 := sq_c1 BK337; have hcz44_2 := sq_c2 BK337; have hfz44_0 := blk_frozen BK337.out 0; have hfz44_1 := blk_frozen BK337.out 1; have hfz44_2 := blk_frozen BK337.out 2; have hcz45_0 := sq_c0 BK322; have hcz45_1 := sq_c1 BK322; have hcz45_2 := sq_c2 BK322; have hfz45_0 := blk_frozen BK322.out 0; have hfz45_1 := blk_frozen BK322.out 1; have hfz45_2 := blk_frozen BK322.out 2) | ((with_reducible refine gate_store (t := 25) (p := 5) rfl ?_); refine store_event (t := 25) (p := 5) (v := ?vo_w46) (w1 := (((w42.setCell ⟨gb322, 0, none⟩ (.bool t329)).setCell ⟨gb322, 1, none⟩ (.slice Ao38 t330.length co38)).setCell ⟨gb322, 2, none⟩ (.slice Ao40 t333.length co40))) ?hg ?ho ?hn ?hr ?_; (case ho => rfl); (case hg => rfl); (case hn => rfl); (case hr => first | (go_simp; done) | (go_simp; rfl)); intro w46 hw; have n0_ : Aside0 (Kd.R (Kd.int .u8) 5 w46 w.heap.size (fun _ => True) v325 x7_1) := ⟨(by rw [hw]; exact (by (with_reducible repeat (first | apply Kd.R_alloc | apply Kd.R_drewN | apply Kd.R_drew)); exact Kd.R_mono (sq_f3 HO_7 BK322 (by decide)) (fun _ _ => trivial)))⟩; have n1_ : Aside0 (Kd.R Kd.string 9 w46 w.heap.size (fun k_ => some k_ ≠ (.slice Ao38 t330.length co38 : Value).ownBlock) (.slice Ao30 x323001_1.length co30) x323001_1) := ⟨(by rw [hw]; exact (by (with_reducible repeat (first | apply Kd.R_alloc | apply Kd.R_drewN | apply Kd.R_drew)); exact Kd.R_mono (Kd.R_far (p := ⟨gb322, 2, none⟩) (Kd.R_far (p := ⟨gb322, 1, none⟩) (Kd.R_far (p := ⟨gb322, 0, none⟩) (Kd.R_types HO_323001.out BK322.out (by decide)) (fun _ hk => hk.2) (.bool t329)) (fun _ hk => hk.2) (.slice Ao38 t330.length co38)) (fun _ hk => hk.2) (.slice Ao40 t333.length co40)) (fun _ hk => hk.1)))⟩; have n2_ : Aside0 (Kd.R k62 62 w46 w.heap.size (fun k_ => some k_ ≠ (.slice Ao40 t333.length co40 : Value).ownBlock) (.slice Ao31 x323002_1.length co31) x323002_1) := ⟨(by rw [hw]; exact (by (with_reducible repeat (first | apply Kd.R_alloc | apply Kd.R_drewN | apply Kd.R_drew)); exact Kd.R_mono (Kd.R_far (p := ⟨gb322, 2, none⟩) (Kd.R_far (p := ⟨gb322, 1, none⟩) (Kd.R_far (p := ⟨gb322, 0, none⟩) (Kd.R_types HO_323002.out BK322.out (by decide)) (fun _ hk => hk.2) (.bool t329)) (fun _ hk => hk.2) (.slice Ao38 t330.length co38)) (fun _ hk => hk.2) (.slice Ao40 t333.length co40)) (fun _ hk => hk.1)))⟩; have n3_ : Aside0 (Kd.R Kd.string 9 w46 w.heap.size (fun k_ => some k_ ≠ (.slice Ao30 x323001_1.length co30 : Value).ownBlock) (.slice Ao38 t330.length co38) t330) := ⟨(by rw [hw]; exact (by (with_reducible repeat (first | apply Kd.R_alloc | apply Kd.R_drewN | apply Kd.R_drew)); exact Kd.R_mono (Kd.R_far (p := ⟨gb322, 2, none⟩) (Kd.R_far (p := ⟨gb322, 1, none⟩) (Kd.R_far (p := ⟨gb322, 0, none⟩) (Kd.R_types HO332.out BK322.out (by decide)) (fun _ hk => hk.2) (.bool t329)) (fun _ hk => hk.2) (.slice Ao38 t330.length co38)) (fun _ hk => hk.2) (.slice Ao40 t333.length co40)) (fun _ hk => hk.1)))⟩; have n4_ : Aside0 (Kd.R k62 62 w46 w.heap.size (fun k_ => some k_ ≠ (.slice Ao31 x323002_1.length co31 : Value).ownBlock) (.slice Ao40 t333.length co40) t333) := ⟨(by rw [hw]; exact (by (with_reducible repeat (first | apply Kd.R_alloc | apply Kd.R_drewN | apply Kd.R_drew)); exact Kd.R_mono (Kd.R_far (p := ⟨gb322, 2, none⟩) (Kd.R_far (p := ⟨gb322, 1, none⟩) (Kd.R_far (p := ⟨gb322, 0, none⟩) (Kd.R_types HO335.out BK322.out (by decide)) (fun _ hk => hk.2) (.bool t329)) (fun _ hk => hk.2) (.slice Ao38 t330.length co38)) (fun _ hk => hk.2) (.slice Ao40 t333.length co40)) (fun _ hk => hk.1)))⟩; have n5_ : Aside0 (w46.heap[gb322]? = some (.cells #[.bool t329, .slice Ao38 t330.length co38, .slice Ao40 t333.length co40] 25 (0, 0))) := ⟨(by rw [hw]; exact (by (with_reducible repeat (first | refine blk_drewN ?_ _ | refine blk_drew ?_ | refine blk_alloc ?_ _)); refine blk_put (cs := #[.bool t329, .slice Ao38 t330.length co38, .slice Ao31 x323002_1.length co31]) ?_ 2 _ rfl; (with_reducible repeat (first | refine blk_drewN ?_ _ | refine blk_drew ?_ | refine blk_alloc ?_ _)); refine blk_put (cs := #[.bool t329, .slice Ao30 x323001_1.length co30, .slice Ao31 x323002_1.length co31]) ?_ 1 _ rfl; (with_reducible repeat (first | refine blk_drewN ?_ _ | refine blk_drew ?_ | refine blk_alloc ?_ _)); refine blk_put (cs := #[.bool x323000_1, .slice Ao30 x323001_1.length co30, .slice Ao31 x323002_1.length co31]) ?_ 0 _ rfl; (with_reducible repeat (first | refine blk_drewN ?_ _ | refine blk_drew ?_ | refine blk_alloc ?_ _)); exact BK322.out))⟩; have n6_ : Aside0 (w46.heap[gb337]? = some (.cells #[.bool t329, .slice Ao38 t330.length co38, .slice Ao40 t333.length co40] 25 (0, 0))) := ⟨(by rw [hw]; exact (by (with_reducible repeat (first | refine blk_drewN ?_ _ | refine blk_drew ?_ | refine blk_alloc ?_ _)); refine blk_far ?_ NB337_322.out _; (with_reducible repeat (first | refine blk_drewN ?_ _ | refine blk_drew ?_ | refine blk_alloc ?_ _)); refine blk_far ?_ NB337_322.out _; (with_reducible repeat (first | refine blk_drewN ?_ _ | refine blk_drew ?_ | refine blk_alloc ?_ _)); refine blk_far ?_ NB337_322.out _; (with_reducible repeat (first | refine blk_drewN ?_ _ | refine blk_drew ?_ | refine blk_alloc ?_ _)); exact BK337.out))⟩; have n7_ : Aside0 (Below w.heap.size w w46) := ⟨(by rw [hw]; exact (by repeat (first | (with_reducible first | exact HB.out | apply below_alloc | apply pw_below_drewN | apply below_drew1 | refine below_set ?_ GE322.out | refine below_set ?_ GE337.out) | exact HB.out)))⟩; clear hw HO_7 HO_323001 HO_323002 HO332 HO335 BK322 BK337 HB; have HO_7 := n0_; have HO_323001 := n1_; have HO_323002 := n2_; have HO332 := n3_; have HO335 := n4_; have BK322 := n5_; have BK337 := n6_; have HB := n7_; clear n0_ n1_ n2_ n3_ n4_ n5_ n6_ n7_; have p28 : 0 ≤ ((ji25) : Int) := of_decide_eq_true (by first | (with_reducible assumption) | assumption); have q28 : ((ji25) : Int) < ((x7_1.length : Int) : Int) := of_decide_eq_true (by first | (with_reducible assumption) | assumption); obtain ⟨go28, co28, eo28, gb28, gl28, cl28, HG28⟩ := Kd.R_form HO_7.out (by omega); (first | cases eo28 | (injection eo28 with ea_ en_ ec_; (first | subst ea_ | (injection ea_ with ea_; subst ea_)); subst ec_; clear en_)); have GB28 := Aside0.mk gb28; have GG28 := Aside0.mk HG28; clear gb28 gl28 HG28; obtain ⟨hx28_0, hf28_0⟩ := Kd.R_celln 0 HO_7.out ((ji25) : Int) p28 q28; replace p28 := eq_true p28; replace q28 := eq_true q28; obtain ⟨hy47_, hz47_⟩ := Kd.R_celln 0 HO_7.out ((ji25) : Int) (of_decide_eq_true (by first | (with_reducible assumption) | assumption)) (of_decide_eq_true (by first | (with_reducible assumption) | assumption)); have HP47 := Kd.R_putg HO_7.out ((ji25) : Int) ((wrap64 (1 + x8_1)) % 256)) | ((with_reducible refine gate_store (t := 5) (p := 63) rfl ?_); refine store_event (t := 5) (p := 63) (v := ?vo_w48) (w1 := (w46.setCell ⟨go28, ((ji25) : Int).toNat, none⟩ (.int .u8 ((wrap64 (1 + x8_1)) % 256)))) ?hg ?ho ?hn ?hr ?_; (case ho => rfl); (case hg => rfl); (case hn => rfl); (case hr => first | (go_simp; done) | (go_simp; rfl)); intro w48 hw; have hg : w46.grownBy w48 (some go28) := (by rw [hw]; exact HP47.2); have hp_ : Kd.R (Kd.int .u8) 5 w48 w.heap.size (fun _ => True) (.slice (some ⟨go28, 0, none⟩) x7_1.length co28) y339 := (by rw [hw, Ny339.out]; exact HP47.1); clear HP47; have n0_ := Aside0.mk (hp_); have n1_ := Aside0.mk (Kd.R_over' (v := (.slice (some ⟨go28, 0, none⟩) x7_1.length co28)) (by (with_reducible repeat (first | apply Kd.R_alloc | apply Kd.R_drewN | apply Kd.R_drew)); exact HO_323001.out) (Kd.R_typed HO_7.out) (by decide) hg); have n2_ := Aside0.mk (Kd.R_over' (v := (.slice (some ⟨go28, 0, none⟩) x7_1.length co28)) (by (with_reducible repeat (first | apply Kd.R_alloc | apply Kd.R_drewN | apply Kd.R_drew)); exact HO_323002.out) (Kd.R_typed HO_7.out) (by decide) hg); have n3_ := Aside0.mk (blk_grown (g := gb322) (o := .cells #[.bool t329, .slice Ao38 t330.length co38, .slice Ao40 t333.length co40] 25 (0, 0)) (by (with_reducible repeat (first | refine blk_drewN ?_ _ | refine blk_drew ?_ | refine blk_alloc ?_ _)); exact BK322.out) hg (Kd.R_ne HO_7.out BK322.out (by decide))); have n4_ := Aside0.mk (Kd.R_over' (v := (.slice (some ⟨go28, 0, none⟩) x7_1.length co28)) (by (with_reducible repeat (first | apply Kd.R_alloc | apply Kd.R_drewN | apply Kd.R_drew)); exact HO332.out) (Kd.R_typed HO_7.out) (by decide) hg); have n5_ := Aside0.mk (Kd.R_over' (v := (.slice (some ⟨go28, 0, none⟩) x7_1.length co28)) (by (with_reducible repeat (first | apply Kd.R_alloc | apply Kd.R_drewN | apply Kd.R_drew)); exact HO335.out) (Kd.R_typed HO_7.out) (by decide) hg); have n6_ := Aside0.mk (blk_grown (g := gb337) (o := .cells #[.bool t329, .slice Ao38 t330.length co38, .slice Ao40 t333.length co40] 25 (0, 0)) (by (with_reducible repeat (first | refine blk_drewN ?_ _ | refine blk_drew ?_ | refine blk_alloc ?_ _)); exact BK337.out) hg (Kd.R_ne HO_7.out BK337.out (by decide))); have n7_ := Aside0.mk ((by rw [hw]; exact below_set (HB.out) GB28.out : Below w.heap.size w w48)); clear HO_7 HO_323001 HO_323002 BK322 HO332 HO335 BK337 HB; have HO_7 := n0_; have HO_323001 := n1_; have HO_323002 := n2_; have BK322 := n3_; have HO332 := n4_; have HO335 := n5_; have BK337 := n6_; have HB := n7_; clear n0_ n1_ n2_ n3_ n4_ n5_ n6_ n7_; clear hg hw hp_))
             (try simp only [Act.put, List.setIfInBounds_toArray, List.set_cons_zero, List.set_cons_succ])
             go_cut [75] (fun v75 wc => ∃ (kq : Nat) (x75_28 : Bool), v75 = .bool x75_28 ∧ Aside0 (ossuarylaw13_DiskReads.j2 kq l0 l1 y339 x8_1 x75_28 t329 t330 t333 = some r) ∧ Aside0 (kq ≤ kj15) ∧ Aside0 (Kd.R (Kd.int .u8) 5 wc w.heap.size (fun _ => True) (.slice (some ⟨go28, 0, none⟩) x7_1.length co28) y339) ∧ Aside0 (Kd.R Kd.string 9 wc w.heap.size (fun _ => True) (.slice Ao38 t330.length co38) t330) ∧ Aside0 (Kd.R k62 62 wc w.heap.size (fun _ => True) (.slice Ao40 t333.length co40) t333) ∧ Aside0 (Kd.R Kd.string 9 wc w.heap.size (fun _ => True) (.slice Ao38 t330.length co38) t330) ∧ Aside0 (Kd.R k62 62 wc w.heap.size (fun _ => True) (.slice Ao40 t333.length co40) t333) ∧ Aside0 (wc.heap[gb322]? = some (.cells #[.bool t329, (.slice Ao38 t330.length co38), (.slice Ao40 t333.length co40)] 25 (0, 0))) ∧ Aside0 (wc.heap[gb337]? = some (.cells #[.bool t329, (.slice Ao38 t330.length co38), (.slice Ao40 t333.length co40)] 25 (0, 0))) ∧ Aside0 (Below w.heap.size w wc))
             case first =>
              have H := HC29.out; clear HC29
              by_cases c49 : x8_1 < (l1.length : Int)
              ·
               rw [if_pos c49] at H
               have c49b0 : decide (x8_1 < (l1.length : Int)) = true := decide_eq_true c49; clear c49
               (first | rw [c49b0] | (simp only [i64_w, i32_w]; rw [c49b0]) | skip)
               have H' := Aside0.mk H
               clear H
               have p340 : 0 ≤ (x8_1 : Int) := of_decide_eq_true (by first | (with_reducible assumption) | assumption)
               have q340 : x8_1 < (l1.length : Int) := of_decide_eq_true (by first | (with_reducible assumption) | assumption)
               obtain ⟨ad340, e340, hx340_0⟩ := Kd.at_int HR1.out x8_1 p340 q340
               cases e340
               replace hx340_0 := (HB.out.cell (World.block_lt_of_cell? w _ hx340_0)).trans hx340_0
               replace p340 := eq_true p340
               replace q340 := eq_true q340
               go_wp2
               go_meet
               case rel => exact ⟨_, (((Go.bits .and .i64 (rd l1 x8_1) 1) == 1)), (by first | rfl | (simp; done) | (simp [*]; done)), H', ⟨by have := HK1.out; have := HJ15.out; first | omega | exact Nat.le_refl _⟩, ⟨by (with_reducible repeat (first | apply Kd.R_alloc | apply Kd.R_drewN | apply Kd.R_drew)); exact HO_7.out⟩, ⟨by (with_reducible repeat (first | apply Kd.R_alloc | apply Kd.R_drewN | apply Kd.R_drew)); exact Kd.R_mono HO332.out (fun _ hk => trivial)⟩, ⟨by (with_reducible repeat (first | apply Kd.R_alloc | apply Kd.R_drewN | apply Kd.R_drew)); exact Kd.R_mono HO335.out (fun _ hk => trivial)⟩, ⟨by (with_reducible repeat (first | apply Kd.R_alloc | apply Kd.R_drewN | apply Kd.R_drew)); exact Kd.R_mono HO332.out (fun _ hk => trivial)⟩, ⟨by (with_reducible repeat (first | apply Kd.R_alloc | apply Kd.R_drewN | apply Kd.R_drew)); exact Kd.R_mono HO335.out (fun _ hk => trivial)⟩, ⟨by (with_reducible repeat (first | refine blk_drewN ?_ _ | refine blk_drew ?_ | refine blk_alloc ?_ _)); exact BK322.out⟩, ⟨by (with_reducible repeat (first | refine blk_drewN ?_ _ | refine blk_drew ?_ | refine blk_alloc ?_ _)); exact BK337.out⟩, ⟨by repeat (first | (with_reducible first | exact HB.out | apply below_alloc | apply pw_below_drewN | apply below_drew1 | refine below_set ?_ GE322.out | refine below_set ?_ GE337.out) | exact HB.out)⟩⟩
              ·
               rw [if_neg c49] at H
               have c49b0 : decide (x8_1 < (l1.length : Int)) = false := decide_eq_false c49; clear c49
               (first | rw [c49b0] | (simp only [i64_w, i32_w]; rw [c49b0]) | skip)
               have H' := Aside0.mk H
               clear H
               go_wp2
               go_meet
               case rel => exact ⟨_, (false), (by first | rfl | (simp; done) | (simp [*]; done)), H', ⟨by have := HK1.out; have := HJ15.out; first | omega | exact Nat.le_refl _⟩, ⟨by (with_reducible repeat (first | apply Kd.R_alloc | apply Kd.R_drewN | apply Kd.R_drew)); exact HO_7.out⟩, ⟨by (with_reducible repeat (first | apply Kd.R_alloc | apply Kd.R_drewN | apply Kd.R_drew)); exact Kd.R_mono HO332.out (fun _ hk => trivial)⟩, ⟨by (with_reducible repeat (first | apply Kd.R_alloc | apply Kd.R_drewN | apply Kd.R_drew)); exact Kd.R_mono HO335.out (fun _ hk => trivial)⟩, ⟨by (with_reducible repeat (first | apply Kd.R_alloc | apply Kd.R_drewN | apply Kd.R_drew)); exact Kd.R_mono HO332.out (fun _ hk => trivial)⟩, ⟨by (with_reducible repeat (first | apply Kd.R_alloc | apply Kd.R_drewN | apply Kd.R_drew)); exact Kd.R_mono HO335.out (fun _ hk => trivial)⟩, ⟨by (with_reducible repeat (first | refine blk_drewN ?_ _ | refine blk_drew ?_ | refine blk_alloc ?_ _)); exact BK322.out⟩, ⟨by (with_reducible repeat (first | refine blk_drewN ?_ _ | refine blk_drew ?_ | refine blk_alloc ?_ _)); exact BK337.out⟩, ⟨by repeat (first | (with_reducible first | exact HB.out | apply below_alloc | apply pw_below_drewN | apply below_drew1 | refine below_set ?_ GE322.out | refine below_set ?_ GE337.out) | exact HB.out)⟩⟩
             case rest =>
              clear HC29; (try clear c1); (try clear c2); (try clear p2); (try clear q2); (try clear hx2); (try clear hf2); (try clear c3); (try clear p3); (try clear q3); (try clear hx3); (try clear c4); (try clear p6); (try clear c12); (try clear c16); (try clear c24); (try clear c26); (try clear c26b0); (try clear c27); (try clear c27b0); (try clear p28); (try clear q28); (try clear hx28); (try clear hf28); (try clear c30); (try clear p32); (try clear q32); (try clear hx32); (try clear p34); (try clear q34); (try clear hx34); (try clear c43); (try clear c49); (try clear c49b0); (try clear hcz44_0); (try clear hcz44_1); (try clear hcz44_2); (try clear hcz45_0); (try clear hcz45_1); (try clear hcz45_2); (try clear hfz44_0); (try clear hfz44_1); (try clear hfz44_2); (try clear hfz45_0); (try clear hfz45_1); (try clear hfz45_2); (try clear hx28_0); (try clear hx327_0); (try clear hx340_0); (try clear p28); (try clear p327); (try clear p340); (try clear q28); (try clear q327); (try clear q340); obtain ⟨kq, x75_28, rfl, HA, HJ28, HO_7, HO_323001, HO_323002, HO_338001, HO_338002, BK322, BK337, HB⟩ := hcut
              have hl7_28 := (Kd.R_reads' HO_7.out).1
              rw [hl7_28] at HO_7
              (try simp only [hl7_28])
              (try simp only [hl7_28] at BK322)
              (try simp only [hl7_28] at BK337)
              (try simp only [hl7_28] at HO_323001)
              (try simp only [hl7_28] at HO_323002)
              (try simp only [hl7_28] at HO_338001)
              (try simp only [hl7_28] at HO_338002)
              cases kq with
              | zero => exact absurd HA.out (by simp [ossuarylaw13_DiskReads.j2])
              | succ kj28 =>
               have H := HA.out; clear HA
               simp only [ossuarylaw13_DiskReads.j2] at H
               have HC50 := Aside0.mk H; clear H
               go_upto_if 75 with (fail)
               go_cut [] (fun wc => ∃ (kq : Nat) (x323000_49 : Bool) (x323001_49 : List ByteArray) (x323002_49 : List (S62)) (u323001 : Value) (u323002 : Value), Aside0 (ossuarylaw13_DiskReads.j3 kq l0 l1 y339 x8_1 x323000_49 x323001_49 x323002_49 = some r) ∧ Aside0 (kq ≤ kj28) ∧ Aside0 (Kd.R (Kd.int .u8) 5 wc w.heap.size (fun _ => True) (.slice (some ⟨go28, 0, none⟩) y339.length co28) y339) ∧ Aside0 (Kd.R Kd.string 9 wc w.heap.size (fun _ => True) u323001 x323001_49) ∧ Aside0 (Kd.R k62 62 wc w.heap.size (fun _ => True) u323002 x323002_49) ∧ Aside0 (Kd.R Kd.string 9 wc w.heap.size (fun _ => True) (.slice Ao38 t330.length co38) t330) ∧ Aside0 (Kd.R k62 62 wc w.heap.size (fun _ => True) (.slice Ao40 t333.length co40) t333) ∧ Aside0 (wc.heap[gb322]? = some (.cells #[.bool x323000_49, u323001, u323002] 25 (0, 0))) ∧ Aside0 (wc.heap[gb337]? = some (.cells #[.bool t329, (.slice Ao38 t330.length co38), (.slice Ao40 t333.length co40)] 25 (0, 0))) ∧ Aside0 (Below w.heap.size w wc))
               case first =>
                have H := HC50.out; clear HC50
                by_cases c51 : x75_28 = true
                ·
                 subst c51
                 have H1 : ((disk_Flush.f kj28 t329 t330 t333).bind fun bt341 => ((ossuarylaw0_Num.f bt341.2.2.2).bind fun t350 => (if t350 = 0 then (if (bt341.2.2.1.length : Int) = 0 then (ossuarylaw13_DiskReads.j3 kj28 l0 l1 y339 x8_1 bt341.1 bt341.2.1 bt341.2.2.1) else (some false)) else (some false)))) = some r := by rw [if_pos rfl] at H; exact H
                 clear H
                 have H := H1
                 clear H1; replace H := Option.bind_eq_some_iff.mp H; obtain ⟨⟨t341, t342, t345, t348⟩, A520, H⟩ := H
                 replace H : ((ossuarylaw0_Num.f t348).bind fun t350 => (if t350 = 0 then (if (t345.length : Int) = 0 then (ossuarylaw13_DiskReads.j3 kj28 l0 l1 y339 x8_1 t341 t342 t345) else (some false)) else (some false))) = some r := H
                 have A52 := Aside0.mk A520; clear A520; replace H := Option.bind_eq_some_iff.mp H; obtain ⟨t350, A530, H⟩ := H
                 replace H : (if t350 = 0 then (if (t345.length : Int) = 0 then (ossuarylaw13_DiskReads.j3 kj28 l0 l1 y339 x8_1 t341 t342 t345) else (some false)) else (some false)) = some r := H
                 have A53 := Aside0.mk A530; clear A530
                 by_cases c54 : t350 = 0
                 ·
                  rw [if_pos c54] at H
                  have c54b0 : (t350 == 0) = true := beq_iff_eq.mpr c54; have c54b1 : (t350 != 0) = false := bne_eq_false_iff_eq.mpr c54
                  (try (have c54h0 := c54b0; simp only [hl7_28] at c54h0))
                  clear c54
                  (first | rw [c54b0] | (simp only [i64_w, i32_w]; rw [c54b0]) | skip)
                  by_cases c55 : (t345.length : Int) = 0
                  ·
                   rw [if_pos c55] at H
                   have c55b0 : ((t345.length : Int) == 0) = true := beq_iff_eq.mpr c55; have c55b1 : ((t345.length : Int) != 0) = false := bne_eq_false_iff_eq.mpr c55
                   (try (have c55h0 := c55b0; simp only [hl7_28] at c55h0))
                   clear c55
                   have H' := Aside0.mk H
                   clear H; have hnb56 := NB322_337.out; have hnc56 := NB337_322.out; have hcz57_0 := sq_c0 BK322; have hcz57_1 := sq_c1 BK322; have hcz57_2 := sq_c2 BK322; have hfz57_0 := blk_frozen BK322.out 0; have hfz57_1 := blk_frozen BK322.out 1; have hfz57_2 := blk_frozen BK322.out 2
                   go_wp2_with (first | ((with_reducible refine gate_callee (f := 18) rfl ?_); refine goesL_ (some 78) rfl rfl Try.func18 (by kernel_rfl) rfl #[.agg #[.bool t329, .slice Ao38 t330.length co38, .slice Ao40 t333.length co40]] rfl (by (try simp only [List.map_toArray, List.map_cons, List.map_nil]); first | done | rfl | (simp only [List.length_drop, List.length_take]; rfl)) ?_; (with_reducible refine (disk_Flush.calls kj28 t329 _ _ t330 _ _ t333 t341 t342 t345 t348 _ ?side1 ?side2 ?side3 ?side4 A52.out).mono ?_); (case side1 => repeat (first | exact (Kd.R_reads' HO_323001.out).2.2 | (with_reducible refine Kd.C_alloc ?_ _) | (with_reducible refine Kd.C_drewN ?_ _) | (with_reducible refine Kd.C_drew ?_))); (case side2 => exact (Kd.R_reads' HO_323001.out).2.1); (case side3 => repeat (first | exact (Kd.R_reads' HO_323002.out).2.2 | (with_reducible refine Kd.C_alloc ?_ _) | (with_reducible refine Kd.C_drewN ?_ _) | (with_reducible refine Kd.C_drew ?_))); (case side4 => exact (Kd.R_reads' HO_323002.out).2.1); rintro e w58 ⟨v343, v346, rfl, ho0, ho1, hb⟩; refine ⟨_, rfl, ?_⟩; (try replace hb := sq_un hb); have n0_ := sq_rb hb HO_7; have n1_ := Aside0.mk (Kd.R_elder' (by (with_reducible repeat (first | apply Kd.R_alloc | apply Kd.R_drewN | apply Kd.R_drew)); exact HO_323001.out) (Kd.R_base ho0) hb); have n2_ := Aside0.mk (Kd.R_elder' (by (with_reducible repeat (first | apply Kd.R_alloc | apply Kd.R_drewN | apply Kd.R_drew)); exact HO_323002.out) (Kd.R_base ho1) hb); have n3_ := Aside0.mk (Kd.R_elder' (by (with_reducible repeat (first | apply Kd.R_alloc | apply Kd.R_drewN | apply Kd.R_drew)); exact HO_338001.out) (Kd.R_base ho0) hb); have n4_ := Aside0.mk (Kd.R_elder' (by (with_reducible repeat (first | apply Kd.R_alloc | apply Kd.R_drewN | apply Kd.R_drew)); exact HO_338002.out) (Kd.R_base ho1) hb); have n5_ := Aside0.mk (Kd.R_lower (Kd.R_new' (Kd.R_new' ho0 (Kd.R_lt (by (with_reducible repeat (first | apply Kd.R_alloc | apply Kd.R_drewN | apply Kd.R_drew)); exact HO_323001.out))) (Kd.R_lt (by (with_reducible repeat (first | apply Kd.R_alloc | apply Kd.R_drewN | apply Kd.R_drew)); exact HO_338001.out))) (below_size (by repeat (first | (with_reducible first | exact HB.out | apply below_alloc | apply pw_below_drewN | apply below_drew1 | refine below_set ?_ GE322.out | refine below_set ?_ GE337.out) | exact HB.out)))); have n6_ := Aside0.mk (Kd.R_lower (Kd.R_new' (Kd.R_new' ho1 (Kd.R_lt (by (with_reducible repeat (first | apply Kd.R_alloc | apply Kd.R_drewN | apply Kd.R_drew)); exact HO_323002.out))) (Kd.R_lt (by (with_reducible repeat (first | apply Kd.R_alloc | apply Kd.R_drewN | apply Kd.R_drew)); exact HO_338002.out))) (below_size (by repeat (first | (with_reducible first | exact HB.out | apply below_alloc | apply pw_below_drewN | apply below_drew1 | refine below_set ?_ GE322.out | refine below_set ?_ GE337.out) | exact HB.out)))); have n7_ := sq_bk hb BK322; have n8_ := sq_bk hb BK337; have n9_ := sq_st hb HB; clear HO_7 HO_323001 HO_323002 HO_338001 HO_338002 BK322 BK337 HB; have HO_7 := n0_; have HO_323001 := n1_; have HO_323002 := n2_; have HO_338001 := n3_; have HO_338002 := n4_; have HO344 := n5_; have HO347 := n6_; have BK322 := n7_; have BK337 := n8_; have HB := n9_; clear n0_ n1_ n2_ n3_ n4_ n5_ n6_ n7_ n8_ n9_; (try clear hb); (try clear hb2); (try clear hk); (try clear hi); (try clear ho0); (try clear ho1)) | ((with_reducible refine gate_dst (N := 13) rfl ?_); (try (refine gate_guard (by rfl) ?_; dsimp only)); refine box_event ?hg (N := 13) ?hd (cs := #[.bool false, .slice none 0 0, .slice none 0 0]) (t := 25) ?hr ?_; (case hd => rfl); (case hg => rfl); (case hr => first | (go_simp; done) | (go_simp; rfl)); intro gb349 hg w59 hbox hb; (try replace hb := sq_un hb); have n0_ := sq_rb hb HO_7; have n1_ := sq_rb hb HO_323001; have n2_ := sq_rb hb HO_323002; have n3_ := sq_rb hb HO_338001; have n4_ := sq_rb hb HO_338002; have n5_ := sq_rb hb HO344; have n6_ := sq_rb hb HO347; have n7_ := sq_bk hb BK322; have n8_ := sq_bk hb BK337; have n9_ := sq_st hb HB; have n10_ := Aside0.mk (hbox); have n11_ := sq_sz HB hg; have n12_ := sq_sz HB hg; have n13_ := sq_nl BK322 hg; have n14_ := sq_ng BK322 hg; have n15_ := sq_nl BK337 hg; have n16_ := sq_ng BK337 hg; clear HO_7 HO_323001 HO_323002 HO_338001 HO_338002 HO344 HO347 BK322 BK337 HB; have HO_7 := n0_; have HO_323001 := n1_; have HO_323002 := n2_; have HO_338001 := n3_; have HO_338002 := n4_; have HO344 := n5_; have HO347 := n6_; have BK322 := n7_; have BK337 := n8_; have HB := n9_; have BK349 := n10_; have GW349 := n11_; have GE349 := n12_; have NB322_349 := n13_; have NB349_322 := n14_; have NB337_349 := n15_; have NB349_337 := n16_; clear n0_ n1_ n2_ n3_ n4_ n5_ n6_ n7_ n8_ n9_ n10_ n11_ n12_ n13_ n14_ n15_ n16_; clear hb hbox hg; have hnb60 := NB349_322.out; have hnc60 := NB322_349.out; have hnb61 := NB349_337.out; have hnc61 := NB337_349.out; have hcz62_0 := sq_c0 BK349; have hcz62_1 := sq_c1 BK349; have hcz62_2 := sq_c2 BK349; have hfz62_0 := blk_frozen BK349.out 0; have hfz62_1 := blk_frozen BK349.out 1; have hfz62_2 := blk_frozen BK349.out 2; obtain ⟨Ao63, co63, eo63⟩ := Kd.R_slice HO344.out; subst eo63; obtain ⟨Ao64, co64, eo64⟩ := Kd.R_slice HO347.out; subst eo64) | ((with_reducible refine gate_callee (f := 12) rfl ?_); refine goesL_ (some 82) rfl rfl Try.func12 (by kernel_rfl) rfl #[.int .i64 t348] rfl (by (try simp only [List.map_toArray, List.map_cons, List.map_nil]); first | done | rfl | (simp only [List.length_drop, List.length_take]; rfl)) ?_; (with_reducible refine (ossuarylaw0_Num.calls t348 t350 _ A53.out).mono ?_); rintro e w' ⟨rfl, ⟨nd, rfl⟩⟩; refine ⟨_, rfl, ?_⟩; have hcz65_0 := sq_c0 BK322; have hcz65_1 := sq_c1 BK322; have hcz65_2 := sq_c2 BK322; have hfz65_0 := blk_frozen BK322.out 0; have hfz65_1 := blk_frozen BK322.out 1; have hfz65_2 := blk_frozen BK322.out 2))
                   go_meet
                   case rel => exact ⟨_, (t341), (t342), (t345), (.slice Ao63 t342.length co63), (.slice Ao64 t345.length co64), H', ⟨by have := HK1.out; have := HJ15.out; have := HJ28.out; first | omega | exact Nat.le_refl _⟩, ⟨by (try simp only [hl7_28]); (with_reducible repeat (first | apply Kd.R_alloc | apply Kd.R_drewN | apply Kd.R_drew)); exact Kd.R_mono (Kd.R_far (p := ⟨gb322, 2, none⟩) (Kd.R_far (p := ⟨gb322, 1, none⟩) (Kd.R_far (p := ⟨gb322, 0, none⟩) (Kd.R_far (p := ⟨gb349, 2, none⟩) (Kd.R_far (p := ⟨gb349, 1, none⟩) (Kd.R_far (p := ⟨gb349, 0, none⟩) (Kd.R_types (Kd.R_types HO_7.out BK349.out (by decide)) BK322.out (by decide)) (fun _ hk => hk.1.2) (.bool t341)) (fun _ hk => hk.1.2) (.slice Ao63 t342.length co63)) (fun _ hk => hk.1.2) (.slice Ao64 t345.length co64)) (fun _ hk => hk.2) (.bool t341)) (fun _ hk => hk.2) (.slice Ao63 t342.length co63)) (fun _ hk => hk.2) (.slice Ao64 t345.length co64)) (fun _ hk => trivial)⟩, ⟨by (try simp only [hl7_28]); (with_reducible repeat (first | apply Kd.R_alloc | apply Kd.R_drewN | apply Kd.R_drew)); exact Kd.R_mono (Kd.R_far (p := ⟨gb322, 2, none⟩) (Kd.R_far (p := ⟨gb322, 1, none⟩) (Kd.R_far (p := ⟨gb322, 0, none⟩) (Kd.R_far (p := ⟨gb349, 2, none⟩) (Kd.R_far (p := ⟨gb349, 1, none⟩) (Kd.R_far (p := ⟨gb349, 0, none⟩) (Kd.R_types (Kd.R_types HO344.out BK349.out (by decide)) BK322.out (by decide)) (fun _ hk => hk.1.2) (.bool t341)) (fun _ hk => hk.1.2) (.slice Ao63 t342.length co63)) (fun _ hk => hk.1.2) (.slice Ao64 t345.length co64)) (fun _ hk => hk.2) (.bool t341)) (fun _ hk => hk.2) (.slice Ao63 t342.length co63)) (fun _ hk => hk.2) (.slice Ao64 t345.length co64)) (fun _ hk => trivial)⟩, ⟨by (try simp only [hl7_28]); (with_reducible repeat (first | apply Kd.R_alloc | apply Kd.R_drewN | apply Kd.R_drew)); exact Kd.R_mono (Kd.R_far (p := ⟨gb322, 2, none⟩) (Kd.R_far (p := ⟨gb322, 1, none⟩) (Kd.R_far (p := ⟨gb322, 0, none⟩) (Kd.R_far (p := ⟨gb349, 2, none⟩) (Kd.R_far (p := ⟨gb349, 1, none⟩) (Kd.R_far (p := ⟨gb349, 0, none⟩) (Kd.R_types (Kd.R_types HO347.out BK349.out (by decide)) BK322.out (by decide)) (fun _ hk => hk.1.2) (.bool t341)) (fun _ hk => hk.1.2) (.slice Ao63 t342.length co63)) (fun _ hk => hk.1.2) (.slice Ao64 t345.length co64)) (fun _ hk => hk.2) (.bool t341)) (fun _ hk => hk.2) (.slice Ao63 t342.length co63)) (fun _ hk => hk.2) (.slice Ao64 t345.length co64)) (fun _ hk => trivial)⟩, ⟨by (try simp only [hl7_28]); (with_reducible repeat (first | apply Kd.R_alloc | apply Kd.R_drewN | apply Kd.R_drew)); exact Kd.R_mono (Kd.R_far (p := ⟨gb322, 2, none⟩) (Kd.R_far (p := ⟨gb322, 1, none⟩) (Kd.R_far (p := ⟨gb322, 0, none⟩) (Kd.R_far (p := ⟨gb349, 2, none⟩) (Kd.R_far (p := ⟨gb349, 1, none⟩) (Kd.R_far (p := ⟨gb349, 0, none⟩) (Kd.R_types (Kd.R_types HO_338001.out BK349.out (by decide)) BK322.out (by decide)) (fun _ hk => hk.1.2) (.bool t341)) (fun _ hk => hk.1.2) (.slice Ao63 t342.length co63)) (fun _ hk => hk.1.2) (.slice Ao64 t345.length co64)) (fun _ hk => hk.2) (.bool t341)) (fun _ hk => hk.2) (.slice Ao63 t342.length co63)) (fun _ hk => hk.2) (.slice Ao64 t345.length co64)) (fun _ hk => trivial)⟩, ⟨by (try simp only [hl7_28]); (with_reducible repeat (first | apply Kd.R_alloc | apply Kd.R_drewN | apply Kd.R_drew)); exact Kd.R_mono (Kd.R_far (p := ⟨gb322, 2, none⟩) (Kd.R_far (p := ⟨gb322, 1, none⟩) (Kd.R_far (p := ⟨gb322, 0, none⟩) (Kd.R_far (p := ⟨gb349, 2, none⟩) (Kd.R_far (p := ⟨gb349, 1, none⟩) (Kd.R_far (p := ⟨gb349, 0, none⟩) (Kd.R_types (Kd.R_types HO_338002.out BK349.out (by decide)) BK322.out (by decide)) (fun _ hk => hk.1.2) (.bool t341)) (fun _ hk => hk.1.2) (.slice Ao63 t342.length co63)) (fun _ hk => hk.1.2) (.slice Ao64 t345.length co64)) (fun _ hk => hk.2) (.bool t341)) (fun _ hk => hk.2) (.slice Ao63 t342.length co63)) (fun _ hk => hk.2) (.slice Ao64 t345.length co64)) (fun _ hk => trivial)⟩, ⟨by (try simp only [hl7_28]); (with_reducible repeat (first | refine blk_drewN ?_ _ | refine blk_drew ?_ | refine blk_alloc ?_ _)); refine blk_put (cs := #[.bool t341, .slice Ao63 t342.length co63, .slice Ao40 t333.length co40]) ?_ 2 _ rfl; (with_reducible repeat (first | refine blk_drewN ?_ _ | refine blk_drew ?_ | refine blk_alloc ?_ _)); refine blk_put (cs := #[.bool t341, .slice Ao38 t330.length co38, .slice Ao40 t333.length co40]) ?_ 1 _ rfl; (with_reducible repeat (first | refine blk_drewN ?_ _ | refine blk_drew ?_ | refine blk_alloc ?_ _)); refine blk_put (cs := #[.bool t329, .slice Ao38 t330.length co38, .slice Ao40 t333.length co40]) ?_ 0 _ rfl; (with_reducible repeat (first | refine blk_drewN ?_ _ | refine blk_drew ?_ | refine blk_alloc ?_ _)); refine blk_far ?_ NB322_349.out _; (with_reducible repeat (first | refine blk_drewN ?_ _ | refine blk_drew ?_ | refine blk_alloc ?_ _)); refine blk_far ?_ NB322_349.out _; (with_reducible repeat (first | refine blk_drewN ?_ _ | refine blk_drew ?_ | refine blk_alloc ?_ _)); refine blk_far ?_ NB322_349.out _; (with_reducible repeat (first | refine blk_drewN ?_ _ | refine blk_drew ?_ | refine blk_alloc ?_ _)); exact BK322.out⟩, ⟨by (try simp only [hl7_28]); (with_reducible repeat (first | refine blk_drewN ?_ _ | refine blk_drew ?_ | refine blk_alloc ?_ _)); refine blk_far ?_ NB337_322.out _; (with_reducible repeat (first | refine blk_drewN ?_ _ | refine blk_drew ?_ | refine blk_alloc ?_ _)); refine blk_far ?_ NB337_322.out _; (with_reducible repeat (first | refine blk_drewN ?_ _ | refine blk_drew ?_ | refine blk_alloc ?_ _)); refine blk_far ?_ NB337_322.out _; (with_reducible repeat (first | refine blk_drewN ?_ _ | refine blk_drew ?_ | refine blk_alloc ?_ _)); refine blk_far ?_ NB337_349.out _; (with_reducible repeat (first | refine blk_drewN ?_ _ | refine blk_drew ?_ | refine blk_alloc ?_ _)); refine blk_far ?_ NB337_349.out _; (with_reducible repeat (first | refine blk_drewN ?_ _ | refine blk_drew ?_ | refine blk_alloc ?_ _)); refine blk_far ?_ NB337_349.out _; (with_reducible repeat (first | refine blk_drewN ?_ _ | refine blk_drew ?_ | refine blk_alloc ?_ _)); exact BK337.out⟩, ⟨by repeat (first | (with_reducible first | exact HB.out | apply below_alloc | apply pw_below_drewN | apply below_drew1 | refine below_set ?_ GE322.out | refine below_set ?_ GE337.out | refine below_set ?_ GE349.out) | exact HB.out)⟩⟩
                  ·
                   rw [if_neg c55] at H
                   have c55b0 : ((t345.length : Int) == 0) = false := beq_eq_false_iff_ne.mpr c55; have c55b1 : ((t345.length : Int) != 0) = true := bne_iff_ne.mpr c55
                   have c55b2 : ¬ (t345 = []) := fun h_ => c55 (by rw [h_]; rfl)
                   (try (have c55h0 := c55b0; simp only [hl7_28] at c55h0))
                   exact absurd (Option.some.inj H) (by rw [HRT.out]; decide)
                 ·
                  rw [if_neg c54] at H
                  have c54b0 : (t350 == 0) = false := beq_eq_false_iff_ne.mpr c54; have c54b1 : (t350 != 0) = true := bne_iff_ne.mpr c54
                  (try (have c54h0 := c54b0; simp only [hl7_28] at c54h0))
                  (first | rw [c54b0] | (simp only [i64_w, i32_w]; rw [c54b0]) | skip)
                  exact absurd (Option.some.inj H) (by rw [HRT.out]; decide)
                ·
                 replace c51 := Bool.eq_false_iff.mpr c51
                 subst c51
                 have H1 : (ossuarylaw13_DiskReads.j3 kj28 l0 l1 y339 x8_1 t329 t330 t333) = some r := by rw [if_neg (show ¬ (false = true) by decide)] at H; exact H
                 clear H
                 have H := H1
                 clear H1
                 have H' := Aside0.mk H
                 clear H
                 go_wp2
                 go_meet
                 case rel => exact ⟨_, (t329), (t330), (t333), (.slice Ao38 t330.length co38), (.slice Ao40 t333.length co40), H', ⟨by have := HK1.out; have := HJ15.out; have := HJ28.out; first | omega | exact Nat.le_refl _⟩, ⟨by (try simp only [hl7_28]); (with_reducible repeat (first | apply Kd.R_alloc | apply Kd.R_drewN | apply Kd.R_drew)); exact HO_7.out⟩, ⟨by (try simp only [hl7_28]); (with_reducible repeat (first | apply Kd.R_alloc | apply Kd.R_drewN | apply Kd.R_drew)); exact HO_323001.out⟩, ⟨by (try simp only [hl7_28]); (with_reducible repeat (first | apply Kd.R_alloc | apply Kd.R_drewN | apply Kd.R_drew)); exact HO_323002.out⟩, ⟨by (try simp only [hl7_28]); (with_reducible repeat (first | apply Kd.R_alloc | apply Kd.R_drewN | apply Kd.R_drew)); exact HO_338001.out⟩, ⟨by (try simp only [hl7_28]); (with_reducible repeat (first | apply Kd.R_alloc | apply Kd.R_drewN | apply Kd.R_drew)); exact HO_338002.out⟩, ⟨by (try simp only [hl7_28]); (with_reducible repeat (first | refine blk_drewN ?_ _ | refine blk_drew ?_ | refine blk_alloc ?_ _)); exact BK322.out⟩, ⟨by (try simp only [hl7_28]); (with_reducible repeat (first | refine blk_drewN ?_ _ | refine blk_drew ?_ | refine blk_alloc ?_ _)); exact BK337.out⟩, ⟨by repeat (first | (with_reducible first | exact HB.out | apply below_alloc | apply pw_below_drewN | apply below_drew1 | refine below_set ?_ GE322.out | refine below_set ?_ GE337.out) | exact HB.out)⟩⟩
               case rest =>
                clear HC50; (try clear c1); (try clear c2); (try clear p2); (try clear q2); (try clear hx2); (try clear hf2); (try clear c3); (try clear p3); (try clear q3); (try clear hx3); (try clear c4); (try clear c5); (try clear c6); (try clear p6); (try clear c12); (try clear c16); (try clear c18); (try clear c24); (try clear c26); (try clear c26b0); (try clear c27); (try clear c27b0); (try clear p28); (try clear q28); (try clear hx28); (try clear hf28); (try clear c30); (try clear p32); (try clear q32); (try clear hx32); (try clear p34); (try clear q34); (try clear hx34); (try clear c43); (try clear c49); (try clear c49b0); (try clear c51); (try clear c54); (try clear c54b0); (try clear c54b1); (try clear c55); (try clear c55b0); (try clear c55b1); (try clear c55b2); (try clear c56); (try clear c60); (try clear c61); (try clear p64); (try clear hcz44_0); (try clear hcz44_1); (try clear hcz44_2); (try clear hcz45_0); (try clear hcz45_1); (try clear hcz45_2); (try clear hcz57_0); (try clear hcz57_1); (try clear hcz57_2); (try clear hcz62_0); (try clear hcz62_1); (try clear hcz62_2); (try clear hcz65_0); (try clear hcz65_1); (try clear hcz65_2); (try clear hfz44_0); (try clear hfz44_1); (try clear hfz44_2); (try clear hfz45_0); (try clear hfz45_1); (try clear hfz45_2); (try clear hfz57_0); (try clear hfz57_1); (try clear hfz57_2); (try clear hfz62_0); (try clear hfz62_1); (try clear hfz62_2); (try clear hfz65_0); (try clear hfz65_1); (try clear hfz65_2); (try clear hx28_0); (try clear hx327_0); (try clear hx340_0); (try clear p2); (try clear p28); (try clear p3); (try clear p32); (try clear p327); (try clear p34); (try clear p340); (try clear p6); (try clear q2); (try clear q28); (try clear q3); (try clear q32); (try clear q327); (try clear q34); (try clear q340); obtain ⟨kq, x323000_49, x323001_49, x323002_49, u323001, u323002, HA, HJ49, HO_7, HO_323001, HO_323002, HO_338001, HO_338002, BK322, BK337, HB⟩ := hcut
                cases kq with
                | zero => exact absurd HA.out (by simp [ossuarylaw13_DiskReads.j3])
                | succ kj49 =>
                 have H := HA.out; clear HA
                 simp only [ossuarylaw13_DiskReads.j3] at H
                 have H' := Aside0.mk H
                 clear H
                 go_wp2
                 go_loopg [15] kj49 (fun kq v15 w' => ∃ (x15_5 : Int), v15 = .int .i64 x15_5 ∧ Aside0 (ossuarylaw13_DiskReads.l1 kq l0 l1 y339 x8_1 x15_5 x323000_49 x323001_49 x323002_49 = some r) ∧ Aside0 (kq ≤ kj49) ∧ Aside0 (Kd.R (Kd.int .u8) 5 w' w.heap.size (fun _ => True) (.slice (some ⟨go28, 0, none⟩) y339.length co28) y339) ∧ Aside0 (Kd.R Kd.string 9 w' w.heap.size (fun _ => True) u323001 x323001_49) ∧ Aside0 (Kd.R k62 62 w' w.heap.size (fun _ => True) u323002 x323002_49) ∧ Aside0 (Kd.R Kd.string 9 w' w.heap.size (fun _ => True) (.slice Ao38 t330.length co38) t330) ∧ Aside0 (Kd.R k62 62 w' w.heap.size (fun _ => True) (.slice Ao40 t333.length co40) t333) ∧ Aside0 (w'.heap[gb322]? = some (.cells #[.bool x323000_49, u323001, u323002] 25 (0, 0))) ∧ Aside0 (w'.heap[gb337]? = some (.cells #[.bool t329, (.slice Ao38 t330.length co38), (.slice Ao40 t333.length co40)] 25 (0, 0))) ∧ Aside0 (Below w.heap.size w w'))
                 case atStart => exact ⟨(0), (by first | rfl | (simp; done) | (simp [*]; done)), H', ⟨Nat.le_refl _⟩, ⟨by (try simp only [hl7_28]); (with_reducible repeat (first | apply Kd.R_alloc | apply Kd.R_drewN | apply Kd.R_drew)); exact HO_7.out⟩, ⟨by (try simp only [hl7_28]); (with_reducible repeat (first | apply Kd.R_alloc | apply Kd.R_drewN | apply Kd.R_drew)); exact HO_323001.out⟩, ⟨by (try simp only [hl7_28]); (with_reducible repeat (first | apply Kd.R_alloc | apply Kd.R_drewN | apply Kd.R_drew)); exact HO_323002.out⟩, ⟨by (try simp only [hl7_28]); (with_reducible repeat (first | apply Kd.R_alloc | apply Kd.R_drewN | apply Kd.R_drew)); exact HO_338001.out⟩, ⟨by (try simp only [hl7_28]); (with_reducible repeat (first | apply Kd.R_alloc | apply Kd.R_drewN | apply Kd.R_drew)); exact HO_338002.out⟩, ⟨by (try simp only [hl7_28]); (with_reducible repeat (first | refine blk_drewN ?_ _ | refine blk_drew ?_ | refine blk_alloc ?_ _)); exact BK322.out⟩, ⟨by (try simp only [hl7_28]); (with_reducible repeat (first | refine blk_drewN ?_ _ | refine blk_drew ?_ | refine blk_alloc ?_ _)); exact BK337.out⟩, ⟨by repeat (first | (with_reducible first | exact HB.out | apply below_alloc | apply pw_below_drewN | apply below_drew1 | refine below_set ?_ GE322.out | refine below_set ?_ GE337.out) | exact HB.out)⟩⟩
                 case round =>
                  clear H'
                  (try clear c1); (try clear c2); (try clear p2); (try clear q2); (try clear hx2); (try clear hf2); (try clear c3); (try clear p3); (try clear q3); (try clear hx3); (try clear c4); (try clear c5); (try clear c6); (try clear p6); (try clear c12); (try clear c16); (try clear c18); (try clear c24); (try clear c26); (try clear c26b0); (try clear c27); (try clear c27b0); (try clear p28); (try clear q28); (try clear hx28); (try clear hf28); (try clear c30); (try clear p32); (try clear q32); (try clear hx32); (try clear p34); (try clear q34); (try clear hx34); (try clear c43); (try clear c49); (try clear c49b0); (try clear c51); (try clear c54); (try clear c54b0); (try clear c54b1); (try clear c55); (try clear c55b0); (try clear c55b1); (try clear c55b2); (try clear c56); (try clear c60); (try clear c61); (try clear p64); (try clear hcz44_0); (try clear hcz44_1); (try clear hcz44_2); (try clear hcz45_0); (try clear hcz45_1); (try clear hcz45_2); (try clear hcz57_0); (try clear hcz57_1); (try clear hcz57_2); (try clear hcz62_0); (try clear hcz62_1); (try clear hcz62_2); (try clear hcz65_0); (try clear hcz65_1); (try clear hcz65_2); (try clear hfz44_0); (try clear hfz44_1); (try clear hfz44_2); (try clear hfz45_0); (try clear hfz45_1); (try clear hfz45_2); (try clear hfz57_0); (try clear hfz57_1); (try clear hfz57_2); (try clear hfz62_0); (try clear hfz62_1); (try clear hfz62_2); (try clear hfz65_0); (try clear hfz65_1); (try clear hfz65_2); (try clear hx28_0); (try clear hx327_0); (try clear hx340_0); (try clear p2); (try clear p28); (try clear p3); (try clear p32); (try clear p327); (try clear p34); (try clear p340); (try clear p6); (try clear p64); (try clear q2); (try clear q28); (try clear q3); (try clear q32); (try clear q327); (try clear q34); (try clear q340); obtain ⟨x15_5, rfl, HA, HK5, HO_7, HO_323001, HO_323002, HO_338001, HO_338002, BK322, BK337, HB⟩ := hrel
                  cases gk with
                  | zero => exact absurd HA.out (by simp [ossuarylaw13_DiskReads.l1])
                  | succ k5 =>
                   have H := HA.out; clear HA
                   simp only [ossuarylaw13_DiskReads.l1] at H
                   by_cases c66 : x15_5 < 5
                   ·
                    rw [if_pos c66] at H
                    have c66b0 : decide (x15_5 < 5) = true := decide_eq_true c66
                    (try (have c66h0 := c66b0; simp only [hl7_28] at c66h0))
                    clear c66; replace H := Option.bind_eq_some_iff.mp H; obtain ⟨⟨t351, t352⟩, A670, H⟩ := H; (try dsimp only at H); have A67 := Aside0.mk A670; clear A670; replace H := Option.bind_eq_some_iff.mp H; obtain ⟨t353, A680, H⟩ := H; (try dsimp only at H); have A68 := Aside0.mk A680; clear A680
                    by_cases c69 : t353 = 0
                    ·
                     rw [if_pos c69] at H
                     have c69b0 : (t353 == 0) = true := beq_iff_eq.mpr c69; have c69b1 : (t353 != 0) = false := bne_eq_false_iff_eq.mpr c69
                     (try (have c69h0 := c69b0; simp only [hl7_28] at c69h0))
                     clear c69
                     by_cases c70 : 0 ≤ x15_5
                     ·
                      rw [if_pos c70] at H
                      have c70b0 : decide (0 ≤ x15_5) = true := decide_eq_true c70
                      (try (have c70h0 := c70b0; simp only [hl7_28] at c70h0))
                      clear c70
                      by_cases c71 : x15_5 < (y339.length : Int)
                      ·
                       rw [if_pos c71] at H
                       have c71b0 : decide (x15_5 < (y339.length : Int)) = true := decide_eq_true c71
                       (try (have c71h0 := c71b0; simp only [hl7_28] at c71h0))
                       clear c71; replace H := Option.bind_eq_some_iff.mp H; obtain ⟨t355, A720, H⟩ := H
                       replace H : (if t351.toList = t355.toList then (ossuarylaw13_DiskReads.l1 k5 l0 l1 y339 x8_1 (wrap64 (x15_5 + 1)) x323000_49 x323001_49 x323002_49) else (some false)) = some r := H
                       have A72 := Aside0.mk A720; clear A720
                       by_cases c73 : t351.toList = t355.toList
                       ·
                        rw [if_pos c73] at H
                        have c73b0 : (t351.toList == t355.toList) = true := beq_iff_eq.mpr c73; have c73b1 : (t351.toList != t355.toList) = false := bne_eq_false_iff_eq.mpr c73
                        (try (have c73h0 := c73b0; simp only [hl7_28] at c73h0))
                        clear c73
                        have H' := Aside0.mk H
                        clear H; have hnb74 := NB322_337.out; have hnc74 := NB337_322.out; have hcz75_0 := sq_c0 BK322; have hcz75_1 := sq_c1 BK322; have hcz75_2 := sq_c2 BK322; have hfz75_0 := blk_frozen BK322.out 0; have hfz75_1 := blk_frozen BK322.out 1; have hfz75_2 := blk_frozen BK322.out 2; obtain ⟨Ao76, co76, eo76⟩ := Kd.R_slice HO_323001.out; subst eo76; obtain ⟨Ao77, co77, eo77⟩ := Kd.R_slice HO_323002.out; subst eo77
                        go_wp2_with (first | ((with_reducible refine gate_callee (f := 14) rfl ?_); refine goesL_ (some 98) rfl rfl Try.func14 (by kernel_rfl) rfl #[.agg #[.bool x323000_49, .slice Ao76 x323001_49.length co76, .slice Ao77 x323002_49.length co77], .int .i64 x15_5] rfl (by (try simp only [List.map_toArray, List.map_cons, List.map_nil]); first | done | rfl | (simp only [List.length_drop, List.length_take]; rfl)) ?_; (with_reducible refine (disk_Read.calls x323000_49 _ _ x323001_49 _ _ x323002_49 x15_5 t351 t352 _ ?side1 ?side2 ?side3 ?side4 A67.out).mono ?_); (case side1 => repeat (first | exact (Kd.R_reads' HO_323001.out).2.2 | (with_reducible refine Kd.C_alloc ?_ _) | (with_reducible refine Kd.C_drewN ?_ _) | (with_reducible refine Kd.C_drew ?_))); (case side2 => exact (Kd.R_reads' HO_323001.out).2.1); (case side3 => repeat (first | exact (Kd.R_reads' HO_323002.out).2.2 | (with_reducible refine Kd.C_alloc ?_ _) | (with_reducible refine Kd.C_drewN ?_ _) | (with_reducible refine Kd.C_drew ?_))); (case side4 => exact (Kd.R_reads' HO_323002.out).2.1); rintro e w78 ⟨rfl, hb⟩; refine ⟨_, rfl, ?_⟩; (try replace hb := sq_un hb); have n0_ := sq_rb hb HO_7; have n1_ := sq_rb hb HO_323001; have n2_ := sq_rb hb HO_323002; have n3_ := sq_rb hb HO_338001; have n4_ := sq_rb hb HO_338002; have n5_ := sq_bk hb BK322; have n6_ := sq_bk hb BK337; have n7_ := sq_st hb HB; clear HO_7 HO_323001 HO_323002 HO_338001 HO_338002 BK322 BK337 HB; have HO_7 := n0_; have HO_323001 := n1_; have HO_323002 := n2_; have HO_338001 := n3_; have HO_338002 := n4_; have BK322 := n5_; have BK337 := n6_; have HB := n7_; clear n0_ n1_ n2_ n3_ n4_ n5_ n6_ n7_; (try clear hb); (try clear hb2); (try clear hk); (try clear hi)) | ((with_reducible refine gate_callee (f := 12) rfl ?_); refine goesL_ (some 102) rfl rfl Try.func12 (by kernel_rfl) rfl #[.int .i64 t352] rfl (by (try simp only [List.map_toArray, List.map_cons, List.map_nil]); first | done | rfl | (simp only [List.length_drop, List.length_take]; rfl)) ?_; (with_reducible refine (ossuarylaw0_Num.calls t352 t353 _ A68.out).mono ?_); rintro e w' ⟨rfl, ⟨nd, rfl⟩⟩; refine ⟨_, rfl, ?_⟩; have p354 : 0 ≤ (x15_5 : Int) := of_decide_eq_true (by first | (with_reducible assumption) | assumption); have q354 : x15_5 < (y339.length : Int) := of_decide_eq_true (by first | (with_reducible assumption) | assumption); obtain ⟨ad354, e354, hx354_0⟩ := Kd.at_int (Kd.R_reads' HO_7.out).2.2 x15_5 p354 q354; obtain rfl : (⟨go28, 0, none⟩ : Addr) = ad354 := (by injection e354); (first | simp only [add_plain] at hx354_0 | simp only [add_at] at hx354_0 | simp only [Addr.add, Nat.zero_add] at hx354_0 | skip); replace p354 := eq_true p354; replace q354 := eq_true q354) | (go_at_call 30; (with_reducible refine (ossuarylaw13_full.calls k5 (rd y339 x15_5) t355 _ A72.out).mono ?_); rintro e w79 ⟨rfl, hb⟩; (try replace hb := sq_un hb); have n0_ := sq_rb hb HO_7; have n1_ := sq_rb hb HO_323001; have n2_ := sq_rb hb HO_323002; have n3_ := sq_rb hb HO_338001; have n4_ := sq_rb hb HO_338002; have n5_ := sq_bk hb BK322; have n6_ := sq_bk hb BK337; have n7_ := sq_st hb HB; clear HO_7 HO_323001 HO_323002 HO_338001 HO_338002 BK322 BK337 HB; have HO_7 := n0_; have HO_323001 := n1_; have HO_323002 := n2_; have HO_338001 := n3_; have HO_338002 := n4_; have BK322 := n5_; have BK337 := n6_; have HB := n7_; clear n0_ n1_ n2_ n3_ n4_ n5_ n6_ n7_; (try clear hb); (try clear hb2); (try clear hk); (try clear hi)))
                        go_roundg k5
                        case measure => have := HK1.out; have := HJ15.out; have := HJ28.out; have := HJ49.out; have := HK5.out; omega
                        case rel => exact ⟨(wrap64 (x15_5 + 1)), (by first | rfl | (simp; done) | (simp [*]; done)), H', ⟨by have := HK1.out; have := HJ15.out; have := HJ28.out; have := HJ49.out; have := HK5.out; omega⟩, ⟨by (try simp only [hl7_28]); (with_reducible repeat (first | apply Kd.R_alloc | apply Kd.R_drewN | apply Kd.R_drew)); exact HO_7.out⟩, ⟨by (try simp only [hl7_28]); (with_reducible repeat (first | apply Kd.R_alloc | apply Kd.R_drewN | apply Kd.R_drew)); exact HO_323001.out⟩, ⟨by (try simp only [hl7_28]); (with_reducible repeat (first | apply Kd.R_alloc | apply Kd.R_drewN | apply Kd.R_drew)); exact HO_323002.out⟩, ⟨by (try simp only [hl7_28]); (with_reducible repeat (first | apply Kd.R_alloc | apply Kd.R_drewN | apply Kd.R_drew)); exact HO_338001.out⟩, ⟨by (try simp only [hl7_28]); (with_reducible repeat (first | apply Kd.R_alloc | apply Kd.R_drewN | apply Kd.R_drew)); exact HO_338002.out⟩, ⟨by (try simp only [hl7_28]); (with_reducible repeat (first | refine blk_drewN ?_ _ | refine blk_drew ?_ | refine blk_alloc ?_ _)); exact BK322.out⟩, ⟨by (try simp only [hl7_28]); (with_reducible repeat (first | refine blk_drewN ?_ _ | refine blk_drew ?_ | refine blk_alloc ?_ _)); exact BK337.out⟩, ⟨by repeat (first | (with_reducible first | exact HB.out | apply below_alloc | apply pw_below_drewN | apply below_drew1 | refine below_set ?_ GE322.out | refine below_set ?_ GE337.out) | exact HB.out)⟩⟩
                       ·
                        rw [if_neg c73] at H
                        have c73b0 : (t351.toList == t355.toList) = false := beq_eq_false_iff_ne.mpr c73; have c73b1 : (t351.toList != t355.toList) = true := bne_iff_ne.mpr c73
                        (try (have c73h0 := c73b0; simp only [hl7_28] at c73h0))
                        exact absurd (Option.some.inj H) (by rw [HRT.out]; decide)
                      ·
                       rw [if_neg c71] at H
                       exact absurd H (by simp)
                     ·
                      rw [if_neg c70] at H
                      exact absurd H (by simp)
                    ·
                     rw [if_neg c69] at H
                     have c69b0 : (t353 == 0) = false := beq_eq_false_iff_ne.mpr c69; have c69b1 : (t353 != 0) = true := bne_iff_ne.mpr c69
                     (try (have c69h0 := c69b0; simp only [hl7_28] at c69h0))
                     exact absurd (Option.some.inj H) (by rw [HRT.out]; decide)
                   ·
                    rw [if_neg c66] at H
                    have c66b0 : decide (x15_5 < 5) = false := decide_eq_false c66
                    (try (have c66h0 := c66b0; simp only [hl7_28] at c66h0))
                    clear c66
                    have H' := Aside0.mk H
                    clear H
                    go_wp2
                    (try simp only [← hl7_28])
                    (first | go_roundg k5 | (simp only [← hji25]; go_roundg k5))
                    case measure => have := HK1.out; have := HJ15.out; have := HJ28.out; have := HJ49.out; have := HK5.out; omega
                    case rel => exact ⟨(y339), (wrap64 (x8_1 + 1)), (x323000_49), (x323001_49), (x323002_49), (u323001), (u323002), (by first | rfl | (simp; done) | (simp [*]; done)), (by first | exact H' | (have h_ := H'; simp only [← hji25] at h_ ⊢; exact h_)), ⟨by have := HK1.out; have := HJ15.out; have := HJ28.out; have := HJ49.out; have := HK5.out; omega⟩, ⟨by (try simp only [hl7_28]); (with_reducible repeat (first | apply Kd.R_alloc | apply Kd.R_drewN | apply Kd.R_drew)); exact HO_7.out⟩, ⟨by (try simp only [hl7_28]); (with_reducible repeat (first | apply Kd.R_alloc | apply Kd.R_drewN | apply Kd.R_drew)); exact HO_323001.out⟩, ⟨by (try simp only [hl7_28]); (with_reducible repeat (first | apply Kd.R_alloc | apply Kd.R_drewN | apply Kd.R_drew)); exact HO_323002.out⟩, ⟨by (try simp only [hl7_28]); (with_reducible repeat (first | refine blk_drewN ?_ _ | refine blk_drew ?_ | refine blk_alloc ?_ _)); exact BK322.out⟩, ⟨by repeat (first | (with_reducible first | exact HB.out | apply below_alloc | apply pw_below_drewN | apply below_drew1 | refine below_set ?_ GE322.out | refine below_set ?_ GE337.out) | exact HB.out)⟩⟩
            ·
             rw [if_neg c27] at H
             exact absurd H (by simp)
           ·
            rw [if_neg c26] at H
            exact absurd H (by simp)
          ·
           rw [if_neg c24] at H
           have c24b0 : (t338 == 0) = false := beq_eq_false_iff_ne.mpr c24; have c24b1 : (t338 != 0) = true := bne_iff_ne.mpr c24
           exact absurd (Option.some.inj H) (by rw [HRT.out]; decide)
         ·
          rw [if_neg c20] at H
          exact absurd H (by simp)
        ·
         rw [if_neg c19] at H
         exact absurd H (by simp)
       ·
        replace c18 := Bool.eq_false_iff.mpr c18
        subst c18
        have H1 : (some true) = some r := by rw [if_neg (show ¬ (false = true) by decide)] at H; exact H
        clear H
        have H := H1
        clear H1
        obtain rfl := Option.some.inj H
        go_wp2
        go_ret
        exact ⟨by first | rfl | (simp [errW_none, errW_some] <;> rfl) | (simp [*, errW_none, errW_some] <;> rfl), by repeat (first | (with_reducible first | exact HB.out | apply below_alloc | apply pw_below_drewN | apply below_drew1 | refine below_set ?_ GE322.out) | exact HB.out)⟩
  ·
   rw [if_neg c7] at H
   have c7b0 : (t323 == 0) = false := beq_eq_false_iff_ne.mpr c7; have c7b1 : (t323 != 0) = true := bne_iff_ne.mpr c7
   exact absurd (Option.some.inj H) (by rw [HRT.out]; decide)
 ·
  replace c4 := Bool.eq_false_iff.mpr c4
  subst c4
  have H1 : (some false) = some r := by rw [if_neg (show ¬ (false = true) by decide)] at H; exact H
  clear H
  have H := H1
  clear H1
  exact absurd (Option.some.inj H) (by rw [HRT.out]; decide)

/-- THE ONE PURE STATEMENT of ossuarylaw13_DiskReads: yours. -/
def ossuarylaw13_DiskReads.Pure : Prop := ∀ (l0 : List Int) (l1 : List Int), l0.length ≤ maxLen → l0.length * 8 ≤ 140737488351232 → (∀ x ∈ l0, (Lit.int .i64 x).wf = true) → l1.length ≤ maxLen → l1.length * 8 ≤ 140737488351232 → (∀ x ∈ l1, (Lit.int .i64 x).wf = true) → ∃ k, ossuarylaw13_DiskReads.f k l0 l1 = some true
theorem ossuarylaw13_DiskReads.walk (P : ossuarylaw13_DiskReads.Pure) (a0 : Option Addr) (len0 cap0 : Nat) (z0 : List Int) (a1 : Option Addr) (len1 cap1 : Nat) (z1 : List Int) (w : World) (w0 : (a0 = none ∧ len0 = 0 ∧ cap0 = 0 ∧ z0 = []) ∨ ∃ x, a0 = some x ∧ len0 ≤ cap0 ∧ cap0 ≤ maxLen ∧ z0.length = cap0 ∧ (∀ i, i < z0.length → w.cell? (x.add i) = some (.int .i64 (z0.getD i 0))) ∧ ∀ n ∈ z0, (Lit.int .i64 n).wf = true) (y0 : len0 * 8 ≤ 140737488351232) (w1 : (a1 = none ∧ len1 = 0 ∧ cap1 = 0 ∧ z1 = []) ∨ ∃ x, a1 = some x ∧ len1 ≤ cap1 ∧ cap1 ≤ maxLen ∧ z1.length = cap1 ∧ (∀ i, i < z1.length → w.cell? (x.add i) = some (.int .i64 (z1.getD i 0))) ∧ ∀ n ∈ z1, (Lit.int .i64 n).wf = true) (y1 : len1 * 8 ≤ 140737488351232) :
  Calls Try.prog 4 #[.slice a0 len0 cap0, .slice a1 len1 cap1] w fun e w' => e = .returned (.bool true) ∧ Below w.heap.size w w' := by
 obtain ⟨l0, rfl, hr0, hm0, hw0, hc0⟩ := ReadsInt.ofRowC w0
 obtain ⟨l1, rfl, hr1, hm1, hw1, hc1⟩ := ReadsInt.ofRowC w1
 obtain ⟨k, h⟩ := P l0 l1 hm0 y0 hw0 hm1 y1 hw1
 refine (ossuarylaw13_DiskReads.calls k _ _ l0 _ _ l1 true w (Kd.C_of_reads (d := (0 : Int)) (h1 := fun _ => rfl) hr0) hc0 (Kd.C_of_reads (d := (0 : Int)) (h1 := fun _ => rfl) hr1) hc1 h).mono ?_
 rintro e w' ⟨rfl, hd⟩
 exact ⟨rfl, hd⟩

end Go.Proofs.Ytoloonnoobnafaa.HDiskReads
