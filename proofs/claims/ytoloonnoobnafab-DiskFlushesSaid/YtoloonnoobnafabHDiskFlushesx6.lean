/- Lean functions for the Go functions that the law reaches, and proofs that the calls come to them: written by a program of this session. -/
import Derived.Test.YtoloonnoobnafabHDiskFlushesx0
import Derived.Test.YtoloonnoobnafabHDiskFlushesx2
import Derived.Test.YtoloonnoobnafabHDiskFlushesx3
import Derived.Test.YtoloonnoobnafabHDiskFlushesx4
import Derived.Test.YtoloonnoobnafabHDiskFlushesx5
namespace Go.Proofs.Ytoloonnoobnafab.HDiskFlushes
open Go.RowKit Go.Proofs.YtoloonnoobnafabW.PrintWords Go.Proofs.YtoloonnoobnafabW.PrintLast Go.Proofs.YtoloonnoobnafabW.PrintMore
attribute [local go_sem] max2_int min2_int max_two min_two max_three min_three max_four min_four   -- for this text's walks alone
set_option linter.unusedVariables false
set_option linter.unusedSimpArgs false

/-! ### ossuarylaw13_DiskFlushes: function 3 -/
mutual
def ossuarylaw13_DiskFlushes.j0 : Nat → List Int → Bool → Bool → List ByteArray → List (S49) → Bool → List ByteArray → List (S49) → Option (Bool)
  | 0, _, _, _, _, _, _, _, _ => none
  | k + 1, x0, x38, x331000, x331001, x331002, x340000, x340001, x340002 => if x38 = true then (some false) else (ossuarylaw13_DiskFlushes.l0 k x0 0 x331000 x331001 x331002 x340000 x340001 x340002)
def ossuarylaw13_DiskFlushes.l0 : Nat → List Int → Int → Bool → List ByteArray → List (S49) → Bool → List ByteArray → List (S49) → Option (Bool)
  | 0, _, _, _, _, _, _, _, _ => none
  | k + 1, x0, x7, x331000, x331001, x331002, x340000, x340001, x340002 => if x7 < (x0.length : Int) then (ossuarylaw13_DiskFlushes.j2 k x0 x7 (decide (x7 < 16)) x331000 x331001 x331002 x340000 x340001 x340002) else (ossuarylaw13_DiskFlushes.j2 k x0 x7 false x331000 x331001 x331002 x340000 x340001 x340002)
def ossuarylaw13_DiskFlushes.j2 : Nat → List Int → Int → Bool → Bool → List ByteArray → List (S49) → Bool → List ByteArray → List (S49) → Option (Bool)
  | 0, _, _, _, _, _, _, _, _, _ => none
  | k + 1, x0, x7, x46, x331000, x331001, x331002, x340000, x340001, x340002 => if x46 = true then (if 0 ≤ x7 then (if x7 < (x0.length : Int) then ((ossuarylaw13_full.f k ((wrap64 (1 + x7)) % 256)).bind fun t343 => ((disk_Write.f x331000 x331001 x331002 (wrap64 (Int.tmod (IntKind.u64.wrap (rd x0 x7)) 4)) t343).bind fun bt344 => ((ossuarylaw13_full.f k ((wrap64 (1 + x7)) % 256)).bind fun t353 => ((disk_Write.f x340000 x340001 x340002 (wrap64 (Int.tmod (IntKind.u64.wrap (rd x0 x7)) 4)) t353).bind fun bt354 => ((disk_Flush.f k bt354.1 bt354.2.1 bt354.2.2.1).bind fun bt363 => ((ossuarylaw0_Num.f bt344.2.2.2).bind fun t372 => (if t372 = 0 then ((ossuarylaw0_Num.f bt354.2.2.2).bind fun t373 => (if t373 = 0 then ((ossuarylaw0_Num.f bt363.2.2.2).bind fun t374 => (if t374 = 0 then (ossuarylaw13_DiskFlushes.l0 k x0 (wrap64 (x7 + 1)) bt344.1 bt344.2.1 bt344.2.2.1 bt363.1 bt363.2.1 bt363.2.2.1) else (some false))) else (some false))) else (some false)))))))) else (none)) else (none)) else ((disk_Flush.f k x331000 x331001 x331002).bind fun bt375 => ((disk_Crash.f k x331000 x331001 x331002 65535).bind fun bt384 => ((disk_Flush.f k bt375.1 bt375.2.1 bt375.2.2.1).bind fun bt393 => ((ossuarylaw0_Num.f bt375.2.2.2).bind fun t402 => (if t402 = 0 then ((ossuarylaw0_Num.f bt384.2.2.2).bind fun t403 => (if t403 = 0 then ((ossuarylaw0_Num.f bt393.2.2.2).bind fun t404 => (if t404 = 0 then ((ossuarylaw0_SameDisk.f k bt375.1 bt375.2.1 bt375.2.2.1 x340000 x340001 x340002).bind fun t405 => (if t405 = true then ((ossuarylaw0_SameDisk.f k bt384.1 bt384.2.1 bt384.2.2.1 x340000 x340001 x340002).bind fun t406 => (if t406 = true then ((ossuarylaw0_SameDisk.f k bt393.1 bt393.2.1 bt393.2.2.1 bt375.1 bt375.2.1 bt375.2.2.1).bind fun t407 => (if t407 = true then ((ossuarylaw0_SameDisk.f k bt375.1 bt375.2.1 bt375.2.2.1 false ([] : List ByteArray) ([] : List (S49))).bind fun t408 => (some (!t408))) else (some false))) else (some false))) else (some false))) else (some false))) else (some false))) else (some false))))))
end
def ossuarylaw13_DiskFlushes.f (k : Nat) (l0 : List Int) : Option (Bool) := (ossuarylaw13_awake.f k).bind fun t321 => (if t321 = true then ((disk_New.f k 4).bind fun bt322 => ((disk_New.f k 4).bind fun bt331 => ((ossuarylaw0_Num.f bt322.2.2.2).bind fun t340 => (if t340 = 0 then ((ossuarylaw0_Num.f bt331.2.2.2).bind fun t341 => (ossuarylaw13_DiskFlushes.j0 k l0 (t341 != 0) bt322.1 bt322.2.1 bt322.2.2.1 bt331.1 bt331.2.1 bt331.2.2.1)) else (ossuarylaw13_DiskFlushes.j0 k l0 true bt322.1 bt322.2.1 bt322.2.2.1 bt331.1 bt331.2.1 bt331.2.2.1))))) else (some false))
theorem ossuarylaw13_DiskFlushes.mono_l : ∀ k, (∀ y0 y1 y2 y3 y4 y5 y6 y7, LeO (ossuarylaw13_DiskFlushes.j0 k y0 y1 y2 y3 y4 y5 y6 y7) (ossuarylaw13_DiskFlushes.j0 (k + 1) y0 y1 y2 y3 y4 y5 y6 y7)) ∧ (∀ y0 y1 y2 y3 y4 y5 y6 y7, LeO (ossuarylaw13_DiskFlushes.l0 k y0 y1 y2 y3 y4 y5 y6 y7) (ossuarylaw13_DiskFlushes.l0 (k + 1) y0 y1 y2 y3 y4 y5 y6 y7)) ∧ (∀ y0 y1 y2 y3 y4 y5 y6 y7 y8, LeO (ossuarylaw13_DiskFlushes.j2 k y0 y1 y2 y3 y4 y5 y6 y7 y8) (ossuarylaw13_DiskFlushes.j2 (k + 1) y0 y1 y2 y3 y4 y5 y6 y7 y8))
 | 0 => ⟨fun _ _ _ _ _ _ _ _ r h => by simp [ossuarylaw13_DiskFlushes.j0] at h, fun _ _ _ _ _ _ _ _ r h => by simp [ossuarylaw13_DiskFlushes.l0] at h, fun _ _ _ _ _ _ _ _ _ r h => by simp [ossuarylaw13_DiskFlushes.j2] at h⟩
 | k + 1 => by
  obtain ⟨ih0, ih1, ih2⟩ := ossuarylaw13_DiskFlushes.mono_l k
  refine ⟨?_, ?_, ?_⟩
  ·
   intro y0 y1 y2 y3 y4 y5 y6 y7
   unfold ossuarylaw13_DiskFlushes.j0
   repeat' first
   | (with_reducible exact ih0 _ _ _ _ _ _ _ _)
   | (with_reducible exact ih1 _ _ _ _ _ _ _ _)
   | (with_reducible exact ih2 _ _ _ _ _ _ _ _ _)
   | (with_reducible exact disk_Crash.mono _ _ _ _ _)
   | (with_reducible exact disk_Flush.mono _ _ _ _)
   | (with_reducible exact disk_New.mono _ _)
   | (with_reducible exact ossuarylaw0_SameDisk.mono _ _ _ _ _ _ _)
   | (with_reducible exact ossuarylaw13_awake.mono _)
   | (with_reducible exact ossuarylaw13_full.mono _ _)
   | (with_reducible exact LeO.refl _)
   | (with_reducible exact LeO.none _)
   | (with_reducible refine LeO.ite ?_ ?_)
   | (with_reducible refine LeO.bind ?_ (fun _ => ?_))
   | exact ih0 _ _ _ _ _ _ _ _
   | exact ih1 _ _ _ _ _ _ _ _
   | exact ih2 _ _ _ _ _ _ _ _ _
   | exact disk_Crash.mono _ _ _ _ _
   | exact disk_Flush.mono _ _ _ _
   | exact disk_New.mono _ _
   | exact ossuarylaw0_SameDisk.mono _ _ _ _ _ _ _
   | exact ossuarylaw13_awake.mono _
   | exact ossuarylaw13_full.mono _ _
   | exact LeO.none _
   | refine LeO.ite ?_ ?_
   | refine LeO.bind ?_ (fun _ => ?_)
  ·
   intro y0 y1 y2 y3 y4 y5 y6 y7
   unfold ossuarylaw13_DiskFlushes.l0
   repeat' first
   | (with_reducible exact ih0 _ _ _ _ _ _ _ _)
   | (with_reducible exact ih1 _ _ _ _ _ _ _ _)
   | (with_reducible exact ih2 _ _ _ _ _ _ _ _ _)
   | (with_reducible exact disk_Crash.mono _ _ _ _ _)
   | (with_reducible exact disk_Flush.mono _ _ _ _)
   | (with_reducible exact disk_New.mono _ _)
   | (with_reducible exact ossuarylaw0_SameDisk.mono _ _ _ _ _ _ _)
   | (with_reducible exact ossuarylaw13_awake.mono _)
   | (with_reducible exact ossuarylaw13_full.mono _ _)
   | (with_reducible exact LeO.refl _)
   | (with_reducible exact LeO.none _)
   | (with_reducible refine LeO.ite ?_ ?_)
   | (with_reducible refine LeO.bind ?_ (fun _ => ?_))
   | exact ih0 _ _ _ _ _ _ _ _
   | exact ih1 _ _ _ _ _ _ _ _
   | exact ih2 _ _ _ _ _ _ _ _ _
   | exact disk_Crash.mono _ _ _ _ _
   | exact disk_Flush.mono _ _ _ _
   | exact disk_New.mono _ _
   | exact ossuarylaw0_SameDisk.mono _ _ _ _ _ _ _
   | exact ossuarylaw13_awake.mono _
   | exact ossuarylaw13_full.mono _ _
   | exact LeO.none _
   | refine LeO.ite ?_ ?_
   | refine LeO.bind ?_ (fun _ => ?_)
  ·
   intro y0 y1 y2 y3 y4 y5 y6 y7 y8
   unfold ossuarylaw13_DiskFlushes.j2
   repeat' first
   | (with_reducible exact ih0 _ _ _ _ _ _ _ _)
   | (with_reducible exact ih1 _ _ _ _ _ _ _ _)
   | (with_reducible exact ih2 _ _ _ _ _ _ _ _ _)
   | (with_reducible exact disk_Crash.mono _ _ _ _ _)
   | (with_reducible exact disk_Flush.mono _ _ _ _)
   | (with_reducible exact disk_New.mono _ _)
   | (with_reducible exact ossuarylaw0_SameDisk.mono _ _ _ _ _ _ _)
   | (with_reducible exact ossuarylaw13_awake.mono _)
   | (with_reducible exact ossuarylaw13_full.mono _ _)
   | (with_reducible exact LeO.refl _)
   | (with_reducible exact LeO.none _)
   | (with_reducible refine LeO.ite ?_ ?_)
   | (with_reducible refine LeO.bind ?_ (fun _ => ?_))
   | exact ih0 _ _ _ _ _ _ _ _
   | exact ih1 _ _ _ _ _ _ _ _
   | exact ih2 _ _ _ _ _ _ _ _ _
   | exact disk_Crash.mono _ _ _ _ _
   | exact disk_Flush.mono _ _ _ _
   | exact disk_New.mono _ _
   | exact ossuarylaw0_SameDisk.mono _ _ _ _ _ _ _
   | exact ossuarylaw13_awake.mono _
   | exact ossuarylaw13_full.mono _ _
   | exact LeO.none _
   | refine LeO.ite ?_ ?_
   | refine LeO.bind ?_ (fun _ => ?_)
theorem ossuarylaw13_DiskFlushes.mono : ∀ a0 k, LeO (ossuarylaw13_DiskFlushes.f k a0) (ossuarylaw13_DiskFlushes.f (k + 1) a0) := by
 intro a0 k
 obtain ⟨ih0, ih1, ih2⟩ := ossuarylaw13_DiskFlushes.mono_l k
 unfold ossuarylaw13_DiskFlushes.f
 repeat' first
   | (with_reducible exact ih0 _ _ _ _ _ _ _ _)
   | (with_reducible exact ih1 _ _ _ _ _ _ _ _)
   | (with_reducible exact ih2 _ _ _ _ _ _ _ _ _)
   | (with_reducible exact disk_Crash.mono _ _ _ _ _)
   | (with_reducible exact disk_Flush.mono _ _ _ _)
   | (with_reducible exact disk_New.mono _ _)
   | (with_reducible exact ossuarylaw0_SameDisk.mono _ _ _ _ _ _ _)
   | (with_reducible exact ossuarylaw13_awake.mono _)
   | (with_reducible exact ossuarylaw13_full.mono _ _)
   | (with_reducible exact LeO.refl _)
   | (with_reducible exact LeO.none _)
   | (with_reducible refine LeO.ite ?_ ?_)
   | (with_reducible refine LeO.bind ?_ (fun _ => ?_))
   | exact ih0 _ _ _ _ _ _ _ _
   | exact ih1 _ _ _ _ _ _ _ _
   | exact ih2 _ _ _ _ _ _ _ _ _
   | exact disk_Crash.mono _ _ _ _ _
   | exact disk_Flush.mono _ _ _ _
   | exact disk_New.mono _ _
   | exact ossuarylaw0_SameDisk.mono _ _ _ _ _ _ _
   | exact ossuarylaw13_awake.mono _
   | exact ossuarylaw13_full.mono _ _
   | exact LeO.none _
   | refine LeO.ite ?_ ?_
   | refine LeO.bind ?_ (fun _ => ?_)
def ossuarylaw13_DiskFlushes.T11 : Bool × List (List Nat × List Nat) := (true, [([], []), ([], []), ([], []), ([2], [2]), ([3], [3]), ([4], [4]), ([0, 1, 5, 5], [0, 1, 5]), ([6], [6]), ([7], [7]), ([7], [7]), ([], []), ([10, 8, 6, 0, 1, 2, 3, 4, 5, 6, 7, 8, 10], [8, 10]), ([9, 11, 0, 1, 2, 3, 4, 5, 6, 7, 8, 9, 10, 11], [9])])
def ossuarylaw13_DiskFlushes.B11 : List Nat := [0, 0, 0, 4, 12, 28, 63, 127, 255, 255, 0, 1535, 4095]
theorem ossuarylaw13_DiskFlushes.tab11 : rtab .any (opsOf Try.f3 11) = ossuarylaw13_DiskFlushes.T11 := by kernel_rfl
theorem ossuarylaw13_DiskFlushes.bits11 : waitsOk ossuarylaw13_DiskFlushes.T11.2 ossuarylaw13_DiskFlushes.B11 = true := by kernel_rfl
def ossuarylaw13_DiskFlushes.T12 : Bool × List (List Nat × List Nat) := (true, [([], []), ([], []), ([], []), ([2], [2]), ([3], [3]), ([4], [4]), ([0, 1, 5, 5], [0, 1, 5]), ([6], [6]), ([7], [7]), ([7], [7]), ([], []), ([10, 8, 6, 0, 1, 2, 3, 4, 5, 6, 7, 8, 10], [8, 10]), ([9, 11, 0, 1, 2, 3, 4, 5, 6, 7, 8, 9, 10, 11], [9])])
def ossuarylaw13_DiskFlushes.B12 : List Nat := [0, 0, 0, 4, 12, 28, 63, 127, 255, 255, 0, 1535, 4095]
theorem ossuarylaw13_DiskFlushes.tab12 : rtab .any (opsOf Try.f3 12) = ossuarylaw13_DiskFlushes.T12 := by kernel_rfl
theorem ossuarylaw13_DiskFlushes.bits12 : waitsOk ossuarylaw13_DiskFlushes.T12.2 ossuarylaw13_DiskFlushes.B12 = true := by kernel_rfl
set_option maxHeartbeats 8000000 in
set_option maxRecDepth 100000 in
theorem ossuarylaw13_DiskFlushes.calls (k : Nat) (A0 : Option Addr) (c0 : Nat) (l0 : List Int) (r : Bool) (w : World) (hr0 : Kd.C (Kd.int .i64) w A0 l0.length l0) (hc0 : l0.length ≤ c0) (h : ossuarylaw13_DiskFlushes.f k l0 = some r) (hr_ : r = true := by rfl) :
  Calls Try.prog 3 #[.slice A0 l0.length c0] w fun e w' => e = .returned (.bool r) ∧ Below w.heap.size w w' := by
 have HRT := Aside0.mk hr_; clear hr_
 have hu27 := Try.underlying27
 have HR0 := Aside0.mk hr0; have HC0 := Aside0.mk hc0; clear hr0 hc0
 have HB := Aside0.mk (Below.refl w.heap.size w)
 have H : ((ossuarylaw13_awake.f k).bind fun t321 => (if t321 = true then ((disk_New.f k 4).bind fun bt322 => ((disk_New.f k 4).bind fun bt331 => ((ossuarylaw0_Num.f bt322.2.2.2).bind fun t340 => (if t340 = 0 then ((ossuarylaw0_Num.f bt331.2.2.2).bind fun t341 => (ossuarylaw13_DiskFlushes.j0 k l0 (t341 != 0) bt322.1 bt322.2.1 bt322.2.2.1 bt331.1 bt331.2.1 bt331.2.2.1)) else (ossuarylaw13_DiskFlushes.j0 k l0 true bt322.1 bt322.2.1 bt322.2.2.1 bt331.1 bt331.2.1 bt331.2.2.1))))) else (some false))) = some r := h
 clear h; replace H := Option.bind_eq_some_iff.mp H; obtain ⟨t321, A20, H⟩ := H; (try dsimp only at H); have A2 := Aside0.mk A20; clear A20
 by_cases c3 : t321 = true
 ·
  subst c3
  have H1 : ((disk_New.f k 4).bind fun bt322 => ((disk_New.f k 4).bind fun bt331 => ((ossuarylaw0_Num.f bt322.2.2.2).bind fun t340 => (if t340 = 0 then ((ossuarylaw0_Num.f bt331.2.2.2).bind fun t341 => (ossuarylaw13_DiskFlushes.j0 k l0 (t341 != 0) bt322.1 bt322.2.1 bt322.2.2.1 bt331.1 bt331.2.1 bt331.2.2.1)) else (ossuarylaw13_DiskFlushes.j0 k l0 true bt322.1 bt322.2.1 bt322.2.2.1 bt331.1 bt331.2.1 bt331.2.2.1))))) = some r := by rw [if_pos rfl] at H; exact H
  clear H
  have H := H1
  clear H1; replace H := Option.bind_eq_some_iff.mp H; obtain ⟨⟨t322, t323, t326, t329⟩, A40, H⟩ := H; (try dsimp only at H); have A4 := Aside0.mk A40; clear A40; replace H := Option.bind_eq_some_iff.mp H; obtain ⟨⟨t331, t332, t335, t338⟩, A50, H⟩ := H
  replace H : ((ossuarylaw0_Num.f t329).bind fun t340 => (if t340 = 0 then ((ossuarylaw0_Num.f t338).bind fun t341 => (ossuarylaw13_DiskFlushes.j0 k l0 (t341 != 0) t322 t323 t326 t331 t332 t335)) else (ossuarylaw13_DiskFlushes.j0 k l0 true t322 t323 t326 t331 t332 t335))) = some r := H
  have A5 := Aside0.mk A50; clear A50; have HC6 := Aside0.mk H; clear H
  go_enter Try.func3, Try.ntmps3
  go_upto_region 5 with (first | ((with_reducible refine gate_callee (f := 4) rfl ?_); refine goesL_ (some 21) rfl rfl Try.func4 (by kernel_rfl) rfl #[] rfl (by (try simp only [List.map_toArray, List.map_cons, List.map_nil]); first | done | rfl | (simp only [List.length_drop, List.length_take]; rfl)) ?_; (with_reducible refine (ossuarylaw13_awake.calls k  true _ A2.out).mono ?_); rintro e w7 ⟨rfl, hb⟩; refine ⟨_, rfl, ?_⟩; have n0_ := Aside0.mk (below_step (by repeat (first | (with_reducible first | exact HB.out | apply below_alloc | apply pw_below_drewN | apply below_drew1) | exact HB.out)) hb); clear HB; have HB := n0_; clear n0_; (try clear hb); (try clear hb2); (try clear hk); (try clear hi)) | ((with_reducible refine gate_callee (f := 5) rfl ?_); refine goesL_ (some 24) rfl rfl Try.func5 (by kernel_rfl) rfl #[.int .i64 4] rfl (by (try simp only [List.map_toArray, List.map_cons, List.map_nil]); first | done | rfl | (simp only [List.length_drop, List.length_take]; rfl)) ?_; (with_reducible refine (disk_New.calls k 4 t322 t323 t326 t329 _ A4.out).mono ?_); rintro e w8 ⟨v324, v327, rfl, ho0, ho1, hb⟩; refine ⟨_, rfl, ?_⟩; have n0_ := Aside0.mk (Kd.R_lower ho0 (below_size (by repeat (first | (with_reducible first | exact HB.out | apply below_alloc | apply pw_below_drewN | apply below_drew1) | exact HB.out)))); have n1_ := Aside0.mk (Kd.R_lower ho1 (below_size (by repeat (first | (with_reducible first | exact HB.out | apply below_alloc | apply pw_below_drewN | apply below_drew1) | exact HB.out)))); have n2_ := Aside0.mk (below_step (by repeat (first | (with_reducible first | exact HB.out | apply below_alloc | apply pw_below_drewN | apply below_drew1) | exact HB.out)) hb); clear HB; have HO325 := n0_; have HO328 := n1_; have HB := n2_; clear n0_ n1_ n2_; (try clear hb); (try clear hb2); (try clear hk); (try clear hi); (try clear ho0); (try clear ho1)) | ((with_reducible refine gate_dst (N := 3) rfl ?_); refine box_event ?hg (N := 3) ?hd (cs := #[.bool false, .slice none 0 0, .slice none 0 0]) (t := 27) ?hr ?_; (case hd => rfl); (case hg => rfl); (case hr => first | (go_simp; done) | (go_simp; rfl)); intro gb330 hg w9 hbox hb; have n0_ := Aside0.mk (Kd.R_below (by (with_reducible repeat (first | apply Kd.R_alloc | apply Kd.R_drewN | apply Kd.R_drew)); exact HO325.out) hb); have n1_ := Aside0.mk (Kd.R_below (by (with_reducible repeat (first | apply Kd.R_alloc | apply Kd.R_drewN | apply Kd.R_drew)); exact HO328.out) hb); have n2_ := Aside0.mk (below_step (by repeat (first | (with_reducible first | exact HB.out | apply below_alloc | apply pw_below_drewN | apply below_drew1) | exact HB.out)) hb); have n3_ := Aside0.mk (hbox); have n4_ := Aside0.mk ((by rw [hg]; exact (below_size (by repeat (first | (with_reducible first | exact HB.out | apply below_alloc | apply pw_below_drewN | apply below_drew1) | exact HB.out))) : w.heap.size ≤ gb330)); have n5_ := Aside0.mk ((by rw [hg]; exact (below_size (by repeat (first | (with_reducible first | exact HB.out | apply below_alloc | apply pw_below_drewN | apply below_drew1) | exact HB.out))) : w.heap.size ≤ gb330)); clear HO325 HO328 HB; have HO325 := n0_; have HO328 := n1_; have HB := n2_; have BK330 := n3_; have GW330 := n4_; have GE330 := n5_; clear n0_ n1_ n2_ n3_ n4_ n5_; clear hb hbox hg; have hcz10_0 := sq_c0 BK330; have hcz10_1 := sq_c1 BK330; have hcz10_2 := sq_c2 BK330; have hfz10_0 := blk_frozen BK330.out 0; have hfz10_1 := blk_frozen BK330.out 1; have hfz10_2 := blk_frozen BK330.out 2; obtain ⟨Ao11, co11, eo11⟩ := Kd.R_slice HO325.out; subst eo11; obtain ⟨Ao12, co12, eo12⟩ := Kd.R_slice HO328.out; subst eo12) | ((with_reducible refine gate_callee (f := 5) rfl ?_); refine goesL_ (some 28) rfl rfl Try.func5 (by kernel_rfl) rfl #[.int .i64 4] rfl (by (try simp only [List.map_toArray, List.map_cons, List.map_nil]); first | done | rfl | (simp only [List.length_drop, List.length_take]; rfl)) ?_; (with_reducible refine (disk_New.calls k 4 t331 t332 t335 t338 _ A5.out).mono ?_); rintro e w13 ⟨v333, v336, rfl, ho0, ho1, hb⟩; refine ⟨_, rfl, ?_⟩; have n0_ := Aside0.mk (Kd.R_elder' (by (with_reducible repeat (first | apply Kd.R_alloc | apply Kd.R_drewN | apply Kd.R_drew)); exact (sq_f3 HO325 BK330 (by decide))) (Kd.R_base ho0) hb); have n1_ := Aside0.mk (Kd.R_elder' (by (with_reducible repeat (first | apply Kd.R_alloc | apply Kd.R_drewN | apply Kd.R_drew)); exact (sq_f3 HO328 BK330 (by decide))) (Kd.R_base ho1) hb); have n2_ := Aside0.mk (Kd.R_lower (Kd.R_new' ho0 (Kd.R_lt (by (with_reducible repeat (first | apply Kd.R_alloc | apply Kd.R_drewN | apply Kd.R_drew)); exact (sq_f3 HO325 BK330 (by decide))))) (below_size (by repeat (first | (with_reducible first | exact HB.out | apply below_alloc | apply pw_below_drewN | apply below_drew1 | refine below_set ?_ GE330.out) | exact HB.out)))); have n3_ := Aside0.mk (Kd.R_lower (Kd.R_new' ho1 (Kd.R_lt (by (with_reducible repeat (first | apply Kd.R_alloc | apply Kd.R_drewN | apply Kd.R_drew)); exact (sq_f3 HO328 BK330 (by decide))))) (below_size (by repeat (first | (with_reducible first | exact HB.out | apply below_alloc | apply pw_below_drewN | apply below_drew1 | refine below_set ?_ GE330.out) | exact HB.out)))); have n4_ := Aside0.mk (blk_below (g := gb330) (o := .cells #[.bool t322, .slice Ao11 t323.length co11, .slice Ao12 t326.length co12] 27 (0, 0)) (by (with_reducible repeat (first | refine blk_drewN ?_ _ | refine blk_drew ?_ | refine blk_alloc ?_ _)); refine blk_put (cs := #[.bool t322, .slice Ao11 t323.length co11, .slice none 0 0]) ?_ 2 _ rfl; (with_reducible repeat (first | refine blk_drewN ?_ _ | refine blk_drew ?_ | refine blk_alloc ?_ _)); refine blk_put (cs := #[.bool t322, .slice none 0 0, .slice none 0 0]) ?_ 1 _ rfl; (with_reducible repeat (first | refine blk_drewN ?_ _ | refine blk_drew ?_ | refine blk_alloc ?_ _)); refine blk_put (cs := #[.bool false, .slice none 0 0, .slice none 0 0]) ?_ 0 _ rfl; (with_reducible repeat (first | refine blk_drewN ?_ _ | refine blk_drew ?_ | refine blk_alloc ?_ _)); exact BK330.out) hb); have n5_ := Aside0.mk (below_step (by repeat (first | (with_reducible first | exact HB.out | apply below_alloc | apply pw_below_drewN | apply below_drew1 | refine below_set ?_ GE330.out) | exact HB.out)) hb); clear HO325 HO328 BK330 HB; have HO325 := n0_; have HO328 := n1_; have HO334 := n2_; have HO337 := n3_; have BK330 := n4_; have HB := n5_; clear n0_ n1_ n2_ n3_ n4_ n5_; (try clear hb); (try clear hb2); (try clear hk); (try clear hi); (try clear ho0); (try clear ho1)) | ((with_reducible refine gate_dst (N := 5) rfl ?_); refine box_event ?hg (N := 5) ?hd (cs := #[.bool false, .slice none 0 0, .slice none 0 0]) (t := 27) ?hr ?_; (case hd => rfl); (case hg => rfl); (case hr => first | (go_simp; done) | (go_simp; rfl)); intro gb339 hg w14 hbox hb; have n0_ := Aside0.mk (Kd.R_below (by (with_reducible repeat (first | apply Kd.R_alloc | apply Kd.R_drewN | apply Kd.R_drew)); exact HO325.out) hb); have n1_ := Aside0.mk (Kd.R_below (by (with_reducible repeat (first | apply Kd.R_alloc | apply Kd.R_drewN | apply Kd.R_drew)); exact HO328.out) hb); have n2_ := Aside0.mk (Kd.R_below (by (with_reducible repeat (first | apply Kd.R_alloc | apply Kd.R_drewN | apply Kd.R_drew)); exact HO334.out) hb); have n3_ := Aside0.mk (Kd.R_below (by (with_reducible repeat (first | apply Kd.R_alloc | apply Kd.R_drewN | apply Kd.R_drew)); exact HO337.out) hb); have n4_ := Aside0.mk (blk_below (g := gb330) (o := .cells #[.bool t322, .slice Ao11 t323.length co11, .slice Ao12 t326.length co12] 27 (0, 0)) (by (with_reducible repeat (first | refine blk_drewN ?_ _ | refine blk_drew ?_ | refine blk_alloc ?_ _)); exact BK330.out) hb); have n5_ := Aside0.mk (below_step (by repeat (first | (with_reducible first | exact HB.out | apply below_alloc | apply pw_below_drewN | apply below_drew1 | refine below_set ?_ GE330.out) | exact HB.out)) hb); have n6_ := Aside0.mk (hbox); have n7_ := Aside0.mk ((by rw [hg]; exact (below_size (by repeat (first | (with_reducible first | exact HB.out | apply below_alloc | apply pw_below_drewN | apply below_drew1 | refine below_set ?_ GE330.out) | exact HB.out))) : w.heap.size ≤ gb339)); have n8_ := Aside0.mk ((by rw [hg]; exact (below_size (by repeat (first | (with_reducible first | exact HB.out | apply below_alloc | apply pw_below_drewN | apply below_drew1 | refine below_set ?_ GE330.out) | exact HB.out))) : w.heap.size ≤ gb339)); have n9_ := Aside0.mk ((by rw [hg]; exact Nat.ne_of_lt (blk_lt (g := gb330) (o := .cells #[.bool t322, .slice Ao11 t323.length co11, .slice Ao12 t326.length co12] 27 (0, 0)) (by (with_reducible repeat (first | refine blk_drewN ?_ _ | refine blk_drew ?_ | refine blk_alloc ?_ _)); exact BK330.out)) : gb330 ≠ gb339)); have n10_ := Aside0.mk ((by rw [hg]; exact Nat.ne_of_gt (blk_lt (g := gb330) (o := .cells #[.bool t322, .slice Ao11 t323.length co11, .slice Ao12 t326.length co12] 27 (0, 0)) (by (with_reducible repeat (first | refine blk_drewN ?_ _ | refine blk_drew ?_ | refine blk_alloc ?_ _)); exact BK330.out)) : gb339 ≠ gb330)); clear HO325 HO328 HO334 HO337 BK330 HB; have HO325 := n0_; have HO328 := n1_; have HO334 := n2_; have HO337 := n3_; have BK330 := n4_; have HB := n5_; have BK339 := n6_; have GW339 := n7_; have GE339 := n8_; have NB330_339 := n9_; have NB339_330 := n10_; clear n0_ n1_ n2_ n3_ n4_ n5_ n6_ n7_ n8_ n9_ n10_; clear hb hbox hg; have hnb15 := NB339_330.out; have hnc15 := NB330_339.out; have hcz16_0 := sq_c0 BK339; have hcz16_1 := sq_c1 BK339; have hcz16_2 := sq_c2 BK339; have hfz16_0 := blk_frozen BK339.out 0; have hfz16_1 := blk_frozen BK339.out 1; have hfz16_2 := blk_frozen BK339.out 2; obtain ⟨Ao17, co17, eo17⟩ := Kd.R_slice HO334.out; subst eo17; obtain ⟨Ao18, co18, eo18⟩ := Kd.R_slice HO337.out; subst eo18))
  (try simp only [Act.put, List.setIfInBounds_toArray, List.set_cons_zero, List.set_cons_succ])
  go_cut [38] (fun v38 wc => ∃ (kq : Nat) (x38_5 : Bool), v38 = .bool x38_5 ∧ Aside0 (ossuarylaw13_DiskFlushes.j0 kq l0 x38_5 t322 t323 t326 t331 t332 t335 = some r) ∧ Aside0 (kq ≤ k) ∧ Aside0 (Kd.R Kd.string 9 wc w.heap.size (fun k_ => some k_ ≠ ((.slice Ao17 t332.length co17) : Value).ownBlock) (.slice Ao11 t323.length co11) t323) ∧ Aside0 (Kd.R k49 49 wc w.heap.size (fun k_ => some k_ ≠ ((.slice Ao18 t335.length co18) : Value).ownBlock) (.slice Ao12 t326.length co12) t326) ∧ Aside0 (Kd.R Kd.string 9 wc w.heap.size (fun k_ => some k_ ≠ ((.slice Ao11 t323.length co11) : Value).ownBlock) (.slice Ao17 t332.length co17) t332) ∧ Aside0 (Kd.R k49 49 wc w.heap.size (fun k_ => some k_ ≠ ((.slice Ao12 t326.length co12) : Value).ownBlock) (.slice Ao18 t335.length co18) t335) ∧ Aside0 (wc.heap[gb330]? = some (.cells #[.bool t322, (.slice Ao11 t323.length co11), (.slice Ao12 t326.length co12)] 27 (0, 0))) ∧ Aside0 (wc.heap[gb339]? = some (.cells #[.bool t331, (.slice Ao17 t332.length co17), (.slice Ao18 t335.length co18)] 27 (0, 0))) ∧ Aside0 (Below w.heap.size w wc))
  case first =>
   have H := HC6.out; clear HC6; replace H := Option.bind_eq_some_iff.mp H; obtain ⟨t340, A190, H⟩ := H
   replace H : (if t340 = 0 then ((ossuarylaw0_Num.f t338).bind fun t341 => (ossuarylaw13_DiskFlushes.j0 k l0 (t341 != 0) t322 t323 t326 t331 t332 t335)) else (ossuarylaw13_DiskFlushes.j0 k l0 true t322 t323 t326 t331 t332 t335)) = some r := H
   have A19 := Aside0.mk A190; clear A190
   by_cases c20 : t340 = 0
   ·
    rw [if_pos c20] at H
    have c20b0 : (t340 == 0) = true := beq_iff_eq.mpr c20; have c20b1 : (t340 != 0) = false := bne_eq_false_iff_eq.mpr c20; clear c20
    (first | rw [c20b0] | (simp only [i64_w, i32_w]; rw [c20b0]) | skip)
    replace H := Option.bind_eq_some_iff.mp H; obtain ⟨t341, A210, H⟩ := H
    replace H : (ossuarylaw13_DiskFlushes.j0 k l0 (t341 != 0) t322 t323 t326 t331 t332 t335) = some r := H
    have A21 := Aside0.mk A210; clear A210
    have H' := Aside0.mk H
    clear H
    go_wp2_with (first | ((with_reducible refine gate_callee (f := 6) rfl ?_); refine goesL_ (some 32) rfl rfl Try.func6 (by kernel_rfl) rfl #[.int .i64 t329] rfl (by (try simp only [List.map_toArray, List.map_cons, List.map_nil]); first | done | rfl | (simp only [List.length_drop, List.length_take]; rfl)) ?_; (with_reducible refine (ossuarylaw0_Num.calls t329 t340 _ A19.out).mono ?_); rintro e w' ⟨rfl, ⟨nd, rfl⟩⟩; refine ⟨_, rfl, ?_⟩) | (go_at_call 6; (with_reducible refine (ossuarylaw0_Num.calls t329 t340 _ A19.out).mono ?_); rintro e w' ⟨rfl, ⟨nd, rfl⟩⟩) | (go_at_call 6; (with_reducible refine (ossuarylaw0_Num.calls t338 t341 _ A21.out).mono ?_); rintro e w' ⟨rfl, ⟨nd, rfl⟩⟩))
    go_meet
    case rel => exact ⟨_, ((t341 != 0)), (by first | rfl | (simp; done) | (simp [*]; done)), H', ⟨by first | omega | exact Nat.le_refl _⟩, ⟨by (with_reducible repeat (first | apply Kd.R_alloc | apply Kd.R_drewN | apply Kd.R_drew)); exact Kd.R_mono (Kd.R_far (p := ⟨gb339, 2, none⟩) (Kd.R_far (p := ⟨gb339, 1, none⟩) (Kd.R_far (p := ⟨gb339, 0, none⟩) (Kd.R_types HO325.out BK339.out (by decide)) (fun _ hk => hk.2) (.bool t331)) (fun _ hk => hk.2) (.slice Ao17 t332.length co17)) (fun _ hk => hk.2) (.slice Ao18 t335.length co18)) (fun _ hk => hk.1.2)⟩, ⟨by (with_reducible repeat (first | apply Kd.R_alloc | apply Kd.R_drewN | apply Kd.R_drew)); exact Kd.R_mono (Kd.R_far (p := ⟨gb339, 2, none⟩) (Kd.R_far (p := ⟨gb339, 1, none⟩) (Kd.R_far (p := ⟨gb339, 0, none⟩) (Kd.R_types HO328.out BK339.out (by decide)) (fun _ hk => hk.2) (.bool t331)) (fun _ hk => hk.2) (.slice Ao17 t332.length co17)) (fun _ hk => hk.2) (.slice Ao18 t335.length co18)) (fun _ hk => hk.1.2)⟩, ⟨by (with_reducible repeat (first | apply Kd.R_alloc | apply Kd.R_drewN | apply Kd.R_drew)); exact Kd.R_mono (Kd.R_far (p := ⟨gb339, 2, none⟩) (Kd.R_far (p := ⟨gb339, 1, none⟩) (Kd.R_far (p := ⟨gb339, 0, none⟩) (Kd.R_types HO334.out BK339.out (by decide)) (fun _ hk => hk.2) (.bool t331)) (fun _ hk => hk.2) (.slice Ao17 t332.length co17)) (fun _ hk => hk.2) (.slice Ao18 t335.length co18)) (fun _ hk => hk.1.2)⟩, ⟨by (with_reducible repeat (first | apply Kd.R_alloc | apply Kd.R_drewN | apply Kd.R_drew)); exact Kd.R_mono (Kd.R_far (p := ⟨gb339, 2, none⟩) (Kd.R_far (p := ⟨gb339, 1, none⟩) (Kd.R_far (p := ⟨gb339, 0, none⟩) (Kd.R_types HO337.out BK339.out (by decide)) (fun _ hk => hk.2) (.bool t331)) (fun _ hk => hk.2) (.slice Ao17 t332.length co17)) (fun _ hk => hk.2) (.slice Ao18 t335.length co18)) (fun _ hk => hk.1.2)⟩, ⟨by (with_reducible repeat (first | refine blk_drewN ?_ _ | refine blk_drew ?_ | refine blk_alloc ?_ _)); refine blk_far ?_ NB330_339.out _; (with_reducible repeat (first | refine blk_drewN ?_ _ | refine blk_drew ?_ | refine blk_alloc ?_ _)); refine blk_far ?_ NB330_339.out _; (with_reducible repeat (first | refine blk_drewN ?_ _ | refine blk_drew ?_ | refine blk_alloc ?_ _)); refine blk_far ?_ NB330_339.out _; (with_reducible repeat (first | refine blk_drewN ?_ _ | refine blk_drew ?_ | refine blk_alloc ?_ _)); exact BK330.out⟩, ⟨by (with_reducible repeat (first | refine blk_drewN ?_ _ | refine blk_drew ?_ | refine blk_alloc ?_ _)); refine blk_put (cs := #[.bool t331, .slice Ao17 t332.length co17, .slice none 0 0]) ?_ 2 _ rfl; (with_reducible repeat (first | refine blk_drewN ?_ _ | refine blk_drew ?_ | refine blk_alloc ?_ _)); refine blk_put (cs := #[.bool t331, .slice none 0 0, .slice none 0 0]) ?_ 1 _ rfl; (with_reducible repeat (first | refine blk_drewN ?_ _ | refine blk_drew ?_ | refine blk_alloc ?_ _)); refine blk_put (cs := #[.bool false, .slice none 0 0, .slice none 0 0]) ?_ 0 _ rfl; (with_reducible repeat (first | refine blk_drewN ?_ _ | refine blk_drew ?_ | refine blk_alloc ?_ _)); exact BK339.out⟩, ⟨by repeat (first | (with_reducible first | exact HB.out | apply below_alloc | apply pw_below_drewN | apply below_drew1 | refine below_set ?_ GE330.out | refine below_set ?_ GE339.out) | exact HB.out)⟩⟩
   ·
    rw [if_neg c20] at H
    have c20b0 : (t340 == 0) = false := beq_eq_false_iff_ne.mpr c20; have c20b1 : (t340 != 0) = true := bne_iff_ne.mpr c20
    (first | rw [c20b0] | (simp only [i64_w, i32_w]; rw [c20b0]) | skip)
    have H' := Aside0.mk H
    clear H
    go_wp2_with (first | ((with_reducible refine gate_callee (f := 6) rfl ?_); refine goesL_ (some 32) rfl rfl Try.func6 (by kernel_rfl) rfl #[.int .i64 t329] rfl (by (try simp only [List.map_toArray, List.map_cons, List.map_nil]); first | done | rfl | (simp only [List.length_drop, List.length_take]; rfl)) ?_; (with_reducible refine (ossuarylaw0_Num.calls t329 t340 _ A19.out).mono ?_); rintro e w' ⟨rfl, ⟨nd, rfl⟩⟩; refine ⟨_, rfl, ?_⟩))
    go_meet
    case rel => exact ⟨_, (true), (by first | rfl | (simp; done) | (simp [*]; done)), H', ⟨by first | omega | exact Nat.le_refl _⟩, ⟨by (with_reducible repeat (first | apply Kd.R_alloc | apply Kd.R_drewN | apply Kd.R_drew)); exact Kd.R_mono (Kd.R_far (p := ⟨gb339, 2, none⟩) (Kd.R_far (p := ⟨gb339, 1, none⟩) (Kd.R_far (p := ⟨gb339, 0, none⟩) (Kd.R_types HO325.out BK339.out (by decide)) (fun _ hk => hk.2) (.bool t331)) (fun _ hk => hk.2) (.slice Ao17 t332.length co17)) (fun _ hk => hk.2) (.slice Ao18 t335.length co18)) (fun _ hk => hk.1.2)⟩, ⟨by (with_reducible repeat (first | apply Kd.R_alloc | apply Kd.R_drewN | apply Kd.R_drew)); exact Kd.R_mono (Kd.R_far (p := ⟨gb339, 2, none⟩) (Kd.R_far (p := ⟨gb339, 1, none⟩) (Kd.R_far (p := ⟨gb339, 0, none⟩) (Kd.R_types HO328.out BK339.out (by decide)) (fun _ hk => hk.2) (.bool t331)) (fun _ hk => hk.2) (.slice Ao17 t332.length co17)) (fun _ hk => hk.2) (.slice Ao18 t335.length co18)) (fun _ hk => hk.1.2)⟩, ⟨by (with_reducible repeat (first | apply Kd.R_alloc | apply Kd.R_drewN | apply Kd.R_drew)); exact Kd.R_mono (Kd.R_far (p := ⟨gb339, 2, none⟩) (Kd.R_far (p := ⟨gb339, 1, none⟩) (Kd.R_far (p := ⟨gb339, 0, none⟩) (Kd.R_types HO334.out BK339.out (by decide)) (fun _ hk => hk.2) (.bool t331)) (fun _ hk => hk.2) (.slice Ao17 t332.length co17)) (fun _ hk => hk.2) (.slice Ao18 t335.length co18)) (fun _ hk => hk.1.2)⟩, ⟨by (with_reducible repeat (first | apply Kd.R_alloc | apply Kd.R_drewN | apply Kd.R_drew)); exact Kd.R_mono (Kd.R_far (p := ⟨gb339, 2, none⟩) (Kd.R_far (p := ⟨gb339, 1, none⟩) (Kd.R_far (p := ⟨gb339, 0, none⟩) (Kd.R_types HO337.out BK339.out (by decide)) (fun _ hk => hk.2) (.bool t331)) (fun _ hk => hk.2) (.slice Ao17 t332.length co17)) (fun _ hk => hk.2) (.slice Ao18 t335.length co18)) (fun _ hk => hk.1.2)⟩, ⟨by (with_reducible repeat (first | refine blk_drewN ?_ _ | refine blk_drew ?_ | refine blk_alloc ?_ _)); refine blk_far ?_ NB330_339.out _; (with_reducible repeat (first | refine blk_drewN ?_ _ | refine blk_drew ?_ | refine blk_alloc ?_ _)); refine blk_far ?_ NB330_339.out _; (with_reducible repeat (first | refine blk_drewN ?_ _ | refine blk_drew ?_ | refine blk_alloc ?_ _)); refine blk_far ?_ NB330_339.out _; (with_reducible repeat (first | refine blk_drewN ?_ _ | refine blk_drew ?_ | refine blk_alloc ?_ _)); exact BK330.out⟩, ⟨by (with_reducible repeat (first | refine blk_drewN ?_ _ | refine blk_drew ?_ | refine blk_alloc ?_ _)); refine blk_put (cs := #[.bool t331, .slice Ao17 t332.length co17, .slice none 0 0]) ?_ 2 _ rfl; (with_reducible repeat (first | refine blk_drewN ?_ _ | refine blk_drew ?_ | refine blk_alloc ?_ _)); refine blk_put (cs := #[.bool t331, .slice none 0 0, .slice none 0 0]) ?_ 1 _ rfl; (with_reducible repeat (first | refine blk_drewN ?_ _ | refine blk_drew ?_ | refine blk_alloc ?_ _)); refine blk_put (cs := #[.bool false, .slice none 0 0, .slice none 0 0]) ?_ 0 _ rfl; (with_reducible repeat (first | refine blk_drewN ?_ _ | refine blk_drew ?_ | refine blk_alloc ?_ _)); exact BK339.out⟩, ⟨by repeat (first | (with_reducible first | exact HB.out | apply below_alloc | apply pw_below_drewN | apply below_drew1 | refine below_set ?_ GE330.out | refine below_set ?_ GE339.out) | exact HB.out)⟩⟩
  case rest =>
   clear HC6; (try clear c1); (try clear c2); (try clear p2); (try clear c3); (try clear c4); (try clear c5); (try clear c6); (try clear c15); (try clear c20); (try clear c20b0); (try clear c20b1); (try clear hcz10_0); (try clear hcz10_1); (try clear hcz10_2); (try clear hcz16_0); (try clear hcz16_1); (try clear hcz16_2); (try clear hfz10_0); (try clear hfz10_1); (try clear hfz10_2); (try clear hfz16_0); (try clear hfz16_1); (try clear hfz16_2); obtain ⟨kq, x38_5, rfl, HA, HJ5, HO_331001, HO_331002, HO_340001, HO_340002, BK330, BK339, HB⟩ := hcut
   cases kq with
   | zero => exact absurd HA.out (by simp [ossuarylaw13_DiskFlushes.j0])
   | succ kj5 =>
    have H := HA.out; clear HA
    simp only [ossuarylaw13_DiskFlushes.j0] at H
    by_cases c22 : x38_5 = true
    ·
     subst c22
     have H1 : (some false) = some r := by rw [if_pos rfl] at H; exact H
     clear H
     have H := H1
     clear H1
     exact absurd (Option.some.inj H) (by rw [HRT.out]; decide)
    ·
     replace c22 := Bool.eq_false_iff.mpr c22
     subst c22
     have H1 : (ossuarylaw13_DiskFlushes.l0 kj5 l0 0 t322 t323 t326 t331 t332 t335) = some r := by rw [if_neg (show ¬ (false = true) by decide)] at H; exact H
     clear H
     have H := H1
     clear H1
     have H' := Aside0.mk H
     clear H
     go_wp2
     go_loopg [7] kj5 (fun kq v7 w' => ∃ (x7_2 : Int) (x331000_2 : Bool) (x331001_2 : List ByteArray) (x331002_2 : List (S49)) (x340000_2 : Bool) (x340001_2 : List ByteArray) (x340002_2 : List (S49)) (u331001 : Value) (u331002 : Value) (u340001 : Value) (u340002 : Value), v7 = .int .i64 x7_2 ∧ Aside0 (ossuarylaw13_DiskFlushes.l0 kq l0 x7_2 x331000_2 x331001_2 x331002_2 x340000_2 x340001_2 x340002_2 = some r) ∧ Aside0 (kq ≤ kj5) ∧ Aside0 (Kd.R Kd.string 9 w' w.heap.size (fun k_ => some k_ ≠ (u340001 : Value).ownBlock) u331001 x331001_2) ∧ Aside0 (Kd.R k49 49 w' w.heap.size (fun k_ => some k_ ≠ (u340002 : Value).ownBlock) u331002 x331002_2) ∧ Aside0 (Kd.R Kd.string 9 w' w.heap.size (fun k_ => some k_ ≠ (u331001 : Value).ownBlock) u340001 x340001_2) ∧ Aside0 (Kd.R k49 49 w' w.heap.size (fun k_ => some k_ ≠ (u331002 : Value).ownBlock) u340002 x340002_2) ∧ Aside0 (w'.heap[gb330]? = some (.cells #[.bool x331000_2, u331001, u331002] 27 (0, 0))) ∧ Aside0 (w'.heap[gb339]? = some (.cells #[.bool x340000_2, u340001, u340002] 27 (0, 0))) ∧ Aside0 (Below w.heap.size w w'))
     case atStart => exact ⟨(0), (t322), (t323), (t326), (t331), (t332), (t335), (.slice Ao11 t323.length co11), (.slice Ao12 t326.length co12), (.slice Ao17 t332.length co17), (.slice Ao18 t335.length co18), (by first | rfl | (simp; done) | (simp [*]; done)), H', ⟨Nat.le_refl _⟩, ⟨by (with_reducible repeat (first | apply Kd.R_alloc | apply Kd.R_drewN | apply Kd.R_drew)); exact HO_331001.out⟩, ⟨by (with_reducible repeat (first | apply Kd.R_alloc | apply Kd.R_drewN | apply Kd.R_drew)); exact HO_331002.out⟩, ⟨by (with_reducible repeat (first | apply Kd.R_alloc | apply Kd.R_drewN | apply Kd.R_drew)); exact HO_340001.out⟩, ⟨by (with_reducible repeat (first | apply Kd.R_alloc | apply Kd.R_drewN | apply Kd.R_drew)); exact HO_340002.out⟩, ⟨by (with_reducible repeat (first | refine blk_drewN ?_ _ | refine blk_drew ?_ | refine blk_alloc ?_ _)); exact BK330.out⟩, ⟨by (with_reducible repeat (first | refine blk_drewN ?_ _ | refine blk_drew ?_ | refine blk_alloc ?_ _)); exact BK339.out⟩, ⟨by repeat (first | (with_reducible first | exact HB.out | apply below_alloc | apply pw_below_drewN | apply below_drew1 | refine below_set ?_ GE330.out | refine below_set ?_ GE339.out) | exact HB.out)⟩⟩
     case round =>
      clear H'
      (try clear c1); (try clear c2); (try clear p2); (try clear c3); (try clear c4); (try clear c5); (try clear c6); (try clear c15); (try clear c20); (try clear c20b0); (try clear c20b1); (try clear c22); (try clear hcz10_0); (try clear hcz10_1); (try clear hcz10_2); (try clear hcz16_0); (try clear hcz16_1); (try clear hcz16_2); (try clear hfz10_0); (try clear hfz10_1); (try clear hfz10_2); (try clear hfz16_0); (try clear hfz16_1); (try clear hfz16_2); (try clear p2); obtain ⟨x7_2, x331000_2, x331001_2, x331002_2, x340000_2, x340001_2, x340002_2, u331001, u331002, u340001, u340002, rfl, HA, HK2, HO_331001, HO_331002, HO_340001, HO_340002, BK330, BK339, HB⟩ := hrel
      cases gk with
      | zero => exact absurd HA.out (by simp [ossuarylaw13_DiskFlushes.l0])
      | succ k2 =>
       have H := HA.out; clear HA
       simp only [ossuarylaw13_DiskFlushes.l0] at H
       have HC23 := Aside0.mk H; clear H
       go_upto_region 8 with (fail)
       go_cut [46] (fun v46 wc => ∃ (kq : Nat) (x46_22 : Bool), v46 = .bool x46_22 ∧ Aside0 (ossuarylaw13_DiskFlushes.j2 kq l0 x7_2 x46_22 x331000_2 x331001_2 x331002_2 x340000_2 x340001_2 x340002_2 = some r) ∧ Aside0 (kq ≤ k2) ∧ Aside0 (Kd.R Kd.string 9 wc w.heap.size (fun k_ => some k_ ≠ (u340001 : Value).ownBlock) u331001 x331001_2) ∧ Aside0 (Kd.R k49 49 wc w.heap.size (fun k_ => some k_ ≠ (u340002 : Value).ownBlock) u331002 x331002_2) ∧ Aside0 (Kd.R Kd.string 9 wc w.heap.size (fun k_ => some k_ ≠ (u331001 : Value).ownBlock) u340001 x340001_2) ∧ Aside0 (Kd.R k49 49 wc w.heap.size (fun k_ => some k_ ≠ (u331002 : Value).ownBlock) u340002 x340002_2) ∧ Aside0 (wc.heap[gb330]? = some (.cells #[.bool x331000_2, u331001, u331002] 27 (0, 0))) ∧ Aside0 (wc.heap[gb339]? = some (.cells #[.bool x340000_2, u340001, u340002] 27 (0, 0))) ∧ Aside0 (Below w.heap.size w wc))
       case first =>
        have H := HC23.out; clear HC23
        by_cases c24 : x7_2 < (l0.length : Int)
        ·
         rw [if_pos c24] at H
         have c24b0 : decide (x7_2 < (l0.length : Int)) = true := decide_eq_true c24; clear c24
         (first | rw [c24b0] | (simp only [i64_w, i32_w]; rw [c24b0]) | skip)
         have H' := Aside0.mk H
         clear H
         go_wp2
         go_meet
         case rel => exact ⟨_, (decide (x7_2 < 16)), (by first | rfl | (simp; done) | (simp [*]; done)), H', ⟨by have := HJ5.out; have := HK2.out; first | omega | exact Nat.le_refl _⟩, ⟨by (with_reducible repeat (first | apply Kd.R_alloc | apply Kd.R_drewN | apply Kd.R_drew)); exact HO_331001.out⟩, ⟨by (with_reducible repeat (first | apply Kd.R_alloc | apply Kd.R_drewN | apply Kd.R_drew)); exact HO_331002.out⟩, ⟨by (with_reducible repeat (first | apply Kd.R_alloc | apply Kd.R_drewN | apply Kd.R_drew)); exact HO_340001.out⟩, ⟨by (with_reducible repeat (first | apply Kd.R_alloc | apply Kd.R_drewN | apply Kd.R_drew)); exact HO_340002.out⟩, ⟨by (with_reducible repeat (first | refine blk_drewN ?_ _ | refine blk_drew ?_ | refine blk_alloc ?_ _)); exact BK330.out⟩, ⟨by (with_reducible repeat (first | refine blk_drewN ?_ _ | refine blk_drew ?_ | refine blk_alloc ?_ _)); exact BK339.out⟩, ⟨by repeat (first | (with_reducible first | exact HB.out | apply below_alloc | apply pw_below_drewN | apply below_drew1 | refine below_set ?_ GE330.out | refine below_set ?_ GE339.out) | exact HB.out)⟩⟩
        ·
         rw [if_neg c24] at H
         have c24b0 : decide (x7_2 < (l0.length : Int)) = false := decide_eq_false c24; clear c24
         (first | rw [c24b0] | (simp only [i64_w, i32_w]; rw [c24b0]) | skip)
         have H' := Aside0.mk H
         clear H
         go_wp2
         go_meet
         case rel => exact ⟨_, (false), (by first | rfl | (simp; done) | (simp [*]; done)), H', ⟨by have := HJ5.out; have := HK2.out; first | omega | exact Nat.le_refl _⟩, ⟨by (with_reducible repeat (first | apply Kd.R_alloc | apply Kd.R_drewN | apply Kd.R_drew)); exact HO_331001.out⟩, ⟨by (with_reducible repeat (first | apply Kd.R_alloc | apply Kd.R_drewN | apply Kd.R_drew)); exact HO_331002.out⟩, ⟨by (with_reducible repeat (first | apply Kd.R_alloc | apply Kd.R_drewN | apply Kd.R_drew)); exact HO_340001.out⟩, ⟨by (with_reducible repeat (first | apply Kd.R_alloc | apply Kd.R_drewN | apply Kd.R_drew)); exact HO_340002.out⟩, ⟨by (with_reducible repeat (first | refine blk_drewN ?_ _ | refine blk_drew ?_ | refine blk_alloc ?_ _)); exact BK330.out⟩, ⟨by (with_reducible repeat (first | refine blk_drewN ?_ _ | refine blk_drew ?_ | refine blk_alloc ?_ _)); exact BK339.out⟩, ⟨by repeat (first | (with_reducible first | exact HB.out | apply below_alloc | apply pw_below_drewN | apply below_drew1 | refine below_set ?_ GE330.out | refine below_set ?_ GE339.out) | exact HB.out)⟩⟩
       case rest =>
        clear HC23; (try clear c1); (try clear c2); (try clear p2); (try clear c3); (try clear c4); (try clear c5); (try clear c6); (try clear c15); (try clear c20); (try clear c20b0); (try clear c20b1); (try clear c22); (try clear c24); (try clear c24b0); (try clear hcz10_0); (try clear hcz10_1); (try clear hcz10_2); (try clear hcz16_0); (try clear hcz16_1); (try clear hcz16_2); (try clear hfz10_0); (try clear hfz10_1); (try clear hfz10_2); (try clear hfz16_0); (try clear hfz16_1); (try clear hfz16_2); (try clear p2); obtain ⟨kq, x46_22, rfl, HA, HJ22, HO_331001, HO_331002, HO_340001, HO_340002, BK330, BK339, HB⟩ := hcut
        cases kq with
        | zero => exact absurd HA.out (by simp [ossuarylaw13_DiskFlushes.j2])
        | succ kj22 =>
         have H := HA.out; clear HA
         simp only [ossuarylaw13_DiskFlushes.j2] at H
         by_cases c25 : x46_22 = true
         ·
          subst c25
          have H1 : (if 0 ≤ x7_2 then (if x7_2 < (l0.length : Int) then ((ossuarylaw13_full.f kj22 ((wrap64 (1 + x7_2)) % 256)).bind fun t343 => ((disk_Write.f x331000_2 x331001_2 x331002_2 (wrap64 (Int.tmod (IntKind.u64.wrap (rd l0 x7_2)) 4)) t343).bind fun bt344 => ((ossuarylaw13_full.f kj22 ((wrap64 (1 + x7_2)) % 256)).bind fun t353 => ((disk_Write.f x340000_2 x340001_2 x340002_2 (wrap64 (Int.tmod (IntKind.u64.wrap (rd l0 x7_2)) 4)) t353).bind fun bt354 => ((disk_Flush.f kj22 bt354.1 bt354.2.1 bt354.2.2.1).bind fun bt363 => ((ossuarylaw0_Num.f bt344.2.2.2).bind fun t372 => (if t372 = 0 then ((ossuarylaw0_Num.f bt354.2.2.2).bind fun t373 => (if t373 = 0 then ((ossuarylaw0_Num.f bt363.2.2.2).bind fun t374 => (if t374 = 0 then (ossuarylaw13_DiskFlushes.l0 kj22 l0 (wrap64 (x7_2 + 1)) bt344.1 bt344.2.1 bt344.2.2.1 bt363.1 bt363.2.1 bt363.2.2.1) else (some false))) else (some false))) else (some false)))))))) else (none)) else (none)) = some r := by rw [if_pos rfl] at H; exact H
          clear H
          have H := H1
          clear H1
          by_cases c26 : 0 ≤ x7_2
          ·
           rw [if_pos c26] at H
           have c26b0 : decide (0 ≤ x7_2) = true := decide_eq_true c26; clear c26
           by_cases c27 : x7_2 < (l0.length : Int)
           ·
            rw [if_pos c27] at H
            have c27b0 : decide (x7_2 < (l0.length : Int)) = true := decide_eq_true c27; clear c27; replace H := Option.bind_eq_some_iff.mp H; obtain ⟨t343, A280, H⟩ := H; (try dsimp only at H); have A28 := Aside0.mk A280; clear A280; replace H := Option.bind_eq_some_iff.mp H; obtain ⟨⟨t344, t345, t348, t351⟩, A290, H⟩ := H; (try dsimp only at H); have A29 := Aside0.mk A290; clear A290; replace H := Option.bind_eq_some_iff.mp H; obtain ⟨t353, A300, H⟩ := H; (try dsimp only at H); have A30 := Aside0.mk A300; clear A300; replace H := Option.bind_eq_some_iff.mp H; obtain ⟨⟨t354, t355, t358, t361⟩, A310, H⟩ := H; (try dsimp only at H); have A31 := Aside0.mk A310; clear A310; replace H := Option.bind_eq_some_iff.mp H; obtain ⟨⟨t363, t364, t367, t370⟩, A320, H⟩ := H; (try dsimp only at H); have A32 := Aside0.mk A320; clear A320; replace H := Option.bind_eq_some_iff.mp H; obtain ⟨t372, A330, H⟩ := H; (try dsimp only at H); have A33 := Aside0.mk A330; clear A330
            by_cases c34 : t372 = 0
            ·
             rw [if_pos c34] at H
             have c34b0 : (t372 == 0) = true := beq_iff_eq.mpr c34; have c34b1 : (t372 != 0) = false := bne_eq_false_iff_eq.mpr c34; clear c34; replace H := Option.bind_eq_some_iff.mp H; obtain ⟨t373, A350, H⟩ := H
             replace H : (if t373 = 0 then ((ossuarylaw0_Num.f t370).bind fun t374 => (if t374 = 0 then (ossuarylaw13_DiskFlushes.l0 kj22 l0 (wrap64 (x7_2 + 1)) t344 t345 t348 t363 t364 t367) else (some false))) else (some false)) = some r := H
             have A35 := Aside0.mk A350; clear A350
             by_cases c36 : t373 = 0
             ·
              rw [if_pos c36] at H
              have c36b0 : (t373 == 0) = true := beq_iff_eq.mpr c36; have c36b1 : (t373 != 0) = false := bne_eq_false_iff_eq.mpr c36; clear c36; replace H := Option.bind_eq_some_iff.mp H; obtain ⟨t374, A370, H⟩ := H
              replace H : (if t374 = 0 then (ossuarylaw13_DiskFlushes.l0 kj22 l0 (wrap64 (x7_2 + 1)) t344 t345 t348 t363 t364 t367) else (some false)) = some r := H
              have A37 := Aside0.mk A370; clear A370
              by_cases c38 : t374 = 0
              ·
               rw [if_pos c38] at H
               have c38b0 : (t374 == 0) = true := beq_iff_eq.mpr c38; have c38b1 : (t374 != 0) = false := bne_eq_false_iff_eq.mpr c38; clear c38
               have H' := Aside0.mk H
               clear H
               have p342 : 0 ≤ (x7_2 : Int) := of_decide_eq_true (by first | (with_reducible assumption) | assumption)
               have q342 : x7_2 < (l0.length : Int) := of_decide_eq_true (by first | (with_reducible assumption) | assumption)
               obtain ⟨ad342, e342, hx342_0⟩ := Kd.at_int HR0.out x7_2 p342 q342
               cases e342
               replace hx342_0 := (HB.out.cell (World.block_lt_of_cell? w _ hx342_0)).trans hx342_0
               replace p342 := eq_true p342
               replace q342 := eq_true q342
               obtain ⟨Ao39, co39, eo39⟩ := Kd.R_slice HO_331001.out; subst eo39; obtain ⟨Ao40, co40, eo40⟩ := Kd.R_slice HO_331002.out; subst eo40
               try go_wp2
               have n0_ := Aside0.mk (Kd.R_drew HO_331001.out); have n1_ := Aside0.mk (Kd.R_drew HO_331002.out); have n2_ := Aside0.mk (Kd.R_drew HO_340001.out); have n3_ := Aside0.mk (Kd.R_drew HO_340002.out); have n4_ := Aside0.mk (blk_drew BK330.out); have n5_ := Aside0.mk (blk_drew BK339.out); have n6_ := Aside0.mk (below_drew1 HB.out); clear HO_331001; clear HO_331002; clear HO_340001; clear HO_340002; clear BK330; clear BK339; clear HB; have HO_331001 := n0_; have HO_331002 := n1_; have HO_340001 := n2_; have HO_340002 := n3_; have BK330 := n4_; have BK339 := n5_; have HB := n6_; clear n0_ n1_ n2_ n3_ n4_ n5_ n6_
               refine start_ (n := 13) (S := fun w' => w'.cell? ⟨gb330, 0, none⟩ = some (.bool x331000_2) ∧ w'.cell? ⟨gb330, 1, none⟩ = some (.slice Ao39 x331001_2.length co39) ∧ w'.cell? ⟨gb330, 2, none⟩ = some (.slice Ao40 x331002_2.length co40)) (ds := []) #[false, false, false, false, false, false, false, false, false, false, false, false, false] (by kernel_rfl) rfl rfl ⟨(blk_cell BK330.out 0).trans rfl, (blk_cell BK330.out 1).trans rfl, (blk_cell BK330.out 2).trans rfl⟩ (fun hHeld => ?_); refine with_tabW ossuarylaw13_DiskFlushes.tab11 ossuarylaw13_DiskFlushes.bits11 (fun HT_ HW_ => ?_)
               generalize wc.drew = w41 at HO_331001 HO_331002 HO_340001 HO_340002 BK330 BK339 HB hHeld ⊢
               refine pure_ (i := 1) (N := some 58) (v := ?_) (a' := ?_) #[false, true, false, false, false, false, false, false, false, false, false, false, false] rfl rfl (any_of HT_.out (by kernel_rfl)) (fun _ _ _ h => h) (Or.inl ⟨by rfl, ?_⟩) ?_ ?_
               rotate_left
               ·
                intro w'
                go_simp
                with_reducible rfl
               rotate_left
               ·
                simp only [Act.put, List.setIfInBounds_toArray, List.set_cons_zero, List.set_cons_succ, i64_w, i32_w]
                rfl
               refine pure_ (i := 2) (N := some 59) (v := ?_) (a' := ?_) #[false, true, true, false, false, false, false, false, false, false, false, false, false] rfl rfl (any_of HT_.out (by kernel_rfl)) (fun _ _ _ h => h) (Or.inl ⟨by rfl, ?_⟩) ?_ ?_
               rotate_left
               ·
                intro w'
                go_simp
                with_reducible rfl
               rotate_left
               ·
                simp only [Act.put, List.setIfInBounds_toArray, List.set_cons_zero, List.set_cons_succ, i64_w, i32_w]
                rfl
               refine pure_ (i := 3) (N := some 60) (v := ?_) (a' := ?_) #[false, true, true, true, false, false, false, false, false, false, false, false, false] rfl rfl (any_of HT_.out (by kernel_rfl)) (fun _ _ _ h => h) (Or.inl ⟨by rfl, ?_⟩) ?_ ?_
               rotate_left
               ·
                intro w'
                go_simp
                with_reducible rfl
               rotate_left
               ·
                simp only [Act.put, List.setIfInBounds_toArray, List.set_cons_zero, List.set_cons_succ, i64_w, i32_w]
                rfl
               refine pure_ (i := 4) (N := some 61) (v := ?_) (a' := ?_) #[false, true, true, true, true, false, false, false, false, false, false, false, false] rfl rfl (any_of HT_.out (by kernel_rfl)) (fun _ _ _ h => h) (Or.inl ⟨by rfl, ?_⟩) ?_ ?_
               rotate_left
               ·
                intro w'
                go_simp
                with_reducible rfl
               rotate_left
               ·
                simp only [Act.put, List.setIfInBounds_toArray, List.set_cons_zero, List.set_cons_succ, i64_w, i32_w]
                rfl
               refine take_ (i := 0) (N := some 57) (v := ?_) (a' := ?_) #[true, true, true, true, true, false, false, false, false, false, false, false, false] rfl rfl (take_ofW HT_.out HW_.out (by kernel_rfl)) (fun _ _ _ h => h) (Or.inl ⟨by rfl, ?_⟩) hHeld ?_ ?_
               rotate_left
               ·
                rintro w' ⟨s0, s1, s2⟩
                go_simp
                with_reducible rfl
               rotate_left
               ·
                simp only [Act.put, List.setIfInBounds_toArray, List.set_cons_zero, List.set_cons_succ, i64_w, i32_w]
                rfl
               refine join_ (σ := Value × Value × Nat) 2 #[true, true, true, true, true, true, true, true, true, true, true, false, false] (fun s_ => [(62, .string t343), (63, .tuple #[.agg #[.bool t344, s_.1, s_.2.1], .int .i64 t351]), (9, .pointer (some ⟨s_.2.2, 0, none⟩)), (56, .tuple #[.agg #[.bool t344, s_.1, s_.2.1], .int .i64 t351]), (64, .agg #[.bool t344, s_.1, s_.2.1]), (65, .int .i64 t351)]) (fun s_ w' => (w'.cell? ⟨gb330, 0, none⟩ = some (.bool x331000_2) ∧ w'.cell? ⟨gb330, 1, none⟩ = some (.slice Ao39 x331001_2.length co39) ∧ w'.cell? ⟨gb330, 2, none⟩ = some (.slice Ao40 x331002_2.length co40)) ∧ (Kd.R Kd.string 9 w' w.heap.size (fun k_ => some k_ ≠ (.slice Ao39 x331001_2.length co39 : Value).ownBlock ∧ some k_ ≠ (u340001 : Value).ownBlock) s_.1 t345) ∧ (Kd.R k49 49 w' w.heap.size (fun k_ => some k_ ≠ (.slice Ao40 x331002_2.length co40 : Value).ownBlock ∧ some k_ ≠ (u340002 : Value).ownBlock) s_.2.1 t348) ∧ (Kd.R Kd.string 9 w' w.heap.size (fun k_ => some k_ ≠ (s_.1 : Value).ownBlock ∧ some k_ ≠ (u340001 : Value).ownBlock) (.slice Ao39 x331001_2.length co39) x331001_2) ∧ (Kd.R k49 49 w' w.heap.size (fun k_ => some k_ ≠ (s_.2.1 : Value).ownBlock ∧ some k_ ≠ (u340002 : Value).ownBlock) (.slice Ao40 x331002_2.length co40) x331002_2) ∧ (Kd.R Kd.string 9 w' w.heap.size (fun k_ => some k_ ≠ (s_.1 : Value).ownBlock ∧ some k_ ≠ (.slice Ao39 x331001_2.length co39 : Value).ownBlock) u340001 x340001_2) ∧ (Kd.R k49 49 w' w.heap.size (fun k_ => some k_ ≠ (s_.2.1 : Value).ownBlock ∧ some k_ ≠ (.slice Ao40 x331002_2.length co40 : Value).ownBlock) u340002 x340002_2) ∧ (w'.heap[gb330]? = some (.cells #[.bool x331000_2, .slice Ao39 x331001_2.length co39, .slice Ao40 x331002_2.length co40] 27 (0, 0))) ∧ (w'.heap[gb339]? = some (.cells #[.bool x340000_2, u340001, u340002] 27 (0, 0))) ∧ (w'.heap[s_.2.2]? = some (.cells #[.bool false, .slice none 0 0, .slice none 0 0] 27 (0, 0))) ∧ (w.heap.size ≤ s_.2.2) ∧ (w.heap.size ≤ s_.2.2) ∧ (gb330 ≠ s_.2.2) ∧ (s_.2.2 ≠ gb330) ∧ (gb339 ≠ s_.2.2) ∧ (s_.2.2 ≠ gb339) ∧ (Below w.heap.size w w')) ?_ ?_
               rotate_left
               ·
                intro hCont
                refine two_ (i := 5) (j := 10) (Ni := some 62) (Nj := some 9) #[true, true, true, true, true, true, false, false, false, false, false, false, false] #[true, true, true, true, true, false, false, false, false, false, true, false, false] rfl rfl rfl rfl (two_of HT_.out (by kernel_rfl)) (by decide) (by decide) (fun K hK => ?_) (fun K hK => ?_)
                ·
                 skip
                 refine goes_ Try.func8 (by kernel_rfl) rfl #[.int .u8 ((wrap64 (1 + x7_2)) % 256)] (by rfl) rfl rfl (by (try simp only [List.map_toArray, List.map_cons, List.map_nil]); first | done | rfl | (simp only [List.length_drop, List.length_take]; rfl)) ?_
                 with_reducible refine (ossuarylaw13_full.calls kj22 ((wrap64 (1 + x7_2)) % 256) t343 _ A28.out).mono ?_
                 rintro e w42 ⟨rfl, hb⟩
                 refine ⟨_, rfl, ?_⟩
                 have n0_ := Aside0.mk (Kd.R_below (by (with_reducible repeat (first | apply Kd.R_alloc | apply Kd.R_drewN | apply Kd.R_drew)); exact HO_331001.out) hb)
                 have n1_ := Aside0.mk (Kd.R_below (by (with_reducible repeat (first | apply Kd.R_alloc | apply Kd.R_drewN | apply Kd.R_drew)); exact HO_331002.out) hb)
                 have n2_ := Aside0.mk (Kd.R_below (by (with_reducible repeat (first | apply Kd.R_alloc | apply Kd.R_drewN | apply Kd.R_drew)); exact HO_340001.out) hb)
                 have n3_ := Aside0.mk (Kd.R_below (by (with_reducible repeat (first | apply Kd.R_alloc | apply Kd.R_drewN | apply Kd.R_drew)); exact HO_340002.out) hb)
                 have n4_ := Aside0.mk (blk_below (g := gb330) (o := .cells #[.bool x331000_2, .slice Ao39 x331001_2.length co39, .slice Ao40 x331002_2.length co40] 27 (0, 0)) (by (with_reducible repeat (first | refine blk_drewN ?_ _ | refine blk_drew ?_ | refine blk_alloc ?_ _)); exact BK330.out) hb)
                 have n5_ := Aside0.mk (blk_below (g := gb339) (o := .cells #[.bool x340000_2, u340001, u340002] 27 (0, 0)) (by (with_reducible repeat (first | refine blk_drewN ?_ _ | refine blk_drew ?_ | refine blk_alloc ?_ _)); exact BK339.out) hb)
                 have n6_ := sq_st hb HB; clear HO_331001; clear HO_331002; clear HO_340001; clear HO_340002; clear BK330; clear BK339; clear HB; have HO_331001 := n0_; have HO_331002 := n1_; have HO_340001 := n2_; have HO_340002 := n3_; have BK330 := n4_; have BK339 := n5_; have HB := n6_; clear n0_ n1_ n2_ n3_ n4_ n5_ n6_
                 (try clear hb)
                 (try clear hb2)
                 (try clear hk)
                 (try clear hi)
                 refine hK.out _ _ ⟨(blk_cell BK330.out 0).trans rfl, (blk_cell BK330.out 1).trans rfl, (blk_cell BK330.out 2).trans rfl⟩ (fun hHeld => ?_)
                 clear hK K
                 refine norm_ (a' := ?_) ?_ ?_
                 rotate_left
                 ·
                  show Act.put _ (some 62) _ = _
                  simp only [Act.put, List.setIfInBounds_toArray, List.set_cons_zero, List.set_cons_succ, i64_w, i32_w]
                  rfl
                 refine two_ (i := 6) (j := 10) (Ni := some 63) (Nj := some 9) #[true, true, true, true, true, true, true, false, false, false, false, false, false] #[true, true, true, true, true, true, false, false, false, false, true, false, false] rfl rfl rfl rfl (two_of HT_.out (by kernel_rfl)) (by decide) (by decide) (fun K hK => ?_) (fun K hK => ?_)
                 ·
                  skip
                  refine goes_ Try.func7 (by kernel_rfl) rfl #[.agg #[.bool x331000_2, .slice Ao39 x331001_2.length co39, .slice Ao40 x331002_2.length co40], .int .i64 (wrap64 (Int.tmod (IntKind.u64.wrap (rd l0 x7_2)) 4)), .string t343] (by rfl) rfl rfl (by (try simp only [List.map_toArray, List.map_cons, List.map_nil]); first | done | rfl | (simp only [List.length_drop, List.length_take]; rfl)) ?_
                  with_reducible refine (disk_Write.calls x331000_2 _ _ x331001_2 _ _ x331002_2 (wrap64 (Int.tmod (IntKind.u64.wrap (rd l0 x7_2)) 4)) t343 t344 t345 t348 t351 _ ?side1 ?side2 ?side3 ?side4 A29.out).mono ?_
                  (case side1 => repeat (first | exact (Kd.R_reads' HO_331001.out).2.2 | (with_reducible refine Kd.C_alloc ?_ _) | (with_reducible refine Kd.C_drewN ?_ _) | (with_reducible refine Kd.C_drew ?_)))
                  (case side2 => exact (Kd.R_reads' HO_331001.out).2.1)
                  (case side3 => repeat (first | exact (Kd.R_reads' HO_331002.out).2.2 | (with_reducible refine Kd.C_alloc ?_ _) | (with_reducible refine Kd.C_drewN ?_ _) | (with_reducible refine Kd.C_drew ?_)))
                  (case side4 => exact (Kd.R_reads' HO_331002.out).2.1)
                  rintro e w43 ⟨v346, v349, rfl, ho0, ho1, hb⟩
                  refine ⟨_, rfl, ?_⟩
                  have n0_ := Aside0.mk (Kd.R_elder' (by (with_reducible repeat (first | apply Kd.R_alloc | apply Kd.R_drewN | apply Kd.R_drew)); exact HO_331001.out) (Kd.R_base ho0) hb)
                  have n1_ := Aside0.mk (Kd.R_elder' (by (with_reducible repeat (first | apply Kd.R_alloc | apply Kd.R_drewN | apply Kd.R_drew)); exact HO_331002.out) (Kd.R_base ho1) hb)
                  have n2_ := Aside0.mk (Kd.R_elder' (by (with_reducible repeat (first | apply Kd.R_alloc | apply Kd.R_drewN | apply Kd.R_drew)); exact HO_340001.out) (Kd.R_base ho0) hb)
                  have n3_ := Aside0.mk (Kd.R_elder' (by (with_reducible repeat (first | apply Kd.R_alloc | apply Kd.R_drewN | apply Kd.R_drew)); exact HO_340002.out) (Kd.R_base ho1) hb)
                  have n4_ := Aside0.mk (Kd.R_lower (Kd.R_new' (Kd.R_new' ho0 (Kd.R_lt (by (with_reducible repeat (first | apply Kd.R_alloc | apply Kd.R_drewN | apply Kd.R_drew)); exact HO_331001.out))) (Kd.R_lt (by (with_reducible repeat (first | apply Kd.R_alloc | apply Kd.R_drewN | apply Kd.R_drew)); exact HO_340001.out))) (below_size (by repeat (first | (with_reducible first | exact HB.out | apply below_alloc | apply pw_below_drewN | apply below_drew1 | refine below_set ?_ GE330.out | refine below_set ?_ GE339.out) | exact HB.out))))
                  have n5_ := Aside0.mk (Kd.R_lower (Kd.R_new' (Kd.R_new' ho1 (Kd.R_lt (by (with_reducible repeat (first | apply Kd.R_alloc | apply Kd.R_drewN | apply Kd.R_drew)); exact HO_331002.out))) (Kd.R_lt (by (with_reducible repeat (first | apply Kd.R_alloc | apply Kd.R_drewN | apply Kd.R_drew)); exact HO_340002.out))) (below_size (by repeat (first | (with_reducible first | exact HB.out | apply below_alloc | apply pw_below_drewN | apply below_drew1 | refine below_set ?_ GE330.out | refine below_set ?_ GE339.out) | exact HB.out))))
                  have n6_ := Aside0.mk (blk_below (g := gb330) (o := .cells #[.bool x331000_2, .slice Ao39 x331001_2.length co39, .slice Ao40 x331002_2.length co40] 27 (0, 0)) (by (with_reducible repeat (first | refine blk_drewN ?_ _ | refine blk_drew ?_ | refine blk_alloc ?_ _)); exact BK330.out) hb)
                  have n7_ := Aside0.mk (blk_below (g := gb339) (o := .cells #[.bool x340000_2, u340001, u340002] 27 (0, 0)) (by (with_reducible repeat (first | refine blk_drewN ?_ _ | refine blk_drew ?_ | refine blk_alloc ?_ _)); exact BK339.out) hb)
                  have n8_ := sq_st hb HB; clear HO_331001; clear HO_331002; clear HO_340001; clear HO_340002; clear BK330; clear BK339; clear HB; have HO_331001 := n0_; have HO_331002 := n1_; have HO_340001 := n2_; have HO_340002 := n3_; have HO347 := n4_; have HO350 := n5_; have BK330 := n6_; have BK339 := n7_; have HB := n8_; clear n0_ n1_ n2_ n3_ n4_ n5_ n6_ n7_ n8_
                  (try clear hb)
                  (try clear hb2)
                  (try clear hk)
                  (try clear hi)
                  (try clear ho0)
                  (try clear ho1)
                  refine hK.out _ _ ⟨(blk_cell BK330.out 0).trans rfl, (blk_cell BK330.out 1).trans rfl, (blk_cell BK330.out 2).trans rfl⟩ (fun hHeld => ?_)
                  clear hK K
                  refine norm_ (a' := ?_) ?_ ?_
                  rotate_left
                  ·
                   show Act.put _ (some 63) _ = _
                   simp only [Act.put, List.setIfInBounds_toArray, List.set_cons_zero, List.set_cons_succ, i64_w, i32_w]
                   rfl
                  refine pure_ (i := 7) (N := some 56) (v := ?_) (a' := ?_) #[true, true, true, true, true, true, true, true, false, false, false, false, false] rfl rfl (any_of HT_.out (by kernel_rfl)) (fun _ _ _ h => h) (Or.inl ⟨by rfl, ?_⟩) ?_ ?_
                  rotate_left
                  ·
                   intro w'
                   go_simp
                   with_reducible rfl
                  rotate_left
                  ·
                   simp only [Act.put, List.setIfInBounds_toArray, List.set_cons_zero, List.set_cons_succ, i64_w, i32_w]
                   rfl
                  refine pure_ (i := 8) (N := some 64) (v := ?_) (a' := ?_) #[true, true, true, true, true, true, true, true, true, false, false, false, false] rfl rfl (any_of HT_.out (by kernel_rfl)) (fun _ _ _ h => h) (Or.inl ⟨by rfl, ?_⟩) ?_ ?_
                  rotate_left
                  ·
                   intro w'
                   go_simp
                   with_reducible rfl
                  rotate_left
                  ·
                   simp only [Act.put, List.setIfInBounds_toArray, List.set_cons_zero, List.set_cons_succ, i64_w, i32_w]
                   rfl
                  refine pure_ (i := 9) (N := some 65) (v := ?_) (a' := ?_) #[true, true, true, true, true, true, true, true, true, true, false, false, false] rfl rfl (any_of HT_.out (by kernel_rfl)) (fun _ _ _ h => h) (Or.inl ⟨by rfl, ?_⟩) ?_ ?_
                  rotate_left
                  ·
                   intro w'
                   go_simp
                   with_reducible rfl
                  rotate_left
                  ·
                   simp only [Act.put, List.setIfInBounds_toArray, List.set_cons_zero, List.set_cons_succ, i64_w, i32_w]
                   rfl
                  refine one_ (i := 10) (N := some 9) #[true, true, true, true, true, true, true, true, true, true, true, false, false] rfl rfl (one_of HT_.out (by kernel_rfl)) (by decide) (fun K hK => ?_)
                  refine box_step ?hg (N := 9) ?hd (cs := #[.bool false, .slice none 0 0, .slice none 0 0]) (t := 27) ?hr ?_; (case hd => rfl); (case hg => rfl); (case hr => first | (go_simp; done) | (go_simp; rfl))
                  intro gb352 hg w44 hbox hb
                  have n0_ := Aside0.mk (Kd.R_below (by (with_reducible repeat (first | apply Kd.R_alloc | apply Kd.R_drewN | apply Kd.R_drew)); exact HO_331001.out) hb)
                  have n1_ := Aside0.mk (Kd.R_below (by (with_reducible repeat (first | apply Kd.R_alloc | apply Kd.R_drewN | apply Kd.R_drew)); exact HO_331002.out) hb)
                  have n2_ := Aside0.mk (Kd.R_below (by (with_reducible repeat (first | apply Kd.R_alloc | apply Kd.R_drewN | apply Kd.R_drew)); exact HO_340001.out) hb)
                  have n3_ := Aside0.mk (Kd.R_below (by (with_reducible repeat (first | apply Kd.R_alloc | apply Kd.R_drewN | apply Kd.R_drew)); exact HO_340002.out) hb)
                  have n4_ := Aside0.mk (Kd.R_below (by (with_reducible repeat (first | apply Kd.R_alloc | apply Kd.R_drewN | apply Kd.R_drew)); exact HO347.out) hb)
                  have n5_ := Aside0.mk (Kd.R_below (by (with_reducible repeat (first | apply Kd.R_alloc | apply Kd.R_drewN | apply Kd.R_drew)); exact HO350.out) hb)
                  have n6_ := Aside0.mk (blk_below (g := gb330) (o := .cells #[.bool x331000_2, .slice Ao39 x331001_2.length co39, .slice Ao40 x331002_2.length co40] 27 (0, 0)) (by (with_reducible repeat (first | refine blk_drewN ?_ _ | refine blk_drew ?_ | refine blk_alloc ?_ _)); exact BK330.out) hb)
                  have n7_ := Aside0.mk (blk_below (g := gb339) (o := .cells #[.bool x340000_2, u340001, u340002] 27 (0, 0)) (by (with_reducible repeat (first | refine blk_drewN ?_ _ | refine blk_drew ?_ | refine blk_alloc ?_ _)); exact BK339.out) hb)
                  have n8_ := sq_st hb HB; have n9_ := Aside0.mk (hbox)
                  have n10_ := Aside0.mk ((by rw [hg]; exact (below_size (by repeat (first | (with_reducible first | exact HB.out | apply below_alloc | apply pw_below_drewN | apply below_drew1 | refine below_set ?_ GE330.out | refine below_set ?_ GE339.out) | exact HB.out))) : w.heap.size ≤ gb352))
                  have n11_ := Aside0.mk ((by rw [hg]; exact (below_size (by repeat (first | (with_reducible first | exact HB.out | apply below_alloc | apply pw_below_drewN | apply below_drew1 | refine below_set ?_ GE330.out | refine below_set ?_ GE339.out) | exact HB.out))) : w.heap.size ≤ gb352))
                  have n12_ := Aside0.mk ((by rw [hg]; exact Nat.ne_of_lt (blk_lt (g := gb330) (o := .cells #[.bool x331000_2, .slice Ao39 x331001_2.length co39, .slice Ao40 x331002_2.length co40] 27 (0, 0)) (by (with_reducible repeat (first | refine blk_drewN ?_ _ | refine blk_drew ?_ | refine blk_alloc ?_ _)); exact BK330.out)) : gb330 ≠ gb352))
                  have n13_ := Aside0.mk ((by rw [hg]; exact Nat.ne_of_gt (blk_lt (g := gb330) (o := .cells #[.bool x331000_2, .slice Ao39 x331001_2.length co39, .slice Ao40 x331002_2.length co40] 27 (0, 0)) (by (with_reducible repeat (first | refine blk_drewN ?_ _ | refine blk_drew ?_ | refine blk_alloc ?_ _)); exact BK330.out)) : gb352 ≠ gb330))
                  have n14_ := Aside0.mk ((by rw [hg]; exact Nat.ne_of_lt (blk_lt (g := gb339) (o := .cells #[.bool x340000_2, u340001, u340002] 27 (0, 0)) (by (with_reducible repeat (first | refine blk_drewN ?_ _ | refine blk_drew ?_ | refine blk_alloc ?_ _)); exact BK339.out)) : gb339 ≠ gb352))
                  have n15_ := Aside0.mk ((by rw [hg]; exact Nat.ne_of_gt (blk_lt (g := gb339) (o := .cells #[.bool x340000_2, u340001, u340002] 27 (0, 0)) (by (with_reducible repeat (first | refine blk_drewN ?_ _ | refine blk_drew ?_ | refine blk_alloc ?_ _)); exact BK339.out)) : gb352 ≠ gb339))
                  clear HO_331001; clear HO_331002; clear HO_340001; clear HO_340002; clear HO347; clear HO350; clear BK330; clear BK339; clear HB; have HO_331001 := n0_; have HO_331002 := n1_; have HO_340001 := n2_; have HO_340002 := n3_; have HO347 := n4_; have HO350 := n5_; have BK330 := n6_; have BK339 := n7_; have HB := n8_; have BK352 := n9_; have GW352 := n10_; have GE352 := n11_; have NB330_352 := n12_; have NB352_330 := n13_; have NB339_352 := n14_; have NB352_339 := n15_; clear n0_ n1_ n2_ n3_ n4_ n5_ n6_ n7_ n8_ n9_ n10_ n11_ n12_ n13_ n14_ n15_; clear hb hbox hg
                  refine hK.out _ _ ⟨(blk_cell BK330.out 0).trans rfl, (blk_cell BK330.out 1).trans rfl, (blk_cell BK330.out 2).trans rfl⟩ (fun hHeld => ?_)
                  clear hK K
                  refine norm_ (a' := ?_) ?_ ?_
                  rotate_left
                  ·
                   show Act.put _ (some 9) _ = _
                   simp only [Act.put, List.setIfInBounds_toArray, List.set_cons_zero, List.set_cons_succ, i64_w, i32_w]
                   rfl
                  exact norm_ (by simp only [putAll, Act.put, List.setIfInBounds_toArray, List.set_cons_zero, List.set_cons_succ]) (hCont (v346, v349, gb352) _ ⟨hHeld, (by (with_reducible repeat (first | apply Kd.R_alloc | apply Kd.R_drewN | apply Kd.R_drew)); exact Kd.R_mono HO347.out (fun _ hk => ⟨hk.1.2, hk.2⟩)), (by (with_reducible repeat (first | apply Kd.R_alloc | apply Kd.R_drewN | apply Kd.R_drew)); exact Kd.R_mono HO350.out (fun _ hk => ⟨hk.1.2, hk.2⟩)), (by (with_reducible repeat (first | apply Kd.R_alloc | apply Kd.R_drewN | apply Kd.R_drew)); exact Kd.R_mono HO_331001.out (fun _ hk => ⟨hk.2, hk.1⟩)), (by (with_reducible repeat (first | apply Kd.R_alloc | apply Kd.R_drewN | apply Kd.R_drew)); exact Kd.R_mono HO_331002.out (fun _ hk => ⟨hk.2, hk.1⟩)), (by (with_reducible repeat (first | apply Kd.R_alloc | apply Kd.R_drewN | apply Kd.R_drew)); exact Kd.R_mono HO_340001.out (fun _ hk => ⟨hk.2, hk.1⟩)), (by (with_reducible repeat (first | apply Kd.R_alloc | apply Kd.R_drewN | apply Kd.R_drew)); exact Kd.R_mono HO_340002.out (fun _ hk => ⟨hk.2, hk.1⟩)), (by (with_reducible repeat (first | refine blk_drewN ?_ _ | refine blk_drew ?_ | refine blk_alloc ?_ _)); exact BK330.out), (by (with_reducible repeat (first | refine blk_drewN ?_ _ | refine blk_drew ?_ | refine blk_alloc ?_ _)); exact BK339.out), (by (with_reducible repeat (first | refine blk_drewN ?_ _ | refine blk_drew ?_ | refine blk_alloc ?_ _)); exact BK352.out), GW352.out, GE352.out, NB330_352.out, NB352_330.out, NB339_352.out, NB352_339.out, (by repeat (first | (with_reducible first | exact HB.out | apply below_alloc | apply pw_below_drewN | apply below_drew1 | refine below_set ?_ GE330.out | refine below_set ?_ GE339.out | refine below_set ?_ GE352.out) | exact HB.out))⟩)
                 ·
                  skip
                  refine box_step ?hg (N := 9) ?hd (cs := #[.bool false, .slice none 0 0, .slice none 0 0]) (t := 27) ?hr ?_; (case hd => rfl); (case hg => rfl); (case hr => first | (go_simp; done) | (go_simp; rfl))
                  intro gb352 hg w43 hbox hb
                  have n0_ := Aside0.mk (Kd.R_below (by (with_reducible repeat (first | apply Kd.R_alloc | apply Kd.R_drewN | apply Kd.R_drew)); exact HO_331001.out) hb)
                  have n1_ := Aside0.mk (Kd.R_below (by (with_reducible repeat (first | apply Kd.R_alloc | apply Kd.R_drewN | apply Kd.R_drew)); exact HO_331002.out) hb)
                  have n2_ := Aside0.mk (Kd.R_below (by (with_reducible repeat (first | apply Kd.R_alloc | apply Kd.R_drewN | apply Kd.R_drew)); exact HO_340001.out) hb)
                  have n3_ := Aside0.mk (Kd.R_below (by (with_reducible repeat (first | apply Kd.R_alloc | apply Kd.R_drewN | apply Kd.R_drew)); exact HO_340002.out) hb)
                  have n4_ := Aside0.mk (blk_below (g := gb330) (o := .cells #[.bool x331000_2, .slice Ao39 x331001_2.length co39, .slice Ao40 x331002_2.length co40] 27 (0, 0)) (by (with_reducible repeat (first | refine blk_drewN ?_ _ | refine blk_drew ?_ | refine blk_alloc ?_ _)); exact BK330.out) hb)
                  have n5_ := Aside0.mk (blk_below (g := gb339) (o := .cells #[.bool x340000_2, u340001, u340002] 27 (0, 0)) (by (with_reducible repeat (first | refine blk_drewN ?_ _ | refine blk_drew ?_ | refine blk_alloc ?_ _)); exact BK339.out) hb)
                  have n6_ := sq_st hb HB; have n7_ := Aside0.mk (hbox)
                  have n8_ := Aside0.mk ((by rw [hg]; exact (below_size (by repeat (first | (with_reducible first | exact HB.out | apply below_alloc | apply pw_below_drewN | apply below_drew1 | refine below_set ?_ GE330.out | refine below_set ?_ GE339.out) | exact HB.out))) : w.heap.size ≤ gb352))
                  have n9_ := Aside0.mk ((by rw [hg]; exact (below_size (by repeat (first | (with_reducible first | exact HB.out | apply below_alloc | apply pw_below_drewN | apply below_drew1 | refine below_set ?_ GE330.out | refine below_set ?_ GE339.out) | exact HB.out))) : w.heap.size ≤ gb352))
                  have n10_ := Aside0.mk ((by rw [hg]; exact Nat.ne_of_lt (blk_lt (g := gb330) (o := .cells #[.bool x331000_2, .slice Ao39 x331001_2.length co39, .slice Ao40 x331002_2.length co40] 27 (0, 0)) (by (with_reducible repeat (first | refine blk_drewN ?_ _ | refine blk_drew ?_ | refine blk_alloc ?_ _)); exact BK330.out)) : gb330 ≠ gb352))
                  have n11_ := Aside0.mk ((by rw [hg]; exact Nat.ne_of_gt (blk_lt (g := gb330) (o := .cells #[.bool x331000_2, .slice Ao39 x331001_2.length co39, .slice Ao40 x331002_2.length co40] 27 (0, 0)) (by (with_reducible repeat (first | refine blk_drewN ?_ _ | refine blk_drew ?_ | refine blk_alloc ?_ _)); exact BK330.out)) : gb352 ≠ gb330))
                  have n12_ := Aside0.mk ((by rw [hg]; exact Nat.ne_of_lt (blk_lt (g := gb339) (o := .cells #[.bool x340000_2, u340001, u340002] 27 (0, 0)) (by (with_reducible repeat (first | refine blk_drewN ?_ _ | refine blk_drew ?_ | refine blk_alloc ?_ _)); exact BK339.out)) : gb339 ≠ gb352))
                  have n13_ := Aside0.mk ((by rw [hg]; exact Nat.ne_of_gt (blk_lt (g := gb339) (o := .cells #[.bool x340000_2, u340001, u340002] 27 (0, 0)) (by (with_reducible repeat (first | refine blk_drewN ?_ _ | refine blk_drew ?_ | refine blk_alloc ?_ _)); exact BK339.out)) : gb352 ≠ gb339))
                  clear HO_331001; clear HO_331002; clear HO_340001; clear HO_340002; clear BK330; clear BK339; clear HB; have HO_331001 := n0_; have HO_331002 := n1_; have HO_340001 := n2_; have HO_340002 := n3_; have BK330 := n4_; have BK339 := n5_; have HB := n6_; have BK352 := n7_; have GW352 := n8_; have GE352 := n9_; have NB330_352 := n10_; have NB352_330 := n11_; have NB339_352 := n12_; have NB352_339 := n13_; clear n0_ n1_ n2_ n3_ n4_ n5_ n6_ n7_ n8_ n9_ n10_ n11_ n12_ n13_; clear hb hbox hg
                  refine hK.out _ _ ⟨(blk_cell BK330.out 0).trans rfl, (blk_cell BK330.out 1).trans rfl, (blk_cell BK330.out 2).trans rfl⟩ (fun hHeld => ?_)
                  clear hK K
                  refine norm_ (a' := ?_) ?_ ?_
                  rotate_left
                  ·
                   show Act.put _ (some 9) _ = _
                   simp only [Act.put, List.setIfInBounds_toArray, List.set_cons_zero, List.set_cons_succ, i64_w, i32_w]
                   rfl
                  refine one_ (i := 6) (N := some 63) #[true, true, true, true, true, true, true, false, false, false, true, false, false] rfl rfl (one_of HT_.out (by kernel_rfl)) (by decide) (fun K hK => ?_)
                  refine goes_ Try.func7 (by kernel_rfl) rfl #[.agg #[.bool x331000_2, .slice Ao39 x331001_2.length co39, .slice Ao40 x331002_2.length co40], .int .i64 (wrap64 (Int.tmod (IntKind.u64.wrap (rd l0 x7_2)) 4)), .string t343] (by rfl) rfl rfl (by (try simp only [List.map_toArray, List.map_cons, List.map_nil]); first | done | rfl | (simp only [List.length_drop, List.length_take]; rfl)) ?_
                  with_reducible refine (disk_Write.calls x331000_2 _ _ x331001_2 _ _ x331002_2 (wrap64 (Int.tmod (IntKind.u64.wrap (rd l0 x7_2)) 4)) t343 t344 t345 t348 t351 _ ?side1 ?side2 ?side3 ?side4 A29.out).mono ?_
                  (case side1 => repeat (first | exact (Kd.R_reads' HO_331001.out).2.2 | (with_reducible refine Kd.C_alloc ?_ _) | (with_reducible refine Kd.C_drewN ?_ _) | (with_reducible refine Kd.C_drew ?_)))
                  (case side2 => exact (Kd.R_reads' HO_331001.out).2.1)
                  (case side3 => repeat (first | exact (Kd.R_reads' HO_331002.out).2.2 | (with_reducible refine Kd.C_alloc ?_ _) | (with_reducible refine Kd.C_drewN ?_ _) | (with_reducible refine Kd.C_drew ?_)))
                  (case side4 => exact (Kd.R_reads' HO_331002.out).2.1)
                  rintro e w44 ⟨v346, v349, rfl, ho0, ho1, hb⟩
                  refine ⟨_, rfl, ?_⟩
                  have n0_ := Aside0.mk (Kd.R_elder' (by (with_reducible repeat (first | apply Kd.R_alloc | apply Kd.R_drewN | apply Kd.R_drew)); exact HO_331001.out) (Kd.R_base ho0) hb)
                  have n1_ := Aside0.mk (Kd.R_elder' (by (with_reducible repeat (first | apply Kd.R_alloc | apply Kd.R_drewN | apply Kd.R_drew)); exact HO_331002.out) (Kd.R_base ho1) hb)
                  have n2_ := Aside0.mk (Kd.R_elder' (by (with_reducible repeat (first | apply Kd.R_alloc | apply Kd.R_drewN | apply Kd.R_drew)); exact HO_340001.out) (Kd.R_base ho0) hb)
                  have n3_ := Aside0.mk (Kd.R_elder' (by (with_reducible repeat (first | apply Kd.R_alloc | apply Kd.R_drewN | apply Kd.R_drew)); exact HO_340002.out) (Kd.R_base ho1) hb)
                  have n4_ := Aside0.mk (Kd.R_lower (Kd.R_new' (Kd.R_new' ho0 (Kd.R_lt (by (with_reducible repeat (first | apply Kd.R_alloc | apply Kd.R_drewN | apply Kd.R_drew)); exact HO_331001.out))) (Kd.R_lt (by (with_reducible repeat (first | apply Kd.R_alloc | apply Kd.R_drewN | apply Kd.R_drew)); exact HO_340001.out))) (below_size (by repeat (first | (with_reducible first | exact HB.out | apply below_alloc | apply pw_below_drewN | apply below_drew1 | refine below_set ?_ GE330.out | refine below_set ?_ GE339.out | refine below_set ?_ GE352.out) | exact HB.out))))
                  have n5_ := Aside0.mk (Kd.R_lower (Kd.R_new' (Kd.R_new' ho1 (Kd.R_lt (by (with_reducible repeat (first | apply Kd.R_alloc | apply Kd.R_drewN | apply Kd.R_drew)); exact HO_331002.out))) (Kd.R_lt (by (with_reducible repeat (first | apply Kd.R_alloc | apply Kd.R_drewN | apply Kd.R_drew)); exact HO_340002.out))) (below_size (by repeat (first | (with_reducible first | exact HB.out | apply below_alloc | apply pw_below_drewN | apply below_drew1 | refine below_set ?_ GE330.out | refine below_set ?_ GE339.out | refine below_set ?_ GE352.out) | exact HB.out))))
                  have n6_ := Aside0.mk (blk_below (g := gb330) (o := .cells #[.bool x331000_2, .slice Ao39 x331001_2.length co39, .slice Ao40 x331002_2.length co40] 27 (0, 0)) (by (with_reducible repeat (first | refine blk_drewN ?_ _ | refine blk_drew ?_ | refine blk_alloc ?_ _)); exact BK330.out) hb)
                  have n7_ := Aside0.mk (blk_below (g := gb339) (o := .cells #[.bool x340000_2, u340001, u340002] 27 (0, 0)) (by (with_reducible repeat (first | refine blk_drewN ?_ _ | refine blk_drew ?_ | refine blk_alloc ?_ _)); exact BK339.out) hb)
                  have n8_ := Aside0.mk (blk_below (g := gb352) (o := .cells #[.bool false, .slice none 0 0, .slice none 0 0] 27 (0, 0)) (by (with_reducible repeat (first | refine blk_drewN ?_ _ | refine blk_drew ?_ | refine blk_alloc ?_ _)); exact BK352.out) hb)
                  have n9_ := sq_st hb HB; clear HO_331001; clear HO_331002; clear HO_340001; clear HO_340002; clear BK330; clear BK339; clear BK352; clear HB; have HO_331001 := n0_; have HO_331002 := n1_; have HO_340001 := n2_; have HO_340002 := n3_; have HO347 := n4_; have HO350 := n5_; have BK330 := n6_; have BK339 := n7_; have BK352 := n8_; have HB := n9_; clear n0_ n1_ n2_ n3_ n4_ n5_ n6_ n7_ n8_ n9_
                  (try clear hb)
                  (try clear hb2)
                  (try clear hk)
                  (try clear hi)
                  (try clear ho0)
                  (try clear ho1)
                  refine hK.out _ _ ⟨(blk_cell BK330.out 0).trans rfl, (blk_cell BK330.out 1).trans rfl, (blk_cell BK330.out 2).trans rfl⟩ (fun hHeld => ?_)
                  clear hK K
                  refine norm_ (a' := ?_) ?_ ?_
                  rotate_left
                  ·
                   show Act.put _ (some 63) _ = _
                   simp only [Act.put, List.setIfInBounds_toArray, List.set_cons_zero, List.set_cons_succ, i64_w, i32_w]
                   rfl
                  refine pure_ (i := 7) (N := some 56) (v := ?_) (a' := ?_) #[true, true, true, true, true, true, true, true, false, false, true, false, false] rfl rfl (any_of HT_.out (by kernel_rfl)) (fun _ _ _ h => h) (Or.inl ⟨by rfl, ?_⟩) ?_ ?_
                  rotate_left
                  ·
                   intro w'
                   go_simp
                   with_reducible rfl
                  rotate_left
                  ·
                   simp only [Act.put, List.setIfInBounds_toArray, List.set_cons_zero, List.set_cons_succ, i64_w, i32_w]
                   rfl
                  refine pure_ (i := 8) (N := some 64) (v := ?_) (a' := ?_) #[true, true, true, true, true, true, true, true, true, false, true, false, false] rfl rfl (any_of HT_.out (by kernel_rfl)) (fun _ _ _ h => h) (Or.inl ⟨by rfl, ?_⟩) ?_ ?_
                  rotate_left
                  ·
                   intro w'
                   go_simp
                   with_reducible rfl
                  rotate_left
                  ·
                   simp only [Act.put, List.setIfInBounds_toArray, List.set_cons_zero, List.set_cons_succ, i64_w, i32_w]
                   rfl
                  refine pure_ (i := 9) (N := some 65) (v := ?_) (a' := ?_) #[true, true, true, true, true, true, true, true, true, true, true, false, false] rfl rfl (any_of HT_.out (by kernel_rfl)) (fun _ _ _ h => h) (Or.inl ⟨by rfl, ?_⟩) ?_ ?_
                  rotate_left
                  ·
                   intro w'
                   go_simp
                   with_reducible rfl
                  rotate_left
                  ·
                   simp only [Act.put, List.setIfInBounds_toArray, List.set_cons_zero, List.set_cons_succ, i64_w, i32_w]
                   rfl
                  exact norm_ (by simp only [putAll, Act.put, List.setIfInBounds_toArray, List.set_cons_zero, List.set_cons_succ]) (hCont (v346, v349, gb352) _ ⟨hHeld, (by (with_reducible repeat (first | apply Kd.R_alloc | apply Kd.R_drewN | apply Kd.R_drew)); exact Kd.R_mono HO347.out (fun _ hk => ⟨hk.1.2, hk.2⟩)), (by (with_reducible repeat (first | apply Kd.R_alloc | apply Kd.R_drewN | apply Kd.R_drew)); exact Kd.R_mono HO350.out (fun _ hk => ⟨hk.1.2, hk.2⟩)), (by (with_reducible repeat (first | apply Kd.R_alloc | apply Kd.R_drewN | apply Kd.R_drew)); exact Kd.R_mono HO_331001.out (fun _ hk => ⟨hk.2, hk.1⟩)), (by (with_reducible repeat (first | apply Kd.R_alloc | apply Kd.R_drewN | apply Kd.R_drew)); exact Kd.R_mono HO_331002.out (fun _ hk => ⟨hk.2, hk.1⟩)), (by (with_reducible repeat (first | apply Kd.R_alloc | apply Kd.R_drewN | apply Kd.R_drew)); exact Kd.R_mono HO_340001.out (fun _ hk => ⟨hk.2, hk.1⟩)), (by (with_reducible repeat (first | apply Kd.R_alloc | apply Kd.R_drewN | apply Kd.R_drew)); exact Kd.R_mono HO_340002.out (fun _ hk => ⟨hk.2, hk.1⟩)), (by (with_reducible repeat (first | refine blk_drewN ?_ _ | refine blk_drew ?_ | refine blk_alloc ?_ _)); exact BK330.out), (by (with_reducible repeat (first | refine blk_drewN ?_ _ | refine blk_drew ?_ | refine blk_alloc ?_ _)); exact BK339.out), (by (with_reducible repeat (first | refine blk_drewN ?_ _ | refine blk_drew ?_ | refine blk_alloc ?_ _)); exact BK352.out), GW352.out, GE352.out, NB330_352.out, NB352_330.out, NB339_352.out, NB352_339.out, (by repeat (first | (with_reducible first | exact HB.out | apply below_alloc | apply pw_below_drewN | apply below_drew1 | refine below_set ?_ GE330.out | refine below_set ?_ GE339.out | refine below_set ?_ GE352.out) | exact HB.out))⟩)
                ·
                 skip
                 refine box_step ?hg (N := 9) ?hd (cs := #[.bool false, .slice none 0 0, .slice none 0 0]) (t := 27) ?hr ?_; (case hd => rfl); (case hg => rfl); (case hr => first | (go_simp; done) | (go_simp; rfl))
                 intro gb352 hg w42 hbox hb
                 have n0_ := Aside0.mk (Kd.R_below (by (with_reducible repeat (first | apply Kd.R_alloc | apply Kd.R_drewN | apply Kd.R_drew)); exact HO_331001.out) hb)
                 have n1_ := Aside0.mk (Kd.R_below (by (with_reducible repeat (first | apply Kd.R_alloc | apply Kd.R_drewN | apply Kd.R_drew)); exact HO_331002.out) hb)
                 have n2_ := Aside0.mk (Kd.R_below (by (with_reducible repeat (first | apply Kd.R_alloc | apply Kd.R_drewN | apply Kd.R_drew)); exact HO_340001.out) hb)
                 have n3_ := Aside0.mk (Kd.R_below (by (with_reducible repeat (first | apply Kd.R_alloc | apply Kd.R_drewN | apply Kd.R_drew)); exact HO_340002.out) hb)
                 have n4_ := Aside0.mk (blk_below (g := gb330) (o := .cells #[.bool x331000_2, .slice Ao39 x331001_2.length co39, .slice Ao40 x331002_2.length co40] 27 (0, 0)) (by (with_reducible repeat (first | refine blk_drewN ?_ _ | refine blk_drew ?_ | refine blk_alloc ?_ _)); exact BK330.out) hb)
                 have n5_ := Aside0.mk (blk_below (g := gb339) (o := .cells #[.bool x340000_2, u340001, u340002] 27 (0, 0)) (by (with_reducible repeat (first | refine blk_drewN ?_ _ | refine blk_drew ?_ | refine blk_alloc ?_ _)); exact BK339.out) hb)
                 have n6_ := sq_st hb HB; have n7_ := Aside0.mk (hbox)
                 have n8_ := Aside0.mk ((by rw [hg]; exact (below_size (by repeat (first | (with_reducible first | exact HB.out | apply below_alloc | apply pw_below_drewN | apply below_drew1 | refine below_set ?_ GE330.out | refine below_set ?_ GE339.out) | exact HB.out))) : w.heap.size ≤ gb352))
                 have n9_ := Aside0.mk ((by rw [hg]; exact (below_size (by repeat (first | (with_reducible first | exact HB.out | apply below_alloc | apply pw_below_drewN | apply below_drew1 | refine below_set ?_ GE330.out | refine below_set ?_ GE339.out) | exact HB.out))) : w.heap.size ≤ gb352))
                 have n10_ := Aside0.mk ((by rw [hg]; exact Nat.ne_of_lt (blk_lt (g := gb330) (o := .cells #[.bool x331000_2, .slice Ao39 x331001_2.length co39, .slice Ao40 x331002_2.length co40] 27 (0, 0)) (by (with_reducible repeat (first | refine blk_drewN ?_ _ | refine blk_drew ?_ | refine blk_alloc ?_ _)); exact BK330.out)) : gb330 ≠ gb352))
                 have n11_ := Aside0.mk ((by rw [hg]; exact Nat.ne_of_gt (blk_lt (g := gb330) (o := .cells #[.bool x331000_2, .slice Ao39 x331001_2.length co39, .slice Ao40 x331002_2.length co40] 27 (0, 0)) (by (with_reducible repeat (first | refine blk_drewN ?_ _ | refine blk_drew ?_ | refine blk_alloc ?_ _)); exact BK330.out)) : gb352 ≠ gb330))
                 have n12_ := Aside0.mk ((by rw [hg]; exact Nat.ne_of_lt (blk_lt (g := gb339) (o := .cells #[.bool x340000_2, u340001, u340002] 27 (0, 0)) (by (with_reducible repeat (first | refine blk_drewN ?_ _ | refine blk_drew ?_ | refine blk_alloc ?_ _)); exact BK339.out)) : gb339 ≠ gb352))
                 have n13_ := Aside0.mk ((by rw [hg]; exact Nat.ne_of_gt (blk_lt (g := gb339) (o := .cells #[.bool x340000_2, u340001, u340002] 27 (0, 0)) (by (with_reducible repeat (first | refine blk_drewN ?_ _ | refine blk_drew ?_ | refine blk_alloc ?_ _)); exact BK339.out)) : gb352 ≠ gb339))
                 clear HO_331001; clear HO_331002; clear HO_340001; clear HO_340002; clear BK330; clear BK339; clear HB; have HO_331001 := n0_; have HO_331002 := n1_; have HO_340001 := n2_; have HO_340002 := n3_; have BK330 := n4_; have BK339 := n5_; have HB := n6_; have BK352 := n7_; have GW352 := n8_; have GE352 := n9_; have NB330_352 := n10_; have NB352_330 := n11_; have NB339_352 := n12_; have NB352_339 := n13_; clear n0_ n1_ n2_ n3_ n4_ n5_ n6_ n7_ n8_ n9_ n10_ n11_ n12_ n13_; clear hb hbox hg
                 refine hK.out _ _ ⟨(blk_cell BK330.out 0).trans rfl, (blk_cell BK330.out 1).trans rfl, (blk_cell BK330.out 2).trans rfl⟩ (fun hHeld => ?_)
                 clear hK K
                 refine norm_ (a' := ?_) ?_ ?_
                 rotate_left
                 ·
                  show Act.put _ (some 9) _ = _
                  simp only [Act.put, List.setIfInBounds_toArray, List.set_cons_zero, List.set_cons_succ, i64_w, i32_w]
                  rfl
                 refine one_ (i := 5) (N := some 62) #[true, true, true, true, true, true, false, false, false, false, true, false, false] rfl rfl (one_of HT_.out (by kernel_rfl)) (by decide) (fun K hK => ?_)
                 refine goes_ Try.func8 (by kernel_rfl) rfl #[.int .u8 ((wrap64 (1 + x7_2)) % 256)] (by rfl) rfl rfl (by (try simp only [List.map_toArray, List.map_cons, List.map_nil]); first | done | rfl | (simp only [List.length_drop, List.length_take]; rfl)) ?_
                 with_reducible refine (ossuarylaw13_full.calls kj22 ((wrap64 (1 + x7_2)) % 256) t343 _ A28.out).mono ?_
                 rintro e w43 ⟨rfl, hb⟩
                 refine ⟨_, rfl, ?_⟩
                 have n0_ := Aside0.mk (Kd.R_below (by (with_reducible repeat (first | apply Kd.R_alloc | apply Kd.R_drewN | apply Kd.R_drew)); exact HO_331001.out) hb)
                 have n1_ := Aside0.mk (Kd.R_below (by (with_reducible repeat (first | apply Kd.R_alloc | apply Kd.R_drewN | apply Kd.R_drew)); exact HO_331002.out) hb)
                 have n2_ := Aside0.mk (Kd.R_below (by (with_reducible repeat (first | apply Kd.R_alloc | apply Kd.R_drewN | apply Kd.R_drew)); exact HO_340001.out) hb)
                 have n3_ := Aside0.mk (Kd.R_below (by (with_reducible repeat (first | apply Kd.R_alloc | apply Kd.R_drewN | apply Kd.R_drew)); exact HO_340002.out) hb)
                 have n4_ := Aside0.mk (blk_below (g := gb330) (o := .cells #[.bool x331000_2, .slice Ao39 x331001_2.length co39, .slice Ao40 x331002_2.length co40] 27 (0, 0)) (by (with_reducible repeat (first | refine blk_drewN ?_ _ | refine blk_drew ?_ | refine blk_alloc ?_ _)); exact BK330.out) hb)
                 have n5_ := Aside0.mk (blk_below (g := gb339) (o := .cells #[.bool x340000_2, u340001, u340002] 27 (0, 0)) (by (with_reducible repeat (first | refine blk_drewN ?_ _ | refine blk_drew ?_ | refine blk_alloc ?_ _)); exact BK339.out) hb)
                 have n6_ := Aside0.mk (blk_below (g := gb352) (o := .cells #[.bool false, .slice none 0 0, .slice none 0 0] 27 (0, 0)) (by (with_reducible repeat (first | refine blk_drewN ?_ _ | refine blk_drew ?_ | refine blk_alloc ?_ _)); exact BK352.out) hb)
                 have n7_ := sq_st hb HB; clear HO_331001; clear HO_331002; clear HO_340001; clear HO_340002; clear BK330; clear BK339; clear BK352; clear HB; have HO_331001 := n0_; have HO_331002 := n1_; have HO_340001 := n2_; have HO_340002 := n3_; have BK330 := n4_; have BK339 := n5_; have BK352 := n6_; have HB := n7_; clear n0_ n1_ n2_ n3_ n4_ n5_ n6_ n7_
                 (try clear hb)
                 (try clear hb2)
                 (try clear hk)
                 (try clear hi)
                 refine hK.out _ _ ⟨(blk_cell BK330.out 0).trans rfl, (blk_cell BK330.out 1).trans rfl, (blk_cell BK330.out 2).trans rfl⟩ (fun hHeld => ?_)
                 clear hK K
                 refine norm_ (a' := ?_) ?_ ?_
                 rotate_left
                 ·
                  show Act.put _ (some 62) _ = _
                  simp only [Act.put, List.setIfInBounds_toArray, List.set_cons_zero, List.set_cons_succ, i64_w, i32_w]
                  rfl
                 refine one_ (i := 6) (N := some 63) #[true, true, true, true, true, true, true, false, false, false, true, false, false] rfl rfl (one_of HT_.out (by kernel_rfl)) (by decide) (fun K hK => ?_)
                 refine goes_ Try.func7 (by kernel_rfl) rfl #[.agg #[.bool x331000_2, .slice Ao39 x331001_2.length co39, .slice Ao40 x331002_2.length co40], .int .i64 (wrap64 (Int.tmod (IntKind.u64.wrap (rd l0 x7_2)) 4)), .string t343] (by rfl) rfl rfl (by (try simp only [List.map_toArray, List.map_cons, List.map_nil]); first | done | rfl | (simp only [List.length_drop, List.length_take]; rfl)) ?_
                 with_reducible refine (disk_Write.calls x331000_2 _ _ x331001_2 _ _ x331002_2 (wrap64 (Int.tmod (IntKind.u64.wrap (rd l0 x7_2)) 4)) t343 t344 t345 t348 t351 _ ?side1 ?side2 ?side3 ?side4 A29.out).mono ?_
                 (case side1 => repeat (first | exact (Kd.R_reads' HO_331001.out).2.2 | (with_reducible refine Kd.C_alloc ?_ _) | (with_reducible refine Kd.C_drewN ?_ _) | (with_reducible refine Kd.C_drew ?_)))
                 (case side2 => exact (Kd.R_reads' HO_331001.out).2.1)
                 (case side3 => repeat (first | exact (Kd.R_reads' HO_331002.out).2.2 | (with_reducible refine Kd.C_alloc ?_ _) | (with_reducible refine Kd.C_drewN ?_ _) | (with_reducible refine Kd.C_drew ?_)))
                 (case side4 => exact (Kd.R_reads' HO_331002.out).2.1)
                 rintro e w44 ⟨v346, v349, rfl, ho0, ho1, hb⟩
                 refine ⟨_, rfl, ?_⟩
                 have n0_ := Aside0.mk (Kd.R_elder' (by (with_reducible repeat (first | apply Kd.R_alloc | apply Kd.R_drewN | apply Kd.R_drew)); exact HO_331001.out) (Kd.R_base ho0) hb)
                 have n1_ := Aside0.mk (Kd.R_elder' (by (with_reducible repeat (first | apply Kd.R_alloc | apply Kd.R_drewN | apply Kd.R_drew)); exact HO_331002.out) (Kd.R_base ho1) hb)
                 have n2_ := Aside0.mk (Kd.R_elder' (by (with_reducible repeat (first | apply Kd.R_alloc | apply Kd.R_drewN | apply Kd.R_drew)); exact HO_340001.out) (Kd.R_base ho0) hb)
                 have n3_ := Aside0.mk (Kd.R_elder' (by (with_reducible repeat (first | apply Kd.R_alloc | apply Kd.R_drewN | apply Kd.R_drew)); exact HO_340002.out) (Kd.R_base ho1) hb)
                 have n4_ := Aside0.mk (Kd.R_lower (Kd.R_new' (Kd.R_new' ho0 (Kd.R_lt (by (with_reducible repeat (first | apply Kd.R_alloc | apply Kd.R_drewN | apply Kd.R_drew)); exact HO_331001.out))) (Kd.R_lt (by (with_reducible repeat (first | apply Kd.R_alloc | apply Kd.R_drewN | apply Kd.R_drew)); exact HO_340001.out))) (below_size (by repeat (first | (with_reducible first | exact HB.out | apply below_alloc | apply pw_below_drewN | apply below_drew1 | refine below_set ?_ GE330.out | refine below_set ?_ GE339.out | refine below_set ?_ GE352.out) | exact HB.out))))
                 have n5_ := Aside0.mk (Kd.R_lower (Kd.R_new' (Kd.R_new' ho1 (Kd.R_lt (by (with_reducible repeat (first | apply Kd.R_alloc | apply Kd.R_drewN | apply Kd.R_drew)); exact HO_331002.out))) (Kd.R_lt (by (with_reducible repeat (first | apply Kd.R_alloc | apply Kd.R_drewN | apply Kd.R_drew)); exact HO_340002.out))) (below_size (by repeat (first | (with_reducible first | exact HB.out | apply below_alloc | apply pw_below_drewN | apply below_drew1 | refine below_set ?_ GE330.out | refine below_set ?_ GE339.out | refine below_set ?_ GE352.out) | exact HB.out))))
                 have n6_ := Aside0.mk (blk_below (g := gb330) (o := .cells #[.bool x331000_2, .slice Ao39 x331001_2.length co39, .slice Ao40 x331002_2.length co40] 27 (0, 0)) (by (with_reducible repeat (first | refine blk_drewN ?_ _ | refine blk_drew ?_ | refine blk_alloc ?_ _)); exact BK330.out) hb)
                 have n7_ := Aside0.mk (blk_below (g := gb339) (o := .cells #[.bool x340000_2, u340001, u340002] 27 (0, 0)) (by (with_reducible repeat (first | refine blk_drewN ?_ _ | refine blk_drew ?_ | refine blk_alloc ?_ _)); exact BK339.out) hb)
                 have n8_ := Aside0.mk (blk_below (g := gb352) (o := .cells #[.bool false, .slice none 0 0, .slice none 0 0] 27 (0, 0)) (by (with_reducible repeat (first | refine blk_drewN ?_ _ | refine blk_drew ?_ | refine blk_alloc ?_ _)); exact BK352.out) hb)
                 have n9_ := sq_st hb HB; clear HO_331001; clear HO_331002; clear HO_340001; clear HO_340002; clear BK330; clear BK339; clear BK352; clear HB; have HO_331001 := n0_; have HO_331002 := n1_; have HO_340001 := n2_; have HO_340002 := n3_; have HO347 := n4_; have HO350 := n5_; have BK330 := n6_; have BK339 := n7_; have BK352 := n8_; have HB := n9_; clear n0_ n1_ n2_ n3_ n4_ n5_ n6_ n7_ n8_ n9_
                 (try clear hb)
                 (try clear hb2)
                 (try clear hk)
                 (try clear hi)
                 (try clear ho0)
                 (try clear ho1)
                 refine hK.out _ _ ⟨(blk_cell BK330.out 0).trans rfl, (blk_cell BK330.out 1).trans rfl, (blk_cell BK330.out 2).trans rfl⟩ (fun hHeld => ?_)
                 clear hK K
                 refine norm_ (a' := ?_) ?_ ?_
                 rotate_left
                 ·
                  show Act.put _ (some 63) _ = _
                  simp only [Act.put, List.setIfInBounds_toArray, List.set_cons_zero, List.set_cons_succ, i64_w, i32_w]
                  rfl
                 refine pure_ (i := 7) (N := some 56) (v := ?_) (a' := ?_) #[true, true, true, true, true, true, true, true, false, false, true, false, false] rfl rfl (any_of HT_.out (by kernel_rfl)) (fun _ _ _ h => h) (Or.inl ⟨by rfl, ?_⟩) ?_ ?_
                 rotate_left
                 ·
                  intro w'
                  go_simp
                  with_reducible rfl
                 rotate_left
                 ·
                  simp only [Act.put, List.setIfInBounds_toArray, List.set_cons_zero, List.set_cons_succ, i64_w, i32_w]
                  rfl
                 refine pure_ (i := 8) (N := some 64) (v := ?_) (a' := ?_) #[true, true, true, true, true, true, true, true, true, false, true, false, false] rfl rfl (any_of HT_.out (by kernel_rfl)) (fun _ _ _ h => h) (Or.inl ⟨by rfl, ?_⟩) ?_ ?_
                 rotate_left
                 ·
                  intro w'
                  go_simp
                  with_reducible rfl
                 rotate_left
                 ·
                  simp only [Act.put, List.setIfInBounds_toArray, List.set_cons_zero, List.set_cons_succ, i64_w, i32_w]
                  rfl
                 refine pure_ (i := 9) (N := some 65) (v := ?_) (a' := ?_) #[true, true, true, true, true, true, true, true, true, true, true, false, false] rfl rfl (any_of HT_.out (by kernel_rfl)) (fun _ _ _ h => h) (Or.inl ⟨by rfl, ?_⟩) ?_ ?_
                 rotate_left
                 ·
                  intro w'
                  go_simp
                  with_reducible rfl
                 rotate_left
                 ·
                  simp only [Act.put, List.setIfInBounds_toArray, List.set_cons_zero, List.set_cons_succ, i64_w, i32_w]
                  rfl
                 exact norm_ (by simp only [putAll, Act.put, List.setIfInBounds_toArray, List.set_cons_zero, List.set_cons_succ]) (hCont (v346, v349, gb352) _ ⟨hHeld, (by (with_reducible repeat (first | apply Kd.R_alloc | apply Kd.R_drewN | apply Kd.R_drew)); exact Kd.R_mono HO347.out (fun _ hk => ⟨hk.1.2, hk.2⟩)), (by (with_reducible repeat (first | apply Kd.R_alloc | apply Kd.R_drewN | apply Kd.R_drew)); exact Kd.R_mono HO350.out (fun _ hk => ⟨hk.1.2, hk.2⟩)), (by (with_reducible repeat (first | apply Kd.R_alloc | apply Kd.R_drewN | apply Kd.R_drew)); exact Kd.R_mono HO_331001.out (fun _ hk => ⟨hk.2, hk.1⟩)), (by (with_reducible repeat (first | apply Kd.R_alloc | apply Kd.R_drewN | apply Kd.R_drew)); exact Kd.R_mono HO_331002.out (fun _ hk => ⟨hk.2, hk.1⟩)), (by (with_reducible repeat (first | apply Kd.R_alloc | apply Kd.R_drewN | apply Kd.R_drew)); exact Kd.R_mono HO_340001.out (fun _ hk => ⟨hk.2, hk.1⟩)), (by (with_reducible repeat (first | apply Kd.R_alloc | apply Kd.R_drewN | apply Kd.R_drew)); exact Kd.R_mono HO_340002.out (fun _ hk => ⟨hk.2, hk.1⟩)), (by (with_reducible repeat (first | refine blk_drewN ?_ _ | refine blk_drew ?_ | refine blk_alloc ?_ _)); exact BK330.out), (by (with_reducible repeat (first | refine blk_drewN ?_ _ | refine blk_drew ?_ | refine blk_alloc ?_ _)); exact BK339.out), (by (with_reducible repeat (first | refine blk_drewN ?_ _ | refine blk_drew ?_ | refine blk_alloc ?_ _)); exact BK352.out), GW352.out, GE352.out, NB330_352.out, NB352_330.out, NB339_352.out, NB352_339.out, (by repeat (first | (with_reducible first | exact HB.out | apply below_alloc | apply pw_below_drewN | apply below_drew1 | refine below_set ?_ GE330.out | refine below_set ?_ GE339.out | refine below_set ?_ GE352.out) | exact HB.out))⟩)
               rintro ⟨v346, v349, gb352⟩ w45 ⟨hS_, h0_, h1_, h2_, h3_, h4_, h5_, h6_, h7_, h8_, h9_, h10_, h11_, h12_, h13_, h14_, h15_⟩
               have n0_ : Aside0 (Kd.R Kd.string 9 w45 w.heap.size (fun k_ => some k_ ≠ (.slice Ao39 x331001_2.length co39 : Value).ownBlock ∧ some k_ ≠ (u340001 : Value).ownBlock) v346 t345) := ⟨h0_⟩
               have n1_ : Aside0 (Kd.R k49 49 w45 w.heap.size (fun k_ => some k_ ≠ (.slice Ao40 x331002_2.length co40 : Value).ownBlock ∧ some k_ ≠ (u340002 : Value).ownBlock) v349 t348) := ⟨h1_⟩
               have n2_ : Aside0 (Kd.R Kd.string 9 w45 w.heap.size (fun k_ => some k_ ≠ (v346 : Value).ownBlock ∧ some k_ ≠ (u340001 : Value).ownBlock) (.slice Ao39 x331001_2.length co39) x331001_2) := ⟨h2_⟩
               have n3_ : Aside0 (Kd.R k49 49 w45 w.heap.size (fun k_ => some k_ ≠ (v349 : Value).ownBlock ∧ some k_ ≠ (u340002 : Value).ownBlock) (.slice Ao40 x331002_2.length co40) x331002_2) := ⟨h3_⟩
               have n4_ : Aside0 (Kd.R Kd.string 9 w45 w.heap.size (fun k_ => some k_ ≠ (v346 : Value).ownBlock ∧ some k_ ≠ (.slice Ao39 x331001_2.length co39 : Value).ownBlock) u340001 x340001_2) := ⟨h4_⟩
               have n5_ : Aside0 (Kd.R k49 49 w45 w.heap.size (fun k_ => some k_ ≠ (v349 : Value).ownBlock ∧ some k_ ≠ (.slice Ao40 x331002_2.length co40 : Value).ownBlock) u340002 x340002_2) := ⟨h5_⟩
               have n6_ : Aside0 (w45.heap[gb330]? = some (.cells #[.bool x331000_2, .slice Ao39 x331001_2.length co39, .slice Ao40 x331002_2.length co40] 27 (0, 0))) := ⟨h6_⟩
               have n7_ : Aside0 (w45.heap[gb339]? = some (.cells #[.bool x340000_2, u340001, u340002] 27 (0, 0))) := ⟨h7_⟩
               have n8_ : Aside0 (w45.heap[gb352]? = some (.cells #[.bool false, .slice none 0 0, .slice none 0 0] 27 (0, 0))) := ⟨h8_⟩
               have n9_ : Aside0 (w.heap.size ≤ gb352) := ⟨h9_⟩
               have n10_ : Aside0 (w.heap.size ≤ gb352) := ⟨h10_⟩
               have n11_ : Aside0 (gb330 ≠ gb352) := ⟨h11_⟩
               have n12_ : Aside0 (gb352 ≠ gb330) := ⟨h12_⟩
               have n13_ : Aside0 (gb339 ≠ gb352) := ⟨h13_⟩
               have n14_ : Aside0 (gb352 ≠ gb339) := ⟨h14_⟩
               have n15_ : Aside0 (Below w.heap.size w w45) := ⟨h15_⟩
               clear HO_331001; clear HO_331002; clear HO_340001; clear HO_340002; clear BK330; clear BK339; clear HB; clear h0_ h1_ h2_ h3_ h4_ h5_ h6_ h7_ h8_ h9_ h10_ h11_ h12_ h13_ h14_ h15_; have HO347 := n0_; have HO350 := n1_; have HO_331001 := n2_; have HO_331002 := n3_; have HO_340001 := n4_; have HO_340002 := n5_; have BK330 := n6_; have BK339 := n7_; have BK352 := n8_; have GW352 := n9_; have GE352 := n10_; have NB330_352 := n11_; have NB352_330 := n12_; have NB339_352 := n13_; have NB352_339 := n14_; have HB := n15_; clear n0_ n1_ n2_ n3_ n4_ n5_ n6_ n7_ n8_ n9_ n10_ n11_ n12_ n13_ n14_ n15_
               have hHeld : w45.cell? ⟨gb330, 0, none⟩ = some (.bool x331000_2) ∧ w45.cell? ⟨gb330, 1, none⟩ = some (.slice Ao39 x331001_2.length co39) ∧ w45.cell? ⟨gb330, 2, none⟩ = some (.slice Ao40 x331002_2.length co40) := hS_
               obtain ⟨Ao47, co47, eo47⟩ := Kd.R_slice HO347.out
               (first | subst eo47 | (injection eo47 with f1_ f2_ f3_; have f4_ := f1_.symm; have f5_ := f3_.symm; clear f1_ f2_ f3_; subst f4_; subst f5_))
               obtain ⟨Ao49, co49, eo49⟩ := Kd.R_slice HO350.out
               (first | subst eo49 | (injection eo49 with f1_ f2_ f3_; have f4_ := f1_.symm; have f5_ := f3_.symm; clear f1_ f2_ f3_; subst f4_; subst f5_))
               refine norm_ (a' := ?_) ?_ ?_
               rotate_left
               ·
                simp only [putAll, Act.put, List.setIfInBounds_toArray, List.set_cons_zero, List.set_cons_succ]
                rfl
               refine one_ (i := 11) (N := none) #[true, true, true, true, true, true, true, true, true, true, true, true, false] rfl rfl (one_of HT_.out (by kernel_rfl)) (by decide) (fun K hK => ?_)
               have hs46 : w45.cell? ⟨gb352, 0, none⟩ = some (.bool false) := (blk_cell BK352.out 0).trans rfl; have hfs46 := blk_frozen BK352.out 0; have hns46_0 := NB330_352.out; have hns46_1 := NB339_352.out; have hms46_0 := NB352_330.out; have hms46_1 := NB352_339.out; have hs48 : w45.cell? ⟨gb352, 1, none⟩ = some (.slice none 0 0) := (blk_cell BK352.out 1).trans rfl; have hfs48 := blk_frozen BK352.out 1; have hns48_0 := NB330_352.out; have hns48_1 := NB339_352.out; have hms48_0 := NB352_330.out; have hms48_1 := NB352_339.out; have hs50 : w45.cell? ⟨gb352, 2, none⟩ = some (.slice none 0 0) := (blk_cell BK352.out 2).trans rfl; have hfs50 := blk_frozen BK352.out 2; have hns50_0 := NB330_352.out; have hns50_1 := NB339_352.out; have hms50_0 := NB352_330.out; have hms50_1 := NB352_339.out
               refine skip_ (w1 := ?_) (by rfl) rfl ?_ ?_
               rotate_left
               ·
                go_simp
                rfl
               refine hK.out _ _ ⟨((cell_far (p := ⟨gb352, _, none⟩) NB330_352.out _).trans (((cell_far (p := ⟨gb352, _, none⟩) NB330_352.out _).trans (((cell_far (p := ⟨gb352, _, none⟩) NB330_352.out _).trans (hHeld.1)))))), ((cell_far (p := ⟨gb352, _, none⟩) NB330_352.out _).trans (((cell_far (p := ⟨gb352, _, none⟩) NB330_352.out _).trans (((cell_far (p := ⟨gb352, _, none⟩) NB330_352.out _).trans (hHeld.2.1)))))), ((cell_far (p := ⟨gb352, _, none⟩) NB330_352.out _).trans (((cell_far (p := ⟨gb352, _, none⟩) NB330_352.out _).trans (((cell_far (p := ⟨gb352, _, none⟩) NB330_352.out _).trans (hHeld.2.2))))))⟩ (fun hHeld => ?_)
               clear hK K
               refine pure_ (i := 12) (N := some 10) (v := ?_) (a' := ?_) #[true, true, true, true, true, true, true, true, true, true, true, true, true] rfl rfl (any_of HT_.out (by kernel_rfl)) (fun _ _ _ h => h) (Or.inl ⟨by rfl, ?_⟩) ?_ ?_
               rotate_left
               ·
                intro w'
                go_simp
                with_reducible rfl
               rotate_left
               ·
                simp only [Act.put, List.setIfInBounds_toArray, List.set_cons_zero, List.set_cons_succ, i64_w, i32_w]
                rfl
               refine done_ (done_of HT_.out (by kernel_rfl)) ?_
               obtain ⟨Ao51, co51, eo51⟩ := Kd.R_slice HO_340001.out; subst eo51; obtain ⟨Ao52, co52, eo52⟩ := Kd.R_slice HO_340002.out; subst eo52
               try go_wp2
               have n0_ : Aside0 (Kd.R Kd.string 9 (((w45.setCell ⟨gb352, 0, none⟩ (.bool t344)).setCell ⟨gb352, 1, none⟩ (.slice Ao47 t345.length co47)).setCell ⟨gb352, 2, none⟩ (.slice Ao49 t348.length co49)) w.heap.size (fun k_ => some k_ ≠ (.slice Ao51 x340001_2.length co51 : Value).ownBlock ∧ some k_ ≠ (.slice Ao47 t345.length co47 : Value).ownBlock) (.slice Ao39 x331001_2.length co39) x331001_2) := ⟨by (with_reducible repeat (first | apply Kd.R_alloc | apply Kd.R_drewN | apply Kd.R_drew)); exact Kd.R_mono (Kd.R_far (p := ⟨gb352, 2, none⟩) (Kd.R_far (p := ⟨gb352, 1, none⟩) (Kd.R_far (p := ⟨gb352, 0, none⟩) (Kd.R_types HO_331001.out BK352.out (by decide)) (fun _ hk => hk.2) (.bool t344)) (fun _ hk => hk.2) (.slice Ao47 t345.length co47)) (fun _ hk => hk.2) (.slice Ao49 t348.length co49)) (fun _ hk => ⟨hk.1.2, hk.1.1⟩)⟩
               have n1_ : Aside0 (Kd.R k49 49 (((w45.setCell ⟨gb352, 0, none⟩ (.bool t344)).setCell ⟨gb352, 1, none⟩ (.slice Ao47 t345.length co47)).setCell ⟨gb352, 2, none⟩ (.slice Ao49 t348.length co49)) w.heap.size (fun k_ => some k_ ≠ (.slice Ao52 x340002_2.length co52 : Value).ownBlock ∧ some k_ ≠ (.slice Ao49 t348.length co49 : Value).ownBlock) (.slice Ao40 x331002_2.length co40) x331002_2) := ⟨by (with_reducible repeat (first | apply Kd.R_alloc | apply Kd.R_drewN | apply Kd.R_drew)); exact Kd.R_mono (Kd.R_far (p := ⟨gb352, 2, none⟩) (Kd.R_far (p := ⟨gb352, 1, none⟩) (Kd.R_far (p := ⟨gb352, 0, none⟩) (Kd.R_types HO_331002.out BK352.out (by decide)) (fun _ hk => hk.2) (.bool t344)) (fun _ hk => hk.2) (.slice Ao47 t345.length co47)) (fun _ hk => hk.2) (.slice Ao49 t348.length co49)) (fun _ hk => ⟨hk.1.2, hk.1.1⟩)⟩
               have n2_ : Aside0 (Kd.R Kd.string 9 (((w45.setCell ⟨gb352, 0, none⟩ (.bool t344)).setCell ⟨gb352, 1, none⟩ (.slice Ao47 t345.length co47)).setCell ⟨gb352, 2, none⟩ (.slice Ao49 t348.length co49)) w.heap.size (fun k_ => some k_ ≠ (.slice Ao39 x331001_2.length co39 : Value).ownBlock ∧ some k_ ≠ (.slice Ao47 t345.length co47 : Value).ownBlock) (.slice Ao51 x340001_2.length co51) x340001_2) := ⟨by (with_reducible repeat (first | apply Kd.R_alloc | apply Kd.R_drewN | apply Kd.R_drew)); exact Kd.R_mono (Kd.R_far (p := ⟨gb352, 2, none⟩) (Kd.R_far (p := ⟨gb352, 1, none⟩) (Kd.R_far (p := ⟨gb352, 0, none⟩) (Kd.R_types HO_340001.out BK352.out (by decide)) (fun _ hk => hk.2) (.bool t344)) (fun _ hk => hk.2) (.slice Ao47 t345.length co47)) (fun _ hk => hk.2) (.slice Ao49 t348.length co49)) (fun _ hk => ⟨hk.1.2, hk.1.1⟩)⟩
               have n3_ : Aside0 (Kd.R k49 49 (((w45.setCell ⟨gb352, 0, none⟩ (.bool t344)).setCell ⟨gb352, 1, none⟩ (.slice Ao47 t345.length co47)).setCell ⟨gb352, 2, none⟩ (.slice Ao49 t348.length co49)) w.heap.size (fun k_ => some k_ ≠ (.slice Ao40 x331002_2.length co40 : Value).ownBlock ∧ some k_ ≠ (.slice Ao49 t348.length co49 : Value).ownBlock) (.slice Ao52 x340002_2.length co52) x340002_2) := ⟨by (with_reducible repeat (first | apply Kd.R_alloc | apply Kd.R_drewN | apply Kd.R_drew)); exact Kd.R_mono (Kd.R_far (p := ⟨gb352, 2, none⟩) (Kd.R_far (p := ⟨gb352, 1, none⟩) (Kd.R_far (p := ⟨gb352, 0, none⟩) (Kd.R_types HO_340002.out BK352.out (by decide)) (fun _ hk => hk.2) (.bool t344)) (fun _ hk => hk.2) (.slice Ao47 t345.length co47)) (fun _ hk => hk.2) (.slice Ao49 t348.length co49)) (fun _ hk => ⟨hk.1.2, hk.1.1⟩)⟩
               have n4_ : Aside0 (Kd.R Kd.string 9 (((w45.setCell ⟨gb352, 0, none⟩ (.bool t344)).setCell ⟨gb352, 1, none⟩ (.slice Ao47 t345.length co47)).setCell ⟨gb352, 2, none⟩ (.slice Ao49 t348.length co49)) w.heap.size (fun k_ => some k_ ≠ (.slice Ao39 x331001_2.length co39 : Value).ownBlock ∧ some k_ ≠ (.slice Ao51 x340001_2.length co51 : Value).ownBlock) (.slice Ao47 t345.length co47) t345) := ⟨by (with_reducible repeat (first | apply Kd.R_alloc | apply Kd.R_drewN | apply Kd.R_drew)); exact Kd.R_mono (Kd.R_far (p := ⟨gb352, 2, none⟩) (Kd.R_far (p := ⟨gb352, 1, none⟩) (Kd.R_far (p := ⟨gb352, 0, none⟩) (Kd.R_types HO347.out BK352.out (by decide)) (fun _ hk => hk.2) (.bool t344)) (fun _ hk => hk.2) (.slice Ao47 t345.length co47)) (fun _ hk => hk.2) (.slice Ao49 t348.length co49)) (fun _ hk => ⟨hk.1.1, hk.1.2⟩)⟩
               have n5_ : Aside0 (Kd.R k49 49 (((w45.setCell ⟨gb352, 0, none⟩ (.bool t344)).setCell ⟨gb352, 1, none⟩ (.slice Ao47 t345.length co47)).setCell ⟨gb352, 2, none⟩ (.slice Ao49 t348.length co49)) w.heap.size (fun k_ => some k_ ≠ (.slice Ao40 x331002_2.length co40 : Value).ownBlock ∧ some k_ ≠ (.slice Ao52 x340002_2.length co52 : Value).ownBlock) (.slice Ao49 t348.length co49) t348) := ⟨by (with_reducible repeat (first | apply Kd.R_alloc | apply Kd.R_drewN | apply Kd.R_drew)); exact Kd.R_mono (Kd.R_far (p := ⟨gb352, 2, none⟩) (Kd.R_far (p := ⟨gb352, 1, none⟩) (Kd.R_far (p := ⟨gb352, 0, none⟩) (Kd.R_types HO350.out BK352.out (by decide)) (fun _ hk => hk.2) (.bool t344)) (fun _ hk => hk.2) (.slice Ao47 t345.length co47)) (fun _ hk => hk.2) (.slice Ao49 t348.length co49)) (fun _ hk => ⟨hk.1.1, hk.1.2⟩)⟩
               have n6_ : Aside0 ((((w45.setCell ⟨gb352, 0, none⟩ (.bool t344)).setCell ⟨gb352, 1, none⟩ (.slice Ao47 t345.length co47)).setCell ⟨gb352, 2, none⟩ (.slice Ao49 t348.length co49)).heap[gb330]? = some (.cells #[.bool x331000_2, .slice Ao39 x331001_2.length co39, .slice Ao40 x331002_2.length co40] 27 (0, 0))) := ⟨by (with_reducible repeat (first | refine blk_drewN ?_ _ | refine blk_drew ?_ | refine blk_alloc ?_ _)); refine blk_far ?_ NB330_352.out _; (with_reducible repeat (first | refine blk_drewN ?_ _ | refine blk_drew ?_ | refine blk_alloc ?_ _)); refine blk_far ?_ NB330_352.out _; (with_reducible repeat (first | refine blk_drewN ?_ _ | refine blk_drew ?_ | refine blk_alloc ?_ _)); refine blk_far ?_ NB330_352.out _; (with_reducible repeat (first | refine blk_drewN ?_ _ | refine blk_drew ?_ | refine blk_alloc ?_ _)); exact BK330.out⟩
               have n7_ : Aside0 ((((w45.setCell ⟨gb352, 0, none⟩ (.bool t344)).setCell ⟨gb352, 1, none⟩ (.slice Ao47 t345.length co47)).setCell ⟨gb352, 2, none⟩ (.slice Ao49 t348.length co49)).heap[gb339]? = some (.cells #[.bool x340000_2, .slice Ao51 x340001_2.length co51, .slice Ao52 x340002_2.length co52] 27 (0, 0))) := ⟨by (with_reducible repeat (first | refine blk_drewN ?_ _ | refine blk_drew ?_ | refine blk_alloc ?_ _)); refine blk_far ?_ NB339_352.out _; (with_reducible repeat (first | refine blk_drewN ?_ _ | refine blk_drew ?_ | refine blk_alloc ?_ _)); refine blk_far ?_ NB339_352.out _; (with_reducible repeat (first | refine blk_drewN ?_ _ | refine blk_drew ?_ | refine blk_alloc ?_ _)); refine blk_far ?_ NB339_352.out _; (with_reducible repeat (first | refine blk_drewN ?_ _ | refine blk_drew ?_ | refine blk_alloc ?_ _)); exact BK339.out⟩
               have n8_ : Aside0 ((((w45.setCell ⟨gb352, 0, none⟩ (.bool t344)).setCell ⟨gb352, 1, none⟩ (.slice Ao47 t345.length co47)).setCell ⟨gb352, 2, none⟩ (.slice Ao49 t348.length co49)).heap[gb352]? = some (.cells #[.bool t344, .slice Ao47 t345.length co47, .slice Ao49 t348.length co49] 27 (0, 0))) := ⟨by (with_reducible repeat (first | refine blk_drewN ?_ _ | refine blk_drew ?_ | refine blk_alloc ?_ _)); refine blk_put (cs := #[.bool t344, .slice Ao47 t345.length co47, .slice none 0 0]) ?_ 2 _ rfl; (with_reducible repeat (first | refine blk_drewN ?_ _ | refine blk_drew ?_ | refine blk_alloc ?_ _)); refine blk_put (cs := #[.bool t344, .slice none 0 0, .slice none 0 0]) ?_ 1 _ rfl; (with_reducible repeat (first | refine blk_drewN ?_ _ | refine blk_drew ?_ | refine blk_alloc ?_ _)); refine blk_put (cs := #[.bool false, .slice none 0 0, .slice none 0 0]) ?_ 0 _ rfl; (with_reducible repeat (first | refine blk_drewN ?_ _ | refine blk_drew ?_ | refine blk_alloc ?_ _)); exact BK352.out⟩
               have n9_ : Aside0 (Below w.heap.size w (((w45.setCell ⟨gb352, 0, none⟩ (.bool t344)).setCell ⟨gb352, 1, none⟩ (.slice Ao47 t345.length co47)).setCell ⟨gb352, 2, none⟩ (.slice Ao49 t348.length co49))) := ⟨by repeat (first | (with_reducible first | exact HB.out | apply below_alloc | apply pw_below_drewN | apply below_drew1 | refine below_set ?_ GE330.out | refine below_set ?_ GE339.out | refine below_set ?_ GE352.out) | exact HB.out)⟩
               (try clear HO_331001)
               (try clear HO_331002)
               (try clear HO_340001)
               (try clear HO_340002)
               (try clear HO347)
               (try clear HO350)
               (try clear BK330)
               (try clear BK339)
               (try clear BK352)
               (try clear HB)
               generalize (((w45.setCell ⟨gb352, 0, none⟩ (.bool t344)).setCell ⟨gb352, 1, none⟩ (.slice Ao47 t345.length co47)).setCell ⟨gb352, 2, none⟩ (.slice Ao49 t348.length co49)) = w53 at n0_ n1_ n2_ n3_ n4_ n5_ n6_ n7_ n8_ n9_ ⊢
               have HO_331001 := n0_; have HO_331002 := n1_; have HO_340001 := n2_; have HO_340002 := n3_; have HO347 := n4_; have HO350 := n5_; have BK330 := n6_; have BK339 := n7_; have BK352 := n8_; have HB := n9_; clear n0_ n1_ n2_ n3_ n4_ n5_ n6_ n7_ n8_ n9_; have n0_ := Aside0.mk (Kd.R_drew HO_331001.out); have n1_ := Aside0.mk (Kd.R_drew HO_331002.out); have n2_ := Aside0.mk (Kd.R_drew HO_340001.out); have n3_ := Aside0.mk (Kd.R_drew HO_340002.out); have n4_ := Aside0.mk (Kd.R_drew HO347.out); have n5_ := Aside0.mk (Kd.R_drew HO350.out); have n6_ := Aside0.mk (blk_drew BK330.out); have n7_ := Aside0.mk (blk_drew BK339.out); have n8_ := Aside0.mk (blk_drew BK352.out); have n9_ := Aside0.mk (below_drew1 HB.out); clear HO_331001; clear HO_331002; clear HO_340001; clear HO_340002; clear HO347; clear HO350; clear BK330; clear BK339; clear BK352; clear HB; have HO_331001 := n0_; have HO_331002 := n1_; have HO_340001 := n2_; have HO_340002 := n3_; have HO347 := n4_; have HO350 := n5_; have BK330 := n6_; have BK339 := n7_; have BK352 := n8_; have HB := n9_; clear n0_ n1_ n2_ n3_ n4_ n5_ n6_ n7_ n8_ n9_
               refine start_ (n := 13) (S := fun w' => w'.cell? ⟨gb339, 0, none⟩ = some (.bool x340000_2) ∧ w'.cell? ⟨gb339, 1, none⟩ = some (.slice Ao51 x340001_2.length co51) ∧ w'.cell? ⟨gb339, 2, none⟩ = some (.slice Ao52 x340002_2.length co52)) (ds := []) #[false, false, false, false, false, false, false, false, false, false, false, false, false] (by kernel_rfl) rfl rfl ⟨(blk_cell BK339.out 0).trans rfl, (blk_cell BK339.out 1).trans rfl, (blk_cell BK339.out 2).trans rfl⟩ (fun hHeld => ?_); refine with_tabW ossuarylaw13_DiskFlushes.tab12 ossuarylaw13_DiskFlushes.bits12 (fun HT_ HW_ => ?_)
               generalize w53.drew = w54 at HO_331001 HO_331002 HO_340001 HO_340002 HO347 HO350 BK330 BK339 BK352 HB hHeld ⊢
               refine pure_ (i := 1) (N := some 68) (v := ?_) (a' := ?_) #[false, true, false, false, false, false, false, false, false, false, false, false, false] rfl rfl (any_of HT_.out (by kernel_rfl)) (fun _ _ _ h => h) (Or.inl ⟨by rfl, ?_⟩) ?_ ?_
               rotate_left
               ·
                intro w'
                go_simp
                with_reducible rfl
               rotate_left
               ·
                simp only [Act.put, List.setIfInBounds_toArray, List.set_cons_zero, List.set_cons_succ, i64_w, i32_w]
                rfl
               refine pure_ (i := 2) (N := some 69) (v := ?_) (a' := ?_) #[false, true, true, false, false, false, false, false, false, false, false, false, false] rfl rfl (any_of HT_.out (by kernel_rfl)) (fun _ _ _ h => h) (Or.inl ⟨by rfl, ?_⟩) ?_ ?_
               rotate_left
               ·
                intro w'
                go_simp
                with_reducible rfl
               rotate_left
               ·
                simp only [Act.put, List.setIfInBounds_toArray, List.set_cons_zero, List.set_cons_succ, i64_w, i32_w]
                rfl
               refine pure_ (i := 3) (N := some 70) (v := ?_) (a' := ?_) #[false, true, true, true, false, false, false, false, false, false, false, false, false] rfl rfl (any_of HT_.out (by kernel_rfl)) (fun _ _ _ h => h) (Or.inl ⟨by rfl, ?_⟩) ?_ ?_
               rotate_left
               ·
                intro w'
                go_simp
                with_reducible rfl
               rotate_left
               ·
                simp only [Act.put, List.setIfInBounds_toArray, List.set_cons_zero, List.set_cons_succ, i64_w, i32_w]
                rfl
               refine pure_ (i := 4) (N := some 71) (v := ?_) (a' := ?_) #[false, true, true, true, true, false, false, false, false, false, false, false, false] rfl rfl (any_of HT_.out (by kernel_rfl)) (fun _ _ _ h => h) (Or.inl ⟨by rfl, ?_⟩) ?_ ?_
               rotate_left
               ·
                intro w'
                go_simp
                with_reducible rfl
               rotate_left
               ·
                simp only [Act.put, List.setIfInBounds_toArray, List.set_cons_zero, List.set_cons_succ, i64_w, i32_w]
                rfl
               refine take_ (i := 0) (N := some 67) (v := ?_) (a' := ?_) #[true, true, true, true, true, false, false, false, false, false, false, false, false] rfl rfl (take_ofW HT_.out HW_.out (by kernel_rfl)) (fun _ _ _ h => h) (Or.inl ⟨by rfl, ?_⟩) hHeld ?_ ?_
               rotate_left
               ·
                rintro w' ⟨s0, s1, s2⟩
                go_simp
                with_reducible rfl
               rotate_left
               ·
                simp only [Act.put, List.setIfInBounds_toArray, List.set_cons_zero, List.set_cons_succ, i64_w, i32_w]
                rfl
               refine join_ (σ := Value × Value × Nat) 2 #[true, true, true, true, true, true, true, true, true, true, true, false, false] (fun s_ => [(72, .string t353), (73, .tuple #[.agg #[.bool t354, s_.1, s_.2.1], .int .i64 t361]), (11, .pointer (some ⟨s_.2.2, 0, none⟩)), (66, .tuple #[.agg #[.bool t354, s_.1, s_.2.1], .int .i64 t361]), (74, .agg #[.bool t354, s_.1, s_.2.1]), (75, .int .i64 t361)]) (fun s_ w' => (w'.cell? ⟨gb339, 0, none⟩ = some (.bool x340000_2) ∧ w'.cell? ⟨gb339, 1, none⟩ = some (.slice Ao51 x340001_2.length co51) ∧ w'.cell? ⟨gb339, 2, none⟩ = some (.slice Ao52 x340002_2.length co52)) ∧ (Kd.R Kd.string 9 w' w.heap.size (fun k_ => some k_ ≠ (s_.1 : Value).ownBlock ∧ some k_ ≠ (.slice Ao39 x331001_2.length co39 : Value).ownBlock ∧ some k_ ≠ (.slice Ao51 x340001_2.length co51 : Value).ownBlock) (.slice Ao47 t345.length co47) t345) ∧ (Kd.R k49 49 w' w.heap.size (fun k_ => some k_ ≠ (s_.2.1 : Value).ownBlock ∧ some k_ ≠ (.slice Ao40 x331002_2.length co40 : Value).ownBlock ∧ some k_ ≠ (.slice Ao52 x340002_2.length co52 : Value).ownBlock) (.slice Ao49 t348.length co49) t348) ∧ (Kd.R Kd.string 9 w' w.heap.size (fun k_ => some k_ ≠ (.slice Ao47 t345.length co47 : Value).ownBlock ∧ some k_ ≠ (.slice Ao39 x331001_2.length co39 : Value).ownBlock ∧ some k_ ≠ (.slice Ao51 x340001_2.length co51 : Value).ownBlock) s_.1 t355) ∧ (Kd.R k49 49 w' w.heap.size (fun k_ => some k_ ≠ (.slice Ao49 t348.length co49 : Value).ownBlock ∧ some k_ ≠ (.slice Ao40 x331002_2.length co40 : Value).ownBlock ∧ some k_ ≠ (.slice Ao52 x340002_2.length co52 : Value).ownBlock) s_.2.1 t358) ∧ (Kd.R Kd.string 9 w' w.heap.size (fun k_ => some k_ ≠ (.slice Ao47 t345.length co47 : Value).ownBlock ∧ some k_ ≠ (s_.1 : Value).ownBlock ∧ some k_ ≠ (.slice Ao51 x340001_2.length co51 : Value).ownBlock) (.slice Ao39 x331001_2.length co39) x331001_2) ∧ (Kd.R k49 49 w' w.heap.size (fun k_ => some k_ ≠ (.slice Ao49 t348.length co49 : Value).ownBlock ∧ some k_ ≠ (s_.2.1 : Value).ownBlock ∧ some k_ ≠ (.slice Ao52 x340002_2.length co52 : Value).ownBlock) (.slice Ao40 x331002_2.length co40) x331002_2) ∧ (Kd.R Kd.string 9 w' w.heap.size (fun k_ => some k_ ≠ (.slice Ao47 t345.length co47 : Value).ownBlock ∧ some k_ ≠ (s_.1 : Value).ownBlock ∧ some k_ ≠ (.slice Ao39 x331001_2.length co39 : Value).ownBlock) (.slice Ao51 x340001_2.length co51) x340001_2) ∧ (Kd.R k49 49 w' w.heap.size (fun k_ => some k_ ≠ (.slice Ao49 t348.length co49 : Value).ownBlock ∧ some k_ ≠ (s_.2.1 : Value).ownBlock ∧ some k_ ≠ (.slice Ao40 x331002_2.length co40 : Value).ownBlock) (.slice Ao52 x340002_2.length co52) x340002_2) ∧ (w'.heap[gb330]? = some (.cells #[.bool x331000_2, .slice Ao39 x331001_2.length co39, .slice Ao40 x331002_2.length co40] 27 (0, 0))) ∧ (w'.heap[gb339]? = some (.cells #[.bool x340000_2, .slice Ao51 x340001_2.length co51, .slice Ao52 x340002_2.length co52] 27 (0, 0))) ∧ (w'.heap[gb352]? = some (.cells #[.bool t344, .slice Ao47 t345.length co47, .slice Ao49 t348.length co49] 27 (0, 0))) ∧ (w'.heap[s_.2.2]? = some (.cells #[.bool false, .slice none 0 0, .slice none 0 0] 27 (0, 0))) ∧ (w.heap.size ≤ s_.2.2) ∧ (w.heap.size ≤ s_.2.2) ∧ (gb330 ≠ s_.2.2) ∧ (s_.2.2 ≠ gb330) ∧ (gb339 ≠ s_.2.2) ∧ (s_.2.2 ≠ gb339) ∧ (gb352 ≠ s_.2.2) ∧ (s_.2.2 ≠ gb352) ∧ (Below w.heap.size w w')) ?_ ?_
               rotate_left
               ·
                intro hCont
                refine two_ (i := 5) (j := 10) (Ni := some 72) (Nj := some 11) #[true, true, true, true, true, true, false, false, false, false, false, false, false] #[true, true, true, true, true, false, false, false, false, false, true, false, false] rfl rfl rfl rfl (two_of HT_.out (by kernel_rfl)) (by decide) (by decide) (fun K hK => ?_) (fun K hK => ?_)
                ·
                 skip
                 refine goes_ Try.func8 (by kernel_rfl) rfl #[.int .u8 ((wrap64 (1 + x7_2)) % 256)] (by rfl) rfl rfl (by (try simp only [List.map_toArray, List.map_cons, List.map_nil]); first | done | rfl | (simp only [List.length_drop, List.length_take]; rfl)) ?_
                 with_reducible refine (ossuarylaw13_full.calls kj22 ((wrap64 (1 + x7_2)) % 256) t353 _ A30.out).mono ?_
                 rintro e w55 ⟨rfl, hb⟩
                 refine ⟨_, rfl, ?_⟩
                 have n0_ := Aside0.mk (Kd.R_below (by (with_reducible repeat (first | apply Kd.R_alloc | apply Kd.R_drewN | apply Kd.R_drew)); exact HO_331001.out) hb)
                 have n1_ := Aside0.mk (Kd.R_below (by (with_reducible repeat (first | apply Kd.R_alloc | apply Kd.R_drewN | apply Kd.R_drew)); exact HO_331002.out) hb)
                 have n2_ := Aside0.mk (Kd.R_below (by (with_reducible repeat (first | apply Kd.R_alloc | apply Kd.R_drewN | apply Kd.R_drew)); exact HO_340001.out) hb)
                 have n3_ := Aside0.mk (Kd.R_below (by (with_reducible repeat (first | apply Kd.R_alloc | apply Kd.R_drewN | apply Kd.R_drew)); exact HO_340002.out) hb)
                 have n4_ := Aside0.mk (Kd.R_below (by (with_reducible repeat (first | apply Kd.R_alloc | apply Kd.R_drewN | apply Kd.R_drew)); exact HO347.out) hb)
                 have n5_ := Aside0.mk (Kd.R_below (by (with_reducible repeat (first | apply Kd.R_alloc | apply Kd.R_drewN | apply Kd.R_drew)); exact HO350.out) hb)
                 have n6_ := Aside0.mk (blk_below (g := gb330) (o := .cells #[.bool x331000_2, .slice Ao39 x331001_2.length co39, .slice Ao40 x331002_2.length co40] 27 (0, 0)) (by (with_reducible repeat (first | refine blk_drewN ?_ _ | refine blk_drew ?_ | refine blk_alloc ?_ _)); exact BK330.out) hb)
                 have n7_ := Aside0.mk (blk_below (g := gb339) (o := .cells #[.bool x340000_2, .slice Ao51 x340001_2.length co51, .slice Ao52 x340002_2.length co52] 27 (0, 0)) (by (with_reducible repeat (first | refine blk_drewN ?_ _ | refine blk_drew ?_ | refine blk_alloc ?_ _)); exact BK339.out) hb)
                 have n8_ := Aside0.mk (blk_below (g := gb352) (o := .cells #[.bool t344, .slice Ao47 t345.length co47, .slice Ao49 t348.length co49] 27 (0, 0)) (by (with_reducible repeat (first | refine blk_drewN ?_ _ | refine blk_drew ?_ | refine blk_alloc ?_ _)); exact BK352.out) hb)
                 have n9_ := sq_st hb HB; clear HO_331001; clear HO_331002; clear HO_340001; clear HO_340002; clear HO347; clear HO350; clear BK330; clear BK339; clear BK352; clear HB; have HO_331001 := n0_; have HO_331002 := n1_; have HO_340001 := n2_; have HO_340002 := n3_; have HO347 := n4_; have HO350 := n5_; have BK330 := n6_; have BK339 := n7_; have BK352 := n8_; have HB := n9_; clear n0_ n1_ n2_ n3_ n4_ n5_ n6_ n7_ n8_ n9_
                 (try clear hb)
                 (try clear hb2)
                 (try clear hk)
                 (try clear hi)
                 refine hK.out _ _ ⟨(blk_cell BK339.out 0).trans rfl, (blk_cell BK339.out 1).trans rfl, (blk_cell BK339.out 2).trans rfl⟩ (fun hHeld => ?_)
                 clear hK K
                 refine norm_ (a' := ?_) ?_ ?_
                 rotate_left
                 ·
                  show Act.put _ (some 72) _ = _
                  simp only [Act.put, List.setIfInBounds_toArray, List.set_cons_zero, List.set_cons_succ, i64_w, i32_w]
                  rfl
                 refine two_ (i := 6) (j := 10) (Ni := some 73) (Nj := some 11) #[true, true, true, true, true, true, true, false, false, false, false, false, false] #[true, true, true, true, true, true, false, false, false, false, true, false, false] rfl rfl rfl rfl (two_of HT_.out (by kernel_rfl)) (by decide) (by decide) (fun K hK => ?_) (fun K hK => ?_)
                 ·
                  skip
                  refine goes_ Try.func7 (by kernel_rfl) rfl #[.agg #[.bool x340000_2, .slice Ao51 x340001_2.length co51, .slice Ao52 x340002_2.length co52], .int .i64 (wrap64 (Int.tmod (IntKind.u64.wrap (rd l0 x7_2)) 4)), .string t353] (by rfl) rfl rfl (by (try simp only [List.map_toArray, List.map_cons, List.map_nil]); first | done | rfl | (simp only [List.length_drop, List.length_take]; rfl)) ?_
                  with_reducible refine (disk_Write.calls x340000_2 _ _ x340001_2 _ _ x340002_2 (wrap64 (Int.tmod (IntKind.u64.wrap (rd l0 x7_2)) 4)) t353 t354 t355 t358 t361 _ ?side1 ?side2 ?side3 ?side4 A31.out).mono ?_
                  (case side1 => repeat (first | exact (Kd.R_reads' HO_340001.out).2.2 | (with_reducible refine Kd.C_alloc ?_ _) | (with_reducible refine Kd.C_drewN ?_ _) | (with_reducible refine Kd.C_drew ?_)))
                  (case side2 => exact (Kd.R_reads' HO_340001.out).2.1)
                  (case side3 => repeat (first | exact (Kd.R_reads' HO_340002.out).2.2 | (with_reducible refine Kd.C_alloc ?_ _) | (with_reducible refine Kd.C_drewN ?_ _) | (with_reducible refine Kd.C_drew ?_)))
                  (case side4 => exact (Kd.R_reads' HO_340002.out).2.1)
                  rintro e w56 ⟨v356, v359, rfl, ho0, ho1, hb⟩
                  refine ⟨_, rfl, ?_⟩
                  have n0_ := Aside0.mk (Kd.R_elder' (by (with_reducible repeat (first | apply Kd.R_alloc | apply Kd.R_drewN | apply Kd.R_drew)); exact HO_331001.out) (Kd.R_base ho0) hb)
                  have n1_ := Aside0.mk (Kd.R_elder' (by (with_reducible repeat (first | apply Kd.R_alloc | apply Kd.R_drewN | apply Kd.R_drew)); exact HO_331002.out) (Kd.R_base ho1) hb)
                  have n2_ := Aside0.mk (Kd.R_elder' (by (with_reducible repeat (first | apply Kd.R_alloc | apply Kd.R_drewN | apply Kd.R_drew)); exact HO_340001.out) (Kd.R_base ho0) hb)
                  have n3_ := Aside0.mk (Kd.R_elder' (by (with_reducible repeat (first | apply Kd.R_alloc | apply Kd.R_drewN | apply Kd.R_drew)); exact HO_340002.out) (Kd.R_base ho1) hb)
                  have n4_ := Aside0.mk (Kd.R_elder' (by (with_reducible repeat (first | apply Kd.R_alloc | apply Kd.R_drewN | apply Kd.R_drew)); exact HO347.out) (Kd.R_base ho0) hb)
                  have n5_ := Aside0.mk (Kd.R_elder' (by (with_reducible repeat (first | apply Kd.R_alloc | apply Kd.R_drewN | apply Kd.R_drew)); exact HO350.out) (Kd.R_base ho1) hb)
                  have n6_ := Aside0.mk (Kd.R_lower (Kd.R_new' (Kd.R_new' (Kd.R_new' ho0 (Kd.R_lt (by (with_reducible repeat (first | apply Kd.R_alloc | apply Kd.R_drewN | apply Kd.R_drew)); exact HO_331001.out))) (Kd.R_lt (by (with_reducible repeat (first | apply Kd.R_alloc | apply Kd.R_drewN | apply Kd.R_drew)); exact HO_340001.out))) (Kd.R_lt (by (with_reducible repeat (first | apply Kd.R_alloc | apply Kd.R_drewN | apply Kd.R_drew)); exact HO347.out))) (below_size (by repeat (first | (with_reducible first | exact HB.out | apply below_alloc | apply pw_below_drewN | apply below_drew1 | refine below_set ?_ GE330.out | refine below_set ?_ GE339.out | refine below_set ?_ GE352.out) | exact HB.out))))
                  have n7_ := Aside0.mk (Kd.R_lower (Kd.R_new' (Kd.R_new' (Kd.R_new' ho1 (Kd.R_lt (by (with_reducible repeat (first | apply Kd.R_alloc | apply Kd.R_drewN | apply Kd.R_drew)); exact HO_331002.out))) (Kd.R_lt (by (with_reducible repeat (first | apply Kd.R_alloc | apply Kd.R_drewN | apply Kd.R_drew)); exact HO_340002.out))) (Kd.R_lt (by (with_reducible repeat (first | apply Kd.R_alloc | apply Kd.R_drewN | apply Kd.R_drew)); exact HO350.out))) (below_size (by repeat (first | (with_reducible first | exact HB.out | apply below_alloc | apply pw_below_drewN | apply below_drew1 | refine below_set ?_ GE330.out | refine below_set ?_ GE339.out | refine below_set ?_ GE352.out) | exact HB.out))))
                  have n8_ := Aside0.mk (blk_below (g := gb330) (o := .cells #[.bool x331000_2, .slice Ao39 x331001_2.length co39, .slice Ao40 x331002_2.length co40] 27 (0, 0)) (by (with_reducible repeat (first | refine blk_drewN ?_ _ | refine blk_drew ?_ | refine blk_alloc ?_ _)); exact BK330.out) hb)
                  have n9_ := Aside0.mk (blk_below (g := gb339) (o := .cells #[.bool x340000_2, .slice Ao51 x340001_2.length co51, .slice Ao52 x340002_2.length co52] 27 (0, 0)) (by (with_reducible repeat (first | refine blk_drewN ?_ _ | refine blk_drew ?_ | refine blk_alloc ?_ _)); exact BK339.out) hb)
                  have n10_ := Aside0.mk (blk_below (g := gb352) (o := .cells #[.bool t344, .slice Ao47 t345.length co47, .slice Ao49 t348.length co49] 27 (0, 0)) (by (with_reducible repeat (first | refine blk_drewN ?_ _ | refine blk_drew ?_ | refine blk_alloc ?_ _)); exact BK352.out) hb)
                  have n11_ := sq_st hb HB; clear HO_331001; clear HO_331002; clear HO_340001; clear HO_340002; clear HO347; clear HO350; clear BK330; clear BK339; clear BK352; clear HB; have HO_331001 := n0_; have HO_331002 := n1_; have HO_340001 := n2_; have HO_340002 := n3_; have HO347 := n4_; have HO350 := n5_; have HO357 := n6_; have HO360 := n7_; have BK330 := n8_; have BK339 := n9_; have BK352 := n10_; have HB := n11_; clear n0_ n1_ n2_ n3_ n4_ n5_ n6_ n7_ n8_ n9_ n10_ n11_
                  (try clear hb)
                  (try clear hb2)
                  (try clear hk)
                  (try clear hi)
                  (try clear ho0)
                  (try clear ho1)
                  refine hK.out _ _ ⟨(blk_cell BK339.out 0).trans rfl, (blk_cell BK339.out 1).trans rfl, (blk_cell BK339.out 2).trans rfl⟩ (fun hHeld => ?_)
                  clear hK K
                  refine norm_ (a' := ?_) ?_ ?_
                  rotate_left
                  ·
                   show Act.put _ (some 73) _ = _
                   simp only [Act.put, List.setIfInBounds_toArray, List.set_cons_zero, List.set_cons_succ, i64_w, i32_w]
                   rfl
                  refine pure_ (i := 7) (N := some 66) (v := ?_) (a' := ?_) #[true, true, true, true, true, true, true, true, false, false, false, false, false] rfl rfl (any_of HT_.out (by kernel_rfl)) (fun _ _ _ h => h) (Or.inl ⟨by rfl, ?_⟩) ?_ ?_
                  rotate_left
                  ·
                   intro w'
                   go_simp
                   with_reducible rfl
                  rotate_left
                  ·
                   simp only [Act.put, List.setIfInBounds_toArray, List.set_cons_zero, List.set_cons_succ, i64_w, i32_w]
                   rfl
                  refine pure_ (i := 8) (N := some 74) (v := ?_) (a' := ?_) #[true, true, true, true, true, true, true, true, true, false, false, false, false] rfl rfl (any_of HT_.out (by kernel_rfl)) (fun _ _ _ h => h) (Or.inl ⟨by rfl, ?_⟩) ?_ ?_
                  rotate_left
                  ·
                   intro w'
                   go_simp
                   with_reducible rfl
                  rotate_left
                  ·
                   simp only [Act.put, List.setIfInBounds_toArray, List.set_cons_zero, List.set_cons_succ, i64_w, i32_w]
                   rfl
                  refine pure_ (i := 9) (N := some 75) (v := ?_) (a' := ?_) #[true, true, true, true, true, true, true, true, true, true, false, false, false] rfl rfl (any_of HT_.out (by kernel_rfl)) (fun _ _ _ h => h) (Or.inl ⟨by rfl, ?_⟩) ?_ ?_
                  rotate_left
                  ·
                   intro w'
                   go_simp
                   with_reducible rfl
                  rotate_left
                  ·
                   simp only [Act.put, List.setIfInBounds_toArray, List.set_cons_zero, List.set_cons_succ, i64_w, i32_w]
                   rfl
                  refine one_ (i := 10) (N := some 11) #[true, true, true, true, true, true, true, true, true, true, true, false, false] rfl rfl (one_of HT_.out (by kernel_rfl)) (by decide) (fun K hK => ?_)
                  refine box_step ?hg (N := 11) ?hd (cs := #[.bool false, .slice none 0 0, .slice none 0 0]) (t := 27) ?hr ?_; (case hd => rfl); (case hg => rfl); (case hr => first | (go_simp; done) | (go_simp; rfl))
                  intro gb362 hg w57 hbox hb
                  have n0_ := Aside0.mk (Kd.R_below (by (with_reducible repeat (first | apply Kd.R_alloc | apply Kd.R_drewN | apply Kd.R_drew)); exact HO_331001.out) hb)
                  have n1_ := Aside0.mk (Kd.R_below (by (with_reducible repeat (first | apply Kd.R_alloc | apply Kd.R_drewN | apply Kd.R_drew)); exact HO_331002.out) hb)
                  have n2_ := Aside0.mk (Kd.R_below (by (with_reducible repeat (first | apply Kd.R_alloc | apply Kd.R_drewN | apply Kd.R_drew)); exact HO_340001.out) hb)
                  have n3_ := Aside0.mk (Kd.R_below (by (with_reducible repeat (first | apply Kd.R_alloc | apply Kd.R_drewN | apply Kd.R_drew)); exact HO_340002.out) hb)
                  have n4_ := Aside0.mk (Kd.R_below (by (with_reducible repeat (first | apply Kd.R_alloc | apply Kd.R_drewN | apply Kd.R_drew)); exact HO347.out) hb)
                  have n5_ := Aside0.mk (Kd.R_below (by (with_reducible repeat (first | apply Kd.R_alloc | apply Kd.R_drewN | apply Kd.R_drew)); exact HO350.out) hb)
                  have n6_ := Aside0.mk (Kd.R_below (by (with_reducible repeat (first | apply Kd.R_alloc | apply Kd.R_drewN | apply Kd.R_drew)); exact HO357.out) hb)
                  have n7_ := Aside0.mk (Kd.R_below (by (with_reducible repeat (first | apply Kd.R_alloc | apply Kd.R_drewN | apply Kd.R_drew)); exact HO360.out) hb)
                  have n8_ := Aside0.mk (blk_below (g := gb330) (o := .cells #[.bool x331000_2, .slice Ao39 x331001_2.length co39, .slice Ao40 x331002_2.length co40] 27 (0, 0)) (by (with_reducible repeat (first | refine blk_drewN ?_ _ | refine blk_drew ?_ | refine blk_alloc ?_ _)); exact BK330.out) hb)
                  have n9_ := Aside0.mk (blk_below (g := gb339) (o := .cells #[.bool x340000_2, .slice Ao51 x340001_2.length co51, .slice Ao52 x340002_2.length co52] 27 (0, 0)) (by (with_reducible repeat (first | refine blk_drewN ?_ _ | refine blk_drew ?_ | refine blk_alloc ?_ _)); exact BK339.out) hb)
                  have n10_ := Aside0.mk (blk_below (g := gb352) (o := .cells #[.bool t344, .slice Ao47 t345.length co47, .slice Ao49 t348.length co49] 27 (0, 0)) (by (with_reducible repeat (first | refine blk_drewN ?_ _ | refine blk_drew ?_ | refine blk_alloc ?_ _)); exact BK352.out) hb)
                  have n11_ := sq_st hb HB; have n12_ := Aside0.mk (hbox)
                  have n13_ := Aside0.mk ((by rw [hg]; exact (below_size (by repeat (first | (with_reducible first | exact HB.out | apply below_alloc | apply pw_below_drewN | apply below_drew1 | refine below_set ?_ GE330.out | refine below_set ?_ GE339.out | refine below_set ?_ GE352.out) | exact HB.out))) : w.heap.size ≤ gb362))
                  have n14_ := Aside0.mk ((by rw [hg]; exact (below_size (by repeat (first | (with_reducible first | exact HB.out | apply below_alloc | apply pw_below_drewN | apply below_drew1 | refine below_set ?_ GE330.out | refine below_set ?_ GE339.out | refine below_set ?_ GE352.out) | exact HB.out))) : w.heap.size ≤ gb362))
                  have n15_ := Aside0.mk ((by rw [hg]; exact Nat.ne_of_lt (blk_lt (g := gb330) (o := .cells #[.bool x331000_2, .slice Ao39 x331001_2.length co39, .slice Ao40 x331002_2.length co40] 27 (0, 0)) (by (with_reducible repeat (first | refine blk_drewN ?_ _ | refine blk_drew ?_ | refine blk_alloc ?_ _)); exact BK330.out)) : gb330 ≠ gb362))
                  have n16_ := Aside0.mk ((by rw [hg]; exact Nat.ne_of_gt (blk_lt (g := gb330) (o := .cells #[.bool x331000_2, .slice Ao39 x331001_2.length co39, .slice Ao40 x331002_2.length co40] 27 (0, 0)) (by (with_reducible repeat (first | refine blk_drewN ?_ _ | refine blk_drew ?_ | refine blk_alloc ?_ _)); exact BK330.out)) : gb362 ≠ gb330))
                  have n17_ := Aside0.mk ((by rw [hg]; exact Nat.ne_of_lt (blk_lt (g := gb339) (o := .cells #[.bool x340000_2, .slice Ao51 x340001_2.length co51, .slice Ao52 x340002_2.length co52] 27 (0, 0)) (by (with_reducible repeat (first | refine blk_drewN ?_ _ | refine blk_drew ?_ | refine blk_alloc ?_ _)); exact BK339.out)) : gb339 ≠ gb362))
                  have n18_ := Aside0.mk ((by rw [hg]; exact Nat.ne_of_gt (blk_lt (g := gb339) (o := .cells #[.bool x340000_2, .slice Ao51 x340001_2.length co51, .slice Ao52 x340002_2.length co52] 27 (0, 0)) (by (with_reducible repeat (first | refine blk_drewN ?_ _ | refine blk_drew ?_ | refine blk_alloc ?_ _)); exact BK339.out)) : gb362 ≠ gb339))
                  have n19_ := Aside0.mk ((by rw [hg]; exact Nat.ne_of_lt (blk_lt (g := gb352) (o := .cells #[.bool t344, .slice Ao47 t345.length co47, .slice Ao49 t348.length co49] 27 (0, 0)) (by (with_reducible repeat (first | refine blk_drewN ?_ _ | refine blk_drew ?_ | refine blk_alloc ?_ _)); exact BK352.out)) : gb352 ≠ gb362))
                  have n20_ := Aside0.mk ((by rw [hg]; exact Nat.ne_of_gt (blk_lt (g := gb352) (o := .cells #[.bool t344, .slice Ao47 t345.length co47, .slice Ao49 t348.length co49] 27 (0, 0)) (by (with_reducible repeat (first | refine blk_drewN ?_ _ | refine blk_drew ?_ | refine blk_alloc ?_ _)); exact BK352.out)) : gb362 ≠ gb352))
                  clear HO_331001; clear HO_331002; clear HO_340001; clear HO_340002; clear HO347; clear HO350; clear HO357; clear HO360; clear BK330; clear BK339; clear BK352; clear HB; have HO_331001 := n0_; have HO_331002 := n1_; have HO_340001 := n2_; have HO_340002 := n3_; have HO347 := n4_; have HO350 := n5_; have HO357 := n6_; have HO360 := n7_; have BK330 := n8_; have BK339 := n9_; have BK352 := n10_; have HB := n11_; have BK362 := n12_; have GW362 := n13_; have GE362 := n14_; have NB330_362 := n15_; have NB362_330 := n16_; have NB339_362 := n17_; have NB362_339 := n18_; have NB352_362 := n19_; have NB362_352 := n20_; clear n0_ n1_ n2_ n3_ n4_ n5_ n6_ n7_ n8_ n9_ n10_ n11_ n12_ n13_ n14_ n15_ n16_ n17_ n18_ n19_ n20_; clear hb hbox hg
                  refine hK.out _ _ ⟨(blk_cell BK339.out 0).trans rfl, (blk_cell BK339.out 1).trans rfl, (blk_cell BK339.out 2).trans rfl⟩ (fun hHeld => ?_)
                  clear hK K
                  refine norm_ (a' := ?_) ?_ ?_
                  rotate_left
                  ·
                   show Act.put _ (some 11) _ = _
                   simp only [Act.put, List.setIfInBounds_toArray, List.set_cons_zero, List.set_cons_succ, i64_w, i32_w]
                   rfl
                  exact norm_ (by simp only [putAll, Act.put, List.setIfInBounds_toArray, List.set_cons_zero, List.set_cons_succ]) (hCont (v356, v359, gb362) _ ⟨hHeld, (by (with_reducible repeat (first | apply Kd.R_alloc | apply Kd.R_drewN | apply Kd.R_drew)); exact Kd.R_mono HO347.out (fun _ hk => ⟨hk.2, ⟨hk.1.1, hk.1.2⟩⟩)), (by (with_reducible repeat (first | apply Kd.R_alloc | apply Kd.R_drewN | apply Kd.R_drew)); exact Kd.R_mono HO350.out (fun _ hk => ⟨hk.2, ⟨hk.1.1, hk.1.2⟩⟩)), (by (with_reducible repeat (first | apply Kd.R_alloc | apply Kd.R_drewN | apply Kd.R_drew)); exact Kd.R_mono HO357.out (fun _ hk => ⟨hk.2, ⟨hk.1.1.2, hk.1.2⟩⟩)), (by (with_reducible repeat (first | apply Kd.R_alloc | apply Kd.R_drewN | apply Kd.R_drew)); exact Kd.R_mono HO360.out (fun _ hk => ⟨hk.2, ⟨hk.1.1.2, hk.1.2⟩⟩)), (by (with_reducible repeat (first | apply Kd.R_alloc | apply Kd.R_drewN | apply Kd.R_drew)); exact Kd.R_mono HO_331001.out (fun _ hk => ⟨hk.1.2, ⟨hk.2, hk.1.1⟩⟩)), (by (with_reducible repeat (first | apply Kd.R_alloc | apply Kd.R_drewN | apply Kd.R_drew)); exact Kd.R_mono HO_331002.out (fun _ hk => ⟨hk.1.2, ⟨hk.2, hk.1.1⟩⟩)), (by (with_reducible repeat (first | apply Kd.R_alloc | apply Kd.R_drewN | apply Kd.R_drew)); exact Kd.R_mono HO_340001.out (fun _ hk => ⟨hk.1.2, ⟨hk.2, hk.1.1⟩⟩)), (by (with_reducible repeat (first | apply Kd.R_alloc | apply Kd.R_drewN | apply Kd.R_drew)); exact Kd.R_mono HO_340002.out (fun _ hk => ⟨hk.1.2, ⟨hk.2, hk.1.1⟩⟩)), (by (with_reducible repeat (first | refine blk_drewN ?_ _ | refine blk_drew ?_ | refine blk_alloc ?_ _)); exact BK330.out), (by (with_reducible repeat (first | refine blk_drewN ?_ _ | refine blk_drew ?_ | refine blk_alloc ?_ _)); exact BK339.out), (by (with_reducible repeat (first | refine blk_drewN ?_ _ | refine blk_drew ?_ | refine blk_alloc ?_ _)); exact BK352.out), (by (with_reducible repeat (first | refine blk_drewN ?_ _ | refine blk_drew ?_ | refine blk_alloc ?_ _)); exact BK362.out), GW362.out, GE362.out, NB330_362.out, NB362_330.out, NB339_362.out, NB362_339.out, NB352_362.out, NB362_352.out, (by repeat (first | (with_reducible first | exact HB.out | apply below_alloc | apply pw_below_drewN | apply below_drew1 | refine below_set ?_ GE330.out | refine below_set ?_ GE339.out | refine below_set ?_ GE352.out | refine below_set ?_ GE362.out) | exact HB.out))⟩)
                 ·
                  skip
                  refine box_step ?hg (N := 11) ?hd (cs := #[.bool false, .slice none 0 0, .slice none 0 0]) (t := 27) ?hr ?_; (case hd => rfl); (case hg => rfl); (case hr => first | (go_simp; done) | (go_simp; rfl))
                  intro gb362 hg w56 hbox hb
                  have n0_ := Aside0.mk (Kd.R_below (by (with_reducible repeat (first | apply Kd.R_alloc | apply Kd.R_drewN | apply Kd.R_drew)); exact HO_331001.out) hb)
                  have n1_ := Aside0.mk (Kd.R_below (by (with_reducible repeat (first | apply Kd.R_alloc | apply Kd.R_drewN | apply Kd.R_drew)); exact HO_331002.out) hb)
                  have n2_ := Aside0.mk (Kd.R_below (by (with_reducible repeat (first | apply Kd.R_alloc | apply Kd.R_drewN | apply Kd.R_drew)); exact HO_340001.out) hb)
                  have n3_ := Aside0.mk (Kd.R_below (by (with_reducible repeat (first | apply Kd.R_alloc | apply Kd.R_drewN | apply Kd.R_drew)); exact HO_340002.out) hb)
                  have n4_ := Aside0.mk (Kd.R_below (by (with_reducible repeat (first | apply Kd.R_alloc | apply Kd.R_drewN | apply Kd.R_drew)); exact HO347.out) hb)
                  have n5_ := Aside0.mk (Kd.R_below (by (with_reducible repeat (first | apply Kd.R_alloc | apply Kd.R_drewN | apply Kd.R_drew)); exact HO350.out) hb)
                  have n6_ := Aside0.mk (blk_below (g := gb330) (o := .cells #[.bool x331000_2, .slice Ao39 x331001_2.length co39, .slice Ao40 x331002_2.length co40] 27 (0, 0)) (by (with_reducible repeat (first | refine blk_drewN ?_ _ | refine blk_drew ?_ | refine blk_alloc ?_ _)); exact BK330.out) hb)
                  have n7_ := Aside0.mk (blk_below (g := gb339) (o := .cells #[.bool x340000_2, .slice Ao51 x340001_2.length co51, .slice Ao52 x340002_2.length co52] 27 (0, 0)) (by (with_reducible repeat (first | refine blk_drewN ?_ _ | refine blk_drew ?_ | refine blk_alloc ?_ _)); exact BK339.out) hb)
                  have n8_ := Aside0.mk (blk_below (g := gb352) (o := .cells #[.bool t344, .slice Ao47 t345.length co47, .slice Ao49 t348.length co49] 27 (0, 0)) (by (with_reducible repeat (first | refine blk_drewN ?_ _ | refine blk_drew ?_ | refine blk_alloc ?_ _)); exact BK352.out) hb)
                  have n9_ := sq_st hb HB; have n10_ := Aside0.mk (hbox)
                  have n11_ := Aside0.mk ((by rw [hg]; exact (below_size (by repeat (first | (with_reducible first | exact HB.out | apply below_alloc | apply pw_below_drewN | apply below_drew1 | refine below_set ?_ GE330.out | refine below_set ?_ GE339.out | refine below_set ?_ GE352.out) | exact HB.out))) : w.heap.size ≤ gb362))
                  have n12_ := Aside0.mk ((by rw [hg]; exact (below_size (by repeat (first | (with_reducible first | exact HB.out | apply below_alloc | apply pw_below_drewN | apply below_drew1 | refine below_set ?_ GE330.out | refine below_set ?_ GE339.out | refine below_set ?_ GE352.out) | exact HB.out))) : w.heap.size ≤ gb362))
                  have n13_ := Aside0.mk ((by rw [hg]; exact Nat.ne_of_lt (blk_lt (g := gb330) (o := .cells #[.bool x331000_2, .slice Ao39 x331001_2.length co39, .slice Ao40 x331002_2.length co40] 27 (0, 0)) (by (with_reducible repeat (first | refine blk_drewN ?_ _ | refine blk_drew ?_ | refine blk_alloc ?_ _)); exact BK330.out)) : gb330 ≠ gb362))
                  have n14_ := Aside0.mk ((by rw [hg]; exact Nat.ne_of_gt (blk_lt (g := gb330) (o := .cells #[.bool x331000_2, .slice Ao39 x331001_2.length co39, .slice Ao40 x331002_2.length co40] 27 (0, 0)) (by (with_reducible repeat (first | refine blk_drewN ?_ _ | refine blk_drew ?_ | refine blk_alloc ?_ _)); exact BK330.out)) : gb362 ≠ gb330))
                  have n15_ := Aside0.mk ((by rw [hg]; exact Nat.ne_of_lt (blk_lt (g := gb339) (o := .cells #[.bool x340000_2, .slice Ao51 x340001_2.length co51, .slice Ao52 x340002_2.length co52] 27 (0, 0)) (by (with_reducible repeat (first | refine blk_drewN ?_ _ | refine blk_drew ?_ | refine blk_alloc ?_ _)); exact BK339.out)) : gb339 ≠ gb362))
                  have n16_ := Aside0.mk ((by rw [hg]; exact Nat.ne_of_gt (blk_lt (g := gb339) (o := .cells #[.bool x340000_2, .slice Ao51 x340001_2.length co51, .slice Ao52 x340002_2.length co52] 27 (0, 0)) (by (with_reducible repeat (first | refine blk_drewN ?_ _ | refine blk_drew ?_ | refine blk_alloc ?_ _)); exact BK339.out)) : gb362 ≠ gb339))
                  have n17_ := Aside0.mk ((by rw [hg]; exact Nat.ne_of_lt (blk_lt (g := gb352) (o := .cells #[.bool t344, .slice Ao47 t345.length co47, .slice Ao49 t348.length co49] 27 (0, 0)) (by (with_reducible repeat (first | refine blk_drewN ?_ _ | refine blk_drew ?_ | refine blk_alloc ?_ _)); exact BK352.out)) : gb352 ≠ gb362))
                  have n18_ := Aside0.mk ((by rw [hg]; exact Nat.ne_of_gt (blk_lt (g := gb352) (o := .cells #[.bool t344, .slice Ao47 t345.length co47, .slice Ao49 t348.length co49] 27 (0, 0)) (by (with_reducible repeat (first | refine blk_drewN ?_ _ | refine blk_drew ?_ | refine blk_alloc ?_ _)); exact BK352.out)) : gb362 ≠ gb352))
                  clear HO_331001; clear HO_331002; clear HO_340001; clear HO_340002; clear HO347; clear HO350; clear BK330; clear BK339; clear BK352; clear HB; have HO_331001 := n0_; have HO_331002 := n1_; have HO_340001 := n2_; have HO_340002 := n3_; have HO347 := n4_; have HO350 := n5_; have BK330 := n6_; have BK339 := n7_; have BK352 := n8_; have HB := n9_; have BK362 := n10_; have GW362 := n11_; have GE362 := n12_; have NB330_362 := n13_; have NB362_330 := n14_; have NB339_362 := n15_; have NB362_339 := n16_; have NB352_362 := n17_; have NB362_352 := n18_; clear n0_ n1_ n2_ n3_ n4_ n5_ n6_ n7_ n8_ n9_ n10_ n11_ n12_ n13_ n14_ n15_ n16_ n17_ n18_; clear hb hbox hg
                  refine hK.out _ _ ⟨(blk_cell BK339.out 0).trans rfl, (blk_cell BK339.out 1).trans rfl, (blk_cell BK339.out 2).trans rfl⟩ (fun hHeld => ?_)
                  clear hK K
                  refine norm_ (a' := ?_) ?_ ?_
                  rotate_left
                  ·
                   show Act.put _ (some 11) _ = _
                   simp only [Act.put, List.setIfInBounds_toArray, List.set_cons_zero, List.set_cons_succ, i64_w, i32_w]
                   rfl
                  refine one_ (i := 6) (N := some 73) #[true, true, true, true, true, true, true, false, false, false, true, false, false] rfl rfl (one_of HT_.out (by kernel_rfl)) (by decide) (fun K hK => ?_)
                  refine goes_ Try.func7 (by kernel_rfl) rfl #[.agg #[.bool x340000_2, .slice Ao51 x340001_2.length co51, .slice Ao52 x340002_2.length co52], .int .i64 (wrap64 (Int.tmod (IntKind.u64.wrap (rd l0 x7_2)) 4)), .string t353] (by rfl) rfl rfl (by (try simp only [List.map_toArray, List.map_cons, List.map_nil]); first | done | rfl | (simp only [List.length_drop, List.length_take]; rfl)) ?_
                  with_reducible refine (disk_Write.calls x340000_2 _ _ x340001_2 _ _ x340002_2 (wrap64 (Int.tmod (IntKind.u64.wrap (rd l0 x7_2)) 4)) t353 t354 t355 t358 t361 _ ?side1 ?side2 ?side3 ?side4 A31.out).mono ?_
                  (case side1 => repeat (first | exact (Kd.R_reads' HO_340001.out).2.2 | (with_reducible refine Kd.C_alloc ?_ _) | (with_reducible refine Kd.C_drewN ?_ _) | (with_reducible refine Kd.C_drew ?_)))
                  (case side2 => exact (Kd.R_reads' HO_340001.out).2.1)
                  (case side3 => repeat (first | exact (Kd.R_reads' HO_340002.out).2.2 | (with_reducible refine Kd.C_alloc ?_ _) | (with_reducible refine Kd.C_drewN ?_ _) | (with_reducible refine Kd.C_drew ?_)))
                  (case side4 => exact (Kd.R_reads' HO_340002.out).2.1)
                  rintro e w57 ⟨v356, v359, rfl, ho0, ho1, hb⟩
                  refine ⟨_, rfl, ?_⟩
                  have n0_ := Aside0.mk (Kd.R_elder' (by (with_reducible repeat (first | apply Kd.R_alloc | apply Kd.R_drewN | apply Kd.R_drew)); exact HO_331001.out) (Kd.R_base ho0) hb)
                  have n1_ := Aside0.mk (Kd.R_elder' (by (with_reducible repeat (first | apply Kd.R_alloc | apply Kd.R_drewN | apply Kd.R_drew)); exact HO_331002.out) (Kd.R_base ho1) hb)
                  have n2_ := Aside0.mk (Kd.R_elder' (by (with_reducible repeat (first | apply Kd.R_alloc | apply Kd.R_drewN | apply Kd.R_drew)); exact HO_340001.out) (Kd.R_base ho0) hb)
                  have n3_ := Aside0.mk (Kd.R_elder' (by (with_reducible repeat (first | apply Kd.R_alloc | apply Kd.R_drewN | apply Kd.R_drew)); exact HO_340002.out) (Kd.R_base ho1) hb)
                  have n4_ := Aside0.mk (Kd.R_elder' (by (with_reducible repeat (first | apply Kd.R_alloc | apply Kd.R_drewN | apply Kd.R_drew)); exact HO347.out) (Kd.R_base ho0) hb)
                  have n5_ := Aside0.mk (Kd.R_elder' (by (with_reducible repeat (first | apply Kd.R_alloc | apply Kd.R_drewN | apply Kd.R_drew)); exact HO350.out) (Kd.R_base ho1) hb)
                  have n6_ := Aside0.mk (Kd.R_lower (Kd.R_new' (Kd.R_new' (Kd.R_new' ho0 (Kd.R_lt (by (with_reducible repeat (first | apply Kd.R_alloc | apply Kd.R_drewN | apply Kd.R_drew)); exact HO_331001.out))) (Kd.R_lt (by (with_reducible repeat (first | apply Kd.R_alloc | apply Kd.R_drewN | apply Kd.R_drew)); exact HO_340001.out))) (Kd.R_lt (by (with_reducible repeat (first | apply Kd.R_alloc | apply Kd.R_drewN | apply Kd.R_drew)); exact HO347.out))) (below_size (by repeat (first | (with_reducible first | exact HB.out | apply below_alloc | apply pw_below_drewN | apply below_drew1 | refine below_set ?_ GE330.out | refine below_set ?_ GE339.out | refine below_set ?_ GE352.out | refine below_set ?_ GE362.out) | exact HB.out))))
                  have n7_ := Aside0.mk (Kd.R_lower (Kd.R_new' (Kd.R_new' (Kd.R_new' ho1 (Kd.R_lt (by (with_reducible repeat (first | apply Kd.R_alloc | apply Kd.R_drewN | apply Kd.R_drew)); exact HO_331002.out))) (Kd.R_lt (by (with_reducible repeat (first | apply Kd.R_alloc | apply Kd.R_drewN | apply Kd.R_drew)); exact HO_340002.out))) (Kd.R_lt (by (with_reducible repeat (first | apply Kd.R_alloc | apply Kd.R_drewN | apply Kd.R_drew)); exact HO350.out))) (below_size (by repeat (first | (with_reducible first | exact HB.out | apply below_alloc | apply pw_below_drewN | apply below_drew1 | refine below_set ?_ GE330.out | refine below_set ?_ GE339.out | refine below_set ?_ GE352.out | refine below_set ?_ GE362.out) | exact HB.out))))
                  have n8_ := Aside0.mk (blk_below (g := gb330) (o := .cells #[.bool x331000_2, .slice Ao39 x331001_2.length co39, .slice Ao40 x331002_2.length co40] 27 (0, 0)) (by (with_reducible repeat (first | refine blk_drewN ?_ _ | refine blk_drew ?_ | refine blk_alloc ?_ _)); exact BK330.out) hb)
                  have n9_ := Aside0.mk (blk_below (g := gb339) (o := .cells #[.bool x340000_2, .slice Ao51 x340001_2.length co51, .slice Ao52 x340002_2.length co52] 27 (0, 0)) (by (with_reducible repeat (first | refine blk_drewN ?_ _ | refine blk_drew ?_ | refine blk_alloc ?_ _)); exact BK339.out) hb)
                  have n10_ := Aside0.mk (blk_below (g := gb352) (o := .cells #[.bool t344, .slice Ao47 t345.length co47, .slice Ao49 t348.length co49] 27 (0, 0)) (by (with_reducible repeat (first | refine blk_drewN ?_ _ | refine blk_drew ?_ | refine blk_alloc ?_ _)); exact BK352.out) hb)
                  have n11_ := Aside0.mk (blk_below (g := gb362) (o := .cells #[.bool false, .slice none 0 0, .slice none 0 0] 27 (0, 0)) (by (with_reducible repeat (first | refine blk_drewN ?_ _ | refine blk_drew ?_ | refine blk_alloc ?_ _)); exact BK362.out) hb)
                  have n12_ := sq_st hb HB; clear HO_331001; clear HO_331002; clear HO_340001; clear HO_340002; clear HO347; clear HO350; clear BK330; clear BK339; clear BK352; clear BK362; clear HB; have HO_331001 := n0_; have HO_331002 := n1_; have HO_340001 := n2_; have HO_340002 := n3_; have HO347 := n4_; have HO350 := n5_; have HO357 := n6_; have HO360 := n7_; have BK330 := n8_; have BK339 := n9_; have BK352 := n10_; have BK362 := n11_; have HB := n12_; clear n0_ n1_ n2_ n3_ n4_ n5_ n6_ n7_ n8_ n9_ n10_ n11_ n12_
                  (try clear hb)
                  (try clear hb2)
                  (try clear hk)
                  (try clear hi)
                  (try clear ho0)
                  (try clear ho1)
                  refine hK.out _ _ ⟨(blk_cell BK339.out 0).trans rfl, (blk_cell BK339.out 1).trans rfl, (blk_cell BK339.out 2).trans rfl⟩ (fun hHeld => ?_)
                  clear hK K
                  refine norm_ (a' := ?_) ?_ ?_
                  rotate_left
                  ·
                   show Act.put _ (some 73) _ = _
                   simp only [Act.put, List.setIfInBounds_toArray, List.set_cons_zero, List.set_cons_succ, i64_w, i32_w]
                   rfl
                  refine pure_ (i := 7) (N := some 66) (v := ?_) (a' := ?_) #[true, true, true, true, true, true, true, true, false, false, true, false, false] rfl rfl (any_of HT_.out (by kernel_rfl)) (fun _ _ _ h => h) (Or.inl ⟨by rfl, ?_⟩) ?_ ?_
                  rotate_left
                  ·
                   intro w'
                   go_simp
                   with_reducible rfl
                  rotate_left
                  ·
                   simp only [Act.put, List.setIfInBounds_toArray, List.set_cons_zero, List.set_cons_succ, i64_w, i32_w]
                   rfl
                  refine pure_ (i := 8) (N := some 74) (v := ?_) (a' := ?_) #[true, true, true, true, true, true, true, true, true, false, true, false, false] rfl rfl (any_of HT_.out (by kernel_rfl)) (fun _ _ _ h => h) (Or.inl ⟨by rfl, ?_⟩) ?_ ?_
                  rotate_left
                  ·
                   intro w'
                   go_simp
                   with_reducible rfl
                  rotate_left
                  ·
                   simp only [Act.put, List.setIfInBounds_toArray, List.set_cons_zero, List.set_cons_succ, i64_w, i32_w]
                   rfl
                  refine pure_ (i := 9) (N := some 75) (v := ?_) (a' := ?_) #[true, true, true, true, true, true, true, true, true, true, true, false, false] rfl rfl (any_of HT_.out (by kernel_rfl)) (fun _ _ _ h => h) (Or.inl ⟨by rfl, ?_⟩) ?_ ?_
                  rotate_left
                  ·
                   intro w'
                   go_simp
                   with_reducible rfl
                  rotate_left
                  ·
                   simp only [Act.put, List.setIfInBounds_toArray, List.set_cons_zero, List.set_cons_succ, i64_w, i32_w]
                   rfl
                  exact norm_ (by simp only [putAll, Act.put, List.setIfInBounds_toArray, List.set_cons_zero, List.set_cons_succ]) (hCont (v356, v359, gb362) _ ⟨hHeld, (by (with_reducible repeat (first | apply Kd.R_alloc | apply Kd.R_drewN | apply Kd.R_drew)); exact Kd.R_mono HO347.out (fun _ hk => ⟨hk.2, ⟨hk.1.1, hk.1.2⟩⟩)), (by (with_reducible repeat (first | apply Kd.R_alloc | apply Kd.R_drewN | apply Kd.R_drew)); exact Kd.R_mono HO350.out (fun _ hk => ⟨hk.2, ⟨hk.1.1, hk.1.2⟩⟩)), (by (with_reducible repeat (first | apply Kd.R_alloc | apply Kd.R_drewN | apply Kd.R_drew)); exact Kd.R_mono HO357.out (fun _ hk => ⟨hk.2, ⟨hk.1.1.2, hk.1.2⟩⟩)), (by (with_reducible repeat (first | apply Kd.R_alloc | apply Kd.R_drewN | apply Kd.R_drew)); exact Kd.R_mono HO360.out (fun _ hk => ⟨hk.2, ⟨hk.1.1.2, hk.1.2⟩⟩)), (by (with_reducible repeat (first | apply Kd.R_alloc | apply Kd.R_drewN | apply Kd.R_drew)); exact Kd.R_mono HO_331001.out (fun _ hk => ⟨hk.1.2, ⟨hk.2, hk.1.1⟩⟩)), (by (with_reducible repeat (first | apply Kd.R_alloc | apply Kd.R_drewN | apply Kd.R_drew)); exact Kd.R_mono HO_331002.out (fun _ hk => ⟨hk.1.2, ⟨hk.2, hk.1.1⟩⟩)), (by (with_reducible repeat (first | apply Kd.R_alloc | apply Kd.R_drewN | apply Kd.R_drew)); exact Kd.R_mono HO_340001.out (fun _ hk => ⟨hk.1.2, ⟨hk.2, hk.1.1⟩⟩)), (by (with_reducible repeat (first | apply Kd.R_alloc | apply Kd.R_drewN | apply Kd.R_drew)); exact Kd.R_mono HO_340002.out (fun _ hk => ⟨hk.1.2, ⟨hk.2, hk.1.1⟩⟩)), (by (with_reducible repeat (first | refine blk_drewN ?_ _ | refine blk_drew ?_ | refine blk_alloc ?_ _)); exact BK330.out), (by (with_reducible repeat (first | refine blk_drewN ?_ _ | refine blk_drew ?_ | refine blk_alloc ?_ _)); exact BK339.out), (by (with_reducible repeat (first | refine blk_drewN ?_ _ | refine blk_drew ?_ | refine blk_alloc ?_ _)); exact BK352.out), (by (with_reducible repeat (first | refine blk_drewN ?_ _ | refine blk_drew ?_ | refine blk_alloc ?_ _)); exact BK362.out), GW362.out, GE362.out, NB330_362.out, NB362_330.out, NB339_362.out, NB362_339.out, NB352_362.out, NB362_352.out, (by repeat (first | (with_reducible first | exact HB.out | apply below_alloc | apply pw_below_drewN | apply below_drew1 | refine below_set ?_ GE330.out | refine below_set ?_ GE339.out | refine below_set ?_ GE352.out | refine below_set ?_ GE362.out) | exact HB.out))⟩)
                ·
                 skip
                 refine box_step ?hg (N := 11) ?hd (cs := #[.bool false, .slice none 0 0, .slice none 0 0]) (t := 27) ?hr ?_; (case hd => rfl); (case hg => rfl); (case hr => first | (go_simp; done) | (go_simp; rfl))
                 intro gb362 hg w55 hbox hb
                 have n0_ := Aside0.mk (Kd.R_below (by (with_reducible repeat (first | apply Kd.R_alloc | apply Kd.R_drewN | apply Kd.R_drew)); exact HO_331001.out) hb)
                 have n1_ := Aside0.mk (Kd.R_below (by (with_reducible repeat (first | apply Kd.R_alloc | apply Kd.R_drewN | apply Kd.R_drew)); exact HO_331002.out) hb)
                 have n2_ := Aside0.mk (Kd.R_below (by (with_reducible repeat (first | apply Kd.R_alloc | apply Kd.R_drewN | apply Kd.R_drew)); exact HO_340001.out) hb)
                 have n3_ := Aside0.mk (Kd.R_below (by (with_reducible repeat (first | apply Kd.R_alloc | apply Kd.R_drewN | apply Kd.R_drew)); exact HO_340002.out) hb)
                 have n4_ := Aside0.mk (Kd.R_below (by (with_reducible repeat (first | apply Kd.R_alloc | apply Kd.R_drewN | apply Kd.R_drew)); exact HO347.out) hb)
                 have n5_ := Aside0.mk (Kd.R_below (by (with_reducible repeat (first | apply Kd.R_alloc | apply Kd.R_drewN | apply Kd.R_drew)); exact HO350.out) hb)
                 have n6_ := Aside0.mk (blk_below (g := gb330) (o := .cells #[.bool x331000_2, .slice Ao39 x331001_2.length co39, .slice Ao40 x331002_2.length co40] 27 (0, 0)) (by (with_reducible repeat (first | refine blk_drewN ?_ _ | refine blk_drew ?_ | refine blk_alloc ?_ _)); exact BK330.out) hb)
                 have n7_ := Aside0.mk (blk_below (g := gb339) (o := .cells #[.bool x340000_2, .slice Ao51 x340001_2.length co51, .slice Ao52 x340002_2.length co52] 27 (0, 0)) (by (with_reducible repeat (first | refine blk_drewN ?_ _ | refine blk_drew ?_ | refine blk_alloc ?_ _)); exact BK339.out) hb)
                 have n8_ := Aside0.mk (blk_below (g := gb352) (o := .cells #[.bool t344, .slice Ao47 t345.length co47, .slice Ao49 t348.length co49] 27 (0, 0)) (by (with_reducible repeat (first | refine blk_drewN ?_ _ | refine blk_drew ?_ | refine blk_alloc ?_ _)); exact BK352.out) hb)
                 have n9_ := sq_st hb HB; have n10_ := Aside0.mk (hbox)
                 have n11_ := Aside0.mk ((by rw [hg]; exact (below_size (by repeat (first | (with_reducible first | exact HB.out | apply below_alloc | apply pw_below_drewN | apply below_drew1 | refine below_set ?_ GE330.out | refine below_set ?_ GE339.out | refine below_set ?_ GE352.out) | exact HB.out))) : w.heap.size ≤ gb362))
                 have n12_ := Aside0.mk ((by rw [hg]; exact (below_size (by repeat (first | (with_reducible first | exact HB.out | apply below_alloc | apply pw_below_drewN | apply below_drew1 | refine below_set ?_ GE330.out | refine below_set ?_ GE339.out | refine below_set ?_ GE352.out) | exact HB.out))) : w.heap.size ≤ gb362))
                 have n13_ := Aside0.mk ((by rw [hg]; exact Nat.ne_of_lt (blk_lt (g := gb330) (o := .cells #[.bool x331000_2, .slice Ao39 x331001_2.length co39, .slice Ao40 x331002_2.length co40] 27 (0, 0)) (by (with_reducible repeat (first | refine blk_drewN ?_ _ | refine blk_drew ?_ | refine blk_alloc ?_ _)); exact BK330.out)) : gb330 ≠ gb362))
                 have n14_ := Aside0.mk ((by rw [hg]; exact Nat.ne_of_gt (blk_lt (g := gb330) (o := .cells #[.bool x331000_2, .slice Ao39 x331001_2.length co39, .slice Ao40 x331002_2.length co40] 27 (0, 0)) (by (with_reducible repeat (first | refine blk_drewN ?_ _ | refine blk_drew ?_ | refine blk_alloc ?_ _)); exact BK330.out)) : gb362 ≠ gb330))
                 have n15_ := Aside0.mk ((by rw [hg]; exact Nat.ne_of_lt (blk_lt (g := gb339) (o := .cells #[.bool x340000_2, .slice Ao51 x340001_2.length co51, .slice Ao52 x340002_2.length co52] 27 (0, 0)) (by (with_reducible repeat (first | refine blk_drewN ?_ _ | refine blk_drew ?_ | refine blk_alloc ?_ _)); exact BK339.out)) : gb339 ≠ gb362))
                 have n16_ := Aside0.mk ((by rw [hg]; exact Nat.ne_of_gt (blk_lt (g := gb339) (o := .cells #[.bool x340000_2, .slice Ao51 x340001_2.length co51, .slice Ao52 x340002_2.length co52] 27 (0, 0)) (by (with_reducible repeat (first | refine blk_drewN ?_ _ | refine blk_drew ?_ | refine blk_alloc ?_ _)); exact BK339.out)) : gb362 ≠ gb339))
                 have n17_ := Aside0.mk ((by rw [hg]; exact Nat.ne_of_lt (blk_lt (g := gb352) (o := .cells #[.bool t344, .slice Ao47 t345.length co47, .slice Ao49 t348.length co49] 27 (0, 0)) (by (with_reducible repeat (first | refine blk_drewN ?_ _ | refine blk_drew ?_ | refine blk_alloc ?_ _)); exact BK352.out)) : gb352 ≠ gb362))
                 have n18_ := Aside0.mk ((by rw [hg]; exact Nat.ne_of_gt (blk_lt (g := gb352) (o := .cells #[.bool t344, .slice Ao47 t345.length co47, .slice Ao49 t348.length co49] 27 (0, 0)) (by (with_reducible repeat (first | refine blk_drewN ?_ _ | refine blk_drew ?_ | refine blk_alloc ?_ _)); exact BK352.out)) : gb362 ≠ gb352))
                 clear HO_331001; clear HO_331002; clear HO_340001; clear HO_340002; clear HO347; clear HO350; clear BK330; clear BK339; clear BK352; clear HB; have HO_331001 := n0_; have HO_331002 := n1_; have HO_340001 := n2_; have HO_340002 := n3_; have HO347 := n4_; have HO350 := n5_; have BK330 := n6_; have BK339 := n7_; have BK352 := n8_; have HB := n9_; have BK362 := n10_; have GW362 := n11_; have GE362 := n12_; have NB330_362 := n13_; have NB362_330 := n14_; have NB339_362 := n15_; have NB362_339 := n16_; have NB352_362 := n17_; have NB362_352 := n18_; clear n0_ n1_ n2_ n3_ n4_ n5_ n6_ n7_ n8_ n9_ n10_ n11_ n12_ n13_ n14_ n15_ n16_ n17_ n18_; clear hb hbox hg
                 refine hK.out _ _ ⟨(blk_cell BK339.out 0).trans rfl, (blk_cell BK339.out 1).trans rfl, (blk_cell BK339.out 2).trans rfl⟩ (fun hHeld => ?_)
                 clear hK K
                 refine norm_ (a' := ?_) ?_ ?_
                 rotate_left
                 ·
                  show Act.put _ (some 11) _ = _
                  simp only [Act.put, List.setIfInBounds_toArray, List.set_cons_zero, List.set_cons_succ, i64_w, i32_w]
                  rfl
                 refine one_ (i := 5) (N := some 72) #[true, true, true, true, true, true, false, false, false, false, true, false, false] rfl rfl (one_of HT_.out (by kernel_rfl)) (by decide) (fun K hK => ?_)
                 refine goes_ Try.func8 (by kernel_rfl) rfl #[.int .u8 ((wrap64 (1 + x7_2)) % 256)] (by rfl) rfl rfl (by (try simp only [List.map_toArray, List.map_cons, List.map_nil]); first | done | rfl | (simp only [List.length_drop, List.length_take]; rfl)) ?_
                 with_reducible refine (ossuarylaw13_full.calls kj22 ((wrap64 (1 + x7_2)) % 256) t353 _ A30.out).mono ?_
                 rintro e w56 ⟨rfl, hb⟩
                 refine ⟨_, rfl, ?_⟩
                 have n0_ := Aside0.mk (Kd.R_below (by (with_reducible repeat (first | apply Kd.R_alloc | apply Kd.R_drewN | apply Kd.R_drew)); exact HO_331001.out) hb)
                 have n1_ := Aside0.mk (Kd.R_below (by (with_reducible repeat (first | apply Kd.R_alloc | apply Kd.R_drewN | apply Kd.R_drew)); exact HO_331002.out) hb)
                 have n2_ := Aside0.mk (Kd.R_below (by (with_reducible repeat (first | apply Kd.R_alloc | apply Kd.R_drewN | apply Kd.R_drew)); exact HO_340001.out) hb)
                 have n3_ := Aside0.mk (Kd.R_below (by (with_reducible repeat (first | apply Kd.R_alloc | apply Kd.R_drewN | apply Kd.R_drew)); exact HO_340002.out) hb)
                 have n4_ := Aside0.mk (Kd.R_below (by (with_reducible repeat (first | apply Kd.R_alloc | apply Kd.R_drewN | apply Kd.R_drew)); exact HO347.out) hb)
                 have n5_ := Aside0.mk (Kd.R_below (by (with_reducible repeat (first | apply Kd.R_alloc | apply Kd.R_drewN | apply Kd.R_drew)); exact HO350.out) hb)
                 have n6_ := Aside0.mk (blk_below (g := gb330) (o := .cells #[.bool x331000_2, .slice Ao39 x331001_2.length co39, .slice Ao40 x331002_2.length co40] 27 (0, 0)) (by (with_reducible repeat (first | refine blk_drewN ?_ _ | refine blk_drew ?_ | refine blk_alloc ?_ _)); exact BK330.out) hb)
                 have n7_ := Aside0.mk (blk_below (g := gb339) (o := .cells #[.bool x340000_2, .slice Ao51 x340001_2.length co51, .slice Ao52 x340002_2.length co52] 27 (0, 0)) (by (with_reducible repeat (first | refine blk_drewN ?_ _ | refine blk_drew ?_ | refine blk_alloc ?_ _)); exact BK339.out) hb)
                 have n8_ := Aside0.mk (blk_below (g := gb352) (o := .cells #[.bool t344, .slice Ao47 t345.length co47, .slice Ao49 t348.length co49] 27 (0, 0)) (by (with_reducible repeat (first | refine blk_drewN ?_ _ | refine blk_drew ?_ | refine blk_alloc ?_ _)); exact BK352.out) hb)
                 have n9_ := Aside0.mk (blk_below (g := gb362) (o := .cells #[.bool false, .slice none 0 0, .slice none 0 0] 27 (0, 0)) (by (with_reducible repeat (first | refine blk_drewN ?_ _ | refine blk_drew ?_ | refine blk_alloc ?_ _)); exact BK362.out) hb)
                 have n10_ := sq_st hb HB; clear HO_331001; clear HO_331002; clear HO_340001; clear HO_340002; clear HO347; clear HO350; clear BK330; clear BK339; clear BK352; clear BK362; clear HB; have HO_331001 := n0_; have HO_331002 := n1_; have HO_340001 := n2_; have HO_340002 := n3_; have HO347 := n4_; have HO350 := n5_; have BK330 := n6_; have BK339 := n7_; have BK352 := n8_; have BK362 := n9_; have HB := n10_; clear n0_ n1_ n2_ n3_ n4_ n5_ n6_ n7_ n8_ n9_ n10_
                 (try clear hb)
                 (try clear hb2)
                 (try clear hk)
                 (try clear hi)
                 refine hK.out _ _ ⟨(blk_cell BK339.out 0).trans rfl, (blk_cell BK339.out 1).trans rfl, (blk_cell BK339.out 2).trans rfl⟩ (fun hHeld => ?_)
                 clear hK K
                 refine norm_ (a' := ?_) ?_ ?_
                 rotate_left
                 ·
                  show Act.put _ (some 72) _ = _
                  simp only [Act.put, List.setIfInBounds_toArray, List.set_cons_zero, List.set_cons_succ, i64_w, i32_w]
                  rfl
                 refine one_ (i := 6) (N := some 73) #[true, true, true, true, true, true, true, false, false, false, true, false, false] rfl rfl (one_of HT_.out (by kernel_rfl)) (by decide) (fun K hK => ?_)
                 refine goes_ Try.func7 (by kernel_rfl) rfl #[.agg #[.bool x340000_2, .slice Ao51 x340001_2.length co51, .slice Ao52 x340002_2.length co52], .int .i64 (wrap64 (Int.tmod (IntKind.u64.wrap (rd l0 x7_2)) 4)), .string t353] (by rfl) rfl rfl (by (try simp only [List.map_toArray, List.map_cons, List.map_nil]); first | done | rfl | (simp only [List.length_drop, List.length_take]; rfl)) ?_
                 with_reducible refine (disk_Write.calls x340000_2 _ _ x340001_2 _ _ x340002_2 (wrap64 (Int.tmod (IntKind.u64.wrap (rd l0 x7_2)) 4)) t353 t354 t355 t358 t361 _ ?side1 ?side2 ?side3 ?side4 A31.out).mono ?_
                 (case side1 => repeat (first | exact (Kd.R_reads' HO_340001.out).2.2 | (with_reducible refine Kd.C_alloc ?_ _) | (with_reducible refine Kd.C_drewN ?_ _) | (with_reducible refine Kd.C_drew ?_)))
                 (case side2 => exact (Kd.R_reads' HO_340001.out).2.1)
                 (case side3 => repeat (first | exact (Kd.R_reads' HO_340002.out).2.2 | (with_reducible refine Kd.C_alloc ?_ _) | (with_reducible refine Kd.C_drewN ?_ _) | (with_reducible refine Kd.C_drew ?_)))
                 (case side4 => exact (Kd.R_reads' HO_340002.out).2.1)
                 rintro e w57 ⟨v356, v359, rfl, ho0, ho1, hb⟩
                 refine ⟨_, rfl, ?_⟩
                 have n0_ := Aside0.mk (Kd.R_elder' (by (with_reducible repeat (first | apply Kd.R_alloc | apply Kd.R_drewN | apply Kd.R_drew)); exact HO_331001.out) (Kd.R_base ho0) hb)
                 have n1_ := Aside0.mk (Kd.R_elder' (by (with_reducible repeat (first | apply Kd.R_alloc | apply Kd.R_drewN | apply Kd.R_drew)); exact HO_331002.out) (Kd.R_base ho1) hb)
                 have n2_ := Aside0.mk (Kd.R_elder' (by (with_reducible repeat (first | apply Kd.R_alloc | apply Kd.R_drewN | apply Kd.R_drew)); exact HO_340001.out) (Kd.R_base ho0) hb)
                 have n3_ := Aside0.mk (Kd.R_elder' (by (with_reducible repeat (first | apply Kd.R_alloc | apply Kd.R_drewN | apply Kd.R_drew)); exact HO_340002.out) (Kd.R_base ho1) hb)
                 have n4_ := Aside0.mk (Kd.R_elder' (by (with_reducible repeat (first | apply Kd.R_alloc | apply Kd.R_drewN | apply Kd.R_drew)); exact HO347.out) (Kd.R_base ho0) hb)
                 have n5_ := Aside0.mk (Kd.R_elder' (by (with_reducible repeat (first | apply Kd.R_alloc | apply Kd.R_drewN | apply Kd.R_drew)); exact HO350.out) (Kd.R_base ho1) hb)
                 have n6_ := Aside0.mk (Kd.R_lower (Kd.R_new' (Kd.R_new' (Kd.R_new' ho0 (Kd.R_lt (by (with_reducible repeat (first | apply Kd.R_alloc | apply Kd.R_drewN | apply Kd.R_drew)); exact HO_331001.out))) (Kd.R_lt (by (with_reducible repeat (first | apply Kd.R_alloc | apply Kd.R_drewN | apply Kd.R_drew)); exact HO_340001.out))) (Kd.R_lt (by (with_reducible repeat (first | apply Kd.R_alloc | apply Kd.R_drewN | apply Kd.R_drew)); exact HO347.out))) (below_size (by repeat (first | (with_reducible first | exact HB.out | apply below_alloc | apply pw_below_drewN | apply below_drew1 | refine below_set ?_ GE330.out | refine below_set ?_ GE339.out | refine below_set ?_ GE352.out | refine below_set ?_ GE362.out) | exact HB.out))))
                 have n7_ := Aside0.mk (Kd.R_lower (Kd.R_new' (Kd.R_new' (Kd.R_new' ho1 (Kd.R_lt (by (with_reducible repeat (first | apply Kd.R_alloc | apply Kd.R_drewN | apply Kd.R_drew)); exact HO_331002.out))) (Kd.R_lt (by (with_reducible repeat (first | apply Kd.R_alloc | apply Kd.R_drewN | apply Kd.R_drew)); exact HO_340002.out))) (Kd.R_lt (by (with_reducible repeat (first | apply Kd.R_alloc | apply Kd.R_drewN | apply Kd.R_drew)); exact HO350.out))) (below_size (by repeat (first | (with_reducible first | exact HB.out | apply below_alloc | apply pw_below_drewN | apply below_drew1 | refine below_set ?_ GE330.out | refine below_set ?_ GE339.out | refine below_set ?_ GE352.out | refine below_set ?_ GE362.out) | exact HB.out))))
                 have n8_ := Aside0.mk (blk_below (g := gb330) (o := .cells #[.bool x331000_2, .slice Ao39 x331001_2.length co39, .slice Ao40 x331002_2.length co40] 27 (0, 0)) (by (with_reducible repeat (first | refine blk_drewN ?_ _ | refine blk_drew ?_ | refine blk_alloc ?_ _)); exact BK330.out) hb)
                 have n9_ := Aside0.mk (blk_below (g := gb339) (o := .cells #[.bool x340000_2, .slice Ao51 x340001_2.length co51, .slice Ao52 x340002_2.length co52] 27 (0, 0)) (by (with_reducible repeat (first | refine blk_drewN ?_ _ | refine blk_drew ?_ | refine blk_alloc ?_ _)); exact BK339.out) hb)
                 have n10_ := Aside0.mk (blk_below (g := gb352) (o := .cells #[.bool t344, .slice Ao47 t345.length co47, .slice Ao49 t348.length co49] 27 (0, 0)) (by (with_reducible repeat (first | refine blk_drewN ?_ _ | refine blk_drew ?_ | refine blk_alloc ?_ _)); exact BK352.out) hb)
                 have n11_ := Aside0.mk (blk_below (g := gb362) (o := .cells #[.bool false, .slice none 0 0, .slice none 0 0] 27 (0, 0)) (by (with_reducible repeat (first | refine blk_drewN ?_ _ | refine blk_drew ?_ | refine blk_alloc ?_ _)); exact BK362.out) hb)
                 have n12_ := sq_st hb HB; clear HO_331001; clear HO_331002; clear HO_340001; clear HO_340002; clear HO347; clear HO350; clear BK330; clear BK339; clear BK352; clear BK362; clear HB; have HO_331001 := n0_; have HO_331002 := n1_; have HO_340001 := n2_; have HO_340002 := n3_; have HO347 := n4_; have HO350 := n5_; have HO357 := n6_; have HO360 := n7_; have BK330 := n8_; have BK339 := n9_; have BK352 := n10_; have BK362 := n11_; have HB := n12_; clear n0_ n1_ n2_ n3_ n4_ n5_ n6_ n7_ n8_ n9_ n10_ n11_ n12_
                 (try clear hb)
                 (try clear hb2)
                 (try clear hk)
                 (try clear hi)
                 (try clear ho0)
                 (try clear ho1)
                 refine hK.out _ _ ⟨(blk_cell BK339.out 0).trans rfl, (blk_cell BK339.out 1).trans rfl, (blk_cell BK339.out 2).trans rfl⟩ (fun hHeld => ?_)
                 clear hK K
                 refine norm_ (a' := ?_) ?_ ?_
                 rotate_left
                 ·
                  show Act.put _ (some 73) _ = _
                  simp only [Act.put, List.setIfInBounds_toArray, List.set_cons_zero, List.set_cons_succ, i64_w, i32_w]
                  rfl
                 refine pure_ (i := 7) (N := some 66) (v := ?_) (a' := ?_) #[true, true, true, true, true, true, true, true, false, false, true, false, false] rfl rfl (any_of HT_.out (by kernel_rfl)) (fun _ _ _ h => h) (Or.inl ⟨by rfl, ?_⟩) ?_ ?_
                 rotate_left
                 ·
                  intro w'
                  go_simp
                  with_reducible rfl
                 rotate_left
                 ·
                  simp only [Act.put, List.setIfInBounds_toArray, List.set_cons_zero, List.set_cons_succ, i64_w, i32_w]
                  rfl
                 refine pure_ (i := 8) (N := some 74) (v := ?_) (a' := ?_) #[true, true, true, true, true, true, true, true, true, false, true, false, false] rfl rfl (any_of HT_.out (by kernel_rfl)) (fun _ _ _ h => h) (Or.inl ⟨by rfl, ?_⟩) ?_ ?_
                 rotate_left
                 ·
                  intro w'
                  go_simp
                  with_reducible rfl
                 rotate_left
                 ·
                  simp only [Act.put, List.setIfInBounds_toArray, List.set_cons_zero, List.set_cons_succ, i64_w, i32_w]
                  rfl
                 refine pure_ (i := 9) (N := some 75) (v := ?_) (a' := ?_) #[true, true, true, true, true, true, true, true, true, true, true, false, false] rfl rfl (any_of HT_.out (by kernel_rfl)) (fun _ _ _ h => h) (Or.inl ⟨by rfl, ?_⟩) ?_ ?_
                 rotate_left
                 ·
                  intro w'
                  go_simp
                  with_reducible rfl
                 rotate_left
                 ·
                  simp only [Act.put, List.setIfInBounds_toArray, List.set_cons_zero, List.set_cons_succ, i64_w, i32_w]
                  rfl
                 exact norm_ (by simp only [putAll, Act.put, List.setIfInBounds_toArray, List.set_cons_zero, List.set_cons_succ]) (hCont (v356, v359, gb362) _ ⟨hHeld, (by (with_reducible repeat (first | apply Kd.R_alloc | apply Kd.R_drewN | apply Kd.R_drew)); exact Kd.R_mono HO347.out (fun _ hk => ⟨hk.2, ⟨hk.1.1, hk.1.2⟩⟩)), (by (with_reducible repeat (first | apply Kd.R_alloc | apply Kd.R_drewN | apply Kd.R_drew)); exact Kd.R_mono HO350.out (fun _ hk => ⟨hk.2, ⟨hk.1.1, hk.1.2⟩⟩)), (by (with_reducible repeat (first | apply Kd.R_alloc | apply Kd.R_drewN | apply Kd.R_drew)); exact Kd.R_mono HO357.out (fun _ hk => ⟨hk.2, ⟨hk.1.1.2, hk.1.2⟩⟩)), (by (with_reducible repeat (first | apply Kd.R_alloc | apply Kd.R_drewN | apply Kd.R_drew)); exact Kd.R_mono HO360.out (fun _ hk => ⟨hk.2, ⟨hk.1.1.2, hk.1.2⟩⟩)), (by (with_reducible repeat (first | apply Kd.R_alloc | apply Kd.R_drewN | apply Kd.R_drew)); exact Kd.R_mono HO_331001.out (fun _ hk => ⟨hk.1.2, ⟨hk.2, hk.1.1⟩⟩)), (by (with_reducible repeat (first | apply Kd.R_alloc | apply Kd.R_drewN | apply Kd.R_drew)); exact Kd.R_mono HO_331002.out (fun _ hk => ⟨hk.1.2, ⟨hk.2, hk.1.1⟩⟩)), (by (with_reducible repeat (first | apply Kd.R_alloc | apply Kd.R_drewN | apply Kd.R_drew)); exact Kd.R_mono HO_340001.out (fun _ hk => ⟨hk.1.2, ⟨hk.2, hk.1.1⟩⟩)), (by (with_reducible repeat (first | apply Kd.R_alloc | apply Kd.R_drewN | apply Kd.R_drew)); exact Kd.R_mono HO_340002.out (fun _ hk => ⟨hk.1.2, ⟨hk.2, hk.1.1⟩⟩)), (by (with_reducible repeat (first | refine blk_drewN ?_ _ | refine blk_drew ?_ | refine blk_alloc ?_ _)); exact BK330.out), (by (with_reducible repeat (first | refine blk_drewN ?_ _ | refine blk_drew ?_ | refine blk_alloc ?_ _)); exact BK339.out), (by (with_reducible repeat (first | refine blk_drewN ?_ _ | refine blk_drew ?_ | refine blk_alloc ?_ _)); exact BK352.out), (by (with_reducible repeat (first | refine blk_drewN ?_ _ | refine blk_drew ?_ | refine blk_alloc ?_ _)); exact BK362.out), GW362.out, GE362.out, NB330_362.out, NB362_330.out, NB339_362.out, NB362_339.out, NB352_362.out, NB362_352.out, (by repeat (first | (with_reducible first | exact HB.out | apply below_alloc | apply pw_below_drewN | apply below_drew1 | refine below_set ?_ GE330.out | refine below_set ?_ GE339.out | refine below_set ?_ GE352.out | refine below_set ?_ GE362.out) | exact HB.out))⟩)
               rintro ⟨v356, v359, gb362⟩ w58 ⟨hS_, h0_, h1_, h2_, h3_, h4_, h5_, h6_, h7_, h8_, h9_, h10_, h11_, h12_, h13_, h14_, h15_, h16_, h17_, h18_, h19_, h20_⟩
               have n0_ : Aside0 (Kd.R Kd.string 9 w58 w.heap.size (fun k_ => some k_ ≠ (v356 : Value).ownBlock ∧ some k_ ≠ (.slice Ao39 x331001_2.length co39 : Value).ownBlock ∧ some k_ ≠ (.slice Ao51 x340001_2.length co51 : Value).ownBlock) (.slice Ao47 t345.length co47) t345) := ⟨h0_⟩
               have n1_ : Aside0 (Kd.R k49 49 w58 w.heap.size (fun k_ => some k_ ≠ (v359 : Value).ownBlock ∧ some k_ ≠ (.slice Ao40 x331002_2.length co40 : Value).ownBlock ∧ some k_ ≠ (.slice Ao52 x340002_2.length co52 : Value).ownBlock) (.slice Ao49 t348.length co49) t348) := ⟨h1_⟩
               have n2_ : Aside0 (Kd.R Kd.string 9 w58 w.heap.size (fun k_ => some k_ ≠ (.slice Ao47 t345.length co47 : Value).ownBlock ∧ some k_ ≠ (.slice Ao39 x331001_2.length co39 : Value).ownBlock ∧ some k_ ≠ (.slice Ao51 x340001_2.length co51 : Value).ownBlock) v356 t355) := ⟨h2_⟩
               have n3_ : Aside0 (Kd.R k49 49 w58 w.heap.size (fun k_ => some k_ ≠ (.slice Ao49 t348.length co49 : Value).ownBlock ∧ some k_ ≠ (.slice Ao40 x331002_2.length co40 : Value).ownBlock ∧ some k_ ≠ (.slice Ao52 x340002_2.length co52 : Value).ownBlock) v359 t358) := ⟨h3_⟩
               have n4_ : Aside0 (Kd.R Kd.string 9 w58 w.heap.size (fun k_ => some k_ ≠ (.slice Ao47 t345.length co47 : Value).ownBlock ∧ some k_ ≠ (v356 : Value).ownBlock ∧ some k_ ≠ (.slice Ao51 x340001_2.length co51 : Value).ownBlock) (.slice Ao39 x331001_2.length co39) x331001_2) := ⟨h4_⟩
               have n5_ : Aside0 (Kd.R k49 49 w58 w.heap.size (fun k_ => some k_ ≠ (.slice Ao49 t348.length co49 : Value).ownBlock ∧ some k_ ≠ (v359 : Value).ownBlock ∧ some k_ ≠ (.slice Ao52 x340002_2.length co52 : Value).ownBlock) (.slice Ao40 x331002_2.length co40) x331002_2) := ⟨h5_⟩
               have n6_ : Aside0 (Kd.R Kd.string 9 w58 w.heap.size (fun k_ => some k_ ≠ (.slice Ao47 t345.length co47 : Value).ownBlock ∧ some k_ ≠ (v356 : Value).ownBlock ∧ some k_ ≠ (.slice Ao39 x331001_2.length co39 : Value).ownBlock) (.slice Ao51 x340001_2.length co51) x340001_2) := ⟨h6_⟩
               have n7_ : Aside0 (Kd.R k49 49 w58 w.heap.size (fun k_ => some k_ ≠ (.slice Ao49 t348.length co49 : Value).ownBlock ∧ some k_ ≠ (v359 : Value).ownBlock ∧ some k_ ≠ (.slice Ao40 x331002_2.length co40 : Value).ownBlock) (.slice Ao52 x340002_2.length co52) x340002_2) := ⟨h7_⟩
               have n8_ : Aside0 (w58.heap[gb330]? = some (.cells #[.bool x331000_2, .slice Ao39 x331001_2.length co39, .slice Ao40 x331002_2.length co40] 27 (0, 0))) := ⟨h8_⟩
               have n9_ : Aside0 (w58.heap[gb339]? = some (.cells #[.bool x340000_2, .slice Ao51 x340001_2.length co51, .slice Ao52 x340002_2.length co52] 27 (0, 0))) := ⟨h9_⟩
               have n10_ : Aside0 (w58.heap[gb352]? = some (.cells #[.bool t344, .slice Ao47 t345.length co47, .slice Ao49 t348.length co49] 27 (0, 0))) := ⟨h10_⟩
               have n11_ : Aside0 (w58.heap[gb362]? = some (.cells #[.bool false, .slice none 0 0, .slice none 0 0] 27 (0, 0))) := ⟨h11_⟩
               have n12_ : Aside0 (w.heap.size ≤ gb362) := ⟨h12_⟩
               have n13_ : Aside0 (w.heap.size ≤ gb362) := ⟨h13_⟩
               have n14_ : Aside0 (gb330 ≠ gb362) := ⟨h14_⟩
               have n15_ : Aside0 (gb362 ≠ gb330) := ⟨h15_⟩
               have n16_ : Aside0 (gb339 ≠ gb362) := ⟨h16_⟩
               have n17_ : Aside0 (gb362 ≠ gb339) := ⟨h17_⟩
               have n18_ : Aside0 (gb352 ≠ gb362) := ⟨h18_⟩
               have n19_ : Aside0 (gb362 ≠ gb352) := ⟨h19_⟩
               have n20_ : Aside0 (Below w.heap.size w w58) := ⟨h20_⟩
               clear HO_331001; clear HO_331002; clear HO_340001; clear HO_340002; clear HO347; clear HO350; clear BK330; clear BK339; clear BK352; clear HB; clear h0_ h1_ h2_ h3_ h4_ h5_ h6_ h7_ h8_ h9_ h10_ h11_ h12_ h13_ h14_ h15_ h16_ h17_ h18_ h19_ h20_; have HO347 := n0_; have HO350 := n1_; have HO357 := n2_; have HO360 := n3_; have HO_331001 := n4_; have HO_331002 := n5_; have HO_340001 := n6_; have HO_340002 := n7_; have BK330 := n8_; have BK339 := n9_; have BK352 := n10_; have BK362 := n11_; have GW362 := n12_; have GE362 := n13_; have NB330_362 := n14_; have NB362_330 := n15_; have NB339_362 := n16_; have NB362_339 := n17_; have NB352_362 := n18_; have NB362_352 := n19_; have HB := n20_; clear n0_ n1_ n2_ n3_ n4_ n5_ n6_ n7_ n8_ n9_ n10_ n11_ n12_ n13_ n14_ n15_ n16_ n17_ n18_ n19_ n20_
               have hHeld : w58.cell? ⟨gb339, 0, none⟩ = some (.bool x340000_2) ∧ w58.cell? ⟨gb339, 1, none⟩ = some (.slice Ao51 x340001_2.length co51) ∧ w58.cell? ⟨gb339, 2, none⟩ = some (.slice Ao52 x340002_2.length co52) := hS_
               obtain ⟨Ao60, co60, eo60⟩ := Kd.R_slice HO357.out
               (first | subst eo60 | (injection eo60 with f1_ f2_ f3_; have f4_ := f1_.symm; have f5_ := f3_.symm; clear f1_ f2_ f3_; subst f4_; subst f5_))
               obtain ⟨Ao62, co62, eo62⟩ := Kd.R_slice HO360.out
               (first | subst eo62 | (injection eo62 with f1_ f2_ f3_; have f4_ := f1_.symm; have f5_ := f3_.symm; clear f1_ f2_ f3_; subst f4_; subst f5_))
               refine norm_ (a' := ?_) ?_ ?_
               rotate_left
               ·
                simp only [putAll, Act.put, List.setIfInBounds_toArray, List.set_cons_zero, List.set_cons_succ]
                rfl
               refine one_ (i := 11) (N := none) #[true, true, true, true, true, true, true, true, true, true, true, true, false] rfl rfl (one_of HT_.out (by kernel_rfl)) (by decide) (fun K hK => ?_)
               have hs59 : w58.cell? ⟨gb362, 0, none⟩ = some (.bool false) := (blk_cell BK362.out 0).trans rfl; have hfs59 := blk_frozen BK362.out 0; have hns59_0 := NB330_362.out; have hns59_1 := NB339_362.out; have hns59_2 := NB352_362.out; have hms59_0 := NB362_330.out; have hms59_1 := NB362_339.out; have hms59_2 := NB362_352.out; have hs61 : w58.cell? ⟨gb362, 1, none⟩ = some (.slice none 0 0) := (blk_cell BK362.out 1).trans rfl; have hfs61 := blk_frozen BK362.out 1; have hns61_0 := NB330_362.out; have hns61_1 := NB339_362.out; have hns61_2 := NB352_362.out; have hms61_0 := NB362_330.out; have hms61_1 := NB362_339.out; have hms61_2 := NB362_352.out; have hs63 : w58.cell? ⟨gb362, 2, none⟩ = some (.slice none 0 0) := (blk_cell BK362.out 2).trans rfl; have hfs63 := blk_frozen BK362.out 2; have hns63_0 := NB330_362.out; have hns63_1 := NB339_362.out; have hns63_2 := NB352_362.out; have hms63_0 := NB362_330.out; have hms63_1 := NB362_339.out; have hms63_2 := NB362_352.out
               refine skip_ (w1 := ?_) (by rfl) rfl ?_ ?_
               rotate_left
               ·
                go_simp
                rfl
               refine hK.out _ _ ⟨((cell_far (p := ⟨gb362, _, none⟩) NB339_362.out _).trans (((cell_far (p := ⟨gb362, _, none⟩) NB339_362.out _).trans (((cell_far (p := ⟨gb362, _, none⟩) NB339_362.out _).trans (hHeld.1)))))), ((cell_far (p := ⟨gb362, _, none⟩) NB339_362.out _).trans (((cell_far (p := ⟨gb362, _, none⟩) NB339_362.out _).trans (((cell_far (p := ⟨gb362, _, none⟩) NB339_362.out _).trans (hHeld.2.1)))))), ((cell_far (p := ⟨gb362, _, none⟩) NB339_362.out _).trans (((cell_far (p := ⟨gb362, _, none⟩) NB339_362.out _).trans (((cell_far (p := ⟨gb362, _, none⟩) NB339_362.out _).trans (hHeld.2.2))))))⟩ (fun hHeld => ?_)
               clear hK K
               refine pure_ (i := 12) (N := some 12) (v := ?_) (a' := ?_) #[true, true, true, true, true, true, true, true, true, true, true, true, true] rfl rfl (any_of HT_.out (by kernel_rfl)) (fun _ _ _ h => h) (Or.inl ⟨by rfl, ?_⟩) ?_ ?_
               rotate_left
               ·
                intro w'
                go_simp
                with_reducible rfl
               rotate_left
               ·
                simp only [Act.put, List.setIfInBounds_toArray, List.set_cons_zero, List.set_cons_succ, i64_w, i32_w]
                rfl
               refine done_ (done_of HT_.out (by kernel_rfl)) ?_
               have hnb64 := NB362_330.out; have hnc64 := NB330_362.out; have hnb65 := NB362_339.out; have hnc65 := NB339_362.out; have hnb66 := NB362_352.out; have hnc66 := NB352_362.out; have hcz67_0 := sq_c0 BK362; have hcz67_1 := sq_c1 BK362; have hcz67_2 := sq_c2 BK362; have hfz67_0 := blk_frozen BK362.out 0; have hfz67_1 := blk_frozen BK362.out 1; have hfz67_2 := blk_frozen BK362.out 2
               try go_wp2_with (first | ((with_reducible refine gate_callee (f := 9) rfl ?_); refine goesL_ (some 78) rfl rfl Try.func9 (by kernel_rfl) rfl #[.agg #[.bool t354, .slice Ao60 t355.length co60, .slice Ao62 t358.length co62]] rfl (by (try simp only [List.map_toArray, List.map_cons, List.map_nil]); first | done | rfl | (simp only [List.length_drop, List.length_take]; rfl)) ?_; (with_reducible refine (disk_Flush.calls kj22 t354 _ _ t355 _ _ t358 t363 t364 t367 t370 _ ?side1 ?side2 ?side3 ?side4 A32.out).mono ?_); (case side1 => refine (Kd.R_reads' (e := 9) (base := w.heap.size) (ok := fun k_ => (some k_ ≠ (.slice Ao47 t345.length co47 : Value).ownBlock ∧ (some k_ ≠ (.slice Ao39 x331001_2.length co39 : Value).ownBlock ∧ some k_ ≠ (.slice Ao51 x340001_2.length co51 : Value).ownBlock))) (n := t355.length) (c := co60) ?_).2.2; exact (by (with_reducible repeat (first | apply Kd.R_alloc | apply Kd.R_drewN | apply Kd.R_drew)); exact (sq_f3 HO357 BK362 (by decide)))); (case side2 => exact (Kd.R_reads' HO357.out).2.1); (case side3 => refine (Kd.R_reads' (e := 49) (base := w.heap.size) (ok := fun k_ => (some k_ ≠ (.slice Ao49 t348.length co49 : Value).ownBlock ∧ (some k_ ≠ (.slice Ao40 x331002_2.length co40 : Value).ownBlock ∧ some k_ ≠ (.slice Ao52 x340002_2.length co52 : Value).ownBlock))) (n := t358.length) (c := co62) ?_).2.2; exact (by (with_reducible repeat (first | apply Kd.R_alloc | apply Kd.R_drewN | apply Kd.R_drew)); exact (sq_f3 HO360 BK362 (by decide)))); (case side4 => exact (Kd.R_reads' HO360.out).2.1); rintro e w68 ⟨v365, v368, rfl, ho0, ho1, hb⟩; refine ⟨_, rfl, ?_⟩; have n0_ := Aside0.mk (Kd.R_elder' (by (with_reducible repeat (first | apply Kd.R_alloc | apply Kd.R_drewN | apply Kd.R_drew)); exact (sq_f3 HO_331001 BK362 (by decide))) (Kd.R_base ho0) hb); have n1_ := Aside0.mk (Kd.R_elder' (by (with_reducible repeat (first | apply Kd.R_alloc | apply Kd.R_drewN | apply Kd.R_drew)); exact (sq_f3 HO_331002 BK362 (by decide))) (Kd.R_base ho1) hb); have n2_ := Aside0.mk (Kd.R_elder' (by (with_reducible repeat (first | apply Kd.R_alloc | apply Kd.R_drewN | apply Kd.R_drew)); exact (sq_f3 HO_340001 BK362 (by decide))) (Kd.R_base ho0) hb); have n3_ := Aside0.mk (Kd.R_elder' (by (with_reducible repeat (first | apply Kd.R_alloc | apply Kd.R_drewN | apply Kd.R_drew)); exact (sq_f3 HO_340002 BK362 (by decide))) (Kd.R_base ho1) hb); have n4_ := Aside0.mk (Kd.R_elder' (by (with_reducible repeat (first | apply Kd.R_alloc | apply Kd.R_drewN | apply Kd.R_drew)); exact (sq_f3 HO347 BK362 (by decide))) (Kd.R_base ho0) hb); have n5_ := Aside0.mk (Kd.R_elder' (by (with_reducible repeat (first | apply Kd.R_alloc | apply Kd.R_drewN | apply Kd.R_drew)); exact (sq_f3 HO350 BK362 (by decide))) (Kd.R_base ho1) hb); have n6_ := Aside0.mk (Kd.R_elder' (by (with_reducible repeat (first | apply Kd.R_alloc | apply Kd.R_drewN | apply Kd.R_drew)); exact (sq_f3 HO357 BK362 (by decide))) (Kd.R_base ho0) hb); have n7_ := Aside0.mk (Kd.R_elder' (by (with_reducible repeat (first | apply Kd.R_alloc | apply Kd.R_drewN | apply Kd.R_drew)); exact (sq_f3 HO360 BK362 (by decide))) (Kd.R_base ho1) hb); have n8_ := Aside0.mk (Kd.R_lower (Kd.R_new' (Kd.R_new' (Kd.R_new' (Kd.R_new' ho0 (Kd.R_lt (by (with_reducible repeat (first | apply Kd.R_alloc | apply Kd.R_drewN | apply Kd.R_drew)); exact (sq_f3 HO_331001 BK362 (by decide))))) (Kd.R_lt (by (with_reducible repeat (first | apply Kd.R_alloc | apply Kd.R_drewN | apply Kd.R_drew)); exact (sq_f3 HO_340001 BK362 (by decide))))) (Kd.R_lt (by (with_reducible repeat (first | apply Kd.R_alloc | apply Kd.R_drewN | apply Kd.R_drew)); exact (sq_f3 HO347 BK362 (by decide))))) (Kd.R_lt (by (with_reducible repeat (first | apply Kd.R_alloc | apply Kd.R_drewN | apply Kd.R_drew)); exact (sq_f3 HO357 BK362 (by decide))))) (below_size (by repeat (first | (with_reducible first | exact HB.out | apply below_alloc | apply pw_below_drewN | apply below_drew1 | refine below_set ?_ GE330.out | refine below_set ?_ GE339.out | refine below_set ?_ GE352.out | refine below_set ?_ GE362.out) | exact HB.out)))); have n9_ := Aside0.mk (Kd.R_lower (Kd.R_new' (Kd.R_new' (Kd.R_new' (Kd.R_new' ho1 (Kd.R_lt (by (with_reducible repeat (first | apply Kd.R_alloc | apply Kd.R_drewN | apply Kd.R_drew)); exact (sq_f3 HO_331002 BK362 (by decide))))) (Kd.R_lt (by (with_reducible repeat (first | apply Kd.R_alloc | apply Kd.R_drewN | apply Kd.R_drew)); exact (sq_f3 HO_340002 BK362 (by decide))))) (Kd.R_lt (by (with_reducible repeat (first | apply Kd.R_alloc | apply Kd.R_drewN | apply Kd.R_drew)); exact (sq_f3 HO350 BK362 (by decide))))) (Kd.R_lt (by (with_reducible repeat (first | apply Kd.R_alloc | apply Kd.R_drewN | apply Kd.R_drew)); exact (sq_f3 HO360 BK362 (by decide))))) (below_size (by repeat (first | (with_reducible first | exact HB.out | apply below_alloc | apply pw_below_drewN | apply below_drew1 | refine below_set ?_ GE330.out | refine below_set ?_ GE339.out | refine below_set ?_ GE352.out | refine below_set ?_ GE362.out) | exact HB.out)))); have n10_ := Aside0.mk (blk_below (g := gb330) (o := .cells #[.bool x331000_2, .slice Ao39 x331001_2.length co39, .slice Ao40 x331002_2.length co40] 27 (0, 0)) (by (with_reducible repeat (first | refine blk_drewN ?_ _ | refine blk_drew ?_ | refine blk_alloc ?_ _)); refine blk_far ?_ NB330_362.out _; (with_reducible repeat (first | refine blk_drewN ?_ _ | refine blk_drew ?_ | refine blk_alloc ?_ _)); refine blk_far ?_ NB330_362.out _; (with_reducible repeat (first | refine blk_drewN ?_ _ | refine blk_drew ?_ | refine blk_alloc ?_ _)); refine blk_far ?_ NB330_362.out _; (with_reducible repeat (first | refine blk_drewN ?_ _ | refine blk_drew ?_ | refine blk_alloc ?_ _)); exact BK330.out) hb); have n11_ := Aside0.mk (blk_below (g := gb339) (o := .cells #[.bool x340000_2, .slice Ao51 x340001_2.length co51, .slice Ao52 x340002_2.length co52] 27 (0, 0)) (by (with_reducible repeat (first | refine blk_drewN ?_ _ | refine blk_drew ?_ | refine blk_alloc ?_ _)); refine blk_far ?_ NB339_362.out _; (with_reducible repeat (first | refine blk_drewN ?_ _ | refine blk_drew ?_ | refine blk_alloc ?_ _)); refine blk_far ?_ NB339_362.out _; (with_reducible repeat (first | refine blk_drewN ?_ _ | refine blk_drew ?_ | refine blk_alloc ?_ _)); refine blk_far ?_ NB339_362.out _; (with_reducible repeat (first | refine blk_drewN ?_ _ | refine blk_drew ?_ | refine blk_alloc ?_ _)); exact BK339.out) hb); have n12_ := Aside0.mk (blk_below (g := gb352) (o := .cells #[.bool t344, .slice Ao47 t345.length co47, .slice Ao49 t348.length co49] 27 (0, 0)) (by (with_reducible repeat (first | refine blk_drewN ?_ _ | refine blk_drew ?_ | refine blk_alloc ?_ _)); refine blk_far ?_ NB352_362.out _; (with_reducible repeat (first | refine blk_drewN ?_ _ | refine blk_drew ?_ | refine blk_alloc ?_ _)); refine blk_far ?_ NB352_362.out _; (with_reducible repeat (first | refine blk_drewN ?_ _ | refine blk_drew ?_ | refine blk_alloc ?_ _)); refine blk_far ?_ NB352_362.out _; (with_reducible repeat (first | refine blk_drewN ?_ _ | refine blk_drew ?_ | refine blk_alloc ?_ _)); exact BK352.out) hb); have n13_ := Aside0.mk (blk_below (g := gb362) (o := .cells #[.bool t354, .slice Ao60 t355.length co60, .slice Ao62 t358.length co62] 27 (0, 0)) (by (with_reducible repeat (first | refine blk_drewN ?_ _ | refine blk_drew ?_ | refine blk_alloc ?_ _)); refine blk_put (cs := #[.bool t354, .slice Ao60 t355.length co60, .slice none 0 0]) ?_ 2 _ rfl; (with_reducible repeat (first | refine blk_drewN ?_ _ | refine blk_drew ?_ | refine blk_alloc ?_ _)); refine blk_put (cs := #[.bool t354, .slice none 0 0, .slice none 0 0]) ?_ 1 _ rfl; (with_reducible repeat (first | refine blk_drewN ?_ _ | refine blk_drew ?_ | refine blk_alloc ?_ _)); refine blk_put (cs := #[.bool false, .slice none 0 0, .slice none 0 0]) ?_ 0 _ rfl; (with_reducible repeat (first | refine blk_drewN ?_ _ | refine blk_drew ?_ | refine blk_alloc ?_ _)); exact BK362.out) hb); have n14_ := Aside0.mk (below_step (by repeat (first | (with_reducible first | exact HB.out | apply below_alloc | apply pw_below_drewN | apply below_drew1 | refine below_set ?_ GE330.out | refine below_set ?_ GE339.out | refine below_set ?_ GE352.out | refine below_set ?_ GE362.out) | exact HB.out)) hb); clear HO_331001 HO_331002 HO_340001 HO_340002 HO347 HO350 HO357 HO360 BK330 BK339 BK352 BK362 HB; have HO_331001 := n0_; have HO_331002 := n1_; have HO_340001 := n2_; have HO_340002 := n3_; have HO347 := n4_; have HO350 := n5_; have HO357 := n6_; have HO360 := n7_; have HO366 := n8_; have HO369 := n9_; have BK330 := n10_; have BK339 := n11_; have BK352 := n12_; have BK362 := n13_; have HB := n14_; clear n0_ n1_ n2_ n3_ n4_ n5_ n6_ n7_ n8_ n9_ n10_ n11_ n12_ n13_ n14_; (try clear hb); (try clear hb2); (try clear hk); (try clear hi); (try clear ho0); (try clear ho1)) | ((with_reducible refine gate_dst (N := 13) rfl ?_); refine box_event ?hg (N := 13) ?hd (cs := #[.bool false, .slice none 0 0, .slice none 0 0]) (t := 27) ?hr ?_; (case hd => rfl); (case hg => rfl); (case hr => first | (go_simp; done) | (go_simp; rfl)); intro gb371 hg w69 hbox hb; (try replace hb := sq_un hb); have n0_ := sq_rb hb HO_331001; have n1_ := sq_rb hb HO_331002; have n2_ := sq_rb hb HO_340001; have n3_ := sq_rb hb HO_340002; have n4_ := sq_rb hb HO347; have n5_ := sq_rb hb HO350; have n6_ := sq_rb hb HO357; have n7_ := sq_rb hb HO360; have n8_ := sq_rb hb HO366; have n9_ := sq_rb hb HO369; have n10_ := sq_bk hb BK330; have n11_ := sq_bk hb BK339; have n12_ := sq_bk hb BK352; have n13_ := sq_bk hb BK362; have n14_ := sq_st hb HB; have n15_ := Aside0.mk (hbox); have n16_ := sq_sz HB hg; have n17_ := sq_sz HB hg; have n18_ := sq_nl BK330 hg; have n19_ := sq_ng BK330 hg; have n20_ := sq_nl BK339 hg; have n21_ := sq_ng BK339 hg; have n22_ := sq_nl BK352 hg; have n23_ := sq_ng BK352 hg; have n24_ := sq_nl BK362 hg; have n25_ := sq_ng BK362 hg; clear HO_331001 HO_331002 HO_340001 HO_340002 HO347 HO350 HO357 HO360 HO366 HO369 BK330 BK339 BK352 BK362 HB; have HO_331001 := n0_; have HO_331002 := n1_; have HO_340001 := n2_; have HO_340002 := n3_; have HO347 := n4_; have HO350 := n5_; have HO357 := n6_; have HO360 := n7_; have HO366 := n8_; have HO369 := n9_; have BK330 := n10_; have BK339 := n11_; have BK352 := n12_; have BK362 := n13_; have HB := n14_; have BK371 := n15_; have GW371 := n16_; have GE371 := n17_; have NB330_371 := n18_; have NB371_330 := n19_; have NB339_371 := n20_; have NB371_339 := n21_; have NB352_371 := n22_; have NB371_352 := n23_; have NB362_371 := n24_; have NB371_362 := n25_; clear n0_ n1_ n2_ n3_ n4_ n5_ n6_ n7_ n8_ n9_ n10_ n11_ n12_ n13_ n14_ n15_ n16_ n17_ n18_ n19_ n20_ n21_ n22_ n23_ n24_ n25_; clear hb hbox hg; have hnb70 := NB371_330.out; have hnc70 := NB330_371.out; have hnb71 := NB371_339.out; have hnc71 := NB339_371.out; have hnb72 := NB371_352.out; have hnc72 := NB352_371.out; have hnb73 := NB371_362.out; have hnc73 := NB362_371.out; have hcz74_0 := sq_c0 BK371; have hcz74_1 := sq_c1 BK371; have hcz74_2 := sq_c2 BK371; have hfz74_0 := blk_frozen BK371.out 0; have hfz74_1 := blk_frozen BK371.out 1; have hfz74_2 := blk_frozen BK371.out 2; obtain ⟨Ao75, co75, eo75⟩ := Kd.R_slice HO366.out; subst eo75; obtain ⟨Ao76, co76, eo76⟩ := Kd.R_slice HO369.out; subst eo76) | ((with_reducible refine gate_callee (f := 6) rfl ?_); refine goesL_ (some 82) rfl rfl Try.func6 (by kernel_rfl) rfl #[.int .i64 t351] rfl (by (try simp only [List.map_toArray, List.map_cons, List.map_nil]); first | done | rfl | (simp only [List.length_drop, List.length_take]; rfl)) ?_; (with_reducible refine (ossuarylaw0_Num.calls t351 t372 _ A33.out).mono ?_); rintro e w' ⟨rfl, ⟨nd, rfl⟩⟩; refine ⟨_, rfl, ?_⟩) | (go_at_call 6; (with_reducible refine (ossuarylaw0_Num.calls t351 t372 _ A33.out).mono ?_); rintro e w' ⟨rfl, ⟨nd, rfl⟩⟩) | (go_at_call 6; (with_reducible refine (ossuarylaw0_Num.calls t361 t373 _ A35.out).mono ?_); rintro e w' ⟨rfl, ⟨nd, rfl⟩⟩) | (go_at_call 6; (with_reducible refine (ossuarylaw0_Num.calls t370 t374 _ A37.out).mono ?_); rintro e w' ⟨rfl, ⟨nd, rfl⟩⟩; have hnb77 := NB352_330.out; have hnc77 := NB330_352.out; have hnb78 := NB352_339.out; have hnc78 := NB339_352.out; have hcz79_0 := sq_c0 BK352; have hcz79_1 := sq_c1 BK352; have hcz79_2 := sq_c2 BK352; have hfz79_0 := blk_frozen BK352.out 0; have hfz79_1 := blk_frozen BK352.out 1; have hfz79_2 := blk_frozen BK352.out 2; have hnb80 := NB330_339.out; have hnc80 := NB339_330.out; have hcz81_0 := sq_c0 BK330; have hcz81_1 := sq_c1 BK330; have hcz81_2 := sq_c2 BK330; have hfz81_0 := blk_frozen BK330.out 0; have hfz81_1 := blk_frozen BK330.out 1; have hfz81_2 := blk_frozen BK330.out 2; have hcz82_0 := sq_c0 BK339; have hcz82_1 := sq_c1 BK339; have hcz82_2 := sq_c2 BK339; have hfz82_0 := blk_frozen BK339.out 0; have hfz82_1 := blk_frozen BK339.out 1; have hfz82_2 := blk_frozen BK339.out 2))
               go_roundg kj22
               case measure => have := HJ5.out; have := HK2.out; have := HJ22.out; omega
               case rel => exact ⟨(wrap64 (x7_2 + 1)), (t344), (t345), (t348), (t363), (t364), (t367), (.slice Ao47 t345.length co47), (.slice Ao49 t348.length co49), (.slice Ao75 t364.length co75), (.slice Ao76 t367.length co76), (by first | rfl | (simp; done) | (simp [*]; done)), H', ⟨by have := HJ5.out; have := HK2.out; have := HJ22.out; omega⟩, ⟨by (with_reducible repeat (first | apply Kd.R_alloc | apply Kd.R_drewN | apply Kd.R_drew)); exact Kd.R_mono (Kd.R_far (p := ⟨gb339, 2, none⟩) (Kd.R_far (p := ⟨gb339, 1, none⟩) (Kd.R_far (p := ⟨gb339, 0, none⟩) (Kd.R_far (p := ⟨gb330, 2, none⟩) (Kd.R_far (p := ⟨gb330, 1, none⟩) (Kd.R_far (p := ⟨gb330, 0, none⟩) (Kd.R_far (p := ⟨gb371, 2, none⟩) (Kd.R_far (p := ⟨gb371, 1, none⟩) (Kd.R_far (p := ⟨gb371, 0, none⟩) (Kd.R_types (Kd.R_types (Kd.R_types HO347.out BK371.out (by decide)) BK330.out (by decide)) BK339.out (by decide)) (fun _ hk => hk.1.1.2) (.bool t363)) (fun _ hk => hk.1.1.2) (.slice Ao75 t364.length co75)) (fun _ hk => hk.1.1.2) (.slice Ao76 t367.length co76)) (fun _ hk => hk.1.2) (.bool t344)) (fun _ hk => hk.1.2) (.slice Ao47 t345.length co47)) (fun _ hk => hk.1.2) (.slice Ao49 t348.length co49)) (fun _ hk => hk.2) (.bool t363)) (fun _ hk => hk.2) (.slice Ao75 t364.length co75)) (fun _ hk => hk.2) (.slice Ao76 t367.length co76)) (fun _ hk => hk.1.1.1.2)⟩, ⟨by (with_reducible repeat (first | apply Kd.R_alloc | apply Kd.R_drewN | apply Kd.R_drew)); exact Kd.R_mono (Kd.R_far (p := ⟨gb339, 2, none⟩) (Kd.R_far (p := ⟨gb339, 1, none⟩) (Kd.R_far (p := ⟨gb339, 0, none⟩) (Kd.R_far (p := ⟨gb330, 2, none⟩) (Kd.R_far (p := ⟨gb330, 1, none⟩) (Kd.R_far (p := ⟨gb330, 0, none⟩) (Kd.R_far (p := ⟨gb371, 2, none⟩) (Kd.R_far (p := ⟨gb371, 1, none⟩) (Kd.R_far (p := ⟨gb371, 0, none⟩) (Kd.R_types (Kd.R_types (Kd.R_types HO350.out BK371.out (by decide)) BK330.out (by decide)) BK339.out (by decide)) (fun _ hk => hk.1.1.2) (.bool t363)) (fun _ hk => hk.1.1.2) (.slice Ao75 t364.length co75)) (fun _ hk => hk.1.1.2) (.slice Ao76 t367.length co76)) (fun _ hk => hk.1.2) (.bool t344)) (fun _ hk => hk.1.2) (.slice Ao47 t345.length co47)) (fun _ hk => hk.1.2) (.slice Ao49 t348.length co49)) (fun _ hk => hk.2) (.bool t363)) (fun _ hk => hk.2) (.slice Ao75 t364.length co75)) (fun _ hk => hk.2) (.slice Ao76 t367.length co76)) (fun _ hk => hk.1.1.1.2)⟩, ⟨by (with_reducible repeat (first | apply Kd.R_alloc | apply Kd.R_drewN | apply Kd.R_drew)); exact Kd.R_mono (Kd.R_far (p := ⟨gb339, 2, none⟩) (Kd.R_far (p := ⟨gb339, 1, none⟩) (Kd.R_far (p := ⟨gb339, 0, none⟩) (Kd.R_far (p := ⟨gb330, 2, none⟩) (Kd.R_far (p := ⟨gb330, 1, none⟩) (Kd.R_far (p := ⟨gb330, 0, none⟩) (Kd.R_far (p := ⟨gb371, 2, none⟩) (Kd.R_far (p := ⟨gb371, 1, none⟩) (Kd.R_far (p := ⟨gb371, 0, none⟩) (Kd.R_types (Kd.R_types (Kd.R_types HO366.out BK371.out (by decide)) BK330.out (by decide)) BK339.out (by decide)) (fun _ hk => hk.1.1.2) (.bool t363)) (fun _ hk => hk.1.1.2) (.slice Ao75 t364.length co75)) (fun _ hk => hk.1.1.2) (.slice Ao76 t367.length co76)) (fun _ hk => hk.1.2) (.bool t344)) (fun _ hk => hk.1.2) (.slice Ao47 t345.length co47)) (fun _ hk => hk.1.2) (.slice Ao49 t348.length co49)) (fun _ hk => hk.2) (.bool t363)) (fun _ hk => hk.2) (.slice Ao75 t364.length co75)) (fun _ hk => hk.2) (.slice Ao76 t367.length co76)) (fun _ hk => hk.1.1.1.1.2)⟩, ⟨by (with_reducible repeat (first | apply Kd.R_alloc | apply Kd.R_drewN | apply Kd.R_drew)); exact Kd.R_mono (Kd.R_far (p := ⟨gb339, 2, none⟩) (Kd.R_far (p := ⟨gb339, 1, none⟩) (Kd.R_far (p := ⟨gb339, 0, none⟩) (Kd.R_far (p := ⟨gb330, 2, none⟩) (Kd.R_far (p := ⟨gb330, 1, none⟩) (Kd.R_far (p := ⟨gb330, 0, none⟩) (Kd.R_far (p := ⟨gb371, 2, none⟩) (Kd.R_far (p := ⟨gb371, 1, none⟩) (Kd.R_far (p := ⟨gb371, 0, none⟩) (Kd.R_types (Kd.R_types (Kd.R_types HO369.out BK371.out (by decide)) BK330.out (by decide)) BK339.out (by decide)) (fun _ hk => hk.1.1.2) (.bool t363)) (fun _ hk => hk.1.1.2) (.slice Ao75 t364.length co75)) (fun _ hk => hk.1.1.2) (.slice Ao76 t367.length co76)) (fun _ hk => hk.1.2) (.bool t344)) (fun _ hk => hk.1.2) (.slice Ao47 t345.length co47)) (fun _ hk => hk.1.2) (.slice Ao49 t348.length co49)) (fun _ hk => hk.2) (.bool t363)) (fun _ hk => hk.2) (.slice Ao75 t364.length co75)) (fun _ hk => hk.2) (.slice Ao76 t367.length co76)) (fun _ hk => hk.1.1.1.1.2)⟩, ⟨by (with_reducible repeat (first | refine blk_drewN ?_ _ | refine blk_drew ?_ | refine blk_alloc ?_ _)); refine blk_far ?_ NB330_339.out _; (with_reducible repeat (first | refine blk_drewN ?_ _ | refine blk_drew ?_ | refine blk_alloc ?_ _)); refine blk_far ?_ NB330_339.out _; (with_reducible repeat (first | refine blk_drewN ?_ _ | refine blk_drew ?_ | refine blk_alloc ?_ _)); refine blk_far ?_ NB330_339.out _; (with_reducible repeat (first | refine blk_drewN ?_ _ | refine blk_drew ?_ | refine blk_alloc ?_ _)); refine blk_put (cs := #[.bool t344, .slice Ao47 t345.length co47, .slice Ao40 x331002_2.length co40]) ?_ 2 _ rfl; (with_reducible repeat (first | refine blk_drewN ?_ _ | refine blk_drew ?_ | refine blk_alloc ?_ _)); refine blk_put (cs := #[.bool t344, .slice Ao39 x331001_2.length co39, .slice Ao40 x331002_2.length co40]) ?_ 1 _ rfl; (with_reducible repeat (first | refine blk_drewN ?_ _ | refine blk_drew ?_ | refine blk_alloc ?_ _)); refine blk_put (cs := #[.bool x331000_2, .slice Ao39 x331001_2.length co39, .slice Ao40 x331002_2.length co40]) ?_ 0 _ rfl; (with_reducible repeat (first | refine blk_drewN ?_ _ | refine blk_drew ?_ | refine blk_alloc ?_ _)); refine blk_far ?_ NB330_371.out _; (with_reducible repeat (first | refine blk_drewN ?_ _ | refine blk_drew ?_ | refine blk_alloc ?_ _)); refine blk_far ?_ NB330_371.out _; (with_reducible repeat (first | refine blk_drewN ?_ _ | refine blk_drew ?_ | refine blk_alloc ?_ _)); refine blk_far ?_ NB330_371.out _; (with_reducible repeat (first | refine blk_drewN ?_ _ | refine blk_drew ?_ | refine blk_alloc ?_ _)); exact BK330.out⟩, ⟨by (with_reducible repeat (first | refine blk_drewN ?_ _ | refine blk_drew ?_ | refine blk_alloc ?_ _)); refine blk_put (cs := #[.bool t363, .slice Ao75 t364.length co75, .slice Ao52 x340002_2.length co52]) ?_ 2 _ rfl; (with_reducible repeat (first | refine blk_drewN ?_ _ | refine blk_drew ?_ | refine blk_alloc ?_ _)); refine blk_put (cs := #[.bool t363, .slice Ao51 x340001_2.length co51, .slice Ao52 x340002_2.length co52]) ?_ 1 _ rfl; (with_reducible repeat (first | refine blk_drewN ?_ _ | refine blk_drew ?_ | refine blk_alloc ?_ _)); refine blk_put (cs := #[.bool x340000_2, .slice Ao51 x340001_2.length co51, .slice Ao52 x340002_2.length co52]) ?_ 0 _ rfl; (with_reducible repeat (first | refine blk_drewN ?_ _ | refine blk_drew ?_ | refine blk_alloc ?_ _)); refine blk_far ?_ NB339_330.out _; (with_reducible repeat (first | refine blk_drewN ?_ _ | refine blk_drew ?_ | refine blk_alloc ?_ _)); refine blk_far ?_ NB339_330.out _; (with_reducible repeat (first | refine blk_drewN ?_ _ | refine blk_drew ?_ | refine blk_alloc ?_ _)); refine blk_far ?_ NB339_330.out _; (with_reducible repeat (first | refine blk_drewN ?_ _ | refine blk_drew ?_ | refine blk_alloc ?_ _)); refine blk_far ?_ NB339_371.out _; (with_reducible repeat (first | refine blk_drewN ?_ _ | refine blk_drew ?_ | refine blk_alloc ?_ _)); refine blk_far ?_ NB339_371.out _; (with_reducible repeat (first | refine blk_drewN ?_ _ | refine blk_drew ?_ | refine blk_alloc ?_ _)); refine blk_far ?_ NB339_371.out _; (with_reducible repeat (first | refine blk_drewN ?_ _ | refine blk_drew ?_ | refine blk_alloc ?_ _)); exact BK339.out⟩, ⟨by repeat (first | (with_reducible first | exact HB.out | apply below_alloc | apply pw_below_drewN | apply below_drew1 | refine below_set ?_ GE330.out | refine below_set ?_ GE339.out | refine below_set ?_ GE352.out | refine below_set ?_ GE362.out | refine below_set ?_ GE371.out) | exact HB.out)⟩⟩
              ·
               rw [if_neg c38] at H
               have c38b0 : (t374 == 0) = false := beq_eq_false_iff_ne.mpr c38; have c38b1 : (t374 != 0) = true := bne_iff_ne.mpr c38
               exact absurd (Option.some.inj H) (by rw [HRT.out]; decide)
             ·
              rw [if_neg c36] at H
              have c36b0 : (t373 == 0) = false := beq_eq_false_iff_ne.mpr c36; have c36b1 : (t373 != 0) = true := bne_iff_ne.mpr c36
              exact absurd (Option.some.inj H) (by rw [HRT.out]; decide)
            ·
             rw [if_neg c34] at H
             have c34b0 : (t372 == 0) = false := beq_eq_false_iff_ne.mpr c34; have c34b1 : (t372 != 0) = true := bne_iff_ne.mpr c34
             exact absurd (Option.some.inj H) (by rw [HRT.out]; decide)
           ·
            rw [if_neg c27] at H
            exact absurd H (by simp)
          ·
           rw [if_neg c26] at H
           exact absurd H (by simp)
         ·
          replace c25 := Bool.eq_false_iff.mpr c25
          subst c25
          have H1 : ((disk_Flush.f kj22 x331000_2 x331001_2 x331002_2).bind fun bt375 => ((disk_Crash.f kj22 x331000_2 x331001_2 x331002_2 65535).bind fun bt384 => ((disk_Flush.f kj22 bt375.1 bt375.2.1 bt375.2.2.1).bind fun bt393 => ((ossuarylaw0_Num.f bt375.2.2.2).bind fun t402 => (if t402 = 0 then ((ossuarylaw0_Num.f bt384.2.2.2).bind fun t403 => (if t403 = 0 then ((ossuarylaw0_Num.f bt393.2.2.2).bind fun t404 => (if t404 = 0 then ((ossuarylaw0_SameDisk.f kj22 bt375.1 bt375.2.1 bt375.2.2.1 x340000_2 x340001_2 x340002_2).bind fun t405 => (if t405 = true then ((ossuarylaw0_SameDisk.f kj22 bt384.1 bt384.2.1 bt384.2.2.1 x340000_2 x340001_2 x340002_2).bind fun t406 => (if t406 = true then ((ossuarylaw0_SameDisk.f kj22 bt393.1 bt393.2.1 bt393.2.2.1 bt375.1 bt375.2.1 bt375.2.2.1).bind fun t407 => (if t407 = true then ((ossuarylaw0_SameDisk.f kj22 bt375.1 bt375.2.1 bt375.2.2.1 false ([] : List ByteArray) ([] : List (S49))).bind fun t408 => (some (!t408))) else (some false))) else (some false))) else (some false))) else (some false))) else (some false))) else (some false)))))) = some r := by rw [if_neg (show ¬ (false = true) by decide)] at H; exact H
          clear H
          have H := H1
          clear H1; replace H := Option.bind_eq_some_iff.mp H; obtain ⟨⟨t375, t376, t379, t382⟩, A830, H⟩ := H; (try dsimp only at H); have A83 := Aside0.mk A830; clear A830; replace H := Option.bind_eq_some_iff.mp H; obtain ⟨⟨t384, t385, t388, t391⟩, A840, H⟩ := H; (try dsimp only at H); have A84 := Aside0.mk A840; clear A840; replace H := Option.bind_eq_some_iff.mp H; obtain ⟨⟨t393, t394, t397, t400⟩, A850, H⟩ := H; (try dsimp only at H); have A85 := Aside0.mk A850; clear A850; replace H := Option.bind_eq_some_iff.mp H; obtain ⟨t402, A860, H⟩ := H; (try dsimp only at H); have A86 := Aside0.mk A860; clear A860
          by_cases c87 : t402 = 0
          ·
           rw [if_pos c87] at H
           have c87b0 : (t402 == 0) = true := beq_iff_eq.mpr c87; have c87b1 : (t402 != 0) = false := bne_eq_false_iff_eq.mpr c87; clear c87; replace H := Option.bind_eq_some_iff.mp H; obtain ⟨t403, A880, H⟩ := H; (try dsimp only at H); have A88 := Aside0.mk A880; clear A880
           by_cases c89 : t403 = 0
           ·
            rw [if_pos c89] at H
            have c89b0 : (t403 == 0) = true := beq_iff_eq.mpr c89; have c89b1 : (t403 != 0) = false := bne_eq_false_iff_eq.mpr c89; clear c89; replace H := Option.bind_eq_some_iff.mp H; obtain ⟨t404, A900, H⟩ := H; (try dsimp only at H); have A90 := Aside0.mk A900; clear A900
            by_cases c91 : t404 = 0
            ·
             rw [if_pos c91] at H
             have c91b0 : (t404 == 0) = true := beq_iff_eq.mpr c91; have c91b1 : (t404 != 0) = false := bne_eq_false_iff_eq.mpr c91; clear c91; replace H := Option.bind_eq_some_iff.mp H; obtain ⟨t405, A920, H⟩ := H; (try dsimp only at H); have A92 := Aside0.mk A920; clear A920
             by_cases c93 : t405 = true
             ·
              subst c93
              have H1 : ((ossuarylaw0_SameDisk.f kj22 t384 t385 t388 x340000_2 x340001_2 x340002_2).bind fun t406 => (if t406 = true then ((ossuarylaw0_SameDisk.f kj22 t393 t394 t397 t375 t376 t379).bind fun t407 => (if t407 = true then ((ossuarylaw0_SameDisk.f kj22 t375 t376 t379 false ([] : List ByteArray) ([] : List (S49))).bind fun t408 => (some (!t408))) else (some false))) else (some false))) = some r := by rw [if_pos rfl] at H; exact H
              clear H
              have H := H1
              clear H1; replace H := Option.bind_eq_some_iff.mp H; obtain ⟨t406, A940, H⟩ := H; (try dsimp only at H); have A94 := Aside0.mk A940; clear A940
              by_cases c95 : t406 = true
              ·
               subst c95
               have H1 : ((ossuarylaw0_SameDisk.f kj22 t393 t394 t397 t375 t376 t379).bind fun t407 => (if t407 = true then ((ossuarylaw0_SameDisk.f kj22 t375 t376 t379 false ([] : List ByteArray) ([] : List (S49))).bind fun t408 => (some (!t408))) else (some false))) = some r := by rw [if_pos rfl] at H; exact H
               clear H
               have H := H1
               clear H1; replace H := Option.bind_eq_some_iff.mp H; obtain ⟨t407, A960, H⟩ := H
               replace H : (if t407 = true then ((ossuarylaw0_SameDisk.f kj22 t375 t376 t379 false ([] : List ByteArray) ([] : List (S49))).bind fun t408 => (some (!t408))) else (some false)) = some r := H
               have A96 := Aside0.mk A960; clear A960
               by_cases c97 : t407 = true
               ·
                subst c97
                have H1 : ((ossuarylaw0_SameDisk.f kj22 t375 t376 t379 false ([] : List ByteArray) ([] : List (S49))).bind fun t408 => (some (!t408))) = some r := by rw [if_pos rfl] at H; exact H
                clear H
                have H := H1
                clear H1; replace H := Option.bind_eq_some_iff.mp H; obtain ⟨t408, A980, H⟩ := H
                replace H : (some (!t408)) = some r := H
                have A98 := Aside0.mk A980; clear A980
                obtain rfl := Option.some.inj H
                have hnb99 := NB330_339.out; have hnc99 := NB339_330.out; have hcz100_0 := sq_c0 BK330; have hcz100_1 := sq_c1 BK330; have hcz100_2 := sq_c2 BK330; have hfz100_0 := blk_frozen BK330.out 0; have hfz100_1 := blk_frozen BK330.out 1; have hfz100_2 := blk_frozen BK330.out 2; obtain ⟨Ao101, co101, eo101⟩ := Kd.R_slice HO_331001.out; subst eo101; obtain ⟨Ao102, co102, eo102⟩ := Kd.R_slice HO_331002.out; subst eo102
                go_wp2_with (first | ((with_reducible refine gate_callee (f := 9) rfl ?_); refine goesL_ (some 98) rfl rfl Try.func9 (by kernel_rfl) rfl #[.agg #[.bool x331000_2, .slice Ao101 x331001_2.length co101, .slice Ao102 x331002_2.length co102]] rfl (by (try simp only [List.map_toArray, List.map_cons, List.map_nil]); first | done | rfl | (simp only [List.length_drop, List.length_take]; rfl)) ?_; (with_reducible refine (disk_Flush.calls kj22 x331000_2 _ _ x331001_2 _ _ x331002_2 t375 t376 t379 t382 _ ?side1 ?side2 ?side3 ?side4 A83.out).mono ?_); (case side1 => repeat (first | exact (Kd.R_reads' HO_331001.out).2.2 | (with_reducible refine Kd.C_alloc ?_ _) | (with_reducible refine Kd.C_drewN ?_ _) | (with_reducible refine Kd.C_drew ?_))); (case side2 => exact (Kd.R_reads' HO_331001.out).2.1); (case side3 => repeat (first | exact (Kd.R_reads' HO_331002.out).2.2 | (with_reducible refine Kd.C_alloc ?_ _) | (with_reducible refine Kd.C_drewN ?_ _) | (with_reducible refine Kd.C_drew ?_))); (case side4 => exact (Kd.R_reads' HO_331002.out).2.1); rintro e w103 ⟨v377, v380, rfl, ho0, ho1, hb⟩; refine ⟨_, rfl, ?_⟩; (try replace hb := sq_un hb); have n0_ := Aside0.mk (Kd.R_elder' (by (with_reducible repeat (first | apply Kd.R_alloc | apply Kd.R_drewN | apply Kd.R_drew)); exact HO_331001.out) (Kd.R_base ho0) hb); have n1_ := Aside0.mk (Kd.R_elder' (by (with_reducible repeat (first | apply Kd.R_alloc | apply Kd.R_drewN | apply Kd.R_drew)); exact HO_331002.out) (Kd.R_base ho1) hb); have n2_ := Aside0.mk (Kd.R_elder' (by (with_reducible repeat (first | apply Kd.R_alloc | apply Kd.R_drewN | apply Kd.R_drew)); exact HO_340001.out) (Kd.R_base ho0) hb); have n3_ := Aside0.mk (Kd.R_elder' (by (with_reducible repeat (first | apply Kd.R_alloc | apply Kd.R_drewN | apply Kd.R_drew)); exact HO_340002.out) (Kd.R_base ho1) hb); have n4_ := Aside0.mk (Kd.R_lower (Kd.R_new' (Kd.R_new' ho0 (Kd.R_lt (by (with_reducible repeat (first | apply Kd.R_alloc | apply Kd.R_drewN | apply Kd.R_drew)); exact HO_331001.out))) (Kd.R_lt (by (with_reducible repeat (first | apply Kd.R_alloc | apply Kd.R_drewN | apply Kd.R_drew)); exact HO_340001.out))) (below_size (by repeat (first | (with_reducible first | exact HB.out | apply below_alloc | apply pw_below_drewN | apply below_drew1 | refine below_set ?_ GE330.out | refine below_set ?_ GE339.out) | exact HB.out)))); have n5_ := Aside0.mk (Kd.R_lower (Kd.R_new' (Kd.R_new' ho1 (Kd.R_lt (by (with_reducible repeat (first | apply Kd.R_alloc | apply Kd.R_drewN | apply Kd.R_drew)); exact HO_331002.out))) (Kd.R_lt (by (with_reducible repeat (first | apply Kd.R_alloc | apply Kd.R_drewN | apply Kd.R_drew)); exact HO_340002.out))) (below_size (by repeat (first | (with_reducible first | exact HB.out | apply below_alloc | apply pw_below_drewN | apply below_drew1 | refine below_set ?_ GE330.out | refine below_set ?_ GE339.out) | exact HB.out)))); have n6_ := sq_bk hb BK330; have n7_ := sq_bk hb BK339; have n8_ := sq_st hb HB; clear HO_331001 HO_331002 HO_340001 HO_340002 BK330 BK339 HB; have HO_331001 := n0_; have HO_331002 := n1_; have HO_340001 := n2_; have HO_340002 := n3_; have HO378 := n4_; have HO381 := n5_; have BK330 := n6_; have BK339 := n7_; have HB := n8_; clear n0_ n1_ n2_ n3_ n4_ n5_ n6_ n7_ n8_; (try clear hb); (try clear hb2); (try clear hk); (try clear hi); (try clear ho0); (try clear ho1)) | ((with_reducible refine gate_dst (N := 15) rfl ?_); refine box_event ?hg (N := 15) ?hd (cs := #[.bool false, .slice none 0 0, .slice none 0 0]) (t := 27) ?hr ?_; (case hd => rfl); (case hg => rfl); (case hr => first | (go_simp; done) | (go_simp; rfl)); intro gb383 hg w104 hbox hb; (try replace hb := sq_un hb); have n0_ := sq_rb hb HO_331001; have n1_ := sq_rb hb HO_331002; have n2_ := sq_rb hb HO_340001; have n3_ := sq_rb hb HO_340002; have n4_ := sq_rb hb HO378; have n5_ := sq_rb hb HO381; have n6_ := sq_bk hb BK330; have n7_ := sq_bk hb BK339; have n8_ := sq_st hb HB; have n9_ := Aside0.mk (hbox); have n10_ := sq_sz HB hg; have n11_ := sq_sz HB hg; have n12_ := sq_nl BK330 hg; have n13_ := sq_ng BK330 hg; have n14_ := sq_nl BK339 hg; have n15_ := sq_ng BK339 hg; clear HO_331001 HO_331002 HO_340001 HO_340002 HO378 HO381 BK330 BK339 HB; have HO_331001 := n0_; have HO_331002 := n1_; have HO_340001 := n2_; have HO_340002 := n3_; have HO378 := n4_; have HO381 := n5_; have BK330 := n6_; have BK339 := n7_; have HB := n8_; have BK383 := n9_; have GW383 := n10_; have GE383 := n11_; have NB330_383 := n12_; have NB383_330 := n13_; have NB339_383 := n14_; have NB383_339 := n15_; clear n0_ n1_ n2_ n3_ n4_ n5_ n6_ n7_ n8_ n9_ n10_ n11_ n12_ n13_ n14_ n15_; clear hb hbox hg; have hnb105 := NB383_330.out; have hnc105 := NB330_383.out; have hnb106 := NB383_339.out; have hnc106 := NB339_383.out; have hcz107_0 := sq_c0 BK383; have hcz107_1 := sq_c1 BK383; have hcz107_2 := sq_c2 BK383; have hfz107_0 := blk_frozen BK383.out 0; have hfz107_1 := blk_frozen BK383.out 1; have hfz107_2 := blk_frozen BK383.out 2; obtain ⟨Ao108, co108, eo108⟩ := Kd.R_slice HO378.out; subst eo108; obtain ⟨Ao109, co109, eo109⟩ := Kd.R_slice HO381.out; subst eo109; have hcz110_0 := sq_c0 BK330; have hcz110_1 := sq_c1 BK330; have hcz110_2 := sq_c2 BK330; have hfz110_0 := blk_frozen BK330.out 0; have hfz110_1 := blk_frozen BK330.out 1; have hfz110_2 := blk_frozen BK330.out 2) | ((with_reducible refine gate_callee (f := 10) rfl ?_); refine goesL_ (some 103) rfl rfl Try.func10 (by kernel_rfl) rfl #[.agg #[.bool x331000_2, .slice Ao101 x331001_2.length co101, .slice Ao102 x331002_2.length co102], .int .i64 65535] rfl (by (try simp only [List.map_toArray, List.map_cons, List.map_nil]); first | done | rfl | (simp only [List.length_drop, List.length_take]; rfl)) ?_; (with_reducible refine (disk_Crash.calls kj22 x331000_2 _ _ x331001_2 _ _ x331002_2 65535 t384 t385 t388 t391 _ ?side1 ?side2 ?side3 ?side4 A84.out).mono ?_); (case side1 => refine (Kd.R_reads' (e := 9) (base := w.heap.size) (ok := fun k_ => (some k_ ≠ (u340001 : Value).ownBlock ∧ some k_ ≠ (.slice Ao108 t376.length co108 : Value).ownBlock)) (n := x331001_2.length) (c := co101) ?_).2.2; exact (by (with_reducible repeat (first | apply Kd.R_alloc | apply Kd.R_drewN | apply Kd.R_drew)); exact (sq_f3 HO_331001 BK383 (by decide)))); (case side2 => exact (Kd.R_reads' HO_331001.out).2.1); (case side3 => refine (Kd.R_reads' (e := 49) (base := w.heap.size) (ok := fun k_ => (some k_ ≠ (u340002 : Value).ownBlock ∧ some k_ ≠ (.slice Ao109 t379.length co109 : Value).ownBlock)) (n := x331002_2.length) (c := co102) ?_).2.2; exact (by (with_reducible repeat (first | apply Kd.R_alloc | apply Kd.R_drewN | apply Kd.R_drew)); exact (sq_f3 HO_331002 BK383 (by decide)))); (case side4 => exact (Kd.R_reads' HO_331002.out).2.1); rintro e w111 ⟨v386, v389, rfl, ho0, ho1, hb⟩; refine ⟨_, rfl, ?_⟩; have n0_ := Aside0.mk (Kd.R_elder' (by (with_reducible repeat (first | apply Kd.R_alloc | apply Kd.R_drewN | apply Kd.R_drew)); exact (sq_f3 HO_331001 BK383 (by decide))) (Kd.R_base ho0) hb); have n1_ := Aside0.mk (Kd.R_elder' (by (with_reducible repeat (first | apply Kd.R_alloc | apply Kd.R_drewN | apply Kd.R_drew)); exact (sq_f3 HO_331002 BK383 (by decide))) (Kd.R_base ho1) hb); have n2_ := Aside0.mk (Kd.R_elder' (by (with_reducible repeat (first | apply Kd.R_alloc | apply Kd.R_drewN | apply Kd.R_drew)); exact (sq_f3 HO_340001 BK383 (by decide))) (Kd.R_base ho0) hb); have n3_ := Aside0.mk (Kd.R_elder' (by (with_reducible repeat (first | apply Kd.R_alloc | apply Kd.R_drewN | apply Kd.R_drew)); exact (sq_f3 HO_340002 BK383 (by decide))) (Kd.R_base ho1) hb); have n4_ := Aside0.mk (Kd.R_elder' (by (with_reducible repeat (first | apply Kd.R_alloc | apply Kd.R_drewN | apply Kd.R_drew)); exact (sq_f3 HO378 BK383 (by decide))) (Kd.R_base ho0) hb); have n5_ := Aside0.mk (Kd.R_elder' (by (with_reducible repeat (first | apply Kd.R_alloc | apply Kd.R_drewN | apply Kd.R_drew)); exact (sq_f3 HO381 BK383 (by decide))) (Kd.R_base ho1) hb); have n6_ := Aside0.mk (Kd.R_lower (Kd.R_new' (Kd.R_new' (Kd.R_new' ho0 (Kd.R_lt (by (with_reducible repeat (first | apply Kd.R_alloc | apply Kd.R_drewN | apply Kd.R_drew)); exact (sq_f3 HO_331001 BK383 (by decide))))) (Kd.R_lt (by (with_reducible repeat (first | apply Kd.R_alloc | apply Kd.R_drewN | apply Kd.R_drew)); exact (sq_f3 HO_340001 BK383 (by decide))))) (Kd.R_lt (by (with_reducible repeat (first | apply Kd.R_alloc | apply Kd.R_drewN | apply Kd.R_drew)); exact (sq_f3 HO378 BK383 (by decide))))) (below_size (by repeat (first | (with_reducible first | exact HB.out | apply below_alloc | apply pw_below_drewN | apply below_drew1 | refine below_set ?_ GE330.out | refine below_set ?_ GE339.out | refine below_set ?_ GE383.out) | exact HB.out)))); have n7_ := Aside0.mk (Kd.R_lower (Kd.R_new' (Kd.R_new' (Kd.R_new' ho1 (Kd.R_lt (by (with_reducible repeat (first | apply Kd.R_alloc | apply Kd.R_drewN | apply Kd.R_drew)); exact (sq_f3 HO_331002 BK383 (by decide))))) (Kd.R_lt (by (with_reducible repeat (first | apply Kd.R_alloc | apply Kd.R_drewN | apply Kd.R_drew)); exact (sq_f3 HO_340002 BK383 (by decide))))) (Kd.R_lt (by (with_reducible repeat (first | apply Kd.R_alloc | apply Kd.R_drewN | apply Kd.R_drew)); exact (sq_f3 HO381 BK383 (by decide))))) (below_size (by repeat (first | (with_reducible first | exact HB.out | apply below_alloc | apply pw_below_drewN | apply below_drew1 | refine below_set ?_ GE330.out | refine below_set ?_ GE339.out | refine below_set ?_ GE383.out) | exact HB.out)))); have n8_ := Aside0.mk (blk_below (g := gb330) (o := .cells #[.bool x331000_2, .slice Ao101 x331001_2.length co101, .slice Ao102 x331002_2.length co102] 27 (0, 0)) (by (with_reducible repeat (first | refine blk_drewN ?_ _ | refine blk_drew ?_ | refine blk_alloc ?_ _)); refine blk_far ?_ NB330_383.out _; (with_reducible repeat (first | refine blk_drewN ?_ _ | refine blk_drew ?_ | refine blk_alloc ?_ _)); refine blk_far ?_ NB330_383.out _; (with_reducible repeat (first | refine blk_drewN ?_ _ | refine blk_drew ?_ | refine blk_alloc ?_ _)); refine blk_far ?_ NB330_383.out _; (with_reducible repeat (first | refine blk_drewN ?_ _ | refine blk_drew ?_ | refine blk_alloc ?_ _)); exact BK330.out) hb); have n9_ := Aside0.mk (blk_below (g := gb339) (o := .cells #[.bool x340000_2, u340001, u340002] 27 (0, 0)) (by (with_reducible repeat (first | refine blk_drewN ?_ _ | refine blk_drew ?_ | refine blk_alloc ?_ _)); refine blk_far ?_ NB339_383.out _; (with_reducible repeat (first | refine blk_drewN ?_ _ | refine blk_drew ?_ | refine blk_alloc ?_ _)); refine blk_far ?_ NB339_383.out _; (with_reducible repeat (first | refine blk_drewN ?_ _ | refine blk_drew ?_ | refine blk_alloc ?_ _)); refine blk_far ?_ NB339_383.out _; (with_reducible repeat (first | refine blk_drewN ?_ _ | refine blk_drew ?_ | refine blk_alloc ?_ _)); exact BK339.out) hb); have n10_ := Aside0.mk (blk_below (g := gb383) (o := .cells #[.bool t375, .slice Ao108 t376.length co108, .slice Ao109 t379.length co109] 27 (0, 0)) (by (with_reducible repeat (first | refine blk_drewN ?_ _ | refine blk_drew ?_ | refine blk_alloc ?_ _)); refine blk_put (cs := #[.bool t375, .slice Ao108 t376.length co108, .slice none 0 0]) ?_ 2 _ rfl; (with_reducible repeat (first | refine blk_drewN ?_ _ | refine blk_drew ?_ | refine blk_alloc ?_ _)); refine blk_put (cs := #[.bool t375, .slice none 0 0, .slice none 0 0]) ?_ 1 _ rfl; (with_reducible repeat (first | refine blk_drewN ?_ _ | refine blk_drew ?_ | refine blk_alloc ?_ _)); refine blk_put (cs := #[.bool false, .slice none 0 0, .slice none 0 0]) ?_ 0 _ rfl; (with_reducible repeat (first | refine blk_drewN ?_ _ | refine blk_drew ?_ | refine blk_alloc ?_ _)); exact BK383.out) hb); have n11_ := Aside0.mk (below_step (by repeat (first | (with_reducible first | exact HB.out | apply below_alloc | apply pw_below_drewN | apply below_drew1 | refine below_set ?_ GE330.out | refine below_set ?_ GE339.out | refine below_set ?_ GE383.out) | exact HB.out)) hb); clear HO_331001 HO_331002 HO_340001 HO_340002 HO378 HO381 BK330 BK339 BK383 HB; have HO_331001 := n0_; have HO_331002 := n1_; have HO_340001 := n2_; have HO_340002 := n3_; have HO378 := n4_; have HO381 := n5_; have HO387 := n6_; have HO390 := n7_; have BK330 := n8_; have BK339 := n9_; have BK383 := n10_; have HB := n11_; clear n0_ n1_ n2_ n3_ n4_ n5_ n6_ n7_ n8_ n9_ n10_ n11_; (try clear hb); (try clear hb2); (try clear hk); (try clear hi); (try clear ho0); (try clear ho1)) | ((with_reducible refine gate_dst (N := 17) rfl ?_); refine box_event ?hg (N := 17) ?hd (cs := #[.bool false, .slice none 0 0, .slice none 0 0]) (t := 27) ?hr ?_; (case hd => rfl); (case hg => rfl); (case hr => first | (go_simp; done) | (go_simp; rfl)); intro gb392 hg w112 hbox hb; (try replace hb := sq_un hb); have n0_ := sq_rb hb HO_331001; have n1_ := sq_rb hb HO_331002; have n2_ := sq_rb hb HO_340001; have n3_ := sq_rb hb HO_340002; have n4_ := sq_rb hb HO378; have n5_ := sq_rb hb HO381; have n6_ := sq_rb hb HO387; have n7_ := sq_rb hb HO390; have n8_ := sq_bk hb BK330; have n9_ := sq_bk hb BK339; have n10_ := sq_bk hb BK383; have n11_ := sq_st hb HB; have n12_ := Aside0.mk (hbox); have n13_ := sq_sz HB hg; have n14_ := sq_sz HB hg; have n15_ := sq_nl BK330 hg; have n16_ := sq_ng BK330 hg; have n17_ := sq_nl BK339 hg; have n18_ := sq_ng BK339 hg; have n19_ := sq_nl BK383 hg; have n20_ := sq_ng BK383 hg; clear HO_331001 HO_331002 HO_340001 HO_340002 HO378 HO381 HO387 HO390 BK330 BK339 BK383 HB; have HO_331001 := n0_; have HO_331002 := n1_; have HO_340001 := n2_; have HO_340002 := n3_; have HO378 := n4_; have HO381 := n5_; have HO387 := n6_; have HO390 := n7_; have BK330 := n8_; have BK339 := n9_; have BK383 := n10_; have HB := n11_; have BK392 := n12_; have GW392 := n13_; have GE392 := n14_; have NB330_392 := n15_; have NB392_330 := n16_; have NB339_392 := n17_; have NB392_339 := n18_; have NB383_392 := n19_; have NB392_383 := n20_; clear n0_ n1_ n2_ n3_ n4_ n5_ n6_ n7_ n8_ n9_ n10_ n11_ n12_ n13_ n14_ n15_ n16_ n17_ n18_ n19_ n20_; clear hb hbox hg; have hnb113 := NB392_330.out; have hnc113 := NB330_392.out; have hnb114 := NB392_339.out; have hnc114 := NB339_392.out; have hnb115 := NB392_383.out; have hnc115 := NB383_392.out; have hcz116_0 := sq_c0 BK392; have hcz116_1 := sq_c1 BK392; have hcz116_2 := sq_c2 BK392; have hfz116_0 := blk_frozen BK392.out 0; have hfz116_1 := blk_frozen BK392.out 1; have hfz116_2 := blk_frozen BK392.out 2; obtain ⟨Ao117, co117, eo117⟩ := Kd.R_slice HO387.out; subst eo117; obtain ⟨Ao118, co118, eo118⟩ := Kd.R_slice HO390.out; subst eo118; have hcz119_0 := sq_c0 BK383; have hcz119_1 := sq_c1 BK383; have hcz119_2 := sq_c2 BK383; have hfz119_0 := blk_frozen BK383.out 0; have hfz119_1 := blk_frozen BK383.out 1; have hfz119_2 := blk_frozen BK383.out 2) | ((with_reducible refine gate_callee (f := 9) rfl ?_); refine goesL_ (some 108) rfl rfl Try.func9 (by kernel_rfl) rfl #[.agg #[.bool t375, .slice Ao108 t376.length co108, .slice Ao109 t379.length co109]] rfl (by (try simp only [List.map_toArray, List.map_cons, List.map_nil]); first | done | rfl | (simp only [List.length_drop, List.length_take]; rfl)) ?_; (with_reducible refine (disk_Flush.calls kj22 t375 _ _ t376 _ _ t379 t393 t394 t397 t400 _ ?side1 ?side2 ?side3 ?side4 A85.out).mono ?_); (case side1 => refine (Kd.R_reads' (e := 9) (base := w.heap.size) (ok := fun k_ => (((True ∧ some k_ ≠ (.slice Ao101 x331001_2.length co101 : Value).ownBlock) ∧ some k_ ≠ (u340001 : Value).ownBlock) ∧ some k_ ≠ (.slice Ao117 t385.length co117 : Value).ownBlock)) (n := t376.length) (c := co108) ?_).2.2; exact (by (with_reducible repeat (first | apply Kd.R_alloc | apply Kd.R_drewN | apply Kd.R_drew)); exact (sq_f3 HO378 BK392 (by decide)))); (case side2 => exact (Kd.R_reads' HO378.out).2.1); (case side3 => refine (Kd.R_reads' (e := 49) (base := w.heap.size) (ok := fun k_ => (((True ∧ some k_ ≠ (.slice Ao102 x331002_2.length co102 : Value).ownBlock) ∧ some k_ ≠ (u340002 : Value).ownBlock) ∧ some k_ ≠ (.slice Ao118 t388.length co118 : Value).ownBlock)) (n := t379.length) (c := co109) ?_).2.2; exact (by (with_reducible repeat (first | apply Kd.R_alloc | apply Kd.R_drewN | apply Kd.R_drew)); exact (sq_f3 HO381 BK392 (by decide)))); (case side4 => exact (Kd.R_reads' HO381.out).2.1); rintro e w120 ⟨v395, v398, rfl, ho0, ho1, hb⟩; refine ⟨_, rfl, ?_⟩; have n0_ := Aside0.mk (Kd.R_elder' (by (with_reducible repeat (first | apply Kd.R_alloc | apply Kd.R_drewN | apply Kd.R_drew)); exact (sq_f3 HO_331001 BK392 (by decide))) (Kd.R_base ho0) hb); have n1_ := Aside0.mk (Kd.R_elder' (by (with_reducible repeat (first | apply Kd.R_alloc | apply Kd.R_drewN | apply Kd.R_drew)); exact (sq_f3 HO_331002 BK392 (by decide))) (Kd.R_base ho1) hb); have n2_ := Aside0.mk (Kd.R_elder' (by (with_reducible repeat (first | apply Kd.R_alloc | apply Kd.R_drewN | apply Kd.R_drew)); exact (sq_f3 HO_340001 BK392 (by decide))) (Kd.R_base ho0) hb); have n3_ := Aside0.mk (Kd.R_elder' (by (with_reducible repeat (first | apply Kd.R_alloc | apply Kd.R_drewN | apply Kd.R_drew)); exact (sq_f3 HO_340002 BK392 (by decide))) (Kd.R_base ho1) hb); have n4_ := Aside0.mk (Kd.R_elder' (by (with_reducible repeat (first | apply Kd.R_alloc | apply Kd.R_drewN | apply Kd.R_drew)); exact (sq_f3 HO378 BK392 (by decide))) (Kd.R_base ho0) hb); have n5_ := Aside0.mk (Kd.R_elder' (by (with_reducible repeat (first | apply Kd.R_alloc | apply Kd.R_drewN | apply Kd.R_drew)); exact (sq_f3 HO381 BK392 (by decide))) (Kd.R_base ho1) hb); have n6_ := Aside0.mk (Kd.R_elder' (by (with_reducible repeat (first | apply Kd.R_alloc | apply Kd.R_drewN | apply Kd.R_drew)); exact (sq_f3 HO387 BK392 (by decide))) (Kd.R_base ho0) hb); have n7_ := Aside0.mk (Kd.R_elder' (by (with_reducible repeat (first | apply Kd.R_alloc | apply Kd.R_drewN | apply Kd.R_drew)); exact (sq_f3 HO390 BK392 (by decide))) (Kd.R_base ho1) hb); have n8_ := Aside0.mk (Kd.R_lower (Kd.R_new' (Kd.R_new' (Kd.R_new' (Kd.R_new' ho0 (Kd.R_lt (by (with_reducible repeat (first | apply Kd.R_alloc | apply Kd.R_drewN | apply Kd.R_drew)); exact (sq_f3 HO_331001 BK392 (by decide))))) (Kd.R_lt (by (with_reducible repeat (first | apply Kd.R_alloc | apply Kd.R_drewN | apply Kd.R_drew)); exact (sq_f3 HO_340001 BK392 (by decide))))) (Kd.R_lt (by (with_reducible repeat (first | apply Kd.R_alloc | apply Kd.R_drewN | apply Kd.R_drew)); exact (sq_f3 HO378 BK392 (by decide))))) (Kd.R_lt (by (with_reducible repeat (first | apply Kd.R_alloc | apply Kd.R_drewN | apply Kd.R_drew)); exact (sq_f3 HO387 BK392 (by decide))))) (below_size (by repeat (first | (with_reducible first | exact HB.out | apply below_alloc | apply pw_below_drewN | apply below_drew1 | refine below_set ?_ GE330.out | refine below_set ?_ GE339.out | refine below_set ?_ GE383.out | refine below_set ?_ GE392.out) | exact HB.out)))); have n9_ := Aside0.mk (Kd.R_lower (Kd.R_new' (Kd.R_new' (Kd.R_new' (Kd.R_new' ho1 (Kd.R_lt (by (with_reducible repeat (first | apply Kd.R_alloc | apply Kd.R_drewN | apply Kd.R_drew)); exact (sq_f3 HO_331002 BK392 (by decide))))) (Kd.R_lt (by (with_reducible repeat (first | apply Kd.R_alloc | apply Kd.R_drewN | apply Kd.R_drew)); exact (sq_f3 HO_340002 BK392 (by decide))))) (Kd.R_lt (by (with_reducible repeat (first | apply Kd.R_alloc | apply Kd.R_drewN | apply Kd.R_drew)); exact (sq_f3 HO381 BK392 (by decide))))) (Kd.R_lt (by (with_reducible repeat (first | apply Kd.R_alloc | apply Kd.R_drewN | apply Kd.R_drew)); exact (sq_f3 HO390 BK392 (by decide))))) (below_size (by repeat (first | (with_reducible first | exact HB.out | apply below_alloc | apply pw_below_drewN | apply below_drew1 | refine below_set ?_ GE330.out | refine below_set ?_ GE339.out | refine below_set ?_ GE383.out | refine below_set ?_ GE392.out) | exact HB.out)))); have n10_ := Aside0.mk (blk_below (g := gb330) (o := .cells #[.bool x331000_2, .slice Ao101 x331001_2.length co101, .slice Ao102 x331002_2.length co102] 27 (0, 0)) (by (with_reducible repeat (first | refine blk_drewN ?_ _ | refine blk_drew ?_ | refine blk_alloc ?_ _)); refine blk_far ?_ NB330_392.out _; (with_reducible repeat (first | refine blk_drewN ?_ _ | refine blk_drew ?_ | refine blk_alloc ?_ _)); refine blk_far ?_ NB330_392.out _; (with_reducible repeat (first | refine blk_drewN ?_ _ | refine blk_drew ?_ | refine blk_alloc ?_ _)); refine blk_far ?_ NB330_392.out _; (with_reducible repeat (first | refine blk_drewN ?_ _ | refine blk_drew ?_ | refine blk_alloc ?_ _)); exact BK330.out) hb); have n11_ := Aside0.mk (blk_below (g := gb339) (o := .cells #[.bool x340000_2, u340001, u340002] 27 (0, 0)) (by (with_reducible repeat (first | refine blk_drewN ?_ _ | refine blk_drew ?_ | refine blk_alloc ?_ _)); refine blk_far ?_ NB339_392.out _; (with_reducible repeat (first | refine blk_drewN ?_ _ | refine blk_drew ?_ | refine blk_alloc ?_ _)); refine blk_far ?_ NB339_392.out _; (with_reducible repeat (first | refine blk_drewN ?_ _ | refine blk_drew ?_ | refine blk_alloc ?_ _)); refine blk_far ?_ NB339_392.out _; (with_reducible repeat (first | refine blk_drewN ?_ _ | refine blk_drew ?_ | refine blk_alloc ?_ _)); exact BK339.out) hb); have n12_ := Aside0.mk (blk_below (g := gb383) (o := .cells #[.bool t375, .slice Ao108 t376.length co108, .slice Ao109 t379.length co109] 27 (0, 0)) (by (with_reducible repeat (first | refine blk_drewN ?_ _ | refine blk_drew ?_ | refine blk_alloc ?_ _)); refine blk_far ?_ NB383_392.out _; (with_reducible repeat (first | refine blk_drewN ?_ _ | refine blk_drew ?_ | refine blk_alloc ?_ _)); refine blk_far ?_ NB383_392.out _; (with_reducible repeat (first | refine blk_drewN ?_ _ | refine blk_drew ?_ | refine blk_alloc ?_ _)); refine blk_far ?_ NB383_392.out _; (with_reducible repeat (first | refine blk_drewN ?_ _ | refine blk_drew ?_ | refine blk_alloc ?_ _)); exact BK383.out) hb); have n13_ := Aside0.mk (blk_below (g := gb392) (o := .cells #[.bool t384, .slice Ao117 t385.length co117, .slice Ao118 t388.length co118] 27 (0, 0)) (by (with_reducible repeat (first | refine blk_drewN ?_ _ | refine blk_drew ?_ | refine blk_alloc ?_ _)); refine blk_put (cs := #[.bool t384, .slice Ao117 t385.length co117, .slice none 0 0]) ?_ 2 _ rfl; (with_reducible repeat (first | refine blk_drewN ?_ _ | refine blk_drew ?_ | refine blk_alloc ?_ _)); refine blk_put (cs := #[.bool t384, .slice none 0 0, .slice none 0 0]) ?_ 1 _ rfl; (with_reducible repeat (first | refine blk_drewN ?_ _ | refine blk_drew ?_ | refine blk_alloc ?_ _)); refine blk_put (cs := #[.bool false, .slice none 0 0, .slice none 0 0]) ?_ 0 _ rfl; (with_reducible repeat (first | refine blk_drewN ?_ _ | refine blk_drew ?_ | refine blk_alloc ?_ _)); exact BK392.out) hb); have n14_ := Aside0.mk (below_step (by repeat (first | (with_reducible first | exact HB.out | apply below_alloc | apply pw_below_drewN | apply below_drew1 | refine below_set ?_ GE330.out | refine below_set ?_ GE339.out | refine below_set ?_ GE383.out | refine below_set ?_ GE392.out) | exact HB.out)) hb); clear HO_331001 HO_331002 HO_340001 HO_340002 HO378 HO381 HO387 HO390 BK330 BK339 BK383 BK392 HB; have HO_331001 := n0_; have HO_331002 := n1_; have HO_340001 := n2_; have HO_340002 := n3_; have HO378 := n4_; have HO381 := n5_; have HO387 := n6_; have HO390 := n7_; have HO396 := n8_; have HO399 := n9_; have BK330 := n10_; have BK339 := n11_; have BK383 := n12_; have BK392 := n13_; have HB := n14_; clear n0_ n1_ n2_ n3_ n4_ n5_ n6_ n7_ n8_ n9_ n10_ n11_ n12_ n13_ n14_; (try clear hb); (try clear hb2); (try clear hk); (try clear hi); (try clear ho0); (try clear ho1)) | ((with_reducible refine gate_dst (N := 19) rfl ?_); refine box_event ?hg (N := 19) ?hd (cs := #[.bool false, .slice none 0 0, .slice none 0 0]) (t := 27) ?hr ?_; (case hd => rfl); (case hg => rfl); (case hr => first | (go_simp; done) | (go_simp; rfl)); intro gb401 hg w121 hbox hb; (try replace hb := sq_un hb); have n0_ := sq_rb hb HO_331001; have n1_ := sq_rb hb HO_331002; have n2_ := sq_rb hb HO_340001; have n3_ := sq_rb hb HO_340002; have n4_ := sq_rb hb HO378; have n5_ := sq_rb hb HO381; have n6_ := sq_rb hb HO387; have n7_ := sq_rb hb HO390; have n8_ := sq_rb hb HO396; have n9_ := sq_rb hb HO399; have n10_ := sq_bk hb BK330; have n11_ := sq_bk hb BK339; have n12_ := sq_bk hb BK383; have n13_ := sq_bk hb BK392; have n14_ := sq_st hb HB; have n15_ := Aside0.mk (hbox); have n16_ := sq_sz HB hg; have n17_ := sq_sz HB hg; have n18_ := sq_nl BK330 hg; have n19_ := sq_ng BK330 hg; have n20_ := sq_nl BK339 hg; have n21_ := sq_ng BK339 hg; have n22_ := sq_nl BK383 hg; have n23_ := sq_ng BK383 hg; have n24_ := sq_nl BK392 hg; have n25_ := sq_ng BK392 hg; clear HO_331001 HO_331002 HO_340001 HO_340002 HO378 HO381 HO387 HO390 HO396 HO399 BK330 BK339 BK383 BK392 HB; have HO_331001 := n0_; have HO_331002 := n1_; have HO_340001 := n2_; have HO_340002 := n3_; have HO378 := n4_; have HO381 := n5_; have HO387 := n6_; have HO390 := n7_; have HO396 := n8_; have HO399 := n9_; have BK330 := n10_; have BK339 := n11_; have BK383 := n12_; have BK392 := n13_; have HB := n14_; have BK401 := n15_; have GW401 := n16_; have GE401 := n17_; have NB330_401 := n18_; have NB401_330 := n19_; have NB339_401 := n20_; have NB401_339 := n21_; have NB383_401 := n22_; have NB401_383 := n23_; have NB392_401 := n24_; have NB401_392 := n25_; clear n0_ n1_ n2_ n3_ n4_ n5_ n6_ n7_ n8_ n9_ n10_ n11_ n12_ n13_ n14_ n15_ n16_ n17_ n18_ n19_ n20_ n21_ n22_ n23_ n24_ n25_; clear hb hbox hg; have hnb122 := NB401_330.out; have hnc122 := NB330_401.out; have hnb123 := NB401_339.out; have hnc123 := NB339_401.out; have hnb124 := NB401_383.out; have hnc124 := NB383_401.out; have hnb125 := NB401_392.out; have hnc125 := NB392_401.out; have hcz126_0 := sq_c0 BK401; have hcz126_1 := sq_c1 BK401; have hcz126_2 := sq_c2 BK401; have hfz126_0 := blk_frozen BK401.out 0; have hfz126_1 := blk_frozen BK401.out 1; have hfz126_2 := blk_frozen BK401.out 2; obtain ⟨Ao127, co127, eo127⟩ := Kd.R_slice HO396.out; subst eo127; obtain ⟨Ao128, co128, eo128⟩ := Kd.R_slice HO399.out; subst eo128) | ((with_reducible refine gate_callee (f := 6) rfl ?_); refine goesL_ (some 112) rfl rfl Try.func6 (by kernel_rfl) rfl #[.int .i64 t382] rfl (by (try simp only [List.map_toArray, List.map_cons, List.map_nil]); first | done | rfl | (simp only [List.length_drop, List.length_take]; rfl)) ?_; (with_reducible refine (ossuarylaw0_Num.calls t382 t402 _ A86.out).mono ?_); rintro e w' ⟨rfl, ⟨nd, rfl⟩⟩; refine ⟨_, rfl, ?_⟩) | (go_at_call 6; (with_reducible refine (ossuarylaw0_Num.calls t382 t402 _ A86.out).mono ?_); rintro e w' ⟨rfl, ⟨nd, rfl⟩⟩) | (go_at_call 6; (with_reducible refine (ossuarylaw0_Num.calls t391 t403 _ A88.out).mono ?_); rintro e w' ⟨rfl, ⟨nd, rfl⟩⟩) | (go_at_call 6; (with_reducible refine (ossuarylaw0_Num.calls t400 t404 _ A90.out).mono ?_); rintro e w' ⟨rfl, ⟨nd, rfl⟩⟩; have hcz129_0 := sq_c0 BK383; have hcz129_1 := sq_c1 BK383; have hcz129_2 := sq_c2 BK383; have hfz129_0 := blk_frozen BK383.out 0; have hfz129_1 := blk_frozen BK383.out 1; have hfz129_2 := blk_frozen BK383.out 2; have hcz130_0 := sq_c0 BK339; have hcz130_1 := sq_c1 BK339; have hcz130_2 := sq_c2 BK339; have hfz130_0 := blk_frozen BK339.out 0; have hfz130_1 := blk_frozen BK339.out 1; have hfz130_2 := blk_frozen BK339.out 2; obtain ⟨Ao131, co131, eo131⟩ := Kd.R_slice HO_340001.out; subst eo131; obtain ⟨Ao132, co132, eo132⟩ := Kd.R_slice HO_340002.out; subst eo132) | (go_at_call 11; (with_reducible refine (ossuarylaw0_SameDisk.calls kj22 t375 _ _ t376 _ _ t379 x340000_2 _ _ x340001_2 _ _ x340002_2 true _ ?side1 ?side2 ?side3 ?side4 ?side5 ?side6 ?side7 ?side8 A92.out).mono ?_); (case side1 => refine (Kd.R_reads' (e := 9) (base := w.heap.size) (ok := fun k_ => ((((True ∧ some k_ ≠ (.slice Ao101 x331001_2.length co101 : Value).ownBlock) ∧ some k_ ≠ (.slice Ao131 x340001_2.length co131 : Value).ownBlock) ∧ some k_ ≠ (.slice Ao117 t385.length co117 : Value).ownBlock) ∧ some k_ ≠ (.slice Ao127 t394.length co127 : Value).ownBlock)) (n := t376.length) (c := co108) ?_).2.2; exact (by (with_reducible repeat (first | apply Kd.R_alloc | apply Kd.R_drewN | apply Kd.R_drew)); exact (sq_f3 HO378 BK401 (by decide)))); (case side2 => exact (Kd.R_reads' HO378.out).2.1); (case side3 => refine (Kd.R_reads' (e := 49) (base := w.heap.size) (ok := fun k_ => ((((True ∧ some k_ ≠ (.slice Ao102 x331002_2.length co102 : Value).ownBlock) ∧ some k_ ≠ (.slice Ao132 x340002_2.length co132 : Value).ownBlock) ∧ some k_ ≠ (.slice Ao118 t388.length co118 : Value).ownBlock) ∧ some k_ ≠ (.slice Ao128 t397.length co128 : Value).ownBlock)) (n := t379.length) (c := co109) ?_).2.2; exact (by (with_reducible repeat (first | apply Kd.R_alloc | apply Kd.R_drewN | apply Kd.R_drew)); exact (sq_f3 HO381 BK401 (by decide)))); (case side4 => exact (Kd.R_reads' HO381.out).2.1); (case side5 => refine (Kd.R_reads' (e := 9) (base := w.heap.size) (ok := fun k_ => (((some k_ ≠ (.slice Ao101 x331001_2.length co101 : Value).ownBlock ∧ some k_ ≠ (.slice Ao108 t376.length co108 : Value).ownBlock) ∧ some k_ ≠ (.slice Ao117 t385.length co117 : Value).ownBlock) ∧ some k_ ≠ (.slice Ao127 t394.length co127 : Value).ownBlock)) (n := x340001_2.length) (c := co131) ?_).2.2; exact (by (with_reducible repeat (first | apply Kd.R_alloc | apply Kd.R_drewN | apply Kd.R_drew)); exact (sq_f3 HO_340001 BK401 (by decide)))); (case side6 => exact (Kd.R_reads' HO_340001.out).2.1); (case side7 => refine (Kd.R_reads' (e := 49) (base := w.heap.size) (ok := fun k_ => (((some k_ ≠ (.slice Ao102 x331002_2.length co102 : Value).ownBlock ∧ some k_ ≠ (.slice Ao109 t379.length co109 : Value).ownBlock) ∧ some k_ ≠ (.slice Ao118 t388.length co118 : Value).ownBlock) ∧ some k_ ≠ (.slice Ao128 t397.length co128 : Value).ownBlock)) (n := x340002_2.length) (c := co132) ?_).2.2; exact (by (with_reducible repeat (first | apply Kd.R_alloc | apply Kd.R_drewN | apply Kd.R_drew)); exact (sq_f3 HO_340002 BK401 (by decide)))); (case side8 => exact (Kd.R_reads' HO_340002.out).2.1); rintro e w133 ⟨rfl, hb⟩; have n0_ := Aside0.mk (Kd.R_below (by (with_reducible repeat (first | apply Kd.R_alloc | apply Kd.R_drewN | apply Kd.R_drew)); exact (sq_f3 HO_331001 BK401 (by decide))) hb); have n1_ := Aside0.mk (Kd.R_below (by (with_reducible repeat (first | apply Kd.R_alloc | apply Kd.R_drewN | apply Kd.R_drew)); exact (sq_f3 HO_331002 BK401 (by decide))) hb); have n2_ := Aside0.mk (Kd.R_below (by (with_reducible repeat (first | apply Kd.R_alloc | apply Kd.R_drewN | apply Kd.R_drew)); exact (sq_f3 HO_340001 BK401 (by decide))) hb); have n3_ := Aside0.mk (Kd.R_below (by (with_reducible repeat (first | apply Kd.R_alloc | apply Kd.R_drewN | apply Kd.R_drew)); exact (sq_f3 HO_340002 BK401 (by decide))) hb); have n4_ := Aside0.mk (Kd.R_below (by (with_reducible repeat (first | apply Kd.R_alloc | apply Kd.R_drewN | apply Kd.R_drew)); exact (sq_f3 HO378 BK401 (by decide))) hb); have n5_ := Aside0.mk (Kd.R_below (by (with_reducible repeat (first | apply Kd.R_alloc | apply Kd.R_drewN | apply Kd.R_drew)); exact (sq_f3 HO381 BK401 (by decide))) hb); have n6_ := Aside0.mk (Kd.R_below (by (with_reducible repeat (first | apply Kd.R_alloc | apply Kd.R_drewN | apply Kd.R_drew)); exact (sq_f3 HO387 BK401 (by decide))) hb); have n7_ := Aside0.mk (Kd.R_below (by (with_reducible repeat (first | apply Kd.R_alloc | apply Kd.R_drewN | apply Kd.R_drew)); exact (sq_f3 HO390 BK401 (by decide))) hb); have n8_ := Aside0.mk (Kd.R_below (by (with_reducible repeat (first | apply Kd.R_alloc | apply Kd.R_drewN | apply Kd.R_drew)); exact (sq_f3 HO396 BK401 (by decide))) hb); have n9_ := Aside0.mk (Kd.R_below (by (with_reducible repeat (first | apply Kd.R_alloc | apply Kd.R_drewN | apply Kd.R_drew)); exact (sq_f3 HO399 BK401 (by decide))) hb); have n10_ := Aside0.mk (blk_below (g := gb330) (o := .cells #[.bool x331000_2, .slice Ao101 x331001_2.length co101, .slice Ao102 x331002_2.length co102] 27 (0, 0)) (by (with_reducible repeat (first | refine blk_drewN ?_ _ | refine blk_drew ?_ | refine blk_alloc ?_ _)); refine blk_far ?_ NB330_401.out _; (with_reducible repeat (first | refine blk_drewN ?_ _ | refine blk_drew ?_ | refine blk_alloc ?_ _)); refine blk_far ?_ NB330_401.out _; (with_reducible repeat (first | refine blk_drewN ?_ _ | refine blk_drew ?_ | refine blk_alloc ?_ _)); refine blk_far ?_ NB330_401.out _; (with_reducible repeat (first | refine blk_drewN ?_ _ | refine blk_drew ?_ | refine blk_alloc ?_ _)); exact BK330.out) hb); have n11_ := Aside0.mk (blk_below (g := gb339) (o := .cells #[.bool x340000_2, .slice Ao131 x340001_2.length co131, .slice Ao132 x340002_2.length co132] 27 (0, 0)) (by (with_reducible repeat (first | refine blk_drewN ?_ _ | refine blk_drew ?_ | refine blk_alloc ?_ _)); refine blk_far ?_ NB339_401.out _; (with_reducible repeat (first | refine blk_drewN ?_ _ | refine blk_drew ?_ | refine blk_alloc ?_ _)); refine blk_far ?_ NB339_401.out _; (with_reducible repeat (first | refine blk_drewN ?_ _ | refine blk_drew ?_ | refine blk_alloc ?_ _)); refine blk_far ?_ NB339_401.out _; (with_reducible repeat (first | refine blk_drewN ?_ _ | refine blk_drew ?_ | refine blk_alloc ?_ _)); exact BK339.out) hb); have n12_ := Aside0.mk (blk_below (g := gb383) (o := .cells #[.bool t375, .slice Ao108 t376.length co108, .slice Ao109 t379.length co109] 27 (0, 0)) (by (with_reducible repeat (first | refine blk_drewN ?_ _ | refine blk_drew ?_ | refine blk_alloc ?_ _)); refine blk_far ?_ NB383_401.out _; (with_reducible repeat (first | refine blk_drewN ?_ _ | refine blk_drew ?_ | refine blk_alloc ?_ _)); refine blk_far ?_ NB383_401.out _; (with_reducible repeat (first | refine blk_drewN ?_ _ | refine blk_drew ?_ | refine blk_alloc ?_ _)); refine blk_far ?_ NB383_401.out _; (with_reducible repeat (first | refine blk_drewN ?_ _ | refine blk_drew ?_ | refine blk_alloc ?_ _)); exact BK383.out) hb); have n13_ := Aside0.mk (blk_below (g := gb392) (o := .cells #[.bool t384, .slice Ao117 t385.length co117, .slice Ao118 t388.length co118] 27 (0, 0)) (by (with_reducible repeat (first | refine blk_drewN ?_ _ | refine blk_drew ?_ | refine blk_alloc ?_ _)); refine blk_far ?_ NB392_401.out _; (with_reducible repeat (first | refine blk_drewN ?_ _ | refine blk_drew ?_ | refine blk_alloc ?_ _)); refine blk_far ?_ NB392_401.out _; (with_reducible repeat (first | refine blk_drewN ?_ _ | refine blk_drew ?_ | refine blk_alloc ?_ _)); refine blk_far ?_ NB392_401.out _; (with_reducible repeat (first | refine blk_drewN ?_ _ | refine blk_drew ?_ | refine blk_alloc ?_ _)); exact BK392.out) hb); have n14_ := Aside0.mk (blk_below (g := gb401) (o := .cells #[.bool t393, .slice Ao127 t394.length co127, .slice Ao128 t397.length co128] 27 (0, 0)) (by (with_reducible repeat (first | refine blk_drewN ?_ _ | refine blk_drew ?_ | refine blk_alloc ?_ _)); refine blk_put (cs := #[.bool t393, .slice Ao127 t394.length co127, .slice none 0 0]) ?_ 2 _ rfl; (with_reducible repeat (first | refine blk_drewN ?_ _ | refine blk_drew ?_ | refine blk_alloc ?_ _)); refine blk_put (cs := #[.bool t393, .slice none 0 0, .slice none 0 0]) ?_ 1 _ rfl; (with_reducible repeat (first | refine blk_drewN ?_ _ | refine blk_drew ?_ | refine blk_alloc ?_ _)); refine blk_put (cs := #[.bool false, .slice none 0 0, .slice none 0 0]) ?_ 0 _ rfl; (with_reducible repeat (first | refine blk_drewN ?_ _ | refine blk_drew ?_ | refine blk_alloc ?_ _)); exact BK401.out) hb); have n15_ := Aside0.mk (below_step (by repeat (first | (with_reducible first | exact HB.out | apply below_alloc | apply pw_below_drewN | apply below_drew1 | refine below_set ?_ GE330.out | refine below_set ?_ GE339.out | refine below_set ?_ GE383.out | refine below_set ?_ GE392.out | refine below_set ?_ GE401.out) | exact HB.out)) hb); clear HO_331001 HO_331002 HO_340001 HO_340002 HO378 HO381 HO387 HO390 HO396 HO399 BK330 BK339 BK383 BK392 BK401 HB; have HO_331001 := n0_; have HO_331002 := n1_; have HO_340001 := n2_; have HO_340002 := n3_; have HO378 := n4_; have HO381 := n5_; have HO387 := n6_; have HO390 := n7_; have HO396 := n8_; have HO399 := n9_; have BK330 := n10_; have BK339 := n11_; have BK383 := n12_; have BK392 := n13_; have BK401 := n14_; have HB := n15_; clear n0_ n1_ n2_ n3_ n4_ n5_ n6_ n7_ n8_ n9_ n10_ n11_ n12_ n13_ n14_ n15_; (try clear hb); (try clear hb2); (try clear hk); (try clear hi); have hcz134_0 := sq_c0 BK392; have hcz134_1 := sq_c1 BK392; have hcz134_2 := sq_c2 BK392; have hfz134_0 := blk_frozen BK392.out 0; have hfz134_1 := blk_frozen BK392.out 1; have hfz134_2 := blk_frozen BK392.out 2; have hcz135_0 := sq_c0 BK339; have hcz135_1 := sq_c1 BK339; have hcz135_2 := sq_c2 BK339; have hfz135_0 := blk_frozen BK339.out 0; have hfz135_1 := blk_frozen BK339.out 1; have hfz135_2 := blk_frozen BK339.out 2) | (go_at_call 11; (with_reducible refine (ossuarylaw0_SameDisk.calls kj22 t384 _ _ t385 _ _ t388 x340000_2 _ _ x340001_2 _ _ x340002_2 true _ ?side1 ?side2 ?side3 ?side4 ?side5 ?side6 ?side7 ?side8 A94.out).mono ?_); (case side1 => repeat (first | exact (Kd.R_reads' HO387.out).2.2 | (with_reducible refine Kd.C_alloc ?_ _) | (with_reducible refine Kd.C_drewN ?_ _) | (with_reducible refine Kd.C_drew ?_))); (case side2 => exact (Kd.R_reads' HO387.out).2.1); (case side3 => repeat (first | exact (Kd.R_reads' HO390.out).2.2 | (with_reducible refine Kd.C_alloc ?_ _) | (with_reducible refine Kd.C_drewN ?_ _) | (with_reducible refine Kd.C_drew ?_))); (case side4 => exact (Kd.R_reads' HO390.out).2.1); (case side5 => repeat (first | exact (Kd.R_reads' HO_340001.out).2.2 | (with_reducible refine Kd.C_alloc ?_ _) | (with_reducible refine Kd.C_drewN ?_ _) | (with_reducible refine Kd.C_drew ?_))); (case side6 => exact (Kd.R_reads' HO_340001.out).2.1); (case side7 => repeat (first | exact (Kd.R_reads' HO_340002.out).2.2 | (with_reducible refine Kd.C_alloc ?_ _) | (with_reducible refine Kd.C_drewN ?_ _) | (with_reducible refine Kd.C_drew ?_))); (case side8 => exact (Kd.R_reads' HO_340002.out).2.1); rintro e w136 ⟨rfl, hb⟩; (try replace hb := sq_un hb); have n0_ := sq_rb hb HO_331001; have n1_ := sq_rb hb HO_331002; have n2_ := sq_rb hb HO_340001; have n3_ := sq_rb hb HO_340002; have n4_ := sq_rb hb HO378; have n5_ := sq_rb hb HO381; have n6_ := sq_rb hb HO387; have n7_ := sq_rb hb HO390; have n8_ := sq_rb hb HO396; have n9_ := sq_rb hb HO399; have n10_ := sq_bk hb BK330; have n11_ := sq_bk hb BK339; have n12_ := sq_bk hb BK383; have n13_ := sq_bk hb BK392; have n14_ := sq_bk hb BK401; have n15_ := sq_st hb HB; clear HO_331001 HO_331002 HO_340001 HO_340002 HO378 HO381 HO387 HO390 HO396 HO399 BK330 BK339 BK383 BK392 BK401 HB; have HO_331001 := n0_; have HO_331002 := n1_; have HO_340001 := n2_; have HO_340002 := n3_; have HO378 := n4_; have HO381 := n5_; have HO387 := n6_; have HO390 := n7_; have HO396 := n8_; have HO399 := n9_; have BK330 := n10_; have BK339 := n11_; have BK383 := n12_; have BK392 := n13_; have BK401 := n14_; have HB := n15_; clear n0_ n1_ n2_ n3_ n4_ n5_ n6_ n7_ n8_ n9_ n10_ n11_ n12_ n13_ n14_ n15_; (try clear hb); (try clear hb2); (try clear hk); (try clear hi); have hcz137_0 := sq_c0 BK401; have hcz137_1 := sq_c1 BK401; have hcz137_2 := sq_c2 BK401; have hfz137_0 := blk_frozen BK401.out 0; have hfz137_1 := blk_frozen BK401.out 1; have hfz137_2 := blk_frozen BK401.out 2; have hcz138_0 := sq_c0 BK383; have hcz138_1 := sq_c1 BK383; have hcz138_2 := sq_c2 BK383; have hfz138_0 := blk_frozen BK383.out 0; have hfz138_1 := blk_frozen BK383.out 1; have hfz138_2 := blk_frozen BK383.out 2) | (go_at_call 11; (with_reducible refine (ossuarylaw0_SameDisk.calls kj22 t393 _ _ t394 _ _ t397 t375 _ _ t376 _ _ t379 true _ ?side1 ?side2 ?side3 ?side4 ?side5 ?side6 ?side7 ?side8 A96.out).mono ?_); (case side1 => repeat (first | exact (Kd.R_reads' HO396.out).2.2 | (with_reducible refine Kd.C_alloc ?_ _) | (with_reducible refine Kd.C_drewN ?_ _) | (with_reducible refine Kd.C_drew ?_))); (case side2 => exact (Kd.R_reads' HO396.out).2.1); (case side3 => repeat (first | exact (Kd.R_reads' HO399.out).2.2 | (with_reducible refine Kd.C_alloc ?_ _) | (with_reducible refine Kd.C_drewN ?_ _) | (with_reducible refine Kd.C_drew ?_))); (case side4 => exact (Kd.R_reads' HO399.out).2.1); (case side5 => repeat (first | exact (Kd.R_reads' HO378.out).2.2 | (with_reducible refine Kd.C_alloc ?_ _) | (with_reducible refine Kd.C_drewN ?_ _) | (with_reducible refine Kd.C_drew ?_))); (case side6 => exact (Kd.R_reads' HO378.out).2.1); (case side7 => repeat (first | exact (Kd.R_reads' HO381.out).2.2 | (with_reducible refine Kd.C_alloc ?_ _) | (with_reducible refine Kd.C_drewN ?_ _) | (with_reducible refine Kd.C_drew ?_))); (case side8 => exact (Kd.R_reads' HO381.out).2.1); rintro e w139 ⟨rfl, hb⟩; (try replace hb := sq_un hb); have n0_ := sq_rb hb HO_331001; have n1_ := sq_rb hb HO_331002; have n2_ := sq_rb hb HO_340001; have n3_ := sq_rb hb HO_340002; have n4_ := sq_rb hb HO378; have n5_ := sq_rb hb HO381; have n6_ := sq_rb hb HO387; have n7_ := sq_rb hb HO390; have n8_ := sq_rb hb HO396; have n9_ := sq_rb hb HO399; have n10_ := sq_bk hb BK330; have n11_ := sq_bk hb BK339; have n12_ := sq_bk hb BK383; have n13_ := sq_bk hb BK392; have n14_ := sq_bk hb BK401; have n15_ := sq_st hb HB; clear HO_331001 HO_331002 HO_340001 HO_340002 HO378 HO381 HO387 HO390 HO396 HO399 BK330 BK339 BK383 BK392 BK401 HB; have HO_331001 := n0_; have HO_331002 := n1_; have HO_340001 := n2_; have HO_340002 := n3_; have HO378 := n4_; have HO381 := n5_; have HO387 := n6_; have HO390 := n7_; have HO396 := n8_; have HO399 := n9_; have BK330 := n10_; have BK339 := n11_; have BK383 := n12_; have BK392 := n13_; have BK401 := n14_; have HB := n15_; clear n0_ n1_ n2_ n3_ n4_ n5_ n6_ n7_ n8_ n9_ n10_ n11_ n12_ n13_ n14_ n15_; (try clear hb); (try clear hb2); (try clear hk); (try clear hi); have hcz140_0 := sq_c0 BK383; have hcz140_1 := sq_c1 BK383; have hcz140_2 := sq_c2 BK383; have hfz140_0 := blk_frozen BK383.out 0; have hfz140_1 := blk_frozen BK383.out 1; have hfz140_2 := blk_frozen BK383.out 2) | (go_at_call 11; (refine (ossuarylaw0_SameDisk.calls kj22 t375 _ _ t376 _ _ t379 false none 0 ([] : List ByteArray) none 0 ([] : List (S49)) t408 _ ?side1 ?side2 ?side3 ?side4 ?side5 ?side6 ?side7 ?side8 A98.out).mono ?_); (case side1 => repeat (first | exact (Kd.R_reads' HO378.out).2.2 | (with_reducible refine Kd.C_alloc ?_ _) | (with_reducible refine Kd.C_drewN ?_ _) | (with_reducible refine Kd.C_drew ?_))); (case side2 => exact (Kd.R_reads' HO378.out).2.1); (case side3 => repeat (first | exact (Kd.R_reads' HO381.out).2.2 | (with_reducible refine Kd.C_alloc ?_ _) | (with_reducible refine Kd.C_drewN ?_ _) | (with_reducible refine Kd.C_drew ?_))); (case side4 => exact (Kd.R_reads' HO381.out).2.1); (case side5 => exact Kd.C_nil _ _); (case side6 => exact Nat.le_refl _); (case side7 => exact Kd.C_nil _ _); (case side8 => exact Nat.le_refl _); rintro e w141 ⟨rfl, hb⟩; (try replace hb := sq_un hb); have n0_ := sq_rb hb HO_331001; have n1_ := sq_rb hb HO_331002; have n2_ := sq_rb hb HO_340001; have n3_ := sq_rb hb HO_340002; have n4_ := sq_rb hb HO378; have n5_ := sq_rb hb HO381; have n6_ := sq_rb hb HO387; have n7_ := sq_rb hb HO390; have n8_ := sq_rb hb HO396; have n9_ := sq_rb hb HO399; have n10_ := sq_bk hb BK330; have n11_ := sq_bk hb BK339; have n12_ := sq_bk hb BK383; have n13_ := sq_bk hb BK392; have n14_ := sq_bk hb BK401; have n15_ := sq_st hb HB; clear HO_331001 HO_331002 HO_340001 HO_340002 HO378 HO381 HO387 HO390 HO396 HO399 BK330 BK339 BK383 BK392 BK401 HB; have HO_331001 := n0_; have HO_331002 := n1_; have HO_340001 := n2_; have HO_340002 := n3_; have HO378 := n4_; have HO381 := n5_; have HO387 := n6_; have HO390 := n7_; have HO396 := n8_; have HO399 := n9_; have BK330 := n10_; have BK339 := n11_; have BK383 := n12_; have BK392 := n13_; have BK401 := n14_; have HB := n15_; clear n0_ n1_ n2_ n3_ n4_ n5_ n6_ n7_ n8_ n9_ n10_ n11_ n12_ n13_ n14_ n15_; (try clear hb); (try clear hb2); (try clear hk); (try clear hi)))
                go_ret
                exact ⟨by first | rfl | (simp [errW_none, errW_some] <;> rfl) | (simp [*, errW_none, errW_some] <;> rfl), by repeat (first | (with_reducible first | exact HB.out | apply below_alloc | apply pw_below_drewN | apply below_drew1 | refine below_set ?_ GE330.out | refine below_set ?_ GE339.out | refine below_set ?_ GE383.out | refine below_set ?_ GE392.out | refine below_set ?_ GE401.out) | exact HB.out)⟩
               ·
                replace c97 := Bool.eq_false_iff.mpr c97
                subst c97
                have H1 : (some false) = some r := by rw [if_neg (show ¬ (false = true) by decide)] at H; exact H
                clear H
                have H := H1
                clear H1
                exact absurd (Option.some.inj H) (by rw [HRT.out]; decide)
              ·
               replace c95 := Bool.eq_false_iff.mpr c95
               subst c95
               have H1 : (some false) = some r := by rw [if_neg (show ¬ (false = true) by decide)] at H; exact H
               clear H
               have H := H1
               clear H1
               exact absurd (Option.some.inj H) (by rw [HRT.out]; decide)
             ·
              replace c93 := Bool.eq_false_iff.mpr c93
              subst c93
              have H1 : (some false) = some r := by rw [if_neg (show ¬ (false = true) by decide)] at H; exact H
              clear H
              have H := H1
              clear H1
              exact absurd (Option.some.inj H) (by rw [HRT.out]; decide)
            ·
             rw [if_neg c91] at H
             have c91b0 : (t404 == 0) = false := beq_eq_false_iff_ne.mpr c91; have c91b1 : (t404 != 0) = true := bne_iff_ne.mpr c91
             exact absurd (Option.some.inj H) (by rw [HRT.out]; decide)
           ·
            rw [if_neg c89] at H
            have c89b0 : (t403 == 0) = false := beq_eq_false_iff_ne.mpr c89; have c89b1 : (t403 != 0) = true := bne_iff_ne.mpr c89
            exact absurd (Option.some.inj H) (by rw [HRT.out]; decide)
          ·
           rw [if_neg c87] at H
           have c87b0 : (t402 == 0) = false := beq_eq_false_iff_ne.mpr c87; have c87b1 : (t402 != 0) = true := bne_iff_ne.mpr c87
           exact absurd (Option.some.inj H) (by rw [HRT.out]; decide)
 ·
  replace c3 := Bool.eq_false_iff.mpr c3
  subst c3
  have H1 : (some false) = some r := by rw [if_neg (show ¬ (false = true) by decide)] at H; exact H
  clear H
  have H := H1
  clear H1
  exact absurd (Option.some.inj H) (by rw [HRT.out]; decide)

/-- THE ONE PURE STATEMENT of ossuarylaw13_DiskFlushes: yours. -/
def ossuarylaw13_DiskFlushes.Pure : Prop := ∀ (l0 : List Int), l0.length ≤ maxLen → l0.length * 8 ≤ 140737488351232 → (∀ x ∈ l0, (Lit.int .i64 x).wf = true) → ∃ k, ossuarylaw13_DiskFlushes.f k l0 = some true
theorem ossuarylaw13_DiskFlushes.walk (P : ossuarylaw13_DiskFlushes.Pure) (a0 : Option Addr) (len0 cap0 : Nat) (z0 : List Int) (w : World) (w0 : (a0 = none ∧ len0 = 0 ∧ cap0 = 0 ∧ z0 = []) ∨ ∃ x, a0 = some x ∧ len0 ≤ cap0 ∧ cap0 ≤ maxLen ∧ z0.length = cap0 ∧ (∀ i, i < z0.length → w.cell? (x.add i) = some (.int .i64 (z0.getD i 0))) ∧ ∀ n ∈ z0, (Lit.int .i64 n).wf = true) (y0 : len0 * 8 ≤ 140737488351232) :
  Calls Try.prog 3 #[.slice a0 len0 cap0] w fun e w' => e = .returned (.bool true) ∧ Below w.heap.size w w' := by
 obtain ⟨l0, rfl, hr0, hm0, hw0, hc0⟩ := ReadsInt.ofRowC w0
 obtain ⟨k, h⟩ := P l0 hm0 y0 hw0
 refine (ossuarylaw13_DiskFlushes.calls k _ _ l0 true w (Kd.C_of_reads (d := (0 : Int)) (h1 := fun _ => rfl) hr0) hc0 h).mono ?_
 rintro e w' ⟨rfl, hd⟩
 exact ⟨rfl, hd⟩

end Go.Proofs.Ytoloonnoobnafab.HDiskFlushes
