/- Lean functions for the Go functions that the law reaches, and proofs that the calls come to them: written by a program of this session. -/
import Derived.Test.YtgolnkankkegdaaHAuditMovedx0
import Derived.Test.YtgolnkankkegdaaHAuditMovedy0
import Derived.Test.YtgolnkankkegdaaHAuditMovedx7
import Derived.Test.YtgolnkankkegdaaVAuditsFour
import Derived.Test.YtgolnkankkegdaaVAuditsFootNe
import Derived.Test.YtgolnkankkegdaaVAuditsAt
import Derived.Test.YtgolnkankkegdaaVAuditsInv
import Derived.Test.YtgolnkankkegdaaVAuditsInvWords
namespace Go.Proofs.Ytgolnkankkegdaa.HAuditMoved
open Go.RowKit Go.Proofs.YtgolnkankkegdaaW.PrintWords Go.Proofs.YtgolnkankkegdaaW.PrintLast Go.Proofs.YtgolnkankkegdaaW.PrintMore
attribute [local go_sem] max2_int min2_int max_two min_two max_three min_three max_four min_four   -- for this text's walks alone
set_option linter.unusedVariables false
set_option linter.unusedSimpArgs false

/-! ### ossuaryref1_Depth: function 37 -/
def ossuaryref1_Depth.f : Nat → Int → Int → Option (Int)
  | 0, _, _ => none
  | k + 1, a0, a1 => if a0 = 1 then (some 0) else ((ossuaryref1_half.f k a0).bind fun t287 => (if a1 < t287 then ((ossuaryref1_Depth.f k t287 a1).bind fun t288 => (some (wrap64 (t288 + 1)))) else ((ossuaryref1_Depth.f k (wrap64 (a0 - t287)) (wrap64 (a1 - t287))).bind fun t289 => (some (wrap64 (t289 + 1))))))
theorem ossuaryref1_Depth.mono_l : ∀ k, (∀ y0 y1, LeO (ossuaryref1_Depth.f k y0 y1) (ossuaryref1_Depth.f (k + 1) y0 y1))
 | 0 => fun _ _ r h => by simp [ossuaryref1_Depth.f] at h
 | k + 1 => by
  have ih0 := ossuaryref1_Depth.mono_l k
  ·
   intro y0 y1
   unfold ossuaryref1_Depth.f
   repeat' first
   | (with_reducible exact ih0 _ _)
   | (with_reducible exact ossuaryref1_half.mono _ _)
   | (with_reducible exact LeO.refl _)
   | (with_reducible exact LeO.none _)
   | (with_reducible refine LeO.ite ?_ ?_)
   | (with_reducible refine LeO.bind ?_ (fun _ => ?_))
   | exact ih0 _ _
   | exact ossuaryref1_half.mono _ _
   | exact LeO.none _
   | refine LeO.ite ?_ ?_
   | refine LeO.bind ?_ (fun _ => ?_)
theorem ossuaryref1_Depth.mono : ∀ a0 a1 k, LeO (ossuaryref1_Depth.f k a0 a1) (ossuaryref1_Depth.f (k + 1) a0 a1) := by
 intro a0 a1 k
 have ih0 := ossuaryref1_Depth.mono_l k
 exact ih0 a0 a1
set_option maxHeartbeats 8000000 in
set_option maxRecDepth 100000 in
theorem ossuaryref1_Depth.calls (k : Nat) : ∀ (a0 : Int) (a1 : Int) (r : Int) (w : World) (h : ossuaryref1_Depth.f k a0 a1 = some r),
  Calls Try.prog 37 #[.int .i64 a0, .int .i64 a1] w fun e w' => e = .returned (.int .i64 r) ∧ Drawn0 w w' := by
 induction k using Nat.strongRecOn with
 | _ k ih =>
 intro a0 a1 r w h
 cases k with
 | zero => exact absurd h (by simp [ossuaryref1_Depth.f])
 | succ k =>
 simp only [ossuaryref1_Depth.f] at h
 have H : (if a0 = 1 then (some 0) else ((ossuaryref1_half.f k a0).bind fun t287 => (if a1 < t287 then ((ossuaryref1_Depth.f k t287 a1).bind fun t288 => (some (wrap64 (t288 + 1)))) else ((ossuaryref1_Depth.f k (wrap64 (a0 - t287)) (wrap64 (a1 - t287))).bind fun t289 => (some (wrap64 (t289 + 1))))))) = some r := h
 clear h
 by_cases c3 : a0 = 1
 ·
  rw [if_pos c3] at H
  have c3b0 : (a0 == 1) = true := beq_iff_eq.mpr c3; have c3b1 : (a0 != 1) = false := bne_eq_false_iff_eq.mpr c3; clear c3
  obtain rfl := Option.some.inj H
  go_enter Try.func37, Try.ntmps37
  go_wp2
  go_ret
  exact ⟨by first | rfl | (simp; done) | (simp [*]; done), by repeat (first | exact Drawn0.refl _ | apply Drawn0.step)⟩
 ·
  rw [if_neg c3] at H
  have c3b0 : (a0 == 1) = false := beq_eq_false_iff_ne.mpr c3; have c3b1 : (a0 != 1) = true := bne_iff_ne.mpr c3; replace H := Option.bind_eq_some_iff.mp H; obtain ⟨t287, A40, H⟩ := H
  replace H : (if a1 < t287 then ((ossuaryref1_Depth.f k t287 a1).bind fun t288 => (some (wrap64 (t288 + 1)))) else ((ossuaryref1_Depth.f k (wrap64 (a0 - t287)) (wrap64 (a1 - t287))).bind fun t289 => (some (wrap64 (t289 + 1))))) = some r := H
  have A4 := Aside0.mk A40; clear A40
  by_cases c5 : a1 < t287
  ·
   rw [if_pos c5] at H
   have c5b0 : decide (a1 < t287) = true := decide_eq_true c5; clear c5; replace H := Option.bind_eq_some_iff.mp H; obtain ⟨t288, A60, H⟩ := H
   replace H : (some (wrap64 (t288 + 1))) = some r := H
   have A6 := Aside0.mk A60; clear A60
   obtain rfl := Option.some.inj H
   go_enter Try.func37, Try.ntmps37
   go_wp2_with (first | ((with_reducible refine gate_callee (f := 54) rfl ?_); refine goesL_ (some 9) rfl rfl Try.func54 (by kernel_rfl) rfl #[.int .i64 a0] rfl (by (try simp only [List.map_toArray, List.map_cons, List.map_nil]); first | done | rfl | (simp only [List.length_drop, List.length_take]; rfl)) ?_; (with_reducible refine (ossuaryref1_half.calls k a0 t287 _ A4.out).mono ?_); rintro e w' ⟨rfl, ⟨nd, rfl⟩⟩; refine ⟨_, rfl, ?_⟩) | ((with_reducible refine gate_callee (f := 37) rfl ?_); refine goesL_ (some 15) rfl rfl Try.func37 (by kernel_rfl) rfl #[.int .i64 t287, .int .i64 a1] rfl (by (try simp only [List.map_toArray, List.map_cons, List.map_nil]); first | done | rfl | (simp only [List.length_drop, List.length_take]; rfl)) ?_; (with_reducible refine (ih k (by omega) t287 a1 t288 _ A6.out).mono ?_); rintro e w' ⟨rfl, ⟨nd, rfl⟩⟩; refine ⟨_, rfl, ?_⟩))
   go_ret
   exact ⟨by first | rfl | (simp; done) | (simp [*]; done), by repeat (first | exact Drawn0.refl _ | apply Drawn0.step)⟩
  ·
   rw [if_neg c5] at H
   have c5b0 : decide (a1 < t287) = false := decide_eq_false c5; clear c5; replace H := Option.bind_eq_some_iff.mp H; obtain ⟨t289, A70, H⟩ := H
   replace H : (some (wrap64 (t289 + 1))) = some r := H
   have A7 := Aside0.mk A70; clear A70
   obtain rfl := Option.some.inj H
   go_enter Try.func37, Try.ntmps37
   go_wp2_with (first | ((with_reducible refine gate_callee (f := 54) rfl ?_); refine goesL_ (some 9) rfl rfl Try.func54 (by kernel_rfl) rfl #[.int .i64 a0] rfl (by (try simp only [List.map_toArray, List.map_cons, List.map_nil]); first | done | rfl | (simp only [List.length_drop, List.length_take]; rfl)) ?_; (with_reducible refine (ossuaryref1_half.calls k a0 t287 _ A4.out).mono ?_); rintro e w' ⟨rfl, ⟨nd, rfl⟩⟩; refine ⟨_, rfl, ?_⟩) | ((with_reducible refine gate_callee (f := 37) rfl ?_); refine goesL_ (some 23) rfl rfl Try.func37 (by kernel_rfl) rfl #[.int .i64 (wrap64 (a0 - t287)), .int .i64 (wrap64 (a1 - t287))] rfl (by (try simp only [List.map_toArray, List.map_cons, List.map_nil]); first | done | rfl | (simp only [List.length_drop, List.length_take]; rfl)) ?_; (with_reducible refine (ih k (by omega) (wrap64 (a0 - t287)) (wrap64 (a1 - t287)) t289 _ A7.out).mono ?_); rintro e w' ⟨rfl, ⟨nd, rfl⟩⟩; refine ⟨_, rfl, ?_⟩))
   go_ret
   exact ⟨by first | rfl | (simp; done) | (simp [*]; done), by repeat (first | exact Drawn0.refl _ | apply Drawn0.step)⟩
/-! ### ossuaryref1_climb: function 38 -/
def ossuaryref1_climb.f : Nat → Int → Int → Int → List Int → Option (Int)
  | 0, _, _, _, _ => none
  | k + 1, a0, a1, a2, l3 => if a0 = 1 then (some a2) else ((ossuaryref1_half.f k a0).bind fun t290 => (if a1 < t290 then (if 0 ≤ (wrap64 ((l3.length : Int) - 1)) then (if (wrap64 ((l3.length : Int) - 1)) ≤ (l3.length : Int) then ((ossuaryref1_climb.f k t290 a1 a2 (l3.take ((wrap64 ((l3.length : Int) - 1)) : Int).toNat)).bind fun t292 => (if (wrap64 ((l3.length : Int) - 1)) < (l3.length : Int) then ((ossuaryref1_Pair.f t292 (rd l3 (wrap64 ((l3.length : Int) - 1)))).bind fun t294 => (some t294)) else (none))) else (none)) else (none)) else (if 0 ≤ (wrap64 ((l3.length : Int) - 1)) then (if (wrap64 ((l3.length : Int) - 1)) < (l3.length : Int) then (if (wrap64 ((l3.length : Int) - 1)) ≤ (l3.length : Int) then ((ossuaryref1_climb.f k (wrap64 (a0 - t290)) (wrap64 (a1 - t290)) a2 (l3.take ((wrap64 ((l3.length : Int) - 1)) : Int).toNat)).bind fun t297 => ((ossuaryref1_Pair.f (rd l3 (wrap64 ((l3.length : Int) - 1))) t297).bind fun t298 => (some t298))) else (none)) else (none)) else (none))))
theorem ossuaryref1_climb.mono_l : ∀ k, (∀ y0 y1 y2 y3, LeO (ossuaryref1_climb.f k y0 y1 y2 y3) (ossuaryref1_climb.f (k + 1) y0 y1 y2 y3))
 | 0 => fun _ _ _ _ r h => by simp [ossuaryref1_climb.f] at h
 | k + 1 => by
  have ih0 := ossuaryref1_climb.mono_l k
  ·
   intro y0 y1 y2 y3
   unfold ossuaryref1_climb.f
   repeat' first
   | (with_reducible exact ih0 _ _ _ _)
   | (with_reducible exact ossuaryref1_half.mono _ _)
   | (with_reducible exact LeO.refl _)
   | (with_reducible exact LeO.none _)
   | (with_reducible refine LeO.ite ?_ ?_)
   | (with_reducible refine LeO.bind ?_ (fun _ => ?_))
   | exact ih0 _ _ _ _
   | exact ossuaryref1_half.mono _ _
   | exact LeO.none _
   | refine LeO.ite ?_ ?_
   | refine LeO.bind ?_ (fun _ => ?_)
theorem ossuaryref1_climb.mono : ∀ a0 a1 a2 a3 k, LeO (ossuaryref1_climb.f k a0 a1 a2 a3) (ossuaryref1_climb.f (k + 1) a0 a1 a2 a3) := by
 intro a0 a1 a2 a3 k
 have ih0 := ossuaryref1_climb.mono_l k
 exact ih0 a0 a1 a2 a3
def ossuaryref1_climb.T6 : Bool × List (List Nat × List Nat) := (true, [([], []), ([], []), ([], []), ([], []), ([], []), ([3, 4], [3, 4]), ([0, 1, 2, 5], [0, 1, 2, 5]), ([], []), ([], []), ([7, 8], [7, 8]), ([9], [9]), ([6, 10, 6], [6, 10]), ([11, 11, 0, 1, 2, 3, 4, 5, 6, 7, 8, 9, 10, 11], [11])])
def ossuaryref1_climb.B6 : List Nat := [0, 0, 0, 0, 0, 24, 63, 0, 0, 384, 896, 2047, 4095]
theorem ossuaryref1_climb.tab6 : rtab .any (opsOf Try.f38 6) = ossuaryref1_climb.T6 := by kernel_rfl
theorem ossuaryref1_climb.bits6 : waitsOk ossuaryref1_climb.T6.2 ossuaryref1_climb.B6 = true := by kernel_rfl
def ossuaryref1_climb.T7 : Bool × List (List Nat × List Nat) := (true, [([], []), ([], []), ([0, 1], [0, 1]), ([2], [2]), ([], []), ([], []), ([4, 5], [4, 5]), ([], []), ([], []), ([7, 8], [7, 8]), ([], []), ([], []), ([], []), ([11, 12], [11, 12]), ([6, 9, 10, 13], [6, 9, 10, 13]), ([3, 14, 14], [3, 14]), ([15, 15, 0, 1, 2, 3, 4, 5, 6, 7, 8, 9, 10, 11, 12, 13, 14, 15], [15])])
def ossuaryref1_climb.B7 : List Nat := [0, 0, 3, 7, 0, 0, 48, 0, 0, 384, 0, 0, 0, 6144, 16368, 32767, 65535]
theorem ossuaryref1_climb.tab7 : rtab .any (opsOf Try.f38 7) = ossuaryref1_climb.T7 := by kernel_rfl
theorem ossuaryref1_climb.bits7 : waitsOk ossuaryref1_climb.T7.2 ossuaryref1_climb.B7 = true := by kernel_rfl
set_option maxHeartbeats 8000000 in
set_option maxRecDepth 100000 in
theorem ossuaryref1_climb.calls (k : Nat) : ∀ (a0 : Int) (a1 : Int) (a2 : Int) (A3 : Option Addr) (c3 : Nat) (l3 : List Int) (r : Int) (w : World) (hr3 : Kd.C (Kd.int .i64) w A3 l3.length l3) (hc3 : l3.length ≤ c3) (h : ossuaryref1_climb.f k a0 a1 a2 l3 = some r),
  Calls Try.prog 38 #[.int .i64 a0, .int .i64 a1, .int .i64 a2, .slice A3 l3.length c3] w fun e w' => e = .returned (.int .i64 r) ∧ Below w.heap.size w w' := by
 induction k using Nat.strongRecOn with
 | _ k ih =>
 intro a0 a1 a2 A3 c3 l3 r w hr3 hc3 h
 cases k with
 | zero => exact absurd h (by simp [ossuaryref1_climb.f])
 | succ k =>
 simp only [ossuaryref1_climb.f] at h
 have HR3 := Aside0.mk hr3; have HC3 := Aside0.mk hc3; clear hr3 hc3
 have HB := Aside0.mk (Below.refl w.heap.size w)
 have H : (if a0 = 1 then (some a2) else ((ossuaryref1_half.f k a0).bind fun t290 => (if a1 < t290 then (if 0 ≤ (wrap64 ((l3.length : Int) - 1)) then (if (wrap64 ((l3.length : Int) - 1)) ≤ (l3.length : Int) then ((ossuaryref1_climb.f k t290 a1 a2 (l3.take ((wrap64 ((l3.length : Int) - 1)) : Int).toNat)).bind fun t292 => (if (wrap64 ((l3.length : Int) - 1)) < (l3.length : Int) then ((ossuaryref1_Pair.f t292 (rd l3 (wrap64 ((l3.length : Int) - 1)))).bind fun t294 => (some t294)) else (none))) else (none)) else (none)) else (if 0 ≤ (wrap64 ((l3.length : Int) - 1)) then (if (wrap64 ((l3.length : Int) - 1)) < (l3.length : Int) then (if (wrap64 ((l3.length : Int) - 1)) ≤ (l3.length : Int) then ((ossuaryref1_climb.f k (wrap64 (a0 - t290)) (wrap64 (a1 - t290)) a2 (l3.take ((wrap64 ((l3.length : Int) - 1)) : Int).toNat)).bind fun t297 => ((ossuaryref1_Pair.f (rd l3 (wrap64 ((l3.length : Int) - 1))) t297).bind fun t298 => (some t298))) else (none)) else (none)) else (none))))) = some r := h
 clear h
 by_cases c5 : a0 = 1
 ·
  rw [if_pos c5] at H
  have c5b0 : (a0 == 1) = true := beq_iff_eq.mpr c5; have c5b1 : (a0 != 1) = false := bne_eq_false_iff_eq.mpr c5; clear c5
  obtain rfl := Option.some.inj H
  go_enter Try.func38, Try.ntmps38
  go_wp2
  go_ret
  exact ⟨by first | rfl | (simp [errW_none, errW_some] <;> rfl) | (simp [*, errW_none, errW_some] <;> rfl), by repeat (first | (with_reducible first | exact HB.out | apply below_alloc | apply pw_below_drewN | apply below_drew1) | exact HB.out)⟩
 ·
  rw [if_neg c5] at H
  have c5b0 : (a0 == 1) = false := beq_eq_false_iff_ne.mpr c5; have c5b1 : (a0 != 1) = true := bne_iff_ne.mpr c5; replace H := Option.bind_eq_some_iff.mp H; obtain ⟨t290, A60, H⟩ := H; (try dsimp only at H); have A6 := Aside0.mk A60; clear A60
  by_cases c7 : a1 < t290
  ·
   rw [if_pos c7] at H
   have c7b0 : decide (a1 < t290) = true := decide_eq_true c7; clear c7
   obtain ⟨ji8, hji8⟩ : ∃ j_ : Int, (wrap64 ((l3.length : Int) - 1)) = j_ := ⟨_, rfl⟩
   replace H : (if 0 ≤ (ji8) then (if (ji8) ≤ (l3.length : Int) then ((ossuaryref1_climb.f k t290 a1 a2 (l3.take ((ji8) : Int).toNat)).bind fun t292 => (if (ji8) < (l3.length : Int) then ((ossuaryref1_Pair.f t292 (rd l3 (ji8))).bind fun t294 => (some t294)) else (none))) else (none)) else (none)) = some r := by first | (rw [hji8] at H; exact H) | (simp only [hji8] at H ⊢; exact H)
   (try rw [hji8] at A6)
   have hji8w : (IntKind.i64.wrap ((l3.length : Int) - 1)) = ji8 := (i64_w _).trans hji8
   by_cases c9 : 0 ≤ (ji8)
   ·
    rw [if_pos c9] at H
    have c9b0 := eq_true c9; have c9b1 : decide (0 ≤ (ji8)) = true := decide_eq_true c9; clear c9
    by_cases c10 : (ji8) ≤ (l3.length : Int)
    ·
     rw [if_pos c10] at H
     have c10b0 := eq_true c10; have c10b1 : decide ((ji8) ≤ (l3.length : Int)) = true := decide_eq_true c10; clear c10; replace H := Option.bind_eq_some_iff.mp H; obtain ⟨t292, A110, H⟩ := H
     replace H : (if (ji8) < (l3.length : Int) then ((ossuaryref1_Pair.f t292 (rd l3 (ji8))).bind fun t294 => (some t294)) else (none)) = some r := H
     have A11 := Aside0.mk A110; clear A110
     by_cases c12 : (ji8) < (l3.length : Int)
     ·
      rw [if_pos c12] at H
      have c12b0 : decide ((ji8) < (l3.length : Int)) = true := decide_eq_true c12; clear c12; replace H := Option.bind_eq_some_iff.mp H; obtain ⟨t294, A130, H⟩ := H
      replace H : (some t294) = some r := H
      have A13 := Aside0.mk A130; clear A130
      obtain rfl := Option.some.inj H
      go_enter Try.func38, Try.ntmps38
      try go_wp2_with (first | ((with_reducible refine gate_callee (f := 54) rfl ?_); refine goesL_ (some 15) rfl rfl Try.func54 (by kernel_rfl) rfl #[.int .i64 a0] rfl (by (try simp only [List.map_toArray, List.map_cons, List.map_nil]); first | done | rfl | (simp only [List.length_drop, List.length_take]; rfl)) ?_; (with_reducible refine (ossuaryref1_half.calls k a0 t290 _ A6.out).mono ?_); rintro e w' ⟨rfl, ⟨nd, rfl⟩⟩; refine ⟨_, rfl, ?_⟩))
      have n0_ := Aside0.mk ((below_drew (pw_below_drewN HB.out nd))); clear HB; have HB := n0_; clear n0_
      obtain ⟨i015, hi015, _, hsz15, _⟩ := info_parts info3
      obtain ⟨hcut15, hA15, hC15⟩ := print_take_of (P := Try.prog) (Value.int .i64) 0 22 3 .i64 Try.underlying22 hi015 hsz15 A3 c3 l3 (ji8) (of_decide_eq_true (by first | (with_reducible assumption) | assumption)) (of_decide_eq_true (by first | (with_reducible assumption) | assumption)) HC3.out
      have HR291 := Aside0.mk (Kd.C_of_reads (h1 := fun _ => rfl) (hA15 _ (Kd.reads_of_C HR3.out)))
      have HC291 := Aside0.mk hC15; clear hA15 hC15 hi015 hsz15
      have p293 : 0 ≤ ((ji8) : Int) := of_decide_eq_true (by first | (with_reducible assumption) | assumption)
      have q293 : (ji8) < (l3.length : Int) := of_decide_eq_true (by first | (with_reducible assumption) | assumption)
      obtain ⟨ad293, e293, hx293_0⟩ := Kd.at_int HR3.out (ji8) p293 q293
      have hw293_0 := hx293_0
      cases e293
      replace hx293_0 := (HB.out.cell (World.block_lt_of_cell? w _ hx293_0)).trans hx293_0
      replace p293 := eq_true p293
      replace q293 := eq_true q293
      refine start_ (n := 13) (S := fun w' => w'.cell? (ad293.add ((ji8)).toNat) = some (.int .i64 (rd l3 (ji8)))) (ds := []) #[false, false, false, false, false, false, false, false, false, false, false, false, false] (by kernel_rfl) rfl rfl (((HB.out.cell (World.block_lt_of_cell? w _ hw293_0)).trans hw293_0)) (fun hHeld => ?_); refine with_tabW ossuaryref1_climb.tab6 ossuaryref1_climb.bits6 (fun HT_ HW_ => ?_)
      generalize (w.drewN nd).drew = w14 at HB HR291 hx293_0 hHeld ⊢
      refine sq_p (i := 0) (N := some 22) (v := ?_) (a' := ?_) HT_ rfl rfl (by kernel_rfl) (fun _ _ _ h => h) (Or.inl ⟨by rfl, ?_⟩) ?_ ?_
      rotate_left; (intro w'; go_simp; with_reducible rfl); rotate_left; (simp only [Act.put, sq_sl, i64_w, i32_w]; rfl)
      refine sq_p (i := 1) (N := some 23) (v := ?_) (a' := ?_) HT_ rfl rfl (by kernel_rfl) (fun _ _ _ h => h) (Or.inl ⟨by rfl, ?_⟩) ?_ ?_
      rotate_left; (intro w'; go_simp; with_reducible rfl); rotate_left; (simp only [Act.put, sq_sl, i64_w, i32_w]; rfl)
      refine sq_p (i := 2) (N := some 24) (v := ?_) (a' := ?_) HT_ rfl rfl (by kernel_rfl) (fun _ _ _ h => h) (Or.inl ⟨by rfl, ?_⟩) ?_ ?_
      rotate_left; (intro w'; go_simp; with_reducible rfl); rotate_left; (simp only [Act.put, sq_sl, i64_w, i32_w]; rfl)
      refine sq_p (i := 3) (N := some 25) (v := ?_) (a' := ?_) HT_ rfl rfl (by kernel_rfl) (fun _ _ _ h => h) (Or.inl ⟨by rfl, ?_⟩) ?_ ?_
      rotate_left; (intro w'; go_simp; with_reducible rfl); rotate_left; (simp only [Act.put, sq_sl, i64_w, i32_w]; rfl)
      refine sq_p (i := 4) (N := some 26) (v := ?_) (a' := ?_) HT_ rfl rfl (by kernel_rfl) (fun _ _ _ h => h) (Or.inl ⟨by rfl, ?_⟩) ?_ ?_
      rotate_left; (intro w'; go_simp; with_reducible rfl); rotate_left; (simp only [Act.put, sq_sl, i64_w, i32_w]; rfl)
      refine sq_p (i := 5) (N := some 27) (v := ?_) (a' := ?_) HT_ rfl rfl (by kernel_rfl) (fun _ _ _ h => h) (Or.inl ⟨by rfl, ?_⟩) ?_ ?_
      rotate_left; (intro w'; go_simp; with_reducible rfl); rotate_left; (simp only [Act.put, sq_sl, i64_w, i32_w]; rfl)
      refine sq_p (i := 7) (N := some 29) (v := ?_) (a' := ?_) HT_ rfl rfl (by kernel_rfl) (fun _ _ _ h => h) (Or.inl ⟨by rfl, ?_⟩) ?_ ?_
      rotate_left; (intro w'; go_simp; with_reducible rfl); rotate_left; (simp only [Act.put, sq_sl, i64_w, i32_w]; rfl)
      refine sq_p (i := 8) (N := some 30) (v := ?_) (a' := ?_) HT_ rfl rfl (by kernel_rfl) (fun _ _ _ h => h) (Or.inl ⟨by rfl, ?_⟩) ?_ ?_
      rotate_left; (intro w'; go_simp; with_reducible rfl); rotate_left; (simp only [Act.put, sq_sl, i64_w, i32_w]; rfl)
      refine sq_p (i := 9) (N := some 31) (v := ?_) (a' := ?_) HT_ rfl rfl (by kernel_rfl) (fun _ _ _ h => h) (Or.inl ⟨by rfl, ?_⟩) ?_ ?_
      rotate_left; (intro w'; go_simp; with_reducible rfl); rotate_left; (simp only [Act.put, sq_sl, i64_w, i32_w]; rfl)
      refine sq_t (i := 10) (N := some 32) (v := ?_) (a' := ?_) HT_ HW_ rfl rfl (by kernel_rfl) (fun _ _ _ h => h) (Or.inl ⟨by rfl, ?_⟩) hHeld ?_ ?_
      rotate_left
      ·
       intro w' s0
       go_simp
       with_reducible rfl
      rotate_left
      ·
       simp only [Act.put, List.setIfInBounds_toArray, List.set_cons_zero, List.set_cons_succ, i64_w, i32_w]
       rfl
      refine one_ (i := 6) (N := some 28) #[true, true, true, true, true, true, true, true, true, true, true, false, false] rfl rfl (one_of HT_.out (by kernel_rfl)) (by decide) (fun K hK => ?_)
      refine goes_ Try.func38 (by kernel_rfl) rfl #[.int .i64 t290, .int .i64 a1, .int .i64 a2, .slice (some ad293) (l3.take ((ji8) : Int).toNat).length c3] (by rfl) rfl rfl (by (try simp only [List.map_toArray, List.map_cons, List.map_nil]); first | done | (rw [show (l3.take ((ji8) : Int).toNat).length = (ji8).toNat from (by rw [List.length_take]; have h_ : ((ji8) : Int) ≤ (l3.length : Int) := of_decide_eq_true (by first | (with_reducible assumption) | assumption); omega)] <;> rfl) | (simp only [hji8]; rfl) | rfl | (simp only [List.length_drop, List.length_take]; rfl)) ?_
      with_reducible refine (ih k (by omega) t290 a1 a2 _ _ (l3.take ((ji8) : Int).toNat) t292 _ ?side1 ?side2 A11.out).mono ?_
      (case side1 => repeat (first | exact (Kd.C_below HR291.out HB.out) | (with_reducible refine Kd.C_alloc ?_ _) | (with_reducible refine Kd.C_drewN ?_ _) | (with_reducible refine Kd.C_drew ?_)))
      (case side2 => exact HC291.out)
      rintro e w16 ⟨rfl, hb⟩
      refine ⟨_, rfl, ?_⟩
      (repeat replace hb := sq_un hb); have n0_ := sq_st hb HB; clear HB; have HB := n0_; clear n0_
      (try clear hb)
      (try clear hb2)
      (try clear hk)
      (try clear hi)
      refine hK.out _ _ (((HB.out.cell (World.block_lt_of_cell? w _ hw293_0)).trans hw293_0)) (fun hHeld => ?_)
      clear hK K
      refine norm_ (a' := ?_) ?_ ?_
      rotate_left
      ·
       show Act.put _ (some 28) _ = _
       simp only [Act.put, List.setIfInBounds_toArray, List.set_cons_zero, List.set_cons_succ, i64_w, i32_w]
       rfl
      refine one_ (i := 11) (N := some 33) #[true, true, true, true, true, true, true, true, true, true, true, true, false] rfl rfl (one_of HT_.out (by kernel_rfl)) (by decide) (fun K hK => ?_)
      refine goes_ Try.func22 (by kernel_rfl) rfl #[.int .i64 t292, .int .i64 (rd l3 (ji8))] (by rfl) rfl rfl (by (try simp only [List.map_toArray, List.map_cons, List.map_nil]); first | done | (simp only [hji8]; rfl) | rfl | (simp only [List.length_drop, List.length_take]; rfl)) ?_
      with_reducible refine (ossuaryref1_Pair.calls t292 (rd l3 (ji8)) t294 _ A13.out).mono ?_
      rintro e w' ⟨rfl, ⟨nd, rfl⟩⟩
      refine ⟨_, rfl, ?_⟩
      refine hK.out _ _ (((HB.out.cell (World.block_lt_of_cell? w _ hw293_0)).trans hw293_0)) (fun hHeld => ?_)
      clear hK K
      refine norm_ (a' := ?_) ?_ ?_
      rotate_left
      ·
       show Act.put _ (some 33) _ = _
       simp only [Act.put, List.setIfInBounds_toArray, List.set_cons_zero, List.set_cons_succ, i64_w, i32_w]
       rfl
      refine sq_p (i := 12) (N := some 8) (v := ?_) (a' := ?_) HT_ rfl rfl (by kernel_rfl) (fun _ _ _ h => h) (Or.inl ⟨by rfl, ?_⟩) ?_ ?_
      rotate_left; (intro w'; go_simp; with_reducible rfl); rotate_left; (simp only [Act.put, sq_sl, i64_w, i32_w]; rfl)
      refine done_ (done_of HT_.out (by kernel_rfl)) ?_
      try go_wp2
      go_ret
      exact ⟨by first | rfl | (simp [errW_none, errW_some] <;> rfl) | (simp only [← hji8]; first | rfl | (simp [errW_none, errW_some] <;> rfl)) | (simp [*, errW_none, errW_some] <;> rfl), by repeat (first | (with_reducible first | exact HB.out | apply below_alloc | apply pw_below_drewN | apply below_drew1) | exact HB.out)⟩
     ·
      rw [if_neg c12] at H
      exact absurd H (by simp)
    ·
     rw [if_neg c10] at H
     exact absurd H (by simp)
   ·
    rw [if_neg c9] at H
    exact absurd H (by simp)
  ·
   rw [if_neg c7] at H
   have c7b0 : decide (a1 < t290) = false := decide_eq_false c7; clear c7
   obtain ⟨ji17, hji17⟩ : ∃ j_ : Int, (wrap64 ((l3.length : Int) - 1)) = j_ := ⟨_, rfl⟩
   replace H : (if 0 ≤ (ji17) then (if (ji17) < (l3.length : Int) then (if (ji17) ≤ (l3.length : Int) then ((ossuaryref1_climb.f k (wrap64 (a0 - t290)) (wrap64 (a1 - t290)) a2 (l3.take ((ji17) : Int).toNat)).bind fun t297 => ((ossuaryref1_Pair.f (rd l3 (ji17)) t297).bind fun t298 => (some t298))) else (none)) else (none)) else (none)) = some r := by first | (rw [hji17] at H; exact H) | (simp only [hji17] at H ⊢; exact H)
   (try rw [hji17] at A6)
   have hji17w : (IntKind.i64.wrap ((l3.length : Int) - 1)) = ji17 := (i64_w _).trans hji17
   by_cases c18 : 0 ≤ (ji17)
   ·
    rw [if_pos c18] at H
    have c18b0 : decide (0 ≤ (ji17)) = true := decide_eq_true c18; clear c18
    by_cases c19 : (ji17) < (l3.length : Int)
    ·
     rw [if_pos c19] at H
     have c19b0 : decide ((ji17) < (l3.length : Int)) = true := decide_eq_true c19; clear c19
     have c20b0 := eq_true (of_decide_eq_true (by first | (with_reducible assumption) | assumption) : 0 ≤ (ji17))
     by_cases c21 : (ji17) ≤ (l3.length : Int)
     ·
      rw [if_pos c21] at H
      have c21b0 := eq_true c21; have c21b1 : decide ((ji17) ≤ (l3.length : Int)) = true := decide_eq_true c21; clear c21; replace H := Option.bind_eq_some_iff.mp H; obtain ⟨t297, A220, H⟩ := H
      replace H : ((ossuaryref1_Pair.f (rd l3 (ji17)) t297).bind fun t298 => (some t298)) = some r := H
      have A22 := Aside0.mk A220; clear A220; replace H := Option.bind_eq_some_iff.mp H; obtain ⟨t298, A230, H⟩ := H
      replace H : (some t298) = some r := H
      have A23 := Aside0.mk A230; clear A230
      obtain rfl := Option.some.inj H
      go_enter Try.func38, Try.ntmps38
      try go_wp2_with (first | ((with_reducible refine gate_callee (f := 54) rfl ?_); refine goesL_ (some 15) rfl rfl Try.func54 (by kernel_rfl) rfl #[.int .i64 a0] rfl (by (try simp only [List.map_toArray, List.map_cons, List.map_nil]); first | done | rfl | (simp only [List.length_drop, List.length_take]; rfl)) ?_; (with_reducible refine (ossuaryref1_half.calls k a0 t290 _ A6.out).mono ?_); rintro e w' ⟨rfl, ⟨nd, rfl⟩⟩; refine ⟨_, rfl, ?_⟩))
      have n0_ := Aside0.mk ((below_drew (pw_below_drewN HB.out nd))); clear HB; have HB := n0_; clear n0_
      have p295 : 0 ≤ ((ji17) : Int) := of_decide_eq_true (by first | (with_reducible assumption) | assumption)
      have q295 : (ji17) < (l3.length : Int) := of_decide_eq_true (by first | (with_reducible assumption) | assumption)
      obtain ⟨ad295, e295, hx295_0⟩ := Kd.at_int HR3.out (ji17) p295 q295
      have hw295_0 := hx295_0
      cases e295
      replace hx295_0 := (HB.out.cell (World.block_lt_of_cell? w _ hx295_0)).trans hx295_0
      replace p295 := eq_true p295
      replace q295 := eq_true q295
      obtain ⟨i025, hi025, _, hsz25, _⟩ := info_parts info3
      obtain ⟨hcut25, hA25, hC25⟩ := print_take_of (P := Try.prog) (Value.int .i64) 0 22 3 .i64 Try.underlying22 hi025 hsz25 (some ad295) c3 l3 (ji17) (of_decide_eq_true (by first | (with_reducible assumption) | assumption)) (of_decide_eq_true (by first | (with_reducible assumption) | assumption)) HC3.out
      have HR296 := Aside0.mk (Kd.C_of_reads (h1 := fun _ => rfl) (hA25 _ (Kd.reads_of_C HR3.out)))
      have HC296 := Aside0.mk hC25; clear hA25 hC25 hi025 hsz25
      refine start_ (n := 17) (S := fun w' => w'.cell? (ad295.add ((ji17)).toNat) = some (.int .i64 (rd l3 (ji17)))) (ds := []) #[false, false, false, false, false, false, false, false, false, false, false, false, false, false, false, false, false] (by kernel_rfl) rfl rfl (((HB.out.cell (World.block_lt_of_cell? w _ hw295_0)).trans hw295_0)) (fun hHeld => ?_); refine with_tabW ossuaryref1_climb.tab7 ossuaryref1_climb.bits7 (fun HT_ HW_ => ?_)
      generalize (w.drewN nd).drew = w24 at HB HR296 hx295_0 hHeld ⊢
      refine sq_p (i := 0) (N := some 34) (v := ?_) (a' := ?_) HT_ rfl rfl (by kernel_rfl) (fun _ _ _ h => h) (Or.inl ⟨by rfl, ?_⟩) ?_ ?_
      rotate_left; (intro w'; go_simp; with_reducible rfl); rotate_left; (simp only [Act.put, sq_sl, i64_w, i32_w]; rfl)
      refine sq_p (i := 1) (N := some 35) (v := ?_) (a' := ?_) HT_ rfl rfl (by kernel_rfl) (fun _ _ _ h => h) (Or.inl ⟨by rfl, ?_⟩) ?_ ?_
      rotate_left; (intro w'; go_simp; with_reducible rfl); rotate_left; (simp only [Act.put, sq_sl, i64_w, i32_w]; rfl)
      refine sq_p (i := 2) (N := some 36) (v := ?_) (a' := ?_) HT_ rfl rfl (by kernel_rfl) (fun _ _ _ h => h) (Or.inl ⟨by rfl, ?_⟩) ?_ ?_
      rotate_left; (intro w'; go_simp; with_reducible rfl); rotate_left; (simp only [Act.put, sq_sl, i64_w, i32_w]; rfl)
      refine sq_p (i := 4) (N := some 38) (v := ?_) (a' := ?_) HT_ rfl rfl (by kernel_rfl) (fun _ _ _ h => h) (Or.inl ⟨by rfl, ?_⟩) ?_ ?_
      rotate_left; (intro w'; go_simp; with_reducible rfl); rotate_left; (simp only [Act.put, sq_sl, i64_w, i32_w]; rfl)
      refine sq_p (i := 5) (N := some 39) (v := ?_) (a' := ?_) HT_ rfl rfl (by kernel_rfl) (fun _ _ _ h => h) (Or.inl ⟨by rfl, ?_⟩) ?_ ?_
      rotate_left; (intro w'; go_simp; with_reducible rfl); rotate_left; (simp only [Act.put, sq_sl, i64_w, i32_w]; rfl)
      refine sq_p (i := 6) (N := some 40) (v := ?_) (a' := ?_) HT_ rfl rfl (by kernel_rfl) (fun _ _ _ h => h) (Or.inl ⟨by rfl, ?_⟩) ?_ ?_
      rotate_left; (intro w'; go_simp; with_reducible rfl); rotate_left; (simp only [Act.put, sq_sl, i64_w, i32_w]; rfl)
      refine sq_p (i := 7) (N := some 41) (v := ?_) (a' := ?_) HT_ rfl rfl (by kernel_rfl) (fun _ _ _ h => h) (Or.inl ⟨by rfl, ?_⟩) ?_ ?_
      rotate_left; (intro w'; go_simp; with_reducible rfl); rotate_left; (simp only [Act.put, sq_sl, i64_w, i32_w]; rfl)
      refine sq_p (i := 8) (N := some 42) (v := ?_) (a' := ?_) HT_ rfl rfl (by kernel_rfl) (fun _ _ _ h => h) (Or.inl ⟨by rfl, ?_⟩) ?_ ?_
      rotate_left; (intro w'; go_simp; with_reducible rfl); rotate_left; (simp only [Act.put, sq_sl, i64_w, i32_w]; rfl)
      refine sq_p (i := 9) (N := some 43) (v := ?_) (a' := ?_) HT_ rfl rfl (by kernel_rfl) (fun _ _ _ h => h) (Or.inl ⟨by rfl, ?_⟩) ?_ ?_
      rotate_left; (intro w'; go_simp; with_reducible rfl); rotate_left; (simp only [Act.put, sq_sl, i64_w, i32_w]; rfl)
      refine sq_p (i := 10) (N := some 44) (v := ?_) (a' := ?_) HT_ rfl rfl (by kernel_rfl) (fun _ _ _ h => h) (Or.inl ⟨by rfl, ?_⟩) ?_ ?_
      rotate_left; (intro w'; go_simp; with_reducible rfl); rotate_left; (simp only [Act.put, sq_sl, i64_w, i32_w]; rfl)
      refine sq_p (i := 11) (N := some 45) (v := ?_) (a' := ?_) HT_ rfl rfl (by kernel_rfl) (fun _ _ _ h => h) (Or.inl ⟨by rfl, ?_⟩) ?_ ?_
      rotate_left; (intro w'; go_simp; with_reducible rfl); rotate_left; (simp only [Act.put, sq_sl, i64_w, i32_w]; rfl)
      refine sq_p (i := 12) (N := some 46) (v := ?_) (a' := ?_) HT_ rfl rfl (by kernel_rfl) (fun _ _ _ h => h) (Or.inl ⟨by rfl, ?_⟩) ?_ ?_
      rotate_left; (intro w'; go_simp; with_reducible rfl); rotate_left; (simp only [Act.put, sq_sl, i64_w, i32_w]; rfl)
      refine sq_p (i := 13) (N := some 47) (v := ?_) (a' := ?_) HT_ rfl rfl (by kernel_rfl) (fun _ _ _ h => h) (Or.inl ⟨by rfl, ?_⟩) ?_ ?_
      rotate_left; (intro w'; go_simp; with_reducible rfl); rotate_left; (simp only [Act.put, sq_sl, i64_w, i32_w]; rfl)
      refine sq_t (i := 3) (N := some 37) (v := ?_) (a' := ?_) HT_ HW_ rfl rfl (by kernel_rfl) (fun _ _ _ h => h) (Or.inl ⟨by rfl, ?_⟩) hHeld ?_ ?_
      rotate_left
      ·
       intro w' s0
       go_simp
       with_reducible rfl
      rotate_left
      ·
       simp only [Act.put, List.setIfInBounds_toArray, List.set_cons_zero, List.set_cons_succ, i64_w, i32_w]
       rfl
      refine one_ (i := 14) (N := some 48) #[true, true, true, true, true, true, true, true, true, true, true, true, true, true, true, false, false] rfl rfl (one_of HT_.out (by kernel_rfl)) (by decide) (fun K hK => ?_)
      refine goes_ Try.func38 (by kernel_rfl) rfl #[.int .i64 (wrap64 (a0 - t290)), .int .i64 (wrap64 (a1 - t290)), .int .i64 a2, .slice (some ad295) (l3.take ((ji17) : Int).toNat).length c3] (by rfl) rfl rfl (by (try simp only [List.map_toArray, List.map_cons, List.map_nil]); first | done | (rw [show (l3.take ((ji17) : Int).toNat).length = (ji17).toNat from (by rw [List.length_take]; have h_ : ((ji17) : Int) ≤ (l3.length : Int) := of_decide_eq_true (by first | (with_reducible assumption) | assumption); omega)] <;> rfl) | (simp only [hji17]; rfl) | rfl | (simp only [List.length_drop, List.length_take]; rfl)) ?_
      with_reducible refine (ih k (by omega) (wrap64 (a0 - t290)) (wrap64 (a1 - t290)) a2 _ _ (l3.take ((ji17) : Int).toNat) t297 _ ?side1 ?side2 A22.out).mono ?_
      (case side1 => repeat (first | exact (Kd.C_below HR296.out HB.out) | (with_reducible refine Kd.C_alloc ?_ _) | (with_reducible refine Kd.C_drewN ?_ _) | (with_reducible refine Kd.C_drew ?_)))
      (case side2 => exact HC296.out)
      rintro e w26 ⟨rfl, hb⟩
      refine ⟨_, rfl, ?_⟩
      (repeat replace hb := sq_un hb); have n0_ := sq_st hb HB; clear HB; have HB := n0_; clear n0_
      (try clear hb)
      (try clear hb2)
      (try clear hk)
      (try clear hi)
      refine hK.out _ _ (((HB.out.cell (World.block_lt_of_cell? w _ hw295_0)).trans hw295_0)) (fun hHeld => ?_)
      clear hK K
      refine norm_ (a' := ?_) ?_ ?_
      rotate_left
      ·
       show Act.put _ (some 48) _ = _
       simp only [Act.put, List.setIfInBounds_toArray, List.set_cons_zero, List.set_cons_succ, i64_w, i32_w]
       rfl
      refine one_ (i := 15) (N := some 49) #[true, true, true, true, true, true, true, true, true, true, true, true, true, true, true, true, false] rfl rfl (one_of HT_.out (by kernel_rfl)) (by decide) (fun K hK => ?_)
      refine goes_ Try.func22 (by kernel_rfl) rfl #[.int .i64 (rd l3 (ji17)), .int .i64 t297] (by rfl) rfl rfl (by (try simp only [List.map_toArray, List.map_cons, List.map_nil]); first | done | (simp only [hji17]; rfl) | rfl | (simp only [List.length_drop, List.length_take]; rfl)) ?_
      with_reducible refine (ossuaryref1_Pair.calls (rd l3 (ji17)) t297 t298 _ A23.out).mono ?_
      rintro e w' ⟨rfl, ⟨nd, rfl⟩⟩
      refine ⟨_, rfl, ?_⟩
      refine hK.out _ _ (((HB.out.cell (World.block_lt_of_cell? w _ hw295_0)).trans hw295_0)) (fun hHeld => ?_)
      clear hK K
      refine norm_ (a' := ?_) ?_ ?_
      rotate_left
      ·
       show Act.put _ (some 49) _ = _
       simp only [Act.put, List.setIfInBounds_toArray, List.set_cons_zero, List.set_cons_succ, i64_w, i32_w]
       rfl
      refine sq_p (i := 16) (N := some 8) (v := ?_) (a' := ?_) HT_ rfl rfl (by kernel_rfl) (fun _ _ _ h => h) (Or.inl ⟨by rfl, ?_⟩) ?_ ?_
      rotate_left; (intro w'; go_simp; with_reducible rfl); rotate_left; (simp only [Act.put, sq_sl, i64_w, i32_w]; rfl)
      refine done_ (done_of HT_.out (by kernel_rfl)) ?_
      try go_wp2
      go_ret
      exact ⟨by first | rfl | (simp [errW_none, errW_some] <;> rfl) | (simp only [← hji17]; first | rfl | (simp [errW_none, errW_some] <;> rfl)) | (simp [*, errW_none, errW_some] <;> rfl), by repeat (first | (with_reducible first | exact HB.out | apply below_alloc | apply pw_below_drewN | apply below_drew1) | exact HB.out)⟩
     ·
      rw [if_neg c21] at H
      exact absurd H (by simp)
    ·
     rw [if_neg c19] at H
     exact absurd H (by simp)
   ·
    rw [if_neg c18] at H
    exact absurd H (by simp)
/-! ### ossuaryref1_CheckPath: function 39 -/
def ossuaryref1_CheckPath.f (k : Nat) (a0 : Int) (a1 : Int) (a2 : Int) (a3 : Int) (l4 : List Int) : Option (Bool) := if a1 < 1 then (some false) else (if a1 > 64 then (some false) else (if a2 < 0 then (some false) else (if a2 ≥ a1 then (some false) else ((ossuaryref1_SealNum.f a3).bind fun t299 => (if t299 = true then ((ossuaryref1_SealNums.f k l4 64).bind fun t300 => (if t300 = true then ((ossuaryref1_Depth.f k a1 a2).bind fun t301 => (if (l4.length : Int) = t301 then ((ossuaryref1_climb.f k a1 a2 a3 l4).bind fun t302 => (some (t302 == a0))) else (some false))) else (some false))) else (some false))))))
theorem ossuaryref1_CheckPath.mono : ∀ a0 a1 a2 a3 a4 k, LeO (ossuaryref1_CheckPath.f k a0 a1 a2 a3 a4) (ossuaryref1_CheckPath.f (k + 1) a0 a1 a2 a3 a4) := by
 intro a0 a1 a2 a3 a4 k
 unfold ossuaryref1_CheckPath.f
 repeat' first
   | (with_reducible exact ossuaryref1_Depth.mono _ _ _)
   | (with_reducible exact ossuaryref1_SealNums.mono _ _ _)
   | (with_reducible exact ossuaryref1_climb.mono _ _ _ _ _)
   | (with_reducible exact LeO.refl _)
   | (with_reducible exact LeO.none _)
   | (with_reducible refine LeO.ite ?_ ?_)
   | (with_reducible refine LeO.bind ?_ (fun _ => ?_))
   | exact ossuaryref1_Depth.mono _ _ _
   | exact ossuaryref1_SealNums.mono _ _ _
   | exact ossuaryref1_climb.mono _ _ _ _ _
   | exact LeO.none _
   | refine LeO.ite ?_ ?_
   | refine LeO.bind ?_ (fun _ => ?_)
set_option maxHeartbeats 8000000 in
set_option maxRecDepth 100000 in
theorem ossuaryref1_CheckPath.calls (k : Nat) (a0 : Int) (a1 : Int) (a2 : Int) (a3 : Int) (A4 : Option Addr) (c4 : Nat) (l4 : List Int) (r : Bool) (w : World) (hr4 : Kd.C (Kd.int .i64) w A4 l4.length l4) (hc4 : l4.length ≤ c4) (h : ossuaryref1_CheckPath.f k a0 a1 a2 a3 l4 = some r) :
  Calls Try.prog 39 #[.int .i64 a0, .int .i64 a1, .int .i64 a2, .int .i64 a3, .slice A4 l4.length c4] w fun e w' => e = .returned (.bool r) ∧ Below w.heap.size w w' := by
 have HR4 := Aside0.mk hr4; have HC4 := Aside0.mk hc4; clear hr4 hc4
 have HB := Aside0.mk (Below.refl w.heap.size w)
 have H : (if a1 < 1 then (some false) else (if a1 > 64 then (some false) else (if a2 < 0 then (some false) else (if a2 ≥ a1 then (some false) else ((ossuaryref1_SealNum.f a3).bind fun t299 => (if t299 = true then ((ossuaryref1_SealNums.f k l4 64).bind fun t300 => (if t300 = true then ((ossuaryref1_Depth.f k a1 a2).bind fun t301 => (if (l4.length : Int) = t301 then ((ossuaryref1_climb.f k a1 a2 a3 l4).bind fun t302 => (some (t302 == a0))) else (some false))) else (some false))) else (some false))))))) = some r := h
 clear h
 by_cases c6 : a1 < 1
 ·
  rw [if_pos c6] at H
  have c6b0 : decide (a1 < 1) = true := decide_eq_true c6; clear c6
  obtain rfl := Option.some.inj H
  go_enter Try.func39, Try.ntmps39
  go_wp2
  go_ret
  exact ⟨by first | rfl | (simp [errW_none, errW_some] <;> rfl) | (simp [*, errW_none, errW_some] <;> rfl), by repeat (first | (with_reducible first | exact HB.out | apply below_alloc | apply pw_below_drewN | apply below_drew1) | exact HB.out)⟩
 ·
  rw [if_neg c6] at H
  have c6b0 : decide (a1 < 1) = false := decide_eq_false c6; clear c6
  by_cases c7 : a1 > 64
  ·
   rw [if_pos c7] at H
   have c7b0 : decide (64 < a1) = true := decide_eq_true c7; clear c7
   obtain rfl := Option.some.inj H
   go_enter Try.func39, Try.ntmps39
   go_wp2
   go_ret
   exact ⟨by first | rfl | (simp [errW_none, errW_some] <;> rfl) | (simp [*, errW_none, errW_some] <;> rfl), by repeat (first | (with_reducible first | exact HB.out | apply below_alloc | apply pw_below_drewN | apply below_drew1) | exact HB.out)⟩
  ·
   rw [if_neg c7] at H
   have c7b0 : decide (64 < a1) = false := decide_eq_false c7; clear c7
   by_cases c8 : a2 < 0
   ·
    rw [if_pos c8] at H
    have c8b0 : decide (a2 < 0) = true := decide_eq_true c8; clear c8
    obtain rfl := Option.some.inj H
    go_enter Try.func39, Try.ntmps39
    go_wp2
    go_ret
    exact ⟨by first | rfl | (simp [errW_none, errW_some] <;> rfl) | (simp [*, errW_none, errW_some] <;> rfl), by repeat (first | (with_reducible first | exact HB.out | apply below_alloc | apply pw_below_drewN | apply below_drew1) | exact HB.out)⟩
   ·
    rw [if_neg c8] at H
    have c8b0 : decide (a2 < 0) = false := decide_eq_false c8; clear c8
    by_cases c9 : a2 ≥ a1
    ·
     rw [if_pos c9] at H
     have c9b0 : decide (a1 ≤ a2) = true := decide_eq_true c9; clear c9
     obtain rfl := Option.some.inj H
     go_enter Try.func39, Try.ntmps39
     go_wp2
     go_ret
     exact ⟨by first | rfl | (simp [errW_none, errW_some] <;> rfl) | (simp [*, errW_none, errW_some] <;> rfl), by repeat (first | (with_reducible first | exact HB.out | apply below_alloc | apply pw_below_drewN | apply below_drew1) | exact HB.out)⟩
    ·
     rw [if_neg c9] at H
     have c9b0 : decide (a1 ≤ a2) = false := decide_eq_false c9; clear c9; replace H := Option.bind_eq_some_iff.mp H; obtain ⟨t299, A100, H⟩ := H; (try dsimp only at H); have A10 := Aside0.mk A100; clear A100
     by_cases c11 : t299 = true
     ·
      subst c11
      have H1 : ((ossuaryref1_SealNums.f k l4 64).bind fun t300 => (if t300 = true then ((ossuaryref1_Depth.f k a1 a2).bind fun t301 => (if (l4.length : Int) = t301 then ((ossuaryref1_climb.f k a1 a2 a3 l4).bind fun t302 => (some (t302 == a0))) else (some false))) else (some false))) = some r := by rw [if_pos rfl] at H; exact H
      clear H
      have H := H1
      clear H1; replace H := Option.bind_eq_some_iff.mp H; obtain ⟨t300, A120, H⟩ := H
      replace H : (if t300 = true then ((ossuaryref1_Depth.f k a1 a2).bind fun t301 => (if (l4.length : Int) = t301 then ((ossuaryref1_climb.f k a1 a2 a3 l4).bind fun t302 => (some (t302 == a0))) else (some false))) else (some false)) = some r := H
      have A12 := Aside0.mk A120; clear A120
      by_cases c13 : t300 = true
      ·
       subst c13
       have H1 : ((ossuaryref1_Depth.f k a1 a2).bind fun t301 => (if (l4.length : Int) = t301 then ((ossuaryref1_climb.f k a1 a2 a3 l4).bind fun t302 => (some (t302 == a0))) else (some false))) = some r := by rw [if_pos rfl] at H; exact H
       clear H
       have H := H1
       clear H1; replace H := Option.bind_eq_some_iff.mp H; obtain ⟨t301, A140, H⟩ := H
       replace H : (if (l4.length : Int) = t301 then ((ossuaryref1_climb.f k a1 a2 a3 l4).bind fun t302 => (some (t302 == a0))) else (some false)) = some r := H
       have A14 := Aside0.mk A140; clear A140
       by_cases c15 : (l4.length : Int) = t301
       ·
        rw [if_pos c15] at H
        have c15b0 : ((l4.length : Int) == t301) = true := beq_iff_eq.mpr c15; have c15b1 : ((l4.length : Int) != t301) = false := bne_eq_false_iff_eq.mpr c15; clear c15; replace H := Option.bind_eq_some_iff.mp H; obtain ⟨t302, A160, H⟩ := H
        replace H : (some (t302 == a0)) = some r := H
        have A16 := Aside0.mk A160; clear A160
        obtain rfl := Option.some.inj H
        go_enter Try.func39, Try.ntmps39
        go_wp2_with (first | (go_at_call 53; (with_reducible refine (ossuaryref1_SealNum.calls a3 true _ A10.out).mono ?_); rintro e w' ⟨rfl, ⟨nd, rfl⟩⟩) | (go_at_call 32; (with_reducible refine (ossuaryref1_SealNums.calls k _ _ l4 64 true _ ?side1 ?side2 A12.out).mono ?_); (case side1 => repeat (first | exact HR4.out | (with_reducible refine Kd.C_alloc ?_ _) | (with_reducible refine Kd.C_drewN ?_ _) | (with_reducible refine Kd.C_drew ?_))); (case side2 => exact HC4.out); rintro e w' ⟨rfl, ⟨nd, rfl⟩⟩) | (go_at_call 37; (with_reducible refine (ossuaryref1_Depth.calls k a1 a2 t301 _ A14.out).mono ?_); rintro e w' ⟨rfl, ⟨nd, rfl⟩⟩) | ((with_reducible refine gate_callee (f := 38) rfl ?_); refine goesL_ (some 48) rfl rfl Try.func38 (by kernel_rfl) rfl #[.int .i64 a1, .int .i64 a2, .int .i64 a3, .slice A4 l4.length c4] rfl (by (try simp only [List.map_toArray, List.map_cons, List.map_nil]); first | done | rfl | (simp only [List.length_drop, List.length_take]; rfl)) ?_; (with_reducible refine (ossuaryref1_climb.calls k a1 a2 a3 _ _ l4 t302 _ ?side1 ?side2 A16.out).mono ?_); (case side1 => repeat (first | exact HR4.out | (with_reducible refine Kd.C_alloc ?_ _) | (with_reducible refine Kd.C_drewN ?_ _) | (with_reducible refine Kd.C_drew ?_))); (case side2 => exact HC4.out); rintro e w17 ⟨rfl, hb⟩; refine ⟨_, rfl, ?_⟩; (repeat replace hb := sq_un hb); have n0_ := sq_st hb HB; clear HB; have HB := n0_; clear n0_; (try clear hb); (try clear hb2); (try clear hk); (try clear hi)))
        go_ret
        exact ⟨by first | rfl | (simp [errW_none, errW_some] <;> rfl) | (simp [*, errW_none, errW_some] <;> rfl), by repeat (first | (with_reducible first | exact HB.out | apply below_alloc | apply pw_below_drewN | apply below_drew1) | exact HB.out)⟩
       ·
        rw [if_neg c15] at H
        have c15b0 : ((l4.length : Int) == t301) = false := beq_eq_false_iff_ne.mpr c15; have c15b1 : ((l4.length : Int) != t301) = true := bne_iff_ne.mpr c15
        obtain rfl := Option.some.inj H
        go_enter Try.func39, Try.ntmps39
        go_wp2_with (first | (go_at_call 53; (with_reducible refine (ossuaryref1_SealNum.calls a3 true _ A10.out).mono ?_); rintro e w' ⟨rfl, ⟨nd, rfl⟩⟩) | (go_at_call 32; (with_reducible refine (ossuaryref1_SealNums.calls k _ _ l4 64 true _ ?side1 ?side2 A12.out).mono ?_); (case side1 => repeat (first | exact HR4.out | (with_reducible refine Kd.C_alloc ?_ _) | (with_reducible refine Kd.C_drewN ?_ _) | (with_reducible refine Kd.C_drew ?_))); (case side2 => exact HC4.out); rintro e w' ⟨rfl, ⟨nd, rfl⟩⟩) | (go_at_call 37; (with_reducible refine (ossuaryref1_Depth.calls k a1 a2 t301 _ A14.out).mono ?_); rintro e w' ⟨rfl, ⟨nd, rfl⟩⟩))
        go_ret
        exact ⟨by first | rfl | (simp [errW_none, errW_some] <;> rfl) | (simp [*, errW_none, errW_some] <;> rfl), by repeat (first | (with_reducible first | exact HB.out | apply below_alloc | apply pw_below_drewN | apply below_drew1) | exact HB.out)⟩
      ·
       replace c13 := Bool.eq_false_iff.mpr c13
       subst c13
       have H1 : (some false) = some r := by rw [if_neg (show ¬ (false = true) by decide)] at H; exact H
       clear H
       have H := H1
       clear H1
       obtain rfl := Option.some.inj H
       go_enter Try.func39, Try.ntmps39
       go_wp2_with (first | (go_at_call 53; (with_reducible refine (ossuaryref1_SealNum.calls a3 true _ A10.out).mono ?_); rintro e w' ⟨rfl, ⟨nd, rfl⟩⟩) | (go_at_call 32; (with_reducible refine (ossuaryref1_SealNums.calls k _ _ l4 64 false _ ?side1 ?side2 A12.out).mono ?_); (case side1 => repeat (first | exact HR4.out | (with_reducible refine Kd.C_alloc ?_ _) | (with_reducible refine Kd.C_drewN ?_ _) | (with_reducible refine Kd.C_drew ?_))); (case side2 => exact HC4.out); rintro e w' ⟨rfl, ⟨nd, rfl⟩⟩))
       go_ret
       exact ⟨by first | rfl | (simp [errW_none, errW_some] <;> rfl) | (simp [*, errW_none, errW_some] <;> rfl), by repeat (first | (with_reducible first | exact HB.out | apply below_alloc | apply pw_below_drewN | apply below_drew1) | exact HB.out)⟩
     ·
      replace c11 := Bool.eq_false_iff.mpr c11
      subst c11
      have H1 : (some false) = some r := by rw [if_neg (show ¬ (false = true) by decide)] at H; exact H
      clear H
      have H := H1
      clear H1
      obtain rfl := Option.some.inj H
      go_enter Try.func39, Try.ntmps39
      go_wp2_with (first | (go_at_call 53; (with_reducible refine (ossuaryref1_SealNum.calls a3 false _ A10.out).mono ?_); rintro e w' ⟨rfl, ⟨nd, rfl⟩⟩))
      go_ret
      exact ⟨by first | rfl | (simp [errW_none, errW_some] <;> rfl) | (simp [*, errW_none, errW_some] <;> rfl), by repeat (first | (with_reducible first | exact HB.out | apply below_alloc | apply pw_below_drewN | apply below_drew1) | exact HB.out)⟩
end Go.Proofs.Ytgolnkankkegdaa.HAuditMoved
