/- Lean functions for the Go functions that the law reaches, and proofs that the calls come to them: written by a program of this session. -/
import Derived.Test.YtgfgehhmnogbpaaHFrameTurnedx0
import Derived.Test.YtgfgehhmnogbpaaHFrameTurnedx2
import Derived.Test.YtgfgehhmnogbpaaHFrameTurnedx3
namespace Go.Proofs.Ytgfgehhmnogbpaa.HFrameTurned
open Go.RowKit Go.Proofs.YtgfgehhmnogbpaaW.PrintWords Go.Proofs.YtgfgehhmnogbpaaW.PrintLast Go.Proofs.YtgfgehhmnogbpaaW.PrintMore
attribute [local go_sem] max2_int min2_int max_two min_two max_three min_three max_four min_four   -- for this text's walks alone
set_option linter.unusedVariables false
set_option linter.unusedSimpArgs false

/-! ### ossuarylaw14_FrameTurned: function 4 -/
mutual
def ossuarylaw14_FrameTurned.j1 : Nat → Int → Int → Int → Int → Int → List Int → Option (Bool)
  | 0, _, _, _, _, _, _ => none
  | k + 1, x2, x4, x5, x13, x14, x15 => (ossuarylaw14_text.f k ((x2) % 256)).bind fun t168 => ((frame_Put.f k x13 x14 t168 x15).bind fun bt169 => ((ossuarylaw0_Num.f bt169.2).bind fun t171 => (if t171 = 0 then (ossuarylaw14_FrameTurned.j2 k x2 x4 x5 x13 x14 x15 bt169.1 ((bt169.1.size : Int) != 64)) else (ossuarylaw14_FrameTurned.j2 k x2 x4 x5 x13 x14 x15 bt169.1 true))))
def ossuarylaw14_FrameTurned.j2 : Nat → Int → Int → Int → Int → Int → List Int → ByteArray → Bool → Option (Bool)
  | 0, _, _, _, _, _, _, _, _ => none
  | k + 1, x2, x4, x5, x13, x14, x15, x17, x80 => if x80 = true then (some false) else ((frame_Get.f k x17 x13 x14).bind fun bt172 => ((frame_Get.f k x17 (Int.tmod (wrap64 (x13 + 1)) 24) x14).bind fun bt177 => ((frame_Get.f k x17 x13 (Int.tmod (wrap64 (x14 + 1)) 6)).bind fun bt182 => (if x17.size ≤ 281474976710656 then ((some (bytesOf x17 : List Int)).bind fun y187 => (if 0 ≤ (wrap64 (Int.tmod (IntKind.u64.wrap (x4)) 64)) then (if (wrap64 (Int.tmod (IntKind.u64.wrap (x4)) 64)) < (y187.length : Int) then ((frame_Get.f k (strOfNums (y187.set ((wrap64 (Int.tmod (IntKind.u64.wrap (x4)) 64)) : Int).toNat (Go.bits .xor .u8 (rd y187 (wrap64 (Int.tmod (IntKind.u64.wrap (x4)) 64))) ((wrap64 (1 + (Go.bits .and .i64 x5 127))) % 256)))) x13 x14).bind fun bt192 => ((ossuarylaw14_text.f k ((x2) % 256)).bind fun t197 => (if bt172.1.toList = t197.toList then ((ossuarylaw0_SameInts.f k bt172.2.1 x15).bind fun t198 => (if t198 = true then ((ossuarylaw0_Num.f bt172.2.2).bind fun t199 => (if t199 = 0 then ((ossuarylaw0_Num.f bt177.2.2).bind fun t200 => (if t200 = 1400 then ((ossuarylaw0_Num.f bt182.2.2).bind fun t201 => (if t201 = 1400 then (if bt192.1.toList = ([] : List UInt8) then (if (bt192.2.1.length : Int) = 0 then ((ossuarylaw0_Num.f bt192.2.2).bind fun t202 => (some (t202 == 1400))) else (some false)) else (some false)) else (some false))) else (some false))) else (some false))) else (some false))) else (some false)))) else (none)) else (none))) else (none)))))
def ossuarylaw14_FrameTurned.l0 : Nat → Int → List Int → Int → Int → Int → Int → List Int → Int → Option (Bool)
  | 0, _, _, _, _, _, _, _, _ => none
  | k + 1, x2, x3, x4, x5, x13, x14, x15, x16 => if x16 < (x3.length : Int) then (if x16 < 3 then (if 0 ≤ x16 then (if x15.length < 17592186044416 then (ossuarylaw14_FrameTurned.l0 k x2 x3 x4 x5 x13 x14 (x15 ++ [((rd x3 x16) % 4294967296) / 4]) (wrap64 (x16 + 1))) else (none)) else (none)) else (ossuarylaw14_FrameTurned.j1 k x2 x4 x5 x13 x14 x15)) else (ossuarylaw14_FrameTurned.j1 k x2 x4 x5 x13 x14 x15)
end
def ossuarylaw14_FrameTurned.f (k : Nat) (a0 : Int) (a1 : Int) (a2 : Int) (l3 : List Int) (a4 : Int) (a5 : Int) : Option (Bool) := (ossuarylaw14_awake.f k).bind fun t163 => (if t163 = true then (ossuarylaw14_FrameTurned.l0 k a2 l3 a4 a5 (wrap64 (Int.tmod (IntKind.u64.wrap (a0)) 24)) (wrap64 (Int.tmod (IntKind.u64.wrap (a1)) 6)) ([] : List Int) 0) else (some false))
theorem ossuarylaw14_FrameTurned.mono_l : ∀ k, (∀ y0 y1 y2 y3 y4 y5, LeO (ossuarylaw14_FrameTurned.j1 k y0 y1 y2 y3 y4 y5) (ossuarylaw14_FrameTurned.j1 (k + 1) y0 y1 y2 y3 y4 y5)) ∧ (∀ y0 y1 y2 y3 y4 y5 y6 y7, LeO (ossuarylaw14_FrameTurned.j2 k y0 y1 y2 y3 y4 y5 y6 y7) (ossuarylaw14_FrameTurned.j2 (k + 1) y0 y1 y2 y3 y4 y5 y6 y7)) ∧ (∀ y0 y1 y2 y3 y4 y5 y6 y7, LeO (ossuarylaw14_FrameTurned.l0 k y0 y1 y2 y3 y4 y5 y6 y7) (ossuarylaw14_FrameTurned.l0 (k + 1) y0 y1 y2 y3 y4 y5 y6 y7))
  | 0 => ⟨fun _ _ _ _ _ _ r h => by simp [ossuarylaw14_FrameTurned.j1] at h, fun _ _ _ _ _ _ _ _ r h => by simp [ossuarylaw14_FrameTurned.j2] at h, fun _ _ _ _ _ _ _ _ r h => by simp [ossuarylaw14_FrameTurned.l0] at h⟩
  | k + 1 => by
    obtain ⟨ih0, ih1, ih2⟩ := ossuarylaw14_FrameTurned.mono_l k
    refine ⟨?_, ?_, ?_⟩
    · intro y0 y1 y2 y3 y4 y5
      unfold ossuarylaw14_FrameTurned.j1
      repeat' first
      | (with_reducible exact ih0 _ _ _ _ _ _)
      | (with_reducible exact ih1 _ _ _ _ _ _ _ _)
      | (with_reducible exact ih2 _ _ _ _ _ _ _ _)
      | (with_reducible exact frame_Get.mono _ _ _ _)
      | (with_reducible exact frame_Put.mono _ _ _ _ _)
      | (with_reducible exact ossuarylaw0_SameInts.mono _ _ _)
      | (with_reducible exact ossuarylaw14_awake.mono _)
      | (with_reducible exact ossuarylaw14_text.mono _ _)
      | (with_reducible exact LeO.refl _)
      | (with_reducible exact LeO.none _)
      | (with_reducible refine LeO.ite ?_ ?_)
      | (with_reducible refine LeO.bind ?_ (fun _ => ?_))
      | exact ih0 _ _ _ _ _ _
      | exact ih1 _ _ _ _ _ _ _ _
      | exact ih2 _ _ _ _ _ _ _ _
      | exact frame_Get.mono _ _ _ _
      | exact frame_Put.mono _ _ _ _ _
      | exact ossuarylaw0_SameInts.mono _ _ _
      | exact ossuarylaw14_awake.mono _
      | exact ossuarylaw14_text.mono _ _
      | exact LeO.none _
      | refine LeO.ite ?_ ?_
      | refine LeO.bind ?_ (fun _ => ?_)
    · intro y0 y1 y2 y3 y4 y5 y6 y7
      unfold ossuarylaw14_FrameTurned.j2
      repeat' first
      | (with_reducible exact ih0 _ _ _ _ _ _)
      | (with_reducible exact ih1 _ _ _ _ _ _ _ _)
      | (with_reducible exact ih2 _ _ _ _ _ _ _ _)
      | (with_reducible exact frame_Get.mono _ _ _ _)
      | (with_reducible exact frame_Put.mono _ _ _ _ _)
      | (with_reducible exact ossuarylaw0_SameInts.mono _ _ _)
      | (with_reducible exact ossuarylaw14_awake.mono _)
      | (with_reducible exact ossuarylaw14_text.mono _ _)
      | (with_reducible exact LeO.refl _)
      | (with_reducible exact LeO.none _)
      | (with_reducible refine LeO.ite ?_ ?_)
      | (with_reducible refine LeO.bind ?_ (fun _ => ?_))
      | exact ih0 _ _ _ _ _ _
      | exact ih1 _ _ _ _ _ _ _ _
      | exact ih2 _ _ _ _ _ _ _ _
      | exact frame_Get.mono _ _ _ _
      | exact frame_Put.mono _ _ _ _ _
      | exact ossuarylaw0_SameInts.mono _ _ _
      | exact ossuarylaw14_awake.mono _
      | exact ossuarylaw14_text.mono _ _
      | exact LeO.none _
      | refine LeO.ite ?_ ?_
      | refine LeO.bind ?_ (fun _ => ?_)
    · intro y0 y1 y2 y3 y4 y5 y6 y7
      unfold ossuarylaw14_FrameTurned.l0
      repeat' first
      | (with_reducible exact ih0 _ _ _ _ _ _)
      | (with_reducible exact ih1 _ _ _ _ _ _ _ _)
      | (with_reducible exact ih2 _ _ _ _ _ _ _ _)
      | (with_reducible exact frame_Get.mono _ _ _ _)
      | (with_reducible exact frame_Put.mono _ _ _ _ _)
      | (with_reducible exact ossuarylaw0_SameInts.mono _ _ _)
      | (with_reducible exact ossuarylaw14_awake.mono _)
      | (with_reducible exact ossuarylaw14_text.mono _ _)
      | (with_reducible exact LeO.refl _)
      | (with_reducible exact LeO.none _)
      | (with_reducible refine LeO.ite ?_ ?_)
      | (with_reducible refine LeO.bind ?_ (fun _ => ?_))
      | exact ih0 _ _ _ _ _ _
      | exact ih1 _ _ _ _ _ _ _ _
      | exact ih2 _ _ _ _ _ _ _ _
      | exact frame_Get.mono _ _ _ _
      | exact frame_Put.mono _ _ _ _ _
      | exact ossuarylaw0_SameInts.mono _ _ _
      | exact ossuarylaw14_awake.mono _
      | exact ossuarylaw14_text.mono _ _
      | exact LeO.none _
      | refine LeO.ite ?_ ?_
      | refine LeO.bind ?_ (fun _ => ?_)
theorem ossuarylaw14_FrameTurned.mono : ∀ a0 a1 a2 a3 a4 a5 k, LeO (ossuarylaw14_FrameTurned.f k a0 a1 a2 a3 a4 a5) (ossuarylaw14_FrameTurned.f (k + 1) a0 a1 a2 a3 a4 a5) := by
  intro a0 a1 a2 a3 a4 a5 k
  obtain ⟨ih0, ih1, ih2⟩ := ossuarylaw14_FrameTurned.mono_l k
  unfold ossuarylaw14_FrameTurned.f
  repeat' first
      | (with_reducible exact ih0 _ _ _ _ _ _)
      | (with_reducible exact ih1 _ _ _ _ _ _ _ _)
      | (with_reducible exact ih2 _ _ _ _ _ _ _ _)
      | (with_reducible exact frame_Get.mono _ _ _ _)
      | (with_reducible exact frame_Put.mono _ _ _ _ _)
      | (with_reducible exact ossuarylaw0_SameInts.mono _ _ _)
      | (with_reducible exact ossuarylaw14_awake.mono _)
      | (with_reducible exact ossuarylaw14_text.mono _ _)
      | (with_reducible exact LeO.refl _)
      | (with_reducible exact LeO.none _)
      | (with_reducible refine LeO.ite ?_ ?_)
      | (with_reducible refine LeO.bind ?_ (fun _ => ?_))
      | exact ih0 _ _ _ _ _ _
      | exact ih1 _ _ _ _ _ _ _ _
      | exact ih2 _ _ _ _ _ _ _ _
      | exact frame_Get.mono _ _ _ _
      | exact frame_Put.mono _ _ _ _ _
      | exact ossuarylaw0_SameInts.mono _ _ _
      | exact ossuarylaw14_awake.mono _
      | exact ossuarylaw14_text.mono _ _
      | exact LeO.none _
      | refine LeO.ite ?_ ?_
      | refine LeO.bind ?_ (fun _ => ?_)
set_option maxHeartbeats 8000000 in
set_option maxRecDepth 100000 in
theorem ossuarylaw14_FrameTurned.calls (k : Nat) (a0 : Int) (a1 : Int) (a2 : Int) (A3 : Option Addr) (c3 : Nat) (l3 : List Int) (a4 : Int) (a5 : Int) (r : Bool) (w : World) (hr3 : Kd.C (Kd.int .i64) w A3 l3.length l3) (hc3 : l3.length ≤ c3) (h : ossuarylaw14_FrameTurned.f k a0 a1 a2 l3 a4 a5 = some r) (hr_ : r = true := by rfl) :
    Calls Try.prog 4 #[.int .i64 a0, .int .i64 a1, .int .i64 a2, .slice A3 l3.length c3, .int .i64 a4, .int .i64 a5] w fun e w' => e = .returned (.bool r) ∧ Below w.heap.size w w' := by
  have HRT := Aside0.mk hr_
  clear hr_
  have HR3 := Aside0.mk hr3
  have HC3 := Aside0.mk hc3
  clear hr3 hc3
  have HB := Aside0.mk (Below.refl w.heap.size w)
  have H : ((ossuarylaw14_awake.f k).bind fun t163 => (if t163 = true then (ossuarylaw14_FrameTurned.l0 k a2 l3 a4 a5 (wrap64 (Int.tmod (IntKind.u64.wrap (a0)) 24)) (wrap64 (Int.tmod (IntKind.u64.wrap (a1)) 6)) ([] : List Int) 0) else (some false))) = some r := h
  clear h
  replace H := Option.bind_eq_some_iff.mp H
  obtain ⟨t163, A70, H⟩ := H
  replace H : (if t163 = true then (ossuarylaw14_FrameTurned.l0 k a2 l3 a4 a5 (wrap64 (Int.tmod (IntKind.u64.wrap (a0)) 24)) (wrap64 (Int.tmod (IntKind.u64.wrap (a1)) 6)) ([] : List Int) 0) else (some false)) = some r := H
  have A7 := Aside0.mk A70
  clear A70
  by_cases c8 : t163 = true
  · subst c8
    have H1 : (ossuarylaw14_FrameTurned.l0 k a2 l3 a4 a5 (wrap64 (Int.tmod (IntKind.u64.wrap (a0)) 24)) (wrap64 (Int.tmod (IntKind.u64.wrap (a1)) 6)) ([] : List Int) 0) = some r := by rw [if_pos rfl] at H; exact H
    clear H
    have H := H1
    clear H1
    have HC9 := Aside0.mk H
    clear H
    go_enter Try.func4, Try.ntmps4
    go_upto_block 0 with (first | ((with_reducible refine gate_callee (f := 16) rfl ?_); refine goesL_ (some 33) rfl rfl Try.func16 (by kernel_rfl) rfl #[] rfl (by (try simp only [List.map_toArray, List.map_cons, List.map_nil]); first | done | rfl | (simp only [List.length_drop, List.length_take]; rfl)) ?_; (with_reducible refine (ossuarylaw14_awake.calls k  true _ A7.out).mono ?_); rintro e w10 ⟨rfl, hb⟩; refine ⟨_, rfl, ?_⟩; have n0_ := Aside0.mk (below_step (by repeat (first | (with_reducible first | exact HB.out | apply below_alloc | apply pw_below_drewN | apply below_drew1) | exact HB.out)) hb); clear HB; have HB := n0_; clear n0_; (try clear hb); (try clear hb2); (try clear hk); (try clear hi)))
    (try simp only [Act.put, List.setIfInBounds_toArray, List.set_cons_zero, List.set_cons_succ])
    go_cut [15] (fun v15 wc => ∃ (kq : Nat) (x15_8 : List Int), Aside0 (ossuarylaw14_FrameTurned.j1 kq a2 a4 a5 (wrap64 (Int.tmod (IntKind.u64.wrap (a0)) 24)) (wrap64 (Int.tmod (IntKind.u64.wrap (a1)) 6)) x15_8 = some r) ∧ Aside0 (kq ≤ k) ∧ Aside0 (Kd.R (Kd.int .i64) 3 wc w.heap.size (fun _ => True) v15 x15_8) ∧ Aside0 (Below w.heap.size w wc))
    case first =>
      have H := HC9.out
      clear HC9
      have H' := Aside0.mk H
      clear H
      go_wp2
      go_loopg [15, 16] k (fun kq v15 v16 w' => ∃ (x15_1 : List Int) (x16_1 : Int), v16 = .int .i64 x16_1 ∧ Aside0 (ossuarylaw14_FrameTurned.l0 kq a2 l3 a4 a5 (wrap64 (Int.tmod (IntKind.u64.wrap (a0)) 24)) (wrap64 (Int.tmod (IntKind.u64.wrap (a1)) 6)) x15_1 x16_1 = some r) ∧ Aside0 (kq ≤ k) ∧ Aside0 (Kd.R (Kd.int .i64) 3 w' w.heap.size (fun _ => True) v15 x15_1) ∧ Aside0 (Below w.heap.size w w'))
      case atStart => exact ⟨(([] : List Int)), (0), (by first | rfl | (simp; done) | (simp [*]; done)), H', ⟨Nat.le_refl _⟩, ⟨by first | exact Kd.R_nil _ _ _ _ _ | exact Kd.N_nil _ _ _ _ _ | exact Kd.V_nil _ _ _ _ _ | exact Kd.Q_nil _ _ _ _ _ | exact Kd.S_nil _ _ _ _ _⟩, ⟨by repeat (first | (with_reducible first | exact HB.out | apply below_alloc | apply pw_below_drewN | apply below_drew1) | exact HB.out)⟩⟩
      case round =>
        clear H'
        try clear c1
        try clear p2
        try clear c3
        try clear c4
        try clear p6
        try clear c8
        obtain ⟨x15_1, x16_1, rfl, HA, HK1, HO_15, HB⟩ := hrel
        cases gk with
        | zero => exact absurd HA.out (by simp [ossuarylaw14_FrameTurned.l0])
        | succ k1 =>
          have H := HA.out
          clear HA
          simp only [ossuarylaw14_FrameTurned.l0] at H
          by_cases c11 : x16_1 < (l3.length : Int)
          · rw [if_pos c11] at H
            have c11b0 : decide (x16_1 < (l3.length : Int)) = true := decide_eq_true c11
            clear c11
            (first | rw [c11b0] | (simp only [i64_w, i32_w]; rw [c11b0]) | skip)
            by_cases c12 : x16_1 < 3
            · rw [if_pos c12] at H
              have c12b0 : decide (x16_1 < 3) = true := decide_eq_true c12
              clear c12
              by_cases c13 : 0 ≤ x16_1
              · rw [if_pos c13] at H
                have c13b0 : decide (0 ≤ x16_1) = true := decide_eq_true c13
                clear c13
                by_cases c14 : x15_1.length < 17592186044416
                · rw [if_pos c14] at H
                  have LMc14 := Aside0.mk c14
                  clear c14
                  obtain ⟨y165, hy165⟩ : ∃ y_ : List Int, y_ = (x15_1 ++ [((rd l3 x16_1) % 4294967296) / 4]) := ⟨_, rfl⟩
                  replace H : (ossuarylaw14_FrameTurned.l0 k1 a2 l3 a4 a5 (wrap64 (Int.tmod (IntKind.u64.wrap (a0)) 24)) (wrap64 (Int.tmod (IntKind.u64.wrap (a1)) 6)) y165 (wrap64 (x16_1 + 1))) = some r := by first | (rw [hy165]; with_reducible exact H) | (have H2_ := (Option.bind_some _ _).symm.trans H; rw [hy165]; with_reducible exact H2_) | (have H2_ := (Option.bind_some _ _).symm.trans H; with_reducible exact H2_) | with_reducible exact H | (rw [hy165]; exact H) | exact H
                  have Ny165 := Aside0.mk hy165
                  clear hy165
                  have H' := Aside0.mk H
                  clear H
                  have p164 : 0 ≤ (x16_1 : Int) := of_decide_eq_true (by first | (with_reducible assumption) | assumption)
                  have q164 : x16_1 < (l3.length : Int) := of_decide_eq_true (by first | (with_reducible assumption) | assumption)
                  obtain ⟨ad164, e164, hx164_0⟩ := Kd.at_int HR3.out x16_1 p164 q164
                  cases e164
                  replace hx164_0 := (HB.out.cell (World.block_lt_of_cell? w _ hx164_0)).trans hx164_0
                  replace p164 := eq_true p164
                  replace q164 := eq_true q164
                  go_wp2_with (first | ((with_reducible refine gate_builtin (b := .append) (xs := #[.tmp 53, .tmp 61]) rfl ?_); (try (refine gate_guard (by rfl) ?_; dsimp only)); at_builtin; refine Kd.R_append (Kd.int .i64) (w0 := w) w.heap.size rfl (.tmp 53) (.tmp 61) 22 3 (.int .i64 0) 8 rfl Try.underlying22 info3 rfl (by decide) (by omega) u15 x15_1 (((rd l3 x16_1) % 4294967296) / 4) [.int .i64 (((rd l3 x16_1) % 4294967296) / 4)] (fun _ => True) (fun _ => False) rfl rfl ?aP (fun _ hk => hk.elim) ?aF ?aO ?aB ?aS ?aL ?_; (case aP => exact rfl); (case aB => exact (by repeat (first | (with_reducible first | exact HB.out | apply below_alloc | apply pw_below_drewN | apply below_drew1) | exact HB.out))); (case aF => exact (fun _ _ => trivial)); (case aO => exact (by (with_reducible repeat (first | apply Kd.R_alloc | apply Kd.R_drewN | apply Kd.R_drew)); exact HO_15.out)); (case aS => exact (below_size (by repeat (first | (with_reducible first | exact HB.out | apply below_alloc | apply pw_below_drewN | apply below_drew1) | exact HB.out)))); (case aL => have := LMc14.out; omega); intro v166 w15 ho hb hg hat; rw [← Ny165.out] at ho; have n0_ := Aside0.mk (hb); have n1_ := Aside0.mk (ho); clear HB; clear HO_15; have HB := n0_; have HO167 := n1_; clear n0_ n1_; clear ho hb hg hat))
                  go_roundg k1
                  case measure => have := HK1.out; omega
                  case rel => exact ⟨(y165), (wrap64 (x16_1 + 1)), (by first | rfl | (simp; done) | (simp [*]; done)), H', ⟨by have := HK1.out; omega⟩, ⟨by (with_reducible repeat (first | apply Kd.R_alloc | apply Kd.R_drewN | apply Kd.R_drew)); exact HO167.out⟩, ⟨by repeat (first | (with_reducible first | exact HB.out | apply below_alloc | apply pw_below_drewN | apply below_drew1) | exact HB.out)⟩⟩
                · rw [if_neg c14] at H
                  exact absurd H (by simp)
              · rw [if_neg c13] at H
                exact absurd H (by simp)
            · rw [if_neg c12] at H
              have c12b0 : decide (x16_1 < 3) = false := decide_eq_false c12
              clear c12
              have H' := Aside0.mk H
              clear H
              go_wp2
              go_meet
              case rel => exact ⟨_, (x15_1), H', ⟨by have := HK1.out; first | omega | exact Nat.le_refl _⟩, ⟨by (with_reducible repeat (first | apply Kd.R_alloc | apply Kd.R_drewN | apply Kd.R_drew)); exact HO_15.out⟩, ⟨by repeat (first | (with_reducible first | exact HB.out | apply below_alloc | apply pw_below_drewN | apply below_drew1) | exact HB.out)⟩⟩
          · rw [if_neg c11] at H
            have c11b0 : decide (x16_1 < (l3.length : Int)) = false := decide_eq_false c11
            clear c11
            (first | rw [c11b0] | (simp only [i64_w, i32_w]; rw [c11b0]) | skip)
            have H' := Aside0.mk H
            clear H
            go_wp2
            go_meet
            case rel => exact ⟨_, (x15_1), H', ⟨by have := HK1.out; first | omega | exact Nat.le_refl _⟩, ⟨by (with_reducible repeat (first | apply Kd.R_alloc | apply Kd.R_drewN | apply Kd.R_drew)); exact HO_15.out⟩, ⟨by repeat (first | (with_reducible first | exact HB.out | apply below_alloc | apply pw_below_drewN | apply below_drew1) | exact HB.out)⟩⟩
    case rest =>
      clear HC9
      try clear c1
      try clear p1
      try clear q1
      try clear hx1
      try clear p2
      try clear c3
      try clear c4
      try clear p6
      try clear c8
      try clear c11
      try clear c11b0
      try clear c12
      try clear c12b0
      try clear c13
      try clear c13b0
      try clear c14
      try clear hx164_0
      try clear p164
      try clear p2
      try clear p6
      try clear q164
      obtain ⟨kq, x15_8, HA, HJ8, HO_15, HB⟩ := hcut
      cases kq with
      | zero => exact absurd HA.out (by simp [ossuarylaw14_FrameTurned.j1])
      | succ kj8 =>
        have H := HA.out
        clear HA
        simp only [ossuarylaw14_FrameTurned.j1] at H
        replace H := Option.bind_eq_some_iff.mp H
        obtain ⟨t168, A160, H⟩ := H
        replace H : ((frame_Put.f kj8 (wrap64 (Int.tmod (IntKind.u64.wrap (a0)) 24)) (wrap64 (Int.tmod (IntKind.u64.wrap (a1)) 6)) t168 x15_8).bind fun bt169 => ((ossuarylaw0_Num.f bt169.2).bind fun t171 => (if t171 = 0 then (ossuarylaw14_FrameTurned.j2 kj8 a2 a4 a5 (wrap64 (Int.tmod (IntKind.u64.wrap (a0)) 24)) (wrap64 (Int.tmod (IntKind.u64.wrap (a1)) 6)) x15_8 bt169.1 ((bt169.1.size : Int) != 64)) else (ossuarylaw14_FrameTurned.j2 kj8 a2 a4 a5 (wrap64 (Int.tmod (IntKind.u64.wrap (a0)) 24)) (wrap64 (Int.tmod (IntKind.u64.wrap (a1)) 6)) x15_8 bt169.1 true)))) = some r := H
        have A16 := Aside0.mk A160
        clear A160
        replace H := Option.bind_eq_some_iff.mp H
        obtain ⟨⟨t169, t170⟩, A170, H⟩ := H
        replace H : ((ossuarylaw0_Num.f t170).bind fun t171 => (if t171 = 0 then (ossuarylaw14_FrameTurned.j2 kj8 a2 a4 a5 (wrap64 (Int.tmod (IntKind.u64.wrap (a0)) 24)) (wrap64 (Int.tmod (IntKind.u64.wrap (a1)) 6)) x15_8 t169 ((t169.size : Int) != 64)) else (ossuarylaw14_FrameTurned.j2 kj8 a2 a4 a5 (wrap64 (Int.tmod (IntKind.u64.wrap (a0)) 24)) (wrap64 (Int.tmod (IntKind.u64.wrap (a1)) 6)) x15_8 t169 true))) = some r := H
        have A17 := Aside0.mk A170
        clear A170
        have HC18 := Aside0.mk H
        clear H
        go_upto_region 10 with (first | ((with_reducible refine gate_callee (f := 17) rfl ?_); refine goesL_ (some 68) rfl rfl Try.func17 (by kernel_rfl) rfl #[.int .u8 ((a2) % 256)] rfl (by (try simp only [List.map_toArray, List.map_cons, List.map_nil]); first | done | rfl | (simp only [List.length_drop, List.length_take]; rfl)) ?_; (with_reducible refine (ossuarylaw14_text.calls kj8 ((a2) % 256) t168 _ A16.out).mono ?_); rintro e w19 ⟨rfl, hb⟩; refine ⟨_, rfl, ?_⟩; have n0_ := Aside0.mk (Kd.R_below (by (with_reducible repeat (first | apply Kd.R_alloc | apply Kd.R_drewN | apply Kd.R_drew)); exact HO_15.out) hb); have n1_ := Aside0.mk (below_step (by repeat (first | (with_reducible first | exact HB.out | apply below_alloc | apply pw_below_drewN | apply below_drew1) | exact HB.out)) hb); clear HO_15; clear HB; have HO_15 := n0_; have HB := n1_; clear n0_ n1_; (try clear hb); (try clear hb2); (try clear hk); (try clear hi); obtain ⟨Ao20, co20, eo20⟩ := Kd.R_slice HO_15.out; subst eo20) | ((with_reducible refine gate_callee (f := 8) rfl ?_); refine goesL_ (some 70) rfl rfl Try.func8 (by kernel_rfl) rfl #[.int .i64 (wrap64 (Int.tmod (IntKind.u64.wrap (a0)) 24)), .int .i64 (wrap64 (Int.tmod (IntKind.u64.wrap (a1)) 6)), .string t168, .slice Ao20 x15_8.length co20] rfl (by (try simp only [List.map_toArray, List.map_cons, List.map_nil]); first | done | rfl | (simp only [List.length_drop, List.length_take]; rfl)) ?_; (with_reducible refine (frame_Put.calls kj8 (wrap64 (Int.tmod (IntKind.u64.wrap (a0)) 24)) (wrap64 (Int.tmod (IntKind.u64.wrap (a1)) 6)) t168 _ _ x15_8 t169 t170 _ ?side1 ?side2 A17.out).mono ?_); (case side1 => repeat (first | exact (Kd.R_reads' HO_15.out).2.2 | (with_reducible refine Kd.C_alloc ?_ _) | (with_reducible refine Kd.C_drewN ?_ _) | (with_reducible refine Kd.C_drew ?_))); (case side2 => exact (Kd.R_reads' HO_15.out).2.1); rintro e w21 ⟨rfl, hb⟩; refine ⟨_, rfl, ?_⟩; have n0_ := Aside0.mk (Kd.R_below (by (with_reducible repeat (first | apply Kd.R_alloc | apply Kd.R_drewN | apply Kd.R_drew)); exact HO_15.out) hb); have n1_ := Aside0.mk (below_step (by repeat (first | (with_reducible first | exact HB.out | apply below_alloc | apply pw_below_drewN | apply below_drew1) | exact HB.out)) hb); clear HO_15; clear HB; have HO_15 := n0_; have HB := n1_; clear n0_ n1_; (try clear hb); (try clear hb2); (try clear hk); (try clear hi)))
        (try simp only [Act.put, List.setIfInBounds_toArray, List.set_cons_zero, List.set_cons_succ])
        go_cut [80] (fun v80 wc => ∃ (kq : Nat) (x80_17 : Bool), v80 = .bool x80_17 ∧ Aside0 (ossuarylaw14_FrameTurned.j2 kq a2 a4 a5 (wrap64 (Int.tmod (IntKind.u64.wrap (a0)) 24)) (wrap64 (Int.tmod (IntKind.u64.wrap (a1)) 6)) x15_8 t169 x80_17 = some r) ∧ Aside0 (kq ≤ kj8) ∧ Aside0 (Kd.R (Kd.int .i64) 3 wc w.heap.size (fun _ => True) (.slice Ao20 x15_8.length co20) x15_8) ∧ Aside0 (Below w.heap.size w wc))
        case first =>
          have H := HC18.out
          clear HC18
          replace H := Option.bind_eq_some_iff.mp H
          obtain ⟨t171, A220, H⟩ := H
          replace H : (if t171 = 0 then (ossuarylaw14_FrameTurned.j2 kj8 a2 a4 a5 (wrap64 (Int.tmod (IntKind.u64.wrap (a0)) 24)) (wrap64 (Int.tmod (IntKind.u64.wrap (a1)) 6)) x15_8 t169 ((t169.size : Int) != 64)) else (ossuarylaw14_FrameTurned.j2 kj8 a2 a4 a5 (wrap64 (Int.tmod (IntKind.u64.wrap (a0)) 24)) (wrap64 (Int.tmod (IntKind.u64.wrap (a1)) 6)) x15_8 t169 true)) = some r := H
          have A22 := Aside0.mk A220
          clear A220
          by_cases c23 : t171 = 0
          · rw [if_pos c23] at H
            have c23b0 : (t171 == 0) = true := beq_iff_eq.mpr c23
            have c23b1 : (t171 != 0) = false := bne_eq_false_iff_eq.mpr c23
            clear c23
            (first | rw [c23b0] | (simp only [i64_w, i32_w]; rw [c23b0]) | skip)
            have H' := Aside0.mk H
            clear H
            go_wp2_with (first | ((with_reducible refine gate_callee (f := 12) rfl ?_); refine goesL_ (some 74) rfl rfl Try.func12 (by kernel_rfl) rfl #[.int .i64 t170] rfl (by (try simp only [List.map_toArray, List.map_cons, List.map_nil]); first | done | rfl | (simp only [List.length_drop, List.length_take]; rfl)) ?_; (with_reducible refine (ossuarylaw0_Num.calls t170 t171 _ A22.out).mono ?_); rintro e w' ⟨rfl, ⟨nd, rfl⟩⟩; refine ⟨_, rfl, ?_⟩))
            go_meet
            case rel => exact ⟨_, (((t169.size : Int) != 64)), (by first | rfl | (simp; done) | (simp [*]; done)), H', ⟨by have := HJ8.out; first | omega | exact Nat.le_refl _⟩, ⟨by (with_reducible repeat (first | apply Kd.R_alloc | apply Kd.R_drewN | apply Kd.R_drew)); exact HO_15.out⟩, ⟨by repeat (first | (with_reducible first | exact HB.out | apply below_alloc | apply pw_below_drewN | apply below_drew1) | exact HB.out)⟩⟩
          · rw [if_neg c23] at H
            have c23b0 : (t171 == 0) = false := beq_eq_false_iff_ne.mpr c23
            have c23b1 : (t171 != 0) = true := bne_iff_ne.mpr c23
            (first | rw [c23b0] | (simp only [i64_w, i32_w]; rw [c23b0]) | skip)
            have H' := Aside0.mk H
            clear H
            go_wp2_with (first | ((with_reducible refine gate_callee (f := 12) rfl ?_); refine goesL_ (some 74) rfl rfl Try.func12 (by kernel_rfl) rfl #[.int .i64 t170] rfl (by (try simp only [List.map_toArray, List.map_cons, List.map_nil]); first | done | rfl | (simp only [List.length_drop, List.length_take]; rfl)) ?_; (with_reducible refine (ossuarylaw0_Num.calls t170 t171 _ A22.out).mono ?_); rintro e w' ⟨rfl, ⟨nd, rfl⟩⟩; refine ⟨_, rfl, ?_⟩))
            go_meet
            case rel => exact ⟨_, (true), (by first | rfl | (simp; done) | (simp [*]; done)), H', ⟨by have := HJ8.out; first | omega | exact Nat.le_refl _⟩, ⟨by (with_reducible repeat (first | apply Kd.R_alloc | apply Kd.R_drewN | apply Kd.R_drew)); exact HO_15.out⟩, ⟨by repeat (first | (with_reducible first | exact HB.out | apply below_alloc | apply pw_below_drewN | apply below_drew1) | exact HB.out)⟩⟩
        case rest =>
          clear HC18
          try clear c1
          try clear p1
          try clear q1
          try clear hx1
          try clear c2
          try clear p2
          try clear c3
          try clear c4
          try clear p6
          try clear c8
          try clear c11
          try clear c11b0
          try clear c12
          try clear c12b0
          try clear c13
          try clear c13b0
          try clear c14
          try clear c16
          try clear p16
          try clear q16
          try clear hx16
          try clear c17
          try clear c23
          try clear c23b0
          try clear c23b1
          try clear hx164_0
          try clear p1
          try clear p164
          try clear p2
          try clear p6
          try clear q1
          try clear q164
          obtain ⟨kq, x80_17, rfl, HA, HJ17, HO_15, HB⟩ := hcut
          cases kq with
          | zero => exact absurd HA.out (by simp [ossuarylaw14_FrameTurned.j2])
          | succ kj17 =>
            have H := HA.out
            clear HA
            simp only [ossuarylaw14_FrameTurned.j2] at H
            by_cases c24 : x80_17 = true
            · subst c24
              have H1 : (some false) = some r := by rw [if_pos rfl] at H; exact H
              clear H
              have H := H1
              clear H1
              exact absurd (Option.some.inj H) (by rw [HRT.out]; decide)
            · replace c24 := Bool.eq_false_iff.mpr c24
              subst c24
              have H1 : ((frame_Get.f kj17 t169 (wrap64 (Int.tmod (IntKind.u64.wrap (a0)) 24)) (wrap64 (Int.tmod (IntKind.u64.wrap (a1)) 6))).bind fun bt172 => ((frame_Get.f kj17 t169 (Int.tmod (wrap64 ((wrap64 (Int.tmod (IntKind.u64.wrap (a0)) 24)) + 1)) 24) (wrap64 (Int.tmod (IntKind.u64.wrap (a1)) 6))).bind fun bt177 => ((frame_Get.f kj17 t169 (wrap64 (Int.tmod (IntKind.u64.wrap (a0)) 24)) (Int.tmod (wrap64 ((wrap64 (Int.tmod (IntKind.u64.wrap (a1)) 6)) + 1)) 6)).bind fun bt182 => (if t169.size ≤ 281474976710656 then ((some (bytesOf t169 : List Int)).bind fun y187 => (if 0 ≤ (wrap64 (Int.tmod (IntKind.u64.wrap (a4)) 64)) then (if (wrap64 (Int.tmod (IntKind.u64.wrap (a4)) 64)) < (y187.length : Int) then ((frame_Get.f kj17 (strOfNums (y187.set ((wrap64 (Int.tmod (IntKind.u64.wrap (a4)) 64)) : Int).toNat (Go.bits .xor .u8 (rd y187 (wrap64 (Int.tmod (IntKind.u64.wrap (a4)) 64))) ((wrap64 (1 + (Go.bits .and .i64 a5 127))) % 256)))) (wrap64 (Int.tmod (IntKind.u64.wrap (a0)) 24)) (wrap64 (Int.tmod (IntKind.u64.wrap (a1)) 6))).bind fun bt192 => ((ossuarylaw14_text.f kj17 ((a2) % 256)).bind fun t197 => (if bt172.1.toList = t197.toList then ((ossuarylaw0_SameInts.f kj17 bt172.2.1 x15_8).bind fun t198 => (if t198 = true then ((ossuarylaw0_Num.f bt172.2.2).bind fun t199 => (if t199 = 0 then ((ossuarylaw0_Num.f bt177.2.2).bind fun t200 => (if t200 = 1400 then ((ossuarylaw0_Num.f bt182.2.2).bind fun t201 => (if t201 = 1400 then (if bt192.1.toList = ([] : List UInt8) then (if (bt192.2.1.length : Int) = 0 then ((ossuarylaw0_Num.f bt192.2.2).bind fun t202 => (some (t202 == 1400))) else (some false)) else (some false)) else (some false))) else (some false))) else (some false))) else (some false))) else (some false)))) else (none)) else (none))) else (none))))) = some r := by rw [if_neg (show ¬ (false = true) by decide)] at H; exact H
              clear H
              have H := H1
              clear H1
              replace H := Option.bind_eq_some_iff.mp H
              obtain ⟨⟨t172, t173, t174⟩, A250, H⟩ := H
              replace H : ((frame_Get.f kj17 t169 (Int.tmod (wrap64 ((wrap64 (Int.tmod (IntKind.u64.wrap (a0)) 24)) + 1)) 24) (wrap64 (Int.tmod (IntKind.u64.wrap (a1)) 6))).bind fun bt177 => ((frame_Get.f kj17 t169 (wrap64 (Int.tmod (IntKind.u64.wrap (a0)) 24)) (Int.tmod (wrap64 ((wrap64 (Int.tmod (IntKind.u64.wrap (a1)) 6)) + 1)) 6)).bind fun bt182 => (if t169.size ≤ 281474976710656 then ((some (bytesOf t169 : List Int)).bind fun y187 => (if 0 ≤ (wrap64 (Int.tmod (IntKind.u64.wrap (a4)) 64)) then (if (wrap64 (Int.tmod (IntKind.u64.wrap (a4)) 64)) < (y187.length : Int) then ((frame_Get.f kj17 (strOfNums (y187.set ((wrap64 (Int.tmod (IntKind.u64.wrap (a4)) 64)) : Int).toNat (Go.bits .xor .u8 (rd y187 (wrap64 (Int.tmod (IntKind.u64.wrap (a4)) 64))) ((wrap64 (1 + (Go.bits .and .i64 a5 127))) % 256)))) (wrap64 (Int.tmod (IntKind.u64.wrap (a0)) 24)) (wrap64 (Int.tmod (IntKind.u64.wrap (a1)) 6))).bind fun bt192 => ((ossuarylaw14_text.f kj17 ((a2) % 256)).bind fun t197 => (if t172.toList = t197.toList then ((ossuarylaw0_SameInts.f kj17 t173 x15_8).bind fun t198 => (if t198 = true then ((ossuarylaw0_Num.f t174).bind fun t199 => (if t199 = 0 then ((ossuarylaw0_Num.f bt177.2.2).bind fun t200 => (if t200 = 1400 then ((ossuarylaw0_Num.f bt182.2.2).bind fun t201 => (if t201 = 1400 then (if bt192.1.toList = ([] : List UInt8) then (if (bt192.2.1.length : Int) = 0 then ((ossuarylaw0_Num.f bt192.2.2).bind fun t202 => (some (t202 == 1400))) else (some false)) else (some false)) else (some false))) else (some false))) else (some false))) else (some false))) else (some false)))) else (none)) else (none))) else (none)))) = some r := H
              have A25 := Aside0.mk A250
              clear A250
              replace H := Option.bind_eq_some_iff.mp H
              obtain ⟨⟨t177, t178, t179⟩, A260, H⟩ := H
              replace H : ((frame_Get.f kj17 t169 (wrap64 (Int.tmod (IntKind.u64.wrap (a0)) 24)) (Int.tmod (wrap64 ((wrap64 (Int.tmod (IntKind.u64.wrap (a1)) 6)) + 1)) 6)).bind fun bt182 => (if t169.size ≤ 281474976710656 then ((some (bytesOf t169 : List Int)).bind fun y187 => (if 0 ≤ (wrap64 (Int.tmod (IntKind.u64.wrap (a4)) 64)) then (if (wrap64 (Int.tmod (IntKind.u64.wrap (a4)) 64)) < (y187.length : Int) then ((frame_Get.f kj17 (strOfNums (y187.set ((wrap64 (Int.tmod (IntKind.u64.wrap (a4)) 64)) : Int).toNat (Go.bits .xor .u8 (rd y187 (wrap64 (Int.tmod (IntKind.u64.wrap (a4)) 64))) ((wrap64 (1 + (Go.bits .and .i64 a5 127))) % 256)))) (wrap64 (Int.tmod (IntKind.u64.wrap (a0)) 24)) (wrap64 (Int.tmod (IntKind.u64.wrap (a1)) 6))).bind fun bt192 => ((ossuarylaw14_text.f kj17 ((a2) % 256)).bind fun t197 => (if t172.toList = t197.toList then ((ossuarylaw0_SameInts.f kj17 t173 x15_8).bind fun t198 => (if t198 = true then ((ossuarylaw0_Num.f t174).bind fun t199 => (if t199 = 0 then ((ossuarylaw0_Num.f t179).bind fun t200 => (if t200 = 1400 then ((ossuarylaw0_Num.f bt182.2.2).bind fun t201 => (if t201 = 1400 then (if bt192.1.toList = ([] : List UInt8) then (if (bt192.2.1.length : Int) = 0 then ((ossuarylaw0_Num.f bt192.2.2).bind fun t202 => (some (t202 == 1400))) else (some false)) else (some false)) else (some false))) else (some false))) else (some false))) else (some false))) else (some false)))) else (none)) else (none))) else (none))) = some r := H
              have A26 := Aside0.mk A260
              clear A260
              replace H := Option.bind_eq_some_iff.mp H
              obtain ⟨⟨t182, t183, t184⟩, A270, H⟩ := H
              replace H : (if t169.size ≤ 281474976710656 then ((some (bytesOf t169 : List Int)).bind fun y187 => (if 0 ≤ (wrap64 (Int.tmod (IntKind.u64.wrap (a4)) 64)) then (if (wrap64 (Int.tmod (IntKind.u64.wrap (a4)) 64)) < (y187.length : Int) then ((frame_Get.f kj17 (strOfNums (y187.set ((wrap64 (Int.tmod (IntKind.u64.wrap (a4)) 64)) : Int).toNat (Go.bits .xor .u8 (rd y187 (wrap64 (Int.tmod (IntKind.u64.wrap (a4)) 64))) ((wrap64 (1 + (Go.bits .and .i64 a5 127))) % 256)))) (wrap64 (Int.tmod (IntKind.u64.wrap (a0)) 24)) (wrap64 (Int.tmod (IntKind.u64.wrap (a1)) 6))).bind fun bt192 => ((ossuarylaw14_text.f kj17 ((a2) % 256)).bind fun t197 => (if t172.toList = t197.toList then ((ossuarylaw0_SameInts.f kj17 t173 x15_8).bind fun t198 => (if t198 = true then ((ossuarylaw0_Num.f t174).bind fun t199 => (if t199 = 0 then ((ossuarylaw0_Num.f t179).bind fun t200 => (if t200 = 1400 then ((ossuarylaw0_Num.f t184).bind fun t201 => (if t201 = 1400 then (if bt192.1.toList = ([] : List UInt8) then (if (bt192.2.1.length : Int) = 0 then ((ossuarylaw0_Num.f bt192.2.2).bind fun t202 => (some (t202 == 1400))) else (some false)) else (some false)) else (some false))) else (some false))) else (some false))) else (some false))) else (some false)))) else (none)) else (none))) else (none)) = some r := H
              have A27 := Aside0.mk A270
              clear A270
              by_cases c28 : t169.size ≤ 281474976710656
              · rw [if_pos c28] at H
                have c28b0 := eq_true c28
                have c28b1 : decide (t169.size ≤ 281474976710656) = true := decide_eq_true c28
                clear c28
                obtain ⟨y187, hy187⟩ : ∃ y_ : List Int, y_ = (bytesOf t169) := ⟨_, rfl⟩
                replace H : (if 0 ≤ (wrap64 (Int.tmod (IntKind.u64.wrap (a4)) 64)) then (if (wrap64 (Int.tmod (IntKind.u64.wrap (a4)) 64)) < (y187.length : Int) then ((frame_Get.f kj17 (strOfNums (y187.set ((wrap64 (Int.tmod (IntKind.u64.wrap (a4)) 64)) : Int).toNat (Go.bits .xor .u8 (rd y187 (wrap64 (Int.tmod (IntKind.u64.wrap (a4)) 64))) ((wrap64 (1 + (Go.bits .and .i64 a5 127))) % 256)))) (wrap64 (Int.tmod (IntKind.u64.wrap (a0)) 24)) (wrap64 (Int.tmod (IntKind.u64.wrap (a1)) 6))).bind fun bt192 => ((ossuarylaw14_text.f kj17 ((a2) % 256)).bind fun t197 => (if t172.toList = t197.toList then ((ossuarylaw0_SameInts.f kj17 t173 x15_8).bind fun t198 => (if t198 = true then ((ossuarylaw0_Num.f t174).bind fun t199 => (if t199 = 0 then ((ossuarylaw0_Num.f t179).bind fun t200 => (if t200 = 1400 then ((ossuarylaw0_Num.f t184).bind fun t201 => (if t201 = 1400 then (if bt192.1.toList = ([] : List UInt8) then (if (bt192.2.1.length : Int) = 0 then ((ossuarylaw0_Num.f bt192.2.2).bind fun t202 => (some (t202 == 1400))) else (some false)) else (some false)) else (some false))) else (some false))) else (some false))) else (some false))) else (some false)))) else (none)) else (none)) = some r := by first | (rw [hy187]; with_reducible exact H) | (have H2_ := (Option.bind_some _ _).symm.trans H; rw [hy187]; with_reducible exact H2_) | (have H2_ := (Option.bind_some _ _).symm.trans H; with_reducible exact H2_) | with_reducible exact H | (rw [hy187]; exact H) | exact H
                have Ny187 := Aside0.mk hy187
                clear hy187
                obtain ⟨ji29, hji29⟩ : ∃ j_ : Int, (wrap64 (Int.tmod (IntKind.u64.wrap (a4)) 64)) = j_ := ⟨_, rfl⟩
                replace H : (if 0 ≤ (ji29) then (if (ji29) < (y187.length : Int) then ((frame_Get.f kj17 (strOfNums (y187.set ((ji29) : Int).toNat (Go.bits .xor .u8 (rd y187 (ji29)) ((wrap64 (1 + (Go.bits .and .i64 a5 127))) % 256)))) (wrap64 (Int.tmod (IntKind.u64.wrap (a0)) 24)) (wrap64 (Int.tmod (IntKind.u64.wrap (a1)) 6))).bind fun bt192 => ((ossuarylaw14_text.f kj17 ((a2) % 256)).bind fun t197 => (if t172.toList = t197.toList then ((ossuarylaw0_SameInts.f kj17 t173 x15_8).bind fun t198 => (if t198 = true then ((ossuarylaw0_Num.f t174).bind fun t199 => (if t199 = 0 then ((ossuarylaw0_Num.f t179).bind fun t200 => (if t200 = 1400 then ((ossuarylaw0_Num.f t184).bind fun t201 => (if t201 = 1400 then (if bt192.1.toList = ([] : List UInt8) then (if (bt192.2.1.length : Int) = 0 then ((ossuarylaw0_Num.f bt192.2.2).bind fun t202 => (some (t202 == 1400))) else (some false)) else (some false)) else (some false))) else (some false))) else (some false))) else (some false))) else (some false)))) else (none)) else (none)) = some r := by first | (rw [hji29] at H; exact H) | (simp only [hji29] at H ⊢; exact H)
                (try rw [hji29] at A25)
                (try rw [hji29] at A26)
                (try rw [hji29] at A27)
                have hji29w : (IntKind.i64.wrap (Int.tmod (IntKind.u64.wrap (a4)) 64)) = ji29 := (i64_w _).trans hji29
                by_cases c30 : 0 ≤ (ji29)
                · rw [if_pos c30] at H
                  have c30b0 : decide (0 ≤ (ji29)) = true := decide_eq_true c30
                  clear c30
                  by_cases c31 : (ji29) < (y187.length : Int)
                  · rw [if_pos c31] at H
                    have c31b0 : decide ((ji29) < (y187.length : Int)) = true := decide_eq_true c31
                    clear c31
                    obtain ⟨y191, hy191⟩ : ∃ y_ : List Int, y_ = (y187.set ((ji29) : Int).toNat (Go.bits .xor .u8 (rd y187 (ji29)) ((wrap64 (1 + (Go.bits .and .i64 a5 127))) % 256))) := ⟨_, rfl⟩
                    replace H : ((frame_Get.f kj17 (strOfNums y191) (wrap64 (Int.tmod (IntKind.u64.wrap (a0)) 24)) (wrap64 (Int.tmod (IntKind.u64.wrap (a1)) 6))).bind fun bt192 => ((ossuarylaw14_text.f kj17 ((a2) % 256)).bind fun t197 => (if t172.toList = t197.toList then ((ossuarylaw0_SameInts.f kj17 t173 x15_8).bind fun t198 => (if t198 = true then ((ossuarylaw0_Num.f t174).bind fun t199 => (if t199 = 0 then ((ossuarylaw0_Num.f t179).bind fun t200 => (if t200 = 1400 then ((ossuarylaw0_Num.f t184).bind fun t201 => (if t201 = 1400 then (if bt192.1.toList = ([] : List UInt8) then (if (bt192.2.1.length : Int) = 0 then ((ossuarylaw0_Num.f bt192.2.2).bind fun t202 => (some (t202 == 1400))) else (some false)) else (some false)) else (some false))) else (some false))) else (some false))) else (some false))) else (some false)))) = some r := by first | (rw [hy191]; with_reducible exact H) | (have H2_ := (Option.bind_some _ _).symm.trans H; rw [hy191]; with_reducible exact H2_) | (have H2_ := (Option.bind_some _ _).symm.trans H; with_reducible exact H2_) | with_reducible exact H | (rw [hy191]; exact H) | exact H
                    have Ny191 := Aside0.mk hy191
                    clear hy191
                    replace H := Option.bind_eq_some_iff.mp H
                    obtain ⟨⟨t192, t193, t194⟩, A330, H⟩ := H
                    replace H : ((ossuarylaw14_text.f kj17 ((a2) % 256)).bind fun t197 => (if t172.toList = t197.toList then ((ossuarylaw0_SameInts.f kj17 t173 x15_8).bind fun t198 => (if t198 = true then ((ossuarylaw0_Num.f t174).bind fun t199 => (if t199 = 0 then ((ossuarylaw0_Num.f t179).bind fun t200 => (if t200 = 1400 then ((ossuarylaw0_Num.f t184).bind fun t201 => (if t201 = 1400 then (if t192.toList = ([] : List UInt8) then (if (t193.length : Int) = 0 then ((ossuarylaw0_Num.f t194).bind fun t202 => (some (t202 == 1400))) else (some false)) else (some false)) else (some false))) else (some false))) else (some false))) else (some false))) else (some false))) = some r := H
                    have A33 := Aside0.mk A330
                    clear A330
                    replace H := Option.bind_eq_some_iff.mp H
                    obtain ⟨t197, A340, H⟩ := H
                    replace H : (if t172.toList = t197.toList then ((ossuarylaw0_SameInts.f kj17 t173 x15_8).bind fun t198 => (if t198 = true then ((ossuarylaw0_Num.f t174).bind fun t199 => (if t199 = 0 then ((ossuarylaw0_Num.f t179).bind fun t200 => (if t200 = 1400 then ((ossuarylaw0_Num.f t184).bind fun t201 => (if t201 = 1400 then (if t192.toList = ([] : List UInt8) then (if (t193.length : Int) = 0 then ((ossuarylaw0_Num.f t194).bind fun t202 => (some (t202 == 1400))) else (some false)) else (some false)) else (some false))) else (some false))) else (some false))) else (some false))) else (some false)) = some r := H
                    have A34 := Aside0.mk A340
                    clear A340
                    by_cases c35 : t172.toList = t197.toList
                    · rw [if_pos c35] at H
                      have c35b0 : (t172.toList == t197.toList) = true := beq_iff_eq.mpr c35
                      have c35b1 : (t172.toList != t197.toList) = false := bne_eq_false_iff_eq.mpr c35
                      clear c35
                      replace H := Option.bind_eq_some_iff.mp H
                      obtain ⟨t198, A360, H⟩ := H
                      replace H : (if t198 = true then ((ossuarylaw0_Num.f t174).bind fun t199 => (if t199 = 0 then ((ossuarylaw0_Num.f t179).bind fun t200 => (if t200 = 1400 then ((ossuarylaw0_Num.f t184).bind fun t201 => (if t201 = 1400 then (if t192.toList = ([] : List UInt8) then (if (t193.length : Int) = 0 then ((ossuarylaw0_Num.f t194).bind fun t202 => (some (t202 == 1400))) else (some false)) else (some false)) else (some false))) else (some false))) else (some false))) else (some false)) = some r := H
                      have A36 := Aside0.mk A360
                      clear A360
                      by_cases c37 : t198 = true
                      · subst c37
                        have H1 : ((ossuarylaw0_Num.f t174).bind fun t199 => (if t199 = 0 then ((ossuarylaw0_Num.f t179).bind fun t200 => (if t200 = 1400 then ((ossuarylaw0_Num.f t184).bind fun t201 => (if t201 = 1400 then (if t192.toList = ([] : List UInt8) then (if (t193.length : Int) = 0 then ((ossuarylaw0_Num.f t194).bind fun t202 => (some (t202 == 1400))) else (some false)) else (some false)) else (some false))) else (some false))) else (some false))) = some r := by rw [if_pos rfl] at H; exact H
                        clear H
                        have H := H1
                        clear H1
                        replace H := Option.bind_eq_some_iff.mp H
                        obtain ⟨t199, A380, H⟩ := H
                        replace H : (if t199 = 0 then ((ossuarylaw0_Num.f t179).bind fun t200 => (if t200 = 1400 then ((ossuarylaw0_Num.f t184).bind fun t201 => (if t201 = 1400 then (if t192.toList = ([] : List UInt8) then (if (t193.length : Int) = 0 then ((ossuarylaw0_Num.f t194).bind fun t202 => (some (t202 == 1400))) else (some false)) else (some false)) else (some false))) else (some false))) else (some false)) = some r := H
                        have A38 := Aside0.mk A380
                        clear A380
                        by_cases c39 : t199 = 0
                        · rw [if_pos c39] at H
                          have c39b0 : (t199 == 0) = true := beq_iff_eq.mpr c39
                          have c39b1 : (t199 != 0) = false := bne_eq_false_iff_eq.mpr c39
                          clear c39
                          replace H := Option.bind_eq_some_iff.mp H
                          obtain ⟨t200, A400, H⟩ := H
                          replace H : (if t200 = 1400 then ((ossuarylaw0_Num.f t184).bind fun t201 => (if t201 = 1400 then (if t192.toList = ([] : List UInt8) then (if (t193.length : Int) = 0 then ((ossuarylaw0_Num.f t194).bind fun t202 => (some (t202 == 1400))) else (some false)) else (some false)) else (some false))) else (some false)) = some r := H
                          have A40 := Aside0.mk A400
                          clear A400
                          by_cases c41 : t200 = 1400
                          · rw [if_pos c41] at H
                            have c41b0 : (t200 == 1400) = true := beq_iff_eq.mpr c41
                            have c41b1 : (t200 != 1400) = false := bne_eq_false_iff_eq.mpr c41
                            clear c41
                            replace H := Option.bind_eq_some_iff.mp H
                            obtain ⟨t201, A420, H⟩ := H
                            replace H : (if t201 = 1400 then (if t192.toList = ([] : List UInt8) then (if (t193.length : Int) = 0 then ((ossuarylaw0_Num.f t194).bind fun t202 => (some (t202 == 1400))) else (some false)) else (some false)) else (some false)) = some r := H
                            have A42 := Aside0.mk A420
                            clear A420
                            by_cases c43 : t201 = 1400
                            · rw [if_pos c43] at H
                              have c43b0 : (t201 == 1400) = true := beq_iff_eq.mpr c43
                              have c43b1 : (t201 != 1400) = false := bne_eq_false_iff_eq.mpr c43
                              clear c43
                              by_cases c44 : t192.toList = ([] : List UInt8)
                              · rw [if_pos c44] at H
                                have c44b0 : (t192.toList == ([] : List UInt8)) = true := beq_iff_eq.mpr c44
                                have c44b1 : (t192.toList != ([] : List UInt8)) = false := bne_eq_false_iff_eq.mpr c44
                                clear c44
                                by_cases c45 : (t193.length : Int) = 0
                                · rw [if_pos c45] at H
                                  have c45b0 : ((t193.length : Int) == 0) = true := beq_iff_eq.mpr c45
                                  have c45b1 : ((t193.length : Int) != 0) = false := bne_eq_false_iff_eq.mpr c45
                                  clear c45
                                  replace H := Option.bind_eq_some_iff.mp H
                                  obtain ⟨t202, A460, H⟩ := H
                                  replace H : (some (t202 == 1400)) = some r := H
                                  have A46 := Aside0.mk A460
                                  clear A460
                                  obtain rfl := Option.some.inj H
                                  go_wp2_with (first | ((with_reducible refine gate_callee (f := 10) rfl ?_); refine goesL_ (some 85) rfl rfl Try.func10 (by kernel_rfl) rfl #[.string t169, .int .i64 (wrap64 (Int.tmod (IntKind.u64.wrap (a0)) 24)), .int .i64 (wrap64 (Int.tmod (IntKind.u64.wrap (a1)) 6))] rfl (by (try simp only [List.map_toArray, List.map_cons, List.map_nil]); first | done | rfl | (simp only [List.length_drop, List.length_take]; rfl)) ?_; (with_reducible refine (frame_Get.calls kj17 t169 (wrap64 (Int.tmod (IntKind.u64.wrap (a0)) 24)) (wrap64 (Int.tmod (IntKind.u64.wrap (a1)) 6)) t172 t173 t174 _ A25.out).mono ?_); rintro e w47 ⟨v175, rfl, ho0, hb⟩; refine ⟨_, rfl, ?_⟩; have n0_ := Aside0.mk (Kd.R_elder' (by (with_reducible repeat (first | apply Kd.R_alloc | apply Kd.R_drewN | apply Kd.R_drew)); exact HO_15.out) (Kd.R_base ho0) hb); have n1_ := Aside0.mk (Kd.R_lower (Kd.R_new' ho0 (Kd.R_lt (by (with_reducible repeat (first | apply Kd.R_alloc | apply Kd.R_drewN | apply Kd.R_drew)); exact HO_15.out))) (below_size (by repeat (first | (with_reducible first | exact HB.out | apply below_alloc | apply pw_below_drewN | apply below_drew1) | exact HB.out)))); have n2_ := Aside0.mk (below_step (by repeat (first | (with_reducible first | exact HB.out | apply below_alloc | apply pw_below_drewN | apply below_drew1) | exact HB.out)) hb); clear HO_15; clear HB; have HO_15 := n0_; have HO176 := n1_; have HB := n2_; clear n0_ n1_ n2_; (try clear hb); (try clear hb2); (try clear hk); (try clear hi); (try clear ho0)) | ((with_reducible refine gate_callee (f := 10) rfl ?_); refine goesL_ (some 95) rfl rfl Try.func10 (by kernel_rfl) rfl #[.string t169, .int .i64 (Int.tmod (wrap64 ((wrap64 (Int.tmod (IntKind.u64.wrap (a0)) 24)) + 1)) 24), .int .i64 (wrap64 (Int.tmod (IntKind.u64.wrap (a1)) 6))] rfl (by (try simp only [List.map_toArray, List.map_cons, List.map_nil]); first | done | rfl | (simp only [List.length_drop, List.length_take]; rfl)) ?_; (with_reducible refine (frame_Get.calls kj17 t169 (Int.tmod (wrap64 ((wrap64 (Int.tmod (IntKind.u64.wrap (a0)) 24)) + 1)) 24) (wrap64 (Int.tmod (IntKind.u64.wrap (a1)) 6)) t177 t178 t179 _ A26.out).mono ?_); rintro e w48 ⟨v180, rfl, ho0, hb⟩; refine ⟨_, rfl, ?_⟩; have n0_ := Aside0.mk (Kd.R_elder' (by (with_reducible repeat (first | apply Kd.R_alloc | apply Kd.R_drewN | apply Kd.R_drew)); exact HO_15.out) (Kd.R_base ho0) hb); have n1_ := Aside0.mk (Kd.R_elder' (by (with_reducible repeat (first | apply Kd.R_alloc | apply Kd.R_drewN | apply Kd.R_drew)); exact HO176.out) (Kd.R_base ho0) hb); have n2_ := Aside0.mk (Kd.R_lower (Kd.R_new' (Kd.R_new' ho0 (Kd.R_lt (by (with_reducible repeat (first | apply Kd.R_alloc | apply Kd.R_drewN | apply Kd.R_drew)); exact HO_15.out))) (Kd.R_lt (by (with_reducible repeat (first | apply Kd.R_alloc | apply Kd.R_drewN | apply Kd.R_drew)); exact HO176.out))) (below_size (by repeat (first | (with_reducible first | exact HB.out | apply below_alloc | apply pw_below_drewN | apply below_drew1) | exact HB.out)))); have n3_ := Aside0.mk (below_step (by repeat (first | (with_reducible first | exact HB.out | apply below_alloc | apply pw_below_drewN | apply below_drew1) | exact HB.out)) hb); clear HO_15; clear HO176; clear HB; have HO_15 := n0_; have HO176 := n1_; have HO181 := n2_; have HB := n3_; clear n0_ n1_ n2_ n3_; (try clear hb); (try clear hb2); (try clear hk); (try clear hi); (try clear ho0)) | ((with_reducible refine gate_callee (f := 10) rfl ?_); refine goesL_ (some 105) rfl rfl Try.func10 (by kernel_rfl) rfl #[.string t169, .int .i64 (wrap64 (Int.tmod (IntKind.u64.wrap (a0)) 24)), .int .i64 (Int.tmod (wrap64 ((wrap64 (Int.tmod (IntKind.u64.wrap (a1)) 6)) + 1)) 6)] rfl (by (try simp only [List.map_toArray, List.map_cons, List.map_nil]); first | done | rfl | (simp only [List.length_drop, List.length_take]; rfl)) ?_; (with_reducible refine (frame_Get.calls kj17 t169 (wrap64 (Int.tmod (IntKind.u64.wrap (a0)) 24)) (Int.tmod (wrap64 ((wrap64 (Int.tmod (IntKind.u64.wrap (a1)) 6)) + 1)) 6) t182 t183 t184 _ A27.out).mono ?_); rintro e w49 ⟨v185, rfl, ho0, hb⟩; refine ⟨_, rfl, ?_⟩; have n0_ := Aside0.mk (Kd.R_elder' (by (with_reducible repeat (first | apply Kd.R_alloc | apply Kd.R_drewN | apply Kd.R_drew)); exact HO_15.out) (Kd.R_base ho0) hb); have n1_ := Aside0.mk (Kd.R_elder' (by (with_reducible repeat (first | apply Kd.R_alloc | apply Kd.R_drewN | apply Kd.R_drew)); exact HO176.out) (Kd.R_base ho0) hb); have n2_ := Aside0.mk (Kd.R_elder' (by (with_reducible repeat (first | apply Kd.R_alloc | apply Kd.R_drewN | apply Kd.R_drew)); exact HO181.out) (Kd.R_base ho0) hb); have n3_ := Aside0.mk (Kd.R_lower (Kd.R_new' (Kd.R_new' (Kd.R_new' ho0 (Kd.R_lt (by (with_reducible repeat (first | apply Kd.R_alloc | apply Kd.R_drewN | apply Kd.R_drew)); exact HO_15.out))) (Kd.R_lt (by (with_reducible repeat (first | apply Kd.R_alloc | apply Kd.R_drewN | apply Kd.R_drew)); exact HO176.out))) (Kd.R_lt (by (with_reducible repeat (first | apply Kd.R_alloc | apply Kd.R_drewN | apply Kd.R_drew)); exact HO181.out))) (below_size (by repeat (first | (with_reducible first | exact HB.out | apply below_alloc | apply pw_below_drewN | apply below_drew1) | exact HB.out)))); have n4_ := Aside0.mk (below_step (by repeat (first | (with_reducible first | exact HB.out | apply below_alloc | apply pw_below_drewN | apply below_drew1) | exact HB.out)) hb); clear HO_15; clear HO176; clear HO181; clear HB; have HO_15 := n0_; have HO176 := n1_; have HO181 := n2_; have HO186 := n3_; have HB := n4_; clear n0_ n1_ n2_ n3_ n4_; (try clear hb); (try clear hb2); (try clear hk); (try clear hi); (try clear ho0)) | ((with_reducible refine gate_dst (N := 110) rfl ?_); (try (refine gate_guard (by rfl) ?_; dsimp only)); refine RB_make _ rfl (N := 110) rfl 9 41 5 _ rfl t169 rfl Try.underlying9 Try.underlying41 Try.underlying5 (of_decide_eq_true (by first | (with_reducible assumption) | assumption)) (Below.refl _ _) (Nat.le_refl _) ?_; intro v188 w50 ho51 hb hg_ hnew_; clear hg_ hnew_; (first | rw [← Ny187.out] at ho51 | (simp only [Int.reduceToNat] at ho51; rw [← Ny187.out] at ho51)); have n0_ := Aside0.mk (Kd.R_below (by (with_reducible repeat (first | apply Kd.R_alloc | apply Kd.R_drewN | apply Kd.R_drew)); exact HO_15.out) hb); have n1_ := Aside0.mk (Kd.R_below (by (with_reducible repeat (first | apply Kd.R_alloc | apply Kd.R_drewN | apply Kd.R_drew)); exact HO176.out) hb); have n2_ := Aside0.mk (Kd.R_below (by (with_reducible repeat (first | apply Kd.R_alloc | apply Kd.R_drewN | apply Kd.R_drew)); exact HO181.out) hb); have n3_ := Aside0.mk (Kd.R_below (by (with_reducible repeat (first | apply Kd.R_alloc | apply Kd.R_drewN | apply Kd.R_drew)); exact HO186.out) hb); have n4_ := Aside0.mk (RB.lower ho51 (below_size (by repeat (first | (with_reducible first | exact HB.out | apply below_alloc | apply pw_below_drewN | apply below_drew1) | exact HB.out)))); have n5_ := Aside0.mk (below_step (by repeat (first | (with_reducible first | exact HB.out | apply below_alloc | apply pw_below_drewN | apply below_drew1) | exact HB.out)) hb); clear HO_15; clear HO176; clear HO181; clear HO186; clear HB; have HO_15 := n0_; have HO176 := n1_; have HO181 := n2_; have HO186 := n3_; have HO189 := n4_; have HB := n5_; clear n0_ n1_ n2_ n3_ n4_ n5_; clear hb ho51; obtain ⟨Ao52, co52, eo52⟩ := RB.slice HO189.out; subst eo52; have p190 : 0 ≤ ((ji29) : Int) := of_decide_eq_true (by first | (with_reducible assumption) | assumption); have q190 : (ji29) < (y187.length : Int) := of_decide_eq_true (by first | (with_reducible assumption) | assumption); obtain ⟨ad190, e190, hx190_0⟩ := Kd.at_int (RB.reads' HO189.out).2.2 (ji29) p190 q190; cases e190; replace p190 := eq_true p190; replace q190 := eq_true q190; have p32 : 0 ≤ ((ji29) : Int) := of_decide_eq_true (by first | (with_reducible assumption) | assumption); have q32 : ((ji29) : Int) < ((y187.length : Int) : Int) := of_decide_eq_true (by first | (with_reducible assumption) | assumption); obtain ⟨go32, co32, eo32, gb32, gl32, cl32, HG32⟩ := RB.form HO189.out (by omega); (first | cases eo32 | (injection eo32 with ea_ en_ ec_; (first | subst ea_ | (injection ea_ with ea_; subst ea_)); subst ec_; clear en_)); have GB32 := Aside0.mk gb32; have GG32 := Aside0.mk HG32; clear gb32 gl32 HG32; (first | simp only [add_plain] at hx190_0 | skip); obtain ⟨hx32_0, hf32_0⟩ := RB.celln 0 HO189.out ((ji29) : Int) p32 q32; replace p32 := eq_true p32; replace q32 := eq_true q32; obtain ⟨hy53_, hz53_⟩ := RB.celln 0 HO189.out ((ji29) : Int) (of_decide_eq_true (by first | (with_reducible assumption) | assumption)) (of_decide_eq_true (by first | (with_reducible assumption) | assumption)); have HP53 := RB.putg HO189.out ((ji29) : Int) (Go.bits .xor .u8 (rd y187 (ji29)) ((wrap64 (1 + (Go.bits .and .i64 a5 127))) % 256))) | ((with_reducible refine gate_store (t := 5) (p := 126) rfl ?_); refine store_event (t := 5) (p := 126) (v := ?vo_w54) (w1 := (w50.setCell ⟨go32, ((ji29) : Int).toNat, none⟩ (.int .u8 (Go.bits .xor .u8 (rd y187 (ji29)) ((wrap64 (1 + (Go.bits .and .i64 a5 127))) % 256))))) ?hg ?ho ?hn ?hr ?_; (case ho => rfl); (case hg => rfl); (case hn => rfl); (case hr => first | (go_simp; done) | (go_simp; rfl)); intro w54 hw; have hg : w50.grownBy w54 (some go32) := (by rw [hw]; exact HP53.2); have hp_ : RB 5 w54 w.heap.size (fun _ => True) (.slice (some ⟨go32, 0, none⟩) y187.length co52) y191 := (by rw [hw, Ny191.out]; exact HP53.1); clear HP53; have n0_ := Aside0.mk (RB.over' (v := (.slice (some ⟨go32, 0, none⟩) y187.length co52)) (by (with_reducible repeat (first | apply Kd.R_alloc | apply Kd.R_drewN | apply Kd.R_drew)); exact HO_15.out) (RB.typed HO189.out) (by decide) hg); have n1_ := Aside0.mk (RB.over' (v := (.slice (some ⟨go32, 0, none⟩) y187.length co52)) (by (with_reducible repeat (first | apply Kd.R_alloc | apply Kd.R_drewN | apply Kd.R_drew)); exact HO176.out) (RB.typed HO189.out) (by decide) hg); have n2_ := Aside0.mk (RB.over' (v := (.slice (some ⟨go32, 0, none⟩) y187.length co52)) (by (with_reducible repeat (first | apply Kd.R_alloc | apply Kd.R_drewN | apply Kd.R_drew)); exact HO181.out) (RB.typed HO189.out) (by decide) hg); have n3_ := Aside0.mk (RB.over' (v := (.slice (some ⟨go32, 0, none⟩) y187.length co52)) (by (with_reducible repeat (first | apply Kd.R_alloc | apply Kd.R_drewN | apply Kd.R_drew)); exact HO186.out) (RB.typed HO189.out) (by decide) hg); have n4_ := Aside0.mk (hp_); have n5_ := Aside0.mk ((by rw [hw]; exact below_set (HB.out) GB32.out : Below w.heap.size w w54)); clear HO_15; clear HO176; clear HO181; clear HO186; clear HO189; clear HB; have HO_15 := n0_; have HO176 := n1_; have HO181 := n2_; have HO186 := n3_; have HO189 := n4_; have HB := n5_; clear n0_ n1_ n2_ n3_ n4_ n5_; clear hg hw hp_; have hcv55 := RB.string (P := Try.prog) Try.underlying41 Try.underlying5 Try.underlying9 HO189.out) | ((with_reducible refine gate_callee (f := 10) rfl ?_); refine goesL_ (some 132) rfl rfl Try.func10 (by kernel_rfl) rfl #[.string (strOfNums y191), .int .i64 (wrap64 (Int.tmod (IntKind.u64.wrap (a0)) 24)), .int .i64 (wrap64 (Int.tmod (IntKind.u64.wrap (a1)) 6))] rfl (by (try simp only [List.map_toArray, List.map_cons, List.map_nil]); first | done | rfl | (simp only [List.length_drop, List.length_take]; rfl)) ?_; (with_reducible refine (frame_Get.calls kj17 (strOfNums y191) (wrap64 (Int.tmod (IntKind.u64.wrap (a0)) 24)) (wrap64 (Int.tmod (IntKind.u64.wrap (a1)) 6)) t192 t193 t194 _ A33.out).mono ?_); rintro e w56 ⟨v195, rfl, ho0, hb⟩; refine ⟨_, rfl, ?_⟩; have n0_ := Aside0.mk (Kd.R_elder' (by (with_reducible repeat (first | apply Kd.R_alloc | apply Kd.R_drewN | apply Kd.R_drew)); exact HO_15.out) (Kd.R_base ho0) hb); have n1_ := Aside0.mk (Kd.R_elder' (by (with_reducible repeat (first | apply Kd.R_alloc | apply Kd.R_drewN | apply Kd.R_drew)); exact HO176.out) (Kd.R_base ho0) hb); have n2_ := Aside0.mk (Kd.R_elder' (by (with_reducible repeat (first | apply Kd.R_alloc | apply Kd.R_drewN | apply Kd.R_drew)); exact HO181.out) (Kd.R_base ho0) hb); have n3_ := Aside0.mk (Kd.R_elder' (by (with_reducible repeat (first | apply Kd.R_alloc | apply Kd.R_drewN | apply Kd.R_drew)); exact HO186.out) (Kd.R_base ho0) hb); have n4_ := Aside0.mk (RB.below (by (with_reducible repeat (first | apply RB.alloc | apply RB.drewN | apply RB.drew)); exact HO189.out) hb); have n5_ := Aside0.mk (Kd.R_lower (Kd.R_new' (Kd.R_new' (Kd.R_new' (Kd.R_new' ho0 (Kd.R_lt (by (with_reducible repeat (first | apply Kd.R_alloc | apply Kd.R_drewN | apply Kd.R_drew)); exact HO_15.out))) (Kd.R_lt (by (with_reducible repeat (first | apply Kd.R_alloc | apply Kd.R_drewN | apply Kd.R_drew)); exact HO176.out))) (Kd.R_lt (by (with_reducible repeat (first | apply Kd.R_alloc | apply Kd.R_drewN | apply Kd.R_drew)); exact HO181.out))) (Kd.R_lt (by (with_reducible repeat (first | apply Kd.R_alloc | apply Kd.R_drewN | apply Kd.R_drew)); exact HO186.out))) (below_size (by repeat (first | (with_reducible first | exact HB.out | apply below_alloc | apply pw_below_drewN | apply below_drew1) | exact HB.out)))); have n6_ := Aside0.mk (below_step (by repeat (first | (with_reducible first | exact HB.out | apply below_alloc | apply pw_below_drewN | apply below_drew1) | exact HB.out)) hb); clear HO_15; clear HO176; clear HO181; clear HO186; clear HO189; clear HB; have HO_15 := n0_; have HO176 := n1_; have HO181 := n2_; have HO186 := n3_; have HO189 := n4_; have HO196 := n5_; have HB := n6_; clear n0_ n1_ n2_ n3_ n4_ n5_ n6_; (try clear hb); (try clear hb2); (try clear hk); (try clear hi); (try clear ho0)) | ((with_reducible refine gate_callee (f := 17) rfl ?_); refine goesL_ (some 139) rfl rfl Try.func17 (by kernel_rfl) rfl #[.int .u8 ((a2) % 256)] rfl (by (try simp only [List.map_toArray, List.map_cons, List.map_nil]); first | done | rfl | (simp only [List.length_drop, List.length_take]; rfl)) ?_; (with_reducible refine (ossuarylaw14_text.calls kj17 ((a2) % 256) t197 _ A34.out).mono ?_); rintro e w57 ⟨rfl, hb⟩; refine ⟨_, rfl, ?_⟩; have n0_ := Aside0.mk (Kd.R_below (by (with_reducible repeat (first | apply Kd.R_alloc | apply Kd.R_drewN | apply Kd.R_drew)); exact HO_15.out) hb); have n1_ := Aside0.mk (Kd.R_below (by (with_reducible repeat (first | apply Kd.R_alloc | apply Kd.R_drewN | apply Kd.R_drew)); exact HO176.out) hb); have n2_ := Aside0.mk (Kd.R_below (by (with_reducible repeat (first | apply Kd.R_alloc | apply Kd.R_drewN | apply Kd.R_drew)); exact HO181.out) hb); have n3_ := Aside0.mk (Kd.R_below (by (with_reducible repeat (first | apply Kd.R_alloc | apply Kd.R_drewN | apply Kd.R_drew)); exact HO186.out) hb); have n4_ := Aside0.mk (RB.below (by (with_reducible repeat (first | apply RB.alloc | apply RB.drewN | apply RB.drew)); exact HO189.out) hb); have n5_ := Aside0.mk (Kd.R_below (by (with_reducible repeat (first | apply Kd.R_alloc | apply Kd.R_drewN | apply Kd.R_drew)); exact HO196.out) hb); have n6_ := Aside0.mk (below_step (by repeat (first | (with_reducible first | exact HB.out | apply below_alloc | apply pw_below_drewN | apply below_drew1) | exact HB.out)) hb); clear HO_15; clear HO176; clear HO181; clear HO186; clear HO189; clear HO196; clear HB; have HO_15 := n0_; have HO176 := n1_; have HO181 := n2_; have HO186 := n3_; have HO189 := n4_; have HO196 := n5_; have HB := n6_; clear n0_ n1_ n2_ n3_ n4_ n5_ n6_; (try clear hb); (try clear hb2); (try clear hk); (try clear hi); obtain ⟨Ao58, co58, eo58⟩ := Kd.R_slice HO176.out; subst eo58) | (go_at_call 13; (with_reducible refine (ossuarylaw0_SameInts.calls kj17 _ _ t173 _ _ x15_8 true _ ?side1 ?side2 ?side3 ?side4 A36.out).mono ?_); (case side1 => repeat (first | exact (Kd.R_reads' HO176.out).2.2 | (with_reducible refine Kd.C_alloc ?_ _) | (with_reducible refine Kd.C_drewN ?_ _) | (with_reducible refine Kd.C_drew ?_))); (case side2 => exact (Kd.R_reads' HO176.out).2.1); (case side3 => repeat (first | exact (Kd.R_reads' HO_15.out).2.2 | (with_reducible refine Kd.C_alloc ?_ _) | (with_reducible refine Kd.C_drewN ?_ _) | (with_reducible refine Kd.C_drew ?_))); (case side4 => exact (Kd.R_reads' HO_15.out).2.1); rintro e w' ⟨rfl, ⟨nd, rfl⟩⟩) | (go_at_call 12; (with_reducible refine (ossuarylaw0_Num.calls t174 t199 _ A38.out).mono ?_); rintro e w' ⟨rfl, ⟨nd, rfl⟩⟩) | (go_at_call 12; (with_reducible refine (ossuarylaw0_Num.calls t179 t200 _ A40.out).mono ?_); rintro e w' ⟨rfl, ⟨nd, rfl⟩⟩) | (go_at_call 12; (with_reducible refine (ossuarylaw0_Num.calls t184 t201 _ A42.out).mono ?_); rintro e w' ⟨rfl, ⟨nd, rfl⟩⟩; obtain ⟨Ao59, co59, eo59⟩ := Kd.R_slice HO196.out; subst eo59) | (go_at_call 12; (with_reducible refine (ossuarylaw0_Num.calls t194 t202 _ A46.out).mono ?_); rintro e w' ⟨rfl, ⟨nd, rfl⟩⟩))
                                  go_ret
                                  exact ⟨by first | rfl | (simp [errW_none, errW_some] <;> rfl) | (simp only [← hji29]; first | rfl | (simp [errW_none, errW_some] <;> rfl)) | (simp [*, errW_none, errW_some] <;> rfl), by repeat (first | (with_reducible first | exact HB.out | apply below_alloc | apply pw_below_drewN | apply below_drew1) | exact HB.out)⟩
                                · rw [if_neg c45] at H
                                  have c45b0 : ((t193.length : Int) == 0) = false := beq_eq_false_iff_ne.mpr c45
                                  have c45b1 : ((t193.length : Int) != 0) = true := bne_iff_ne.mpr c45
                                  have c45b2 : ¬ (t193 = []) := fun h_ => c45 (by rw [h_]; rfl)
                                  exact absurd (Option.some.inj H) (by rw [HRT.out]; decide)
                              · rw [if_neg c44] at H
                                have c44b0 : (t192.toList == ([] : List UInt8)) = false := beq_eq_false_iff_ne.mpr c44
                                have c44b1 : (t192.toList != ([] : List UInt8)) = true := bne_iff_ne.mpr c44
                                exact absurd (Option.some.inj H) (by rw [HRT.out]; decide)
                            · rw [if_neg c43] at H
                              have c43b0 : (t201 == 1400) = false := beq_eq_false_iff_ne.mpr c43
                              have c43b1 : (t201 != 1400) = true := bne_iff_ne.mpr c43
                              exact absurd (Option.some.inj H) (by rw [HRT.out]; decide)
                          · rw [if_neg c41] at H
                            have c41b0 : (t200 == 1400) = false := beq_eq_false_iff_ne.mpr c41
                            have c41b1 : (t200 != 1400) = true := bne_iff_ne.mpr c41
                            exact absurd (Option.some.inj H) (by rw [HRT.out]; decide)
                        · rw [if_neg c39] at H
                          have c39b0 : (t199 == 0) = false := beq_eq_false_iff_ne.mpr c39
                          have c39b1 : (t199 != 0) = true := bne_iff_ne.mpr c39
                          exact absurd (Option.some.inj H) (by rw [HRT.out]; decide)
                      · replace c37 := Bool.eq_false_iff.mpr c37
                        subst c37
                        have H1 : (some false) = some r := by rw [if_neg (show ¬ (false = true) by decide)] at H; exact H
                        clear H
                        have H := H1
                        clear H1
                        exact absurd (Option.some.inj H) (by rw [HRT.out]; decide)
                    · rw [if_neg c35] at H
                      have c35b0 : (t172.toList == t197.toList) = false := beq_eq_false_iff_ne.mpr c35
                      have c35b1 : (t172.toList != t197.toList) = true := bne_iff_ne.mpr c35
                      exact absurd (Option.some.inj H) (by rw [HRT.out]; decide)
                  · rw [if_neg c31] at H
                    exact absurd H (by simp)
                · rw [if_neg c30] at H
                  exact absurd H (by simp)
              · rw [if_neg c28] at H
                exact absurd H (by simp)
  · replace c8 := Bool.eq_false_iff.mpr c8
    subst c8
    have H1 : (some false) = some r := by rw [if_neg (show ¬ (false = true) by decide)] at H; exact H
    clear H
    have H := H1
    clear H1
    exact absurd (Option.some.inj H) (by rw [HRT.out]; decide)

/-- THE ONE PURE STATEMENT of ossuarylaw14_FrameTurned: yours. -/
def ossuarylaw14_FrameTurned.Pure : Prop := ∀ (a0 : Int) (a1 : Int) (a2 : Int) (l3 : List Int) (a4 : Int) (a5 : Int), (Lit.int .i64 a0).wf = true → (Lit.int .i64 a1).wf = true → (Lit.int .i64 a2).wf = true → l3.length ≤ maxLen → l3.length * 8 ≤ 140737488351232 → (∀ x ∈ l3, (Lit.int .i64 x).wf = true) → (Lit.int .i64 a4).wf = true → (Lit.int .i64 a5).wf = true → ∃ k, ossuarylaw14_FrameTurned.f k a0 a1 a2 l3 a4 a5 = some true
theorem ossuarylaw14_FrameTurned.walk (P : ossuarylaw14_FrameTurned.Pure) (a0 : Int) (a1 : Int) (a2 : Int) (a3 : Option Addr) (len3 cap3 : Nat) (z3 : List Int) (a4 : Int) (a5 : Int) (w : World) (w0 : (Lit.int .i64 a0).wf = true) (w1 : (Lit.int .i64 a1).wf = true) (w2 : (Lit.int .i64 a2).wf = true) (w3 : (a3 = none ∧ len3 = 0 ∧ cap3 = 0 ∧ z3 = []) ∨ ∃ x, a3 = some x ∧ len3 ≤ cap3 ∧ cap3 ≤ maxLen ∧ z3.length = cap3 ∧ (∀ i, i < z3.length → w.cell? (x.add i) = some (.int .i64 (z3.getD i 0))) ∧ ∀ n ∈ z3, (Lit.int .i64 n).wf = true) (y3 : len3 * 8 ≤ 140737488351232) (w4 : (Lit.int .i64 a4).wf = true) (w5 : (Lit.int .i64 a5).wf = true) :
    Calls Try.prog 4 #[.int .i64 a0, .int .i64 a1, .int .i64 a2, .slice a3 len3 cap3, .int .i64 a4, .int .i64 a5] w fun e w' => e = .returned (.bool true) ∧ Below w.heap.size w w' := by
  obtain ⟨l3, rfl, hr3, hm3, hw3, hc3⟩ := ReadsInt.ofRowC w3
  obtain ⟨k, h⟩ := P a0 a1 a2 l3 a4 a5 w0 w1 w2 hm3 y3 hw3 w4 w5
  refine (ossuarylaw14_FrameTurned.calls k a0 a1 a2 _ _ l3 a4 a5 true w (Kd.C_of_reads (d := (0 : Int)) (h1 := fun _ => rfl) hr3) hc3 h).mono ?_
  rintro e w' ⟨rfl, hd⟩
  exact ⟨rfl, hd⟩

end Go.Proofs.Ytgfgehhmnogbpaa.HFrameTurned
