/- Lean functions for the Go functions that the law reaches, and proofs that the calls come to them: written by a program of this session. -/
import Derived.Test.YtgolnkankkegdaaHAuditMovedx0
import Derived.Test.YtgolnkankkegdaaHAuditMovedx3
import Derived.Test.YtgolnkankkegdaaHAuditMovedx6
import Derived.Test.YtgolnkankkegdaaHAuditMovedx7
import Derived.Test.YtgolnkankkegdaaHAuditMovedx8
import Derived.Test.YtgolnkankkegdaaHAuditMovedx9
namespace Go.Proofs.Ytgolnkankkegdaa.HAuditMoved
open Go.RowKit Go.Proofs.YtgolnkankkegdaaW.PrintWords Go.Proofs.YtgolnkankkegdaaW.PrintLast Go.Proofs.YtgolnkankkegdaaW.PrintMore
attribute [local go_sem] max2_int min2_int max_two min_two max_three min_three max_four min_four   -- for this text's walks alone
set_option linter.unusedVariables false
set_option linter.unusedSimpArgs false

/-! ### ossuarylaw12_AuditMoved: function 6 -/
mutual
def ossuarylaw12_AuditMoved.l0 : Nat → Int → Int → List Int → Int → Int → List Int → Option (Bool)
  | 0, _, _, _, _, _, _ => none
  | k + 1, x0, x1, x7, x8, x273000, x273001 => if x8 < 4 then ((ossuarylaw12_text.f k ((wrap64 (x0 + (wrap64 (40 * x8)))) % 256)).bind fun t274 => ((ossuaryref1_Leaves.f k t274).bind fun t275 => ((ossuaryref1_Root.f k t275).bind fun bt278 => (if x7.length < 17592186044416 then (ossuarylaw12_AuditMoved.l0 k x0 x1 (x7 ++ [bt278.1]) (wrap64 (x8 + 1)) x273000 x273001) else (none))))) else ((ossuaryref1_Root.f k x7).bind fun bt283 => ((some (([Go.bits .and .i64 x273000 3] : List Int) : List Int)).bind fun y285 => ((ossuaryref1_Path.f k x7 (Go.bits .and .i64 x1 3)).bind fun bt289 => ((ossuarylaw12_text.f k ((wrap64 (x0 + (wrap64 (40 * (Go.bits .and .i64 x1 3))))) % 256)).bind fun t293 => ((audit_Respond.f k t293 bt289.1 (((x273000) % 4294967296) / 4) y285).bind fun bt294 => ((ossuarylaw0_Num.f bt294.2).bind fun t298 => (if t298 = 0 then ((audit_Check.f k bt283.1 4 (Go.bits .and .i64 x1 3) (((x273000) % 4294967296) / 4) y285 bt294.1).bind fun t299 => (ossuarylaw12_AuditMoved.j1 k x0 bt283.1 (Go.bits .and .i64 x1 3) bt289.1 bt294.1 (!t299) (((x273000) % 4294967296) / 4) y285)) else (ossuarylaw12_AuditMoved.j1 k x0 bt283.1 (Go.bits .and .i64 x1 3) bt289.1 bt294.1 true (((x273000) % 4294967296) / 4) y285))))))))
def ossuarylaw12_AuditMoved.j1 : Nat → Int → Int → Int → List Int → List (S49) → Bool → Int → List Int → Option (Bool)
  | 0, _, _, _, _, _, _, _, _ => none
  | k + 1, x0, x11, x13, x15, x17, x89, x289000, x289001 => if x89 = true then (some false) else (if 0 < (x289001.length : Int) then ((some (([rd x289001 0, rd x289001 0] : List Int) : List Int)).bind fun y307 => ((ossuarylaw12_text.f k ((wrap64 (x0 + (wrap64 (40 * x13)))) % 256)).bind fun t311 => ((audit_Respond.f k t311 x15 x289000 y307).bind fun bt312 => ((audit_Check.f k x11 4 (Go.bits .and .i64 (wrap64 (x13 + 1)) 3) x289000 x289001 x17).bind fun t316 => (if t316 = true then (some false) else ((audit_Check.f k x11 4 x13 x289000 (([Go.bits .and .i64 (wrap64 ((rd x289001 0) + 1)) 3] : List Int)) x17).bind fun t317 => (if t317 = true then (some false) else ((audit_Check.f k x11 4 x13 x289000 y307 x17).bind fun t318 => (if t318 = true then (some false) else ((ossuarylaw0_Num.f bt312.2).bind fun t319 => (if t319 = 0 then ((audit_Check.f k x11 4 x13 x289000 y307 bt312.1).bind fun t320 => (some t320)) else (some false)))))))))))) else (none))
end
def ossuarylaw12_AuditMoved.f (k : Nat) (a0 : Int) (a1 : Int) (a2_0 : Int) (l2_1 : List Int) : Option (Bool) := (ossuarylaw12_awake.f k).bind fun t273 => (if t273 = true then (ossuarylaw12_AuditMoved.l0 k a0 a1 ([] : List Int) 0 a2_0 l2_1) else (some false))
theorem ossuarylaw12_AuditMoved.mono_l : ∀ k, (∀ y0 y1 y2 y3 y4 y5, LeO (ossuarylaw12_AuditMoved.l0 k y0 y1 y2 y3 y4 y5) (ossuarylaw12_AuditMoved.l0 (k + 1) y0 y1 y2 y3 y4 y5)) ∧ (∀ y0 y1 y2 y3 y4 y5 y6 y7, LeO (ossuarylaw12_AuditMoved.j1 k y0 y1 y2 y3 y4 y5 y6 y7) (ossuarylaw12_AuditMoved.j1 (k + 1) y0 y1 y2 y3 y4 y5 y6 y7))
 | 0 => ⟨fun _ _ _ _ _ _ r h => by simp [ossuarylaw12_AuditMoved.l0] at h, fun _ _ _ _ _ _ _ _ r h => by simp [ossuarylaw12_AuditMoved.j1] at h⟩
 | k + 1 => by
  obtain ⟨ih0, ih1⟩ := ossuarylaw12_AuditMoved.mono_l k
  refine ⟨?_, ?_⟩
  ·
   intro y0 y1 y2 y3 y4 y5
   unfold ossuarylaw12_AuditMoved.l0
   repeat' first
   | (with_reducible exact ih0 _ _ _ _ _ _)
   | (with_reducible exact ih1 _ _ _ _ _ _ _ _)
   | (with_reducible exact audit_Check.mono _ _ _ _ _ _ _)
   | (with_reducible exact audit_Respond.mono _ _ _ _ _)
   | (with_reducible exact ossuarylaw12_awake.mono _)
   | (with_reducible exact ossuarylaw12_text.mono _ _)
   | (with_reducible exact ossuaryref1_Leaves.mono _ _)
   | (with_reducible exact ossuaryref1_Path.mono _ _ _)
   | (with_reducible exact ossuaryref1_Root.mono _ _)
   | (with_reducible exact LeO.refl _)
   | (with_reducible exact LeO.none _)
   | (with_reducible refine LeO.ite ?_ ?_)
   | (with_reducible refine LeO.bind ?_ (fun _ => ?_))
   | exact ih0 _ _ _ _ _ _
   | exact ih1 _ _ _ _ _ _ _ _
   | exact audit_Check.mono _ _ _ _ _ _ _
   | exact audit_Respond.mono _ _ _ _ _
   | exact ossuarylaw12_awake.mono _
   | exact ossuarylaw12_text.mono _ _
   | exact ossuaryref1_Leaves.mono _ _
   | exact ossuaryref1_Path.mono _ _ _
   | exact ossuaryref1_Root.mono _ _
   | exact LeO.none _
   | refine LeO.ite ?_ ?_
   | refine LeO.bind ?_ (fun _ => ?_)
  ·
   intro y0 y1 y2 y3 y4 y5 y6 y7
   unfold ossuarylaw12_AuditMoved.j1
   repeat' first
   | (with_reducible exact ih0 _ _ _ _ _ _)
   | (with_reducible exact ih1 _ _ _ _ _ _ _ _)
   | (with_reducible exact audit_Check.mono _ _ _ _ _ _ _)
   | (with_reducible exact audit_Respond.mono _ _ _ _ _)
   | (with_reducible exact ossuarylaw12_awake.mono _)
   | (with_reducible exact ossuarylaw12_text.mono _ _)
   | (with_reducible exact ossuaryref1_Leaves.mono _ _)
   | (with_reducible exact ossuaryref1_Path.mono _ _ _)
   | (with_reducible exact ossuaryref1_Root.mono _ _)
   | (with_reducible exact LeO.refl _)
   | (with_reducible exact LeO.none _)
   | (with_reducible refine LeO.ite ?_ ?_)
   | (with_reducible refine LeO.bind ?_ (fun _ => ?_))
   | exact ih0 _ _ _ _ _ _
   | exact ih1 _ _ _ _ _ _ _ _
   | exact audit_Check.mono _ _ _ _ _ _ _
   | exact audit_Respond.mono _ _ _ _ _
   | exact ossuarylaw12_awake.mono _
   | exact ossuarylaw12_text.mono _ _
   | exact ossuaryref1_Leaves.mono _ _
   | exact ossuaryref1_Path.mono _ _ _
   | exact ossuaryref1_Root.mono _ _
   | exact LeO.none _
   | refine LeO.ite ?_ ?_
   | refine LeO.bind ?_ (fun _ => ?_)
theorem ossuarylaw12_AuditMoved.mono : ∀ a0 a1 a2 a3 k, LeO (ossuarylaw12_AuditMoved.f k a0 a1 a2 a3) (ossuarylaw12_AuditMoved.f (k + 1) a0 a1 a2 a3) := by
 intro a0 a1 a2 a3 k
 obtain ⟨ih0, ih1⟩ := ossuarylaw12_AuditMoved.mono_l k
 unfold ossuarylaw12_AuditMoved.f
 repeat' first
   | (with_reducible exact ih0 _ _ _ _ _ _)
   | (with_reducible exact ih1 _ _ _ _ _ _ _ _)
   | (with_reducible exact audit_Check.mono _ _ _ _ _ _ _)
   | (with_reducible exact audit_Respond.mono _ _ _ _ _)
   | (with_reducible exact ossuarylaw12_awake.mono _)
   | (with_reducible exact ossuarylaw12_text.mono _ _)
   | (with_reducible exact ossuaryref1_Leaves.mono _ _)
   | (with_reducible exact ossuaryref1_Path.mono _ _ _)
   | (with_reducible exact ossuaryref1_Root.mono _ _)
   | (with_reducible exact LeO.refl _)
   | (with_reducible exact LeO.none _)
   | (with_reducible refine LeO.ite ?_ ?_)
   | (with_reducible refine LeO.bind ?_ (fun _ => ?_))
   | exact ih0 _ _ _ _ _ _
   | exact ih1 _ _ _ _ _ _ _ _
   | exact audit_Check.mono _ _ _ _ _ _ _
   | exact audit_Respond.mono _ _ _ _ _
   | exact ossuarylaw12_awake.mono _
   | exact ossuarylaw12_text.mono _ _
   | exact ossuaryref1_Leaves.mono _ _
   | exact ossuaryref1_Path.mono _ _ _
   | exact ossuaryref1_Root.mono _ _
   | exact LeO.none _
   | refine LeO.ite ?_ ?_
   | refine LeO.bind ?_ (fun _ => ?_)
def ossuarylaw12_AuditMoved.T13 : Bool × List (List Nat × List Nat) := (true, [([], []), ([], []), ([1], [1]), ([0, 2], [0, 2]), ([3], [3]), ([4], [4]), ([], []), ([], []), ([5, 6, 7, 5], [5, 6, 7]), ([8], [8]), ([9], [9]), ([9], [9]), ([10, 8, 0, 1, 2, 3, 4, 5, 6, 7, 8, 9, 10], [10]), ([11, 12, 0, 1, 2, 3, 4, 5, 6, 7, 8, 9, 10, 11, 12], [11])])
def ossuarylaw12_AuditMoved.B13 : List Nat := [0, 0, 2, 7, 15, 31, 0, 0, 255, 511, 1023, 1023, 2047, 8191]
theorem ossuarylaw12_AuditMoved.tab13 : rtab .any (opsOf Try.f6 13) = ossuarylaw12_AuditMoved.T13 := by kernel_rfl
theorem ossuarylaw12_AuditMoved.bits13 : waitsOk ossuarylaw12_AuditMoved.T13.2 ossuarylaw12_AuditMoved.B13 = true := by kernel_rfl
def ossuarylaw12_AuditMoved.T16 : Bool × List (List Nat × List Nat) := (true, [([], []), ([0], [0]), ([], []), ([2], [2]), ([3], [3]), ([4], [4]), ([5], [5]), ([6], [6]), ([7], [7]), ([1, 8], [1, 8]), ([], []), ([10, 9, 0, 1, 2, 3, 4, 5, 6, 7, 8, 9, 10], [9, 10])])
def ossuarylaw12_AuditMoved.B16 : List Nat := [0, 1, 0, 4, 12, 28, 60, 124, 252, 511, 0, 2047]
theorem ossuarylaw12_AuditMoved.tab16 : rtab .any (opsOf Try.f6 16) = ossuarylaw12_AuditMoved.T16 := by kernel_rfl
theorem ossuarylaw12_AuditMoved.bits16 : waitsOk ossuarylaw12_AuditMoved.T16.2 ossuarylaw12_AuditMoved.B16 = true := by kernel_rfl
def ossuarylaw12_AuditMoved.T17 : Bool × List (List Nat × List Nat) := (true, [([], []), ([0], [0]), ([], []), ([2], [2]), ([3], [3]), ([4], [4]), ([], []), ([6], [6]), ([7], [7]), ([8], [8]), ([5, 9], [5, 9]), ([1, 10], [1, 10]), ([], []), ([12, 11, 0, 1, 2, 3, 4, 5, 6, 7, 8, 9, 10, 11, 12], [11, 12])])
def ossuarylaw12_AuditMoved.B17 : List Nat := [0, 1, 0, 4, 12, 28, 0, 64, 192, 448, 1020, 2047, 0, 8191]
theorem ossuarylaw12_AuditMoved.tab17 : rtab .any (opsOf Try.f6 17) = ossuarylaw12_AuditMoved.T17 := by kernel_rfl
theorem ossuarylaw12_AuditMoved.bits17 : waitsOk ossuarylaw12_AuditMoved.T17.2 ossuarylaw12_AuditMoved.B17 = true := by kernel_rfl
def ossuarylaw12_AuditMoved.T18 : Bool × List (List Nat × List Nat) := (true, [([], []), ([], []), ([1], [1]), ([0, 2], [0, 2]), ([3], [3]), ([4], [4]), ([], []), ([], []), ([5, 6, 7, 5], [5, 6, 7]), ([8], [8]), ([9], [9]), ([9], [9]), ([10, 8, 0, 1, 2, 3, 4, 5, 6, 7, 8, 9, 10], [10]), ([11, 12, 0, 1, 2, 3, 4, 5, 6, 7, 8, 9, 10, 11, 12], [11])])
def ossuarylaw12_AuditMoved.B18 : List Nat := [0, 0, 2, 7, 15, 31, 0, 0, 255, 511, 1023, 1023, 2047, 8191]
theorem ossuarylaw12_AuditMoved.tab18 : rtab .any (opsOf Try.f6 18) = ossuarylaw12_AuditMoved.T18 := by kernel_rfl
theorem ossuarylaw12_AuditMoved.bits18 : waitsOk ossuarylaw12_AuditMoved.T18.2 ossuarylaw12_AuditMoved.B18 = true := by kernel_rfl
set_option maxHeartbeats 8000000 in
set_option maxRecDepth 100000 in
theorem ossuarylaw12_AuditMoved.calls (k : Nat) (a0 : Int) (a1 : Int) (a2_0 : Int) (A2_1 : Option Addr) (c2_1 : Nat) (l2_1 : List Int) (r : Bool) (w : World) (hr2_1 : Kd.C (Kd.int .i64) w A2_1 l2_1.length l2_1) (hc2_1 : l2_1.length ≤ c2_1) (h : ossuarylaw12_AuditMoved.f k a0 a1 a2_0 l2_1 = some r) (hr_ : r = true := by rfl) :
  Calls Try.prog 6 #[.int .i64 a0, .int .i64 a1, .agg #[.int .i64 a2_0, .slice A2_1 l2_1.length c2_1]] w fun e w' => e = .returned (.bool r) ∧ Below w.heap.size w w' := by
 have HRT := Aside0.mk hr_; clear hr_
 have hu24 := Try.underlying24
 have HR2_1 := Aside0.mk hr2_1; have HC2_1 := Aside0.mk hc2_1; clear hr2_1 hc2_1
 have HB := Aside0.mk (Below.refl w.heap.size w)
 have H : ((ossuarylaw12_awake.f k).bind fun t273 => (if t273 = true then (ossuarylaw12_AuditMoved.l0 k a0 a1 ([] : List Int) 0 a2_0 l2_1) else (some false))) = some r := h
 clear h; replace H := Option.bind_eq_some_iff.mp H; obtain ⟨t273, A40, H⟩ := H
 replace H : (if t273 = true then (ossuarylaw12_AuditMoved.l0 k a0 a1 ([] : List Int) 0 a2_0 l2_1) else (some false)) = some r := H
 have A4 := Aside0.mk A40; clear A40
 by_cases c5 : t273 = true
 ·
  subst c5
  have H1 : (ossuarylaw12_AuditMoved.l0 k a0 a1 ([] : List Int) 0 a2_0 l2_1) = some r := by rw [if_pos rfl] at H; exact H
  clear H
  have H := H1
  clear H1
  have H' := Aside0.mk H
  clear H
  go_enter Try.func6, Try.ntmps6
  go_wp2_with (first | ((with_reducible refine gate_dst (N := 5) rfl ?_); refine box_event ?hg (N := 5) ?hd (cs := #[.int .i64 a2_0, .slice A2_1 l2_1.length c2_1]) (t := 24) ?hr ?_; (case hd => rfl); (case hg => rfl); (case hr => first | (go_simp; done) | (go_simp; rfl)); intro gb272 hg w6 hbox hb; (try replace hb := sq_un hb); have n0_ := sq_st hb HB; have n1_ := Aside0.mk (hbox); have n2_ := sq_sz HB hg; have n3_ := sq_sz HB hg; clear HB; have HB := n0_; have BK272 := n1_; have GW272 := n2_; have GE272 := n3_; clear n0_ n1_ n2_ n3_; clear hb hbox hg) | ((with_reducible refine gate_callee (f := 17) rfl ?_); refine goesL_ (some 23) rfl rfl Try.func17 (by kernel_rfl) rfl #[] rfl (by (try simp only [List.map_toArray, List.map_cons, List.map_nil]); first | done | rfl | (simp only [List.length_drop, List.length_take]; rfl)) ?_; (with_reducible refine (ossuarylaw12_awake.calls k  true _ A4.out).mono ?_); rintro e w7 ⟨rfl, hb⟩; refine ⟨_, rfl, ?_⟩; (try replace hb := sq_un hb); have n0_ := sq_bk hb BK272; have n1_ := sq_st hb HB; clear BK272 HB; have BK272 := n0_; have HB := n1_; clear n0_ n1_; (try clear hb); (try clear hb2); (try clear hk); (try clear hi)))
  go_loopg [7, 8] k (fun kq v7 v8 w' => ∃ (x7_1 : List Int) (x8_1 : Int), v8 = .int .i64 x8_1 ∧ Aside0 (ossuarylaw12_AuditMoved.l0 kq a0 a1 x7_1 x8_1 a2_0 l2_1 = some r) ∧ Aside0 (kq ≤ k) ∧ Aside0 (Kd.R (Kd.int .i64) 3 w' w.heap.size (fun _ => True) v7 x7_1) ∧ Aside0 (w'.heap[gb272]? = some (.cells #[.int .i64 a2_0, (.slice A2_1 l2_1.length c2_1)] 24 (0, 0))) ∧ Aside0 (Below w.heap.size w w'))
  case atStart => exact ⟨(([] : List Int)), (0), (by first | rfl | (simp; done) | (simp [*]; done)), H', ⟨Nat.le_refl _⟩, ⟨by first | exact Kd.R_nil _ _ _ _ _ | exact Kd.N_nil _ _ _ _ _ | exact Kd.V_nil _ _ _ _ _ | exact Kd.Q_nil _ _ _ _ _ | exact Kd.S_nil _ _ _ _ _⟩, ⟨by (with_reducible repeat (first | refine blk_drewN ?_ _ | refine blk_drew ?_ | refine blk_alloc ?_ _)); exact BK272.out⟩, ⟨by repeat (first | (with_reducible first | exact HB.out | apply below_alloc | apply pw_below_drewN | apply below_drew1 | refine below_set ?_ GE272.out) | exact HB.out)⟩⟩
  case round =>
   clear H'
   (try clear c1); (try clear c2); (try clear p2); (try clear c5); (try clear c6); obtain ⟨x7_1, x8_1, rfl, HA, HK1, HO_7, BK272, HB⟩ := hrel
   cases gk with
   | zero => exact absurd HA.out (by simp [ossuarylaw12_AuditMoved.l0])
   | succ k1 =>
    have H := HA.out; clear HA
    simp only [ossuarylaw12_AuditMoved.l0] at H
    by_cases c8 : x8_1 < 4
    ·
     rw [if_pos c8] at H
     have c8b0 : decide (x8_1 < 4) = true := decide_eq_true c8; clear c8; replace H := Option.bind_eq_some_iff.mp H; obtain ⟨t274, A90, H⟩ := H
     replace H : ((ossuaryref1_Leaves.f k1 t274).bind fun t275 => ((ossuaryref1_Root.f k1 t275).bind fun bt278 => (if x7_1.length < 17592186044416 then (ossuarylaw12_AuditMoved.l0 k1 a0 a1 (x7_1 ++ [bt278.1]) (wrap64 (x8_1 + 1)) a2_0 l2_1) else (none)))) = some r := H
     have A9 := Aside0.mk A90; clear A90; replace H := Option.bind_eq_some_iff.mp H; obtain ⟨t275, A100, H⟩ := H
     replace H : ((ossuaryref1_Root.f k1 t275).bind fun bt278 => (if x7_1.length < 17592186044416 then (ossuarylaw12_AuditMoved.l0 k1 a0 a1 (x7_1 ++ [bt278.1]) (wrap64 (x8_1 + 1)) a2_0 l2_1) else (none))) = some r := H
     have A10 := Aside0.mk A100; clear A100; replace H := Option.bind_eq_some_iff.mp H; obtain ⟨⟨t278, t279⟩, A110, H⟩ := H
     replace H : (if x7_1.length < 17592186044416 then (ossuarylaw12_AuditMoved.l0 k1 a0 a1 (x7_1 ++ [t278]) (wrap64 (x8_1 + 1)) a2_0 l2_1) else (none)) = some r := H
     have A11 := Aside0.mk A110; clear A110
     by_cases c12 : x7_1.length < 17592186044416
     ·
      rw [if_pos c12] at H
      have LMc12 := Aside0.mk c12; clear c12
      obtain ⟨y280, hy280⟩ : ∃ y_ : List Int, y_ = (x7_1 ++ [t278]) := ⟨_, rfl⟩
      replace H : (ossuarylaw12_AuditMoved.l0 k1 a0 a1 y280 (wrap64 (x8_1 + 1)) a2_0 l2_1) = some r := by first | (rw [hy280]; with_reducible exact H) | (have H2_ := (Option.bind_some _ _).symm.trans H; rw [hy280]; with_reducible exact H2_) | (have H2_ := (Option.bind_some _ _).symm.trans H; with_reducible exact H2_) | with_reducible exact H | (rw [hy280]; exact H) | exact H
      have Ny280 := Aside0.mk hy280; clear hy280
      have H' := Aside0.mk H
      clear H
      go_wp2_with (first | ((with_reducible refine gate_callee (f := 18) rfl ?_); refine goesL_ (some 35) rfl rfl Try.func18 (by kernel_rfl) rfl #[.int .u8 ((wrap64 (a0 + (wrap64 (40 * x8_1)))) % 256)] rfl (by (try simp only [List.map_toArray, List.map_cons, List.map_nil]); first | done | rfl | (simp only [List.length_drop, List.length_take]; rfl)) ?_; (with_reducible refine (ossuarylaw12_text.calls k1 ((wrap64 (a0 + (wrap64 (40 * x8_1)))) % 256) t274 _ A9.out).mono ?_); rintro e w13 ⟨rfl, hb⟩; refine ⟨_, rfl, ?_⟩; (try replace hb := sq_un hb); have n0_ := sq_rb hb HO_7; have n1_ := sq_bk hb BK272; have n2_ := sq_st hb HB; clear HO_7 BK272 HB; have HO_7 := n0_; have BK272 := n1_; have HB := n2_; clear n0_ n1_ n2_; (try clear hb); (try clear hb2); (try clear hk); (try clear hi)) | ((with_reducible refine gate_callee (f := 20) rfl ?_); refine goesL_ (some 36) rfl rfl Try.func20 (by kernel_rfl) rfl #[.string t274] rfl (by (try simp only [List.map_toArray, List.map_cons, List.map_nil]); first | done | rfl | (simp only [List.length_drop, List.length_take]; rfl)) ?_; (with_reducible refine (ossuaryref1_Leaves.calls k1 t274 t275 _ A10.out).mono ?_); rintro e w14 ⟨v276, rfl, ho0, hb⟩; refine ⟨_, rfl, ?_⟩; (try replace hb := sq_un hb); have n0_ := Aside0.mk (Kd.R_elder' (by (with_reducible repeat (first | apply Kd.R_alloc | apply Kd.R_drewN | apply Kd.R_drew)); exact HO_7.out) (Kd.R_base ho0) hb); have n1_ := Aside0.mk (Kd.R_lower (Kd.R_new' ho0 (Kd.R_lt (by (with_reducible repeat (first | apply Kd.R_alloc | apply Kd.R_drewN | apply Kd.R_drew)); exact HO_7.out))) (below_size (by repeat (first | (with_reducible first | exact HB.out | apply below_alloc | apply pw_below_drewN | apply below_drew1 | refine below_set ?_ GE272.out) | exact HB.out)))); have n2_ := sq_bk hb BK272; have n3_ := sq_st hb HB; clear HO_7 BK272 HB; have HO_7 := n0_; have HO277 := n1_; have BK272 := n2_; have HB := n3_; clear n0_ n1_ n2_ n3_; (try clear hb); (try clear hb2); (try clear hk); (try clear hi); (try clear ho0); obtain ⟨Ao15, co15, eo15⟩ := Kd.R_slice HO277.out; subst eo15) | ((with_reducible refine gate_callee (f := 19) rfl ?_); refine goesL_ (some 37) rfl rfl Try.func19 (by kernel_rfl) rfl #[.slice Ao15 t275.length co15] rfl (by (try simp only [List.map_toArray, List.map_cons, List.map_nil]); first | done | rfl | (simp only [List.length_drop, List.length_take]; rfl)) ?_; (with_reducible refine (ossuaryref1_Root.calls k1 _ _ t275 t278 t279 _ ?side1 ?side2 A11.out).mono ?_); (case side1 => repeat (first | exact (Kd.R_reads' HO277.out).2.2 | (with_reducible refine Kd.C_alloc ?_ _) | (with_reducible refine Kd.C_drewN ?_ _) | (with_reducible refine Kd.C_drew ?_))); (case side2 => exact (Kd.R_reads' HO277.out).2.1); rintro e w16 ⟨rfl, hb⟩; refine ⟨_, rfl, ?_⟩; (try replace hb := sq_un hb); have n0_ := sq_rb hb HO_7; have n1_ := sq_rb hb HO277; have n2_ := sq_bk hb BK272; have n3_ := sq_st hb HB; clear HO_7 HO277 BK272 HB; have HO_7 := n0_; have HO277 := n1_; have BK272 := n2_; have HB := n3_; clear n0_ n1_ n2_ n3_; (try clear hb); (try clear hb2); (try clear hk); (try clear hi)) | ((with_reducible refine gate_builtin (b := .append) (xs := #[.tmp 40, .tmp 42]) rfl ?_); at_builtin; refine Kd.R_append (Kd.int .i64) (w0 := w) w.heap.size rfl (.tmp 40) (.tmp 42) 22 3 (.int .i64 0) 8 rfl Try.underlying22 info3 rfl (by decide) (by omega) u7 x7_1 t278 [.int .i64 t278] (fun k_ => some k_ ≠ (.slice Ao15 t275.length co15 : Value).ownBlock) (fun _ => False) rfl rfl ?aP (fun _ hk => hk.elim) ?aF ?aO ?aB ?aS ?aL ?_; (case aP => exact rfl); (case aB => exact (by repeat (first | (with_reducible first | exact HB.out | apply below_alloc | apply pw_below_drewN | apply below_drew1 | refine below_set ?_ GE272.out) | exact HB.out))); (case aF => exact (fun k_ hk => Kd.fresh' (Kd.R_lt (by (with_reducible repeat (first | apply Kd.R_alloc | apply Kd.R_drewN | apply Kd.R_drew)); exact HO277.out)) k_ hk)); (case aO => exact (by (with_reducible repeat (first | apply Kd.R_alloc | apply Kd.R_drewN | apply Kd.R_drew)); exact Kd.R_mono HO_7.out (fun _ hk => hk.2))); (case aS => exact (below_size (by repeat (first | (with_reducible first | exact HB.out | apply below_alloc | apply pw_below_drewN | apply below_drew1 | refine below_set ?_ GE272.out) | exact HB.out)))); (case aL => have := LMc12.out; omega); intro v281 w17 ho hb hg hat; rw [← Ny280.out] at ho; have n0_ := Aside0.mk (blk_grown (g := gb272) (o := .cells #[.int .i64 a2_0, .slice A2_1 l2_1.length c2_1] 24 (0, 0)) (by (with_reducible repeat (first | refine blk_drewN ?_ _ | refine blk_drew ?_ | refine blk_alloc ?_ _)); exact BK272.out) hg (Kd.R_ne HO_7.out BK272.out (by decide))); have n1_ := Aside0.mk (Kd.R_after (ok := (fun _ => True)) (by (with_reducible repeat (first | apply Kd.R_alloc | apply Kd.R_drewN | apply Kd.R_drew)); exact HO277.out) hg hat); have n2_ := Aside0.mk (hb); have n3_ := Aside0.mk (ho); clear BK272 HO277 HB HO_7; have BK272 := n0_; have HO277 := n1_; have HB := n2_; have HO282 := n3_; clear n0_ n1_ n2_ n3_; clear ho hb hg hat))
      go_roundg k1
      case measure => have := HK1.out; omega
      case rel => exact ⟨(y280), (wrap64 (x8_1 + 1)), (by first | rfl | (simp; done) | (simp [*]; done)), H', ⟨by have := HK1.out; omega⟩, ⟨by (with_reducible repeat (first | apply Kd.R_alloc | apply Kd.R_drewN | apply Kd.R_drew)); exact Kd.R_mono HO282.out (fun _ hk => trivial)⟩, ⟨by (with_reducible repeat (first | refine blk_drewN ?_ _ | refine blk_drew ?_ | refine blk_alloc ?_ _)); exact BK272.out⟩, ⟨by repeat (first | (with_reducible first | exact HB.out | apply below_alloc | apply pw_below_drewN | apply below_drew1 | refine below_set ?_ GE272.out) | exact HB.out)⟩⟩
     ·
      rw [if_neg c12] at H
      exact absurd H (by simp)
    ·
     rw [if_neg c8] at H
     have c8b0 : decide (x8_1 < 4) = false := decide_eq_false c8; clear c8; replace H := Option.bind_eq_some_iff.mp H; obtain ⟨⟨t283, t284⟩, A180, H⟩ := H; (try dsimp only at H); have A18 := Aside0.mk A180; clear A180
     obtain ⟨y285, hy285⟩ : ∃ y_ : List Int, y_ = (([Go.bits .and .i64 a2_0 3] : List Int)) := ⟨_, rfl⟩
     replace H : ((ossuaryref1_Path.f k1 x7_1 (Go.bits .and .i64 a1 3)).bind fun bt289 => ((ossuarylaw12_text.f k1 ((wrap64 (a0 + (wrap64 (40 * (Go.bits .and .i64 a1 3))))) % 256)).bind fun t293 => ((audit_Respond.f k1 t293 bt289.1 (((a2_0) % 4294967296) / 4) y285).bind fun bt294 => ((ossuarylaw0_Num.f bt294.2).bind fun t298 => (if t298 = 0 then ((audit_Check.f k1 t283 4 (Go.bits .and .i64 a1 3) (((a2_0) % 4294967296) / 4) y285 bt294.1).bind fun t299 => (ossuarylaw12_AuditMoved.j1 k1 a0 t283 (Go.bits .and .i64 a1 3) bt289.1 bt294.1 (!t299) (((a2_0) % 4294967296) / 4) y285)) else (ossuarylaw12_AuditMoved.j1 k1 a0 t283 (Go.bits .and .i64 a1 3) bt289.1 bt294.1 true (((a2_0) % 4294967296) / 4) y285)))))) = some r := by first | (rw [hy285]; with_reducible exact H) | (have H2_ := (Option.bind_some _ _).symm.trans H; rw [hy285]; with_reducible exact H2_) | (have H2_ := (Option.bind_some _ _).symm.trans H; with_reducible exact H2_) | with_reducible exact H | (rw [hy285]; exact H) | exact H
     have Ny285 := Aside0.mk hy285; clear hy285; replace H := Option.bind_eq_some_iff.mp H; obtain ⟨⟨t289, t290⟩, A190, H⟩ := H; (try dsimp only at H); have A19 := Aside0.mk A190; clear A190; replace H := Option.bind_eq_some_iff.mp H; obtain ⟨t293, A200, H⟩ := H; (try dsimp only at H); have A20 := Aside0.mk A200; clear A200; replace H := Option.bind_eq_some_iff.mp H; obtain ⟨⟨t294, t297⟩, A210, H⟩ := H; (try dsimp only at H); have A21 := Aside0.mk A210; clear A210; have HC22 := Aside0.mk H; clear H; obtain ⟨Ao23, co23, eo23⟩ := Kd.R_slice HO_7.out; subst eo23
     try go_wp2_with (first | ((with_reducible refine gate_callee (f := 19) rfl ?_); refine goesL_ (some 46) rfl rfl Try.func19 (by kernel_rfl) rfl #[.slice Ao23 x7_1.length co23] rfl (by (try simp only [List.map_toArray, List.map_cons, List.map_nil]); first | done | rfl | (simp only [List.length_drop, List.length_take]; rfl)) ?_; (with_reducible refine (ossuaryref1_Root.calls k1 _ _ x7_1 t283 t284 _ ?side1 ?side2 A18.out).mono ?_); (case side1 => repeat (first | exact (Kd.R_reads' HO_7.out).2.2 | (with_reducible refine Kd.C_alloc ?_ _) | (with_reducible refine Kd.C_drewN ?_ _) | (with_reducible refine Kd.C_drew ?_))); (case side2 => exact (Kd.R_reads' HO_7.out).2.1); rintro e w24 ⟨rfl, hb⟩; refine ⟨_, rfl, ?_⟩; (try replace hb := sq_un hb); have n0_ := sq_rb hb HO_7; have n1_ := sq_bk hb BK272; have n2_ := sq_st hb HB; clear HO_7 BK272 HB; have HO_7 := n0_; have BK272 := n1_; have HB := n2_; clear n0_ n1_ n2_; (try clear hb); (try clear hb2); (try clear hk); (try clear hi); have hcz25_0 := sq_d0 BK272; have hcz25_1 := sq_d1 BK272; have hfz25_0 := blk_frozen BK272.out 0; have hfz25_1 := blk_frozen BK272.out 1) | ((with_reducible refine gate_dst (N := 59) rfl ?_); refine Kd.R_lit (Kd.int .i64) _ 3 ?hg (N := 59) ?hd (xs := ([Go.bits .and .i64 a2_0 3] : List Int)) (inner := [.int .i64 (Go.bits .and .i64 a2_0 3)]) (ok := fun _ => True) (okp := fun _ => True) ?hr ?hp (fun _ hk => hk) trivial (Below.refl _ _) (Nat.le_refl _) (by simp) ?_; (case hd => rfl); (case hg => rfl); (case hr => first | (go_simp; done) | (go_simp; rfl)); (case hp => exact (Reps.one (show Kd.M (Kd.int .i64) _ _ _ (Go.bits .and .i64 a2_0 3) [.int .i64 (Go.bits .and .i64 a2_0 3)] from rfl) (Reps.none _ _))); intro v286 w26 ho27 hb hg_ hnew_; clear hg_ hnew_; (first | rw [← Ny285.out] at ho27 | (simp only [Int.reduceToNat] at ho27; rw [← Ny285.out] at ho27)); (try replace hb := sq_un hb); have n0_ := Aside0.mk (Kd.R_elder' (by (with_reducible repeat (first | apply Kd.R_alloc | apply Kd.R_drewN | apply Kd.R_drew)); exact HO_7.out) (Kd.R_base ho27) hb); have n1_ := Aside0.mk (Kd.R_lower (Kd.R_new' ho27 (Kd.R_lt (by (with_reducible repeat (first | apply Kd.R_alloc | apply Kd.R_drewN | apply Kd.R_drew)); exact HO_7.out))) (below_size (by repeat (first | (with_reducible first | exact HB.out | apply below_alloc | apply pw_below_drewN | apply below_drew1 | refine below_set ?_ GE272.out) | exact HB.out)))); have n2_ := sq_bk hb BK272; have n3_ := sq_st hb HB; clear HO_7 BK272 HB; have HO_7 := n0_; have HO287 := n1_; have BK272 := n2_; have HB := n3_; clear n0_ n1_ n2_ n3_; clear hb ho27; obtain ⟨Ao28, co28, eo28⟩ := Kd.R_slice HO287.out; subst eo28) | ((with_reducible refine gate_dst (N := 14) rfl ?_); refine box_event ?hg (N := 14) ?hd (cs := #[.int .i64 0, .slice none 0 0]) (t := 24) ?hr ?_; (case hd => rfl); (case hg => rfl); (case hr => first | (go_simp; done) | (go_simp; rfl)); intro gb288 hg w29 hbox hb; (try replace hb := sq_un hb); have n0_ := sq_rb hb HO_7; have n1_ := sq_rb hb HO287; have n2_ := sq_bk hb BK272; have n3_ := sq_st hb HB; have n4_ := Aside0.mk (hbox); have n5_ := sq_sz HB hg; have n6_ := sq_sz HB hg; have n7_ := sq_nl BK272 hg; have n8_ := sq_ng BK272 hg; clear HO_7 HO287 BK272 HB; have HO_7 := n0_; have HO287 := n1_; have BK272 := n2_; have HB := n3_; have BK288 := n4_; have GW288 := n5_; have GE288 := n6_; have NB272_288 := n7_; have NB288_272 := n8_; clear n0_ n1_ n2_ n3_ n4_ n5_ n6_ n7_ n8_; clear hb hbox hg; have hnb30 := NB288_272.out; have hnc30 := NB272_288.out; have hcz31_0 := sq_d0 BK288; have hcz31_1 := sq_d1 BK288; have hfz31_0 := blk_frozen BK288.out 0; have hfz31_1 := blk_frozen BK288.out 1) | ((with_reducible refine gate_callee (f := 21) rfl ?_); refine goesL_ (some 64) rfl rfl Try.func21 (by kernel_rfl) rfl #[.slice Ao23 x7_1.length co23, .int .i64 (Go.bits .and .i64 a1 3)] rfl (by (try simp only [List.map_toArray, List.map_cons, List.map_nil]); first | done | rfl | (simp only [List.length_drop, List.length_take]; rfl)) ?_; (with_reducible refine (ossuaryref1_Path.calls k1 _ _ x7_1 (Go.bits .and .i64 a1 3) t289 t290 _ ?side1 ?side2 A19.out).mono ?_); (case side1 => refine (Kd.R_reads' (e := 3) (base := w.heap.size) (ok := fun k_ => (True ∧ some k_ ≠ (.slice Ao28 y285.length co28 : Value).ownBlock)) (n := x7_1.length) (c := co23) ?_).2.2; exact (by (with_reducible repeat (first | apply Kd.R_alloc | apply Kd.R_drewN | apply Kd.R_drew)); exact (Kd.R_mono (Kd.R_far (p := ⟨gb288, 1, none⟩) (Kd.R_far (p := ⟨gb288, 0, none⟩) (Kd.R_types HO_7.out BK288.out (by decide)) (fun _ hk => hk.2) (.int .i64 (((a2_0) % 4294967296) / 4))) (fun _ hk => hk.2) (.slice Ao28 y285.length co28)) (fun _ h_ => h_.1)))); (case side2 => exact (Kd.R_reads' HO_7.out).2.1); rintro e w32 ⟨v291, rfl, ho0, hb⟩; refine ⟨_, rfl, ?_⟩; have n0_ := Aside0.mk (Kd.R_elder' (by (with_reducible repeat (first | apply Kd.R_alloc | apply Kd.R_drewN | apply Kd.R_drew)); exact (Kd.R_mono (Kd.R_far (p := ⟨gb288, 1, none⟩) (Kd.R_far (p := ⟨gb288, 0, none⟩) (Kd.R_types HO_7.out BK288.out (by decide)) (fun _ hk => hk.2) (.int .i64 (((a2_0) % 4294967296) / 4))) (fun _ hk => hk.2) (.slice Ao28 y285.length co28)) (fun _ h_ => h_.1))) (Kd.R_base ho0) hb); have n1_ := Aside0.mk (Kd.R_elder' (by (with_reducible repeat (first | apply Kd.R_alloc | apply Kd.R_drewN | apply Kd.R_drew)); exact (Kd.R_mono (Kd.R_far (p := ⟨gb288, 1, none⟩) (Kd.R_far (p := ⟨gb288, 0, none⟩) (Kd.R_types HO287.out BK288.out (by decide)) (fun _ hk => hk.2) (.int .i64 (((a2_0) % 4294967296) / 4))) (fun _ hk => hk.2) (.slice Ao28 y285.length co28)) (fun _ h_ => h_.1))) (Kd.R_base ho0) hb); have n2_ := Aside0.mk (Kd.R_lower (Kd.R_new' (Kd.R_new' ho0 (Kd.R_lt (by (with_reducible repeat (first | apply Kd.R_alloc | apply Kd.R_drewN | apply Kd.R_drew)); exact (Kd.R_mono (Kd.R_far (p := ⟨gb288, 1, none⟩) (Kd.R_far (p := ⟨gb288, 0, none⟩) (Kd.R_types HO_7.out BK288.out (by decide)) (fun _ hk => hk.2) (.int .i64 (((a2_0) % 4294967296) / 4))) (fun _ hk => hk.2) (.slice Ao28 y285.length co28)) (fun _ h_ => h_.1))))) (Kd.R_lt (by (with_reducible repeat (first | apply Kd.R_alloc | apply Kd.R_drewN | apply Kd.R_drew)); exact (Kd.R_mono (Kd.R_far (p := ⟨gb288, 1, none⟩) (Kd.R_far (p := ⟨gb288, 0, none⟩) (Kd.R_types HO287.out BK288.out (by decide)) (fun _ hk => hk.2) (.int .i64 (((a2_0) % 4294967296) / 4))) (fun _ hk => hk.2) (.slice Ao28 y285.length co28)) (fun _ h_ => h_.1))))) (below_size (by repeat (first | (with_reducible first | exact HB.out | apply below_alloc | apply pw_below_drewN | apply below_drew1 | refine below_set ?_ GE272.out | refine below_set ?_ GE288.out) | exact HB.out)))); have n3_ := Aside0.mk (blk_below (g := gb272) (o := .cells #[.int .i64 a2_0, .slice A2_1 l2_1.length c2_1] 24 (0, 0)) (by (with_reducible repeat (first | refine blk_drewN ?_ _ | refine blk_drew ?_ | refine blk_alloc ?_ _)); refine blk_far ?_ NB272_288.out _; (with_reducible repeat (first | refine blk_drewN ?_ _ | refine blk_drew ?_ | refine blk_alloc ?_ _)); refine blk_far ?_ NB272_288.out _; (with_reducible repeat (first | refine blk_drewN ?_ _ | refine blk_drew ?_ | refine blk_alloc ?_ _)); exact BK272.out) hb); have n4_ := Aside0.mk (blk_below (g := gb288) (o := .cells #[.int .i64 (((a2_0) % 4294967296) / 4), .slice Ao28 y285.length co28] 24 (0, 0)) (by (with_reducible repeat (first | refine blk_drewN ?_ _ | refine blk_drew ?_ | refine blk_alloc ?_ _)); refine blk_put (cs := #[.int .i64 (((a2_0) % 4294967296) / 4), .slice none 0 0]) ?_ 1 _ rfl; (with_reducible repeat (first | refine blk_drewN ?_ _ | refine blk_drew ?_ | refine blk_alloc ?_ _)); refine blk_put (cs := #[.int .i64 0, .slice none 0 0]) ?_ 0 _ rfl; (with_reducible repeat (first | refine blk_drewN ?_ _ | refine blk_drew ?_ | refine blk_alloc ?_ _)); exact BK288.out) hb); have n5_ := Aside0.mk (below_step (by repeat (first | (with_reducible first | exact HB.out | apply below_alloc | apply pw_below_drewN | apply below_drew1 | refine below_set ?_ GE272.out | refine below_set ?_ GE288.out) | exact HB.out)) hb); clear HO_7 HO287 BK272 BK288 HB; have HO_7 := n0_; have HO287 := n1_; have HO292 := n2_; have BK272 := n3_; have BK288 := n4_; have HB := n5_; clear n0_ n1_ n2_ n3_ n4_ n5_; (try clear hb); (try clear hb2); (try clear hk); (try clear hi); (try clear ho0)))
     have n0_ := Aside0.mk (Kd.R_drew HO_7.out); have n1_ := Aside0.mk (Kd.R_drew HO287.out); have n2_ := Aside0.mk (Kd.R_drew HO292.out); have n3_ := Aside0.mk (blk_drew BK272.out); have n4_ := Aside0.mk (blk_drew BK288.out); have n5_ := Aside0.mk (below_drew1 HB.out); clear HO_7; clear HO287; clear HO292; clear BK272; clear BK288; clear HB; have HO_7 := n0_; have HO287 := n1_; have HO292 := n2_; have BK272 := n3_; have BK288 := n4_; have HB := n5_; clear n0_ n1_ n2_ n3_ n4_ n5_
     refine start_ (n := 14) (S := fun w' => w'.cell? ⟨gb288, 0, none⟩ = some (.int .i64 (((a2_0) % 4294967296) / 4)) ∧ w'.cell? ⟨gb288, 1, none⟩ = some (.slice Ao28 y285.length co28)) (ds := []) #[false, false, false, false, false, false, false, false, false, false, false, false, false, false] (by kernel_rfl) rfl rfl ⟨(blk_cell BK288.out 0).trans rfl, (blk_cell BK288.out 1).trans rfl⟩ (fun hHeld => ?_); refine with_tabW ossuarylaw12_AuditMoved.tab13 ossuarylaw12_AuditMoved.bits13 (fun HT_ HW_ => ?_)
     generalize w32.drew = w33 at HO_7 HO287 HO292 BK272 BK288 HB hHeld ⊢
     refine pure_ (i := 0) (N := some 68) (v := ?_) (a' := ?_) #[true, false, false, false, false, false, false, false, false, false, false, false, false, false] rfl rfl (any_of HT_.out (by kernel_rfl)) (fun _ _ _ h => h) (Or.inl ⟨by rfl, ?_⟩) ?_ ?_
     rotate_left
     ·
      intro w'
      go_simp
      with_reducible rfl
     rotate_left
     ·
      simp only [Act.put, List.setIfInBounds_toArray, List.set_cons_zero, List.set_cons_succ, i64_w, i32_w]
      rfl
     refine pure_ (i := 1) (N := some 69) (v := ?_) (a' := ?_) #[true, true, false, false, false, false, false, false, false, false, false, false, false, false] rfl rfl (any_of HT_.out (by kernel_rfl)) (fun _ _ _ h => h) (Or.inl ⟨by rfl, ?_⟩) ?_ ?_
     rotate_left
     ·
      intro w'
      go_simp
      with_reducible rfl
     rotate_left
     ·
      simp only [Act.put, List.setIfInBounds_toArray, List.set_cons_zero, List.set_cons_succ, i64_w, i32_w]
      rfl
     refine pure_ (i := 2) (N := some 70) (v := ?_) (a' := ?_) #[true, true, true, false, false, false, false, false, false, false, false, false, false, false] rfl rfl (any_of HT_.out (by kernel_rfl)) (fun _ _ _ h => h) (Or.inl ⟨by rfl, ?_⟩) ?_ ?_
     rotate_left
     ·
      intro w'
      go_simp
      with_reducible rfl
     rotate_left
     ·
      simp only [Act.put, List.setIfInBounds_toArray, List.set_cons_zero, List.set_cons_succ, i64_w, i32_w]
      rfl
     refine pure_ (i := 3) (N := some 71) (v := ?_) (a' := ?_) #[true, true, true, true, false, false, false, false, false, false, false, false, false, false] rfl rfl (any_of HT_.out (by kernel_rfl)) (fun _ _ _ h => h) (Or.inl ⟨by rfl, ?_⟩) ?_ ?_
     rotate_left
     ·
      intro w'
      go_simp
      with_reducible rfl
     rotate_left
     ·
      simp only [Act.put, List.setIfInBounds_toArray, List.set_cons_zero, List.set_cons_succ, i64_w, i32_w]
      rfl
     refine pure_ (i := 4) (N := some 72) (v := ?_) (a' := ?_) #[true, true, true, true, true, false, false, false, false, false, false, false, false, false] rfl rfl (any_of HT_.out (by kernel_rfl)) (fun _ _ _ h => h) (Or.inl ⟨by rfl, ?_⟩) ?_ ?_
     rotate_left
     ·
      intro w'
      go_simp
      with_reducible rfl
     rotate_left
     ·
      simp only [Act.put, List.setIfInBounds_toArray, List.set_cons_zero, List.set_cons_succ, i64_w, i32_w]
      rfl
     refine pure_ (i := 6) (N := some 74) (v := ?_) (a' := ?_) #[true, true, true, true, true, false, true, false, false, false, false, false, false, false] rfl rfl (any_of HT_.out (by kernel_rfl)) (fun _ _ _ h => h) (Or.inl ⟨by rfl, ?_⟩) ?_ ?_
     rotate_left
     ·
      intro w'
      go_simp
      with_reducible rfl
     rotate_left
     ·
      simp only [Act.put, List.setIfInBounds_toArray, List.set_cons_zero, List.set_cons_succ, i64_w, i32_w]
      rfl
     refine take_ (i := 7) (N := some 75) (v := ?_) (a' := ?_) #[true, true, true, true, true, false, true, true, false, false, false, false, false, false] rfl rfl (take_ofW HT_.out HW_.out (by kernel_rfl)) (fun _ _ _ h => h) (Or.inl ⟨by rfl, ?_⟩) hHeld ?_ ?_
     rotate_left
     ·
      rintro w' ⟨s0, s1⟩
      go_simp
      with_reducible rfl
     rotate_left
     ·
      simp only [Act.put, List.setIfInBounds_toArray, List.set_cons_zero, List.set_cons_succ, i64_w, i32_w]
      rfl
     refine one_ (i := 5) (N := some 73) #[true, true, true, true, true, true, true, true, false, false, false, false, false, false] rfl rfl (one_of HT_.out (by kernel_rfl)) (by decide) (fun K hK => ?_)
     refine goes_ Try.func18 (by kernel_rfl) rfl #[.int .u8 ((wrap64 (a0 + (wrap64 (40 * (Go.bits .and .i64 a1 3))))) % 256)] (by rfl) rfl rfl (by (try simp only [List.map_toArray, List.map_cons, List.map_nil]); first | done | rfl | (simp only [List.length_drop, List.length_take]; rfl)) ?_
     with_reducible refine (ossuarylaw12_text.calls k1 ((wrap64 (a0 + (wrap64 (40 * (Go.bits .and .i64 a1 3))))) % 256) t293 _ A20.out).mono ?_
     rintro e w34 ⟨rfl, hb⟩
     refine ⟨_, rfl, ?_⟩
     have n0_ := Aside0.mk (Kd.R_below (by (with_reducible repeat (first | apply Kd.R_alloc | apply Kd.R_drewN | apply Kd.R_drew)); exact HO_7.out) hb)
     have n1_ := Aside0.mk (Kd.R_below (by (with_reducible repeat (first | apply Kd.R_alloc | apply Kd.R_drewN | apply Kd.R_drew)); exact HO287.out) hb)
     have n2_ := Aside0.mk (Kd.R_below (by (with_reducible repeat (first | apply Kd.R_alloc | apply Kd.R_drewN | apply Kd.R_drew)); exact HO292.out) hb)
     have n3_ := Aside0.mk (blk_below (g := gb272) (o := .cells #[.int .i64 a2_0, .slice A2_1 l2_1.length c2_1] 24 (0, 0)) (by (with_reducible repeat (first | refine blk_drewN ?_ _ | refine blk_drew ?_ | refine blk_alloc ?_ _)); exact BK272.out) hb)
     have n4_ := Aside0.mk (blk_below (g := gb288) (o := .cells #[.int .i64 (((a2_0) % 4294967296) / 4), .slice Ao28 y285.length co28] 24 (0, 0)) (by (with_reducible repeat (first | refine blk_drewN ?_ _ | refine blk_drew ?_ | refine blk_alloc ?_ _)); exact BK288.out) hb)
     (repeat replace hb := sq_un hb); have n5_ := sq_st hb HB; clear HO_7; clear HO287; clear HO292; clear BK272; clear BK288; clear HB; have HO_7 := n0_; have HO287 := n1_; have HO292 := n2_; have BK272 := n3_; have BK288 := n4_; have HB := n5_; clear n0_ n1_ n2_ n3_ n4_ n5_
     (try clear hb)
     (try clear hb2)
     (try clear hk)
     (try clear hi)
     obtain ⟨Ao35, co35, eo35⟩ := Kd.R_slice HO292.out
     (first | subst eo35 | (injection eo35 with f1_ f2_ f3_; have f4_ := f1_.symm; have f5_ := f3_.symm; clear f1_ f2_ f3_; subst f4_; subst f5_))
     refine hK.out _ _ ⟨(blk_cell BK288.out 0).trans rfl, (blk_cell BK288.out 1).trans rfl⟩ (fun hHeld => ?_)
     clear hK K
     refine norm_ (a' := ?_) ?_ ?_
     rotate_left
     ·
      show Act.put _ (some 73) _ = _
      simp only [Act.put, List.setIfInBounds_toArray, List.set_cons_zero, List.set_cons_succ, i64_w, i32_w]
      rfl
     refine one_ (i := 8) (N := some 76) #[true, true, true, true, true, true, true, true, true, false, false, false, false, false] rfl rfl (one_of HT_.out (by kernel_rfl)) (by decide) (fun K hK => ?_)
     refine goes_ Try.func9 (by kernel_rfl) rfl #[.string t293, .slice Ao35 t289.length co35, .agg #[.int .i64 (((a2_0) % 4294967296) / 4), .slice Ao28 y285.length co28]] (by rfl) rfl rfl (by (try simp only [List.map_toArray, List.map_cons, List.map_nil]); first | done | rfl | (simp only [List.length_drop, List.length_take]; rfl)) ?_
     with_reducible refine (audit_Respond.calls k1 t293 _ _ t289 (((a2_0) % 4294967296) / 4) _ _ y285 t294 t297 _ ?side1 ?side2 ?side3 ?side4 A21.out).mono ?_
     (case side1 => repeat (first | exact (Kd.R_reads' HO292.out).2.2 | (with_reducible refine Kd.C_alloc ?_ _) | (with_reducible refine Kd.C_drewN ?_ _) | (with_reducible refine Kd.C_drew ?_)))
     (case side2 => exact (Kd.R_reads' HO292.out).2.1)
     (case side3 => repeat (first | exact (Kd.R_reads' HO287.out).2.2 | (with_reducible refine Kd.C_alloc ?_ _) | (with_reducible refine Kd.C_drewN ?_ _) | (with_reducible refine Kd.C_drew ?_)))
     (case side4 => exact (Kd.R_reads' HO287.out).2.1)
     rintro e w36 ⟨v295, rfl, ho0, hb⟩
     refine ⟨_, rfl, ?_⟩
     have n0_ := Aside0.mk (Kd.R_below (by (with_reducible repeat (first | apply Kd.R_alloc | apply Kd.R_drewN | apply Kd.R_drew)); exact HO_7.out) hb)
     have n1_ := Aside0.mk (Kd.R_below (by (with_reducible repeat (first | apply Kd.R_alloc | apply Kd.R_drewN | apply Kd.R_drew)); exact HO287.out) hb)
     have n2_ := Aside0.mk (Kd.R_below (by (with_reducible repeat (first | apply Kd.R_alloc | apply Kd.R_drewN | apply Kd.R_drew)); exact HO292.out) hb)
     have n3_ := Aside0.mk (Kd.S_lower (Kd.S_new' (Kd.S_new' (Kd.S_new' ho0 (Kd.R_lt (by (with_reducible repeat (first | apply Kd.R_alloc | apply Kd.R_drewN | apply Kd.R_drew)); exact HO_7.out))) (Kd.R_lt (by (with_reducible repeat (first | apply Kd.R_alloc | apply Kd.R_drewN | apply Kd.R_drew)); exact HO287.out))) (Kd.R_lt (by (with_reducible repeat (first | apply Kd.R_alloc | apply Kd.R_drewN | apply Kd.R_drew)); exact HO292.out))) (below_size (by repeat (first | (with_reducible first | exact HB.out | apply below_alloc | apply pw_below_drewN | apply below_drew1 | refine below_set ?_ GE272.out | refine below_set ?_ GE288.out) | exact HB.out))))
     have n4_ := Aside0.mk (blk_below (g := gb272) (o := .cells #[.int .i64 a2_0, .slice A2_1 l2_1.length c2_1] 24 (0, 0)) (by (with_reducible repeat (first | refine blk_drewN ?_ _ | refine blk_drew ?_ | refine blk_alloc ?_ _)); exact BK272.out) hb)
     have n5_ := Aside0.mk (blk_below (g := gb288) (o := .cells #[.int .i64 (((a2_0) % 4294967296) / 4), .slice Ao28 y285.length co28] 24 (0, 0)) (by (with_reducible repeat (first | refine blk_drewN ?_ _ | refine blk_drew ?_ | refine blk_alloc ?_ _)); exact BK288.out) hb)
     (repeat replace hb := sq_un hb); have n6_ := sq_st hb HB; clear HO_7; clear HO287; clear HO292; clear BK272; clear BK288; clear HB; have HO_7 := n0_; have HO287 := n1_; have HO292 := n2_; have HO296 := n3_; have BK272 := n4_; have BK288 := n5_; have HB := n6_; clear n0_ n1_ n2_ n3_ n4_ n5_ n6_
     (try clear hb)
     (try clear hb2)
     (try clear hk)
     (try clear hi)
     (try clear ho0)
     refine hK.out _ _ ⟨(blk_cell BK288.out 0).trans rfl, (blk_cell BK288.out 1).trans rfl⟩ (fun hHeld => ?_)
     clear hK K
     refine norm_ (a' := ?_) ?_ ?_
     rotate_left
     ·
      show Act.put _ (some 76) _ = _
      simp only [Act.put, List.setIfInBounds_toArray, List.set_cons_zero, List.set_cons_succ, i64_w, i32_w]
      rfl
     refine pure_ (i := 9) (N := some 67) (v := ?_) (a' := ?_) #[true, true, true, true, true, true, true, true, true, true, false, false, false, false] rfl rfl (any_of HT_.out (by kernel_rfl)) (fun _ _ _ h => h) (Or.inl ⟨by rfl, ?_⟩) ?_ ?_
     rotate_left
     ·
      intro w'
      go_simp
      with_reducible rfl
     rotate_left
     ·
      simp only [Act.put, List.setIfInBounds_toArray, List.set_cons_zero, List.set_cons_succ, i64_w, i32_w]
      rfl
     refine pure_ (i := 10) (N := some 77) (v := ?_) (a' := ?_) #[true, true, true, true, true, true, true, true, true, true, true, false, false, false] rfl rfl (any_of HT_.out (by kernel_rfl)) (fun _ _ _ h => h) (Or.inl ⟨by rfl, ?_⟩) ?_ ?_
     rotate_left
     ·
      intro w'
      go_simp
      with_reducible rfl
     rotate_left
     ·
      simp only [Act.put, List.setIfInBounds_toArray, List.set_cons_zero, List.set_cons_succ, i64_w, i32_w]
      rfl
     refine pure_ (i := 11) (N := some 78) (v := ?_) (a' := ?_) #[true, true, true, true, true, true, true, true, true, true, true, true, false, false] rfl rfl (any_of HT_.out (by kernel_rfl)) (fun _ _ _ h => h) (Or.inl ⟨by rfl, ?_⟩) ?_ ?_
     rotate_left
     ·
      intro w'
      go_simp
      with_reducible rfl
     rotate_left
     ·
      simp only [Act.put, List.setIfInBounds_toArray, List.set_cons_zero, List.set_cons_succ, i64_w, i32_w]
      rfl
     refine pure_ (i := 12) (N := some 17) (v := ?_) (a' := ?_) #[true, true, true, true, true, true, true, true, true, true, true, true, true, false] rfl rfl (any_of HT_.out (by kernel_rfl)) (fun _ _ _ h => h) (Or.inl ⟨by rfl, ?_⟩) ?_ ?_
     rotate_left
     ·
      intro w'
      go_simp
      with_reducible rfl
     rotate_left
     ·
      simp only [Act.put, List.setIfInBounds_toArray, List.set_cons_zero, List.set_cons_succ, i64_w, i32_w]
      rfl
     refine pure_ (i := 13) (N := some 18) (v := ?_) (a' := ?_) #[true, true, true, true, true, true, true, true, true, true, true, true, true, true] rfl rfl (any_of HT_.out (by kernel_rfl)) (fun _ _ _ h => h) (Or.inl ⟨by rfl, ?_⟩) ?_ ?_
     rotate_left
     ·
      intro w'
      go_simp
      with_reducible rfl
     rotate_left
     ·
      simp only [Act.put, List.setIfInBounds_toArray, List.set_cons_zero, List.set_cons_succ, i64_w, i32_w]
      rfl
     refine done_ (done_of HT_.out (by kernel_rfl)) ?_
     go_upto_region 14 with (fail)
     go_cut [89] (fun v89 wc => ∃ (kq : Nat) (x89_21 : Bool), v89 = .bool x89_21 ∧ Aside0 (ossuarylaw12_AuditMoved.j1 kq a0 t283 (Go.bits .and .i64 a1 3) t289 t294 x89_21 (((a2_0) % 4294967296) / 4) y285 = some r) ∧ Aside0 (kq ≤ k1) ∧ Aside0 (Kd.R (Kd.int .i64) 3 wc w.heap.size (fun k_ => some k_ ≠ ((.slice Ao28 y285.length co28) : Value).ownBlock) (.slice Ao35 t289.length co35) t289) ∧ Aside0 (Kd.S k49 49 wc w.heap.size (fun k_ => some k_ ≠ ((.slice Ao35 t289.length co35) : Value).ownBlock ∧ some k_ ≠ ((.slice Ao28 y285.length co28) : Value).ownBlock) v295 t294) ∧ Aside0 (Kd.R (Kd.int .i64) 3 wc w.heap.size (fun k_ => some k_ ≠ ((.slice Ao35 t289.length co35) : Value).ownBlock) (.slice Ao28 y285.length co28) y285) ∧ Aside0 (wc.heap[gb272]? = some (.cells #[.int .i64 a2_0, (.slice A2_1 l2_1.length c2_1)] 24 (0, 0))) ∧ Aside0 (wc.heap[gb288]? = some (.cells #[.int .i64 (((a2_0) % 4294967296) / 4), (.slice Ao28 y285.length co28)] 24 (0, 0))) ∧ Aside0 (Below w.heap.size w wc))
     case first =>
      have H := HC22.out; clear HC22; replace H := Option.bind_eq_some_iff.mp H; obtain ⟨t298, A370, H⟩ := H; (try dsimp only at H); have A37 := Aside0.mk A370; clear A370
      by_cases c38 : t298 = 0
      ·
       rw [if_pos c38] at H
       have c38b0 : (t298 == 0) = true := beq_iff_eq.mpr c38; have c38b1 : (t298 != 0) = false := bne_eq_false_iff_eq.mpr c38; clear c38
       (first | rw [c38b0] | (simp only [i64_w, i32_w]; rw [c38b0]) | skip)
       replace H := Option.bind_eq_some_iff.mp H; obtain ⟨t299, A390, H⟩ := H
       replace H : (ossuarylaw12_AuditMoved.j1 k1 a0 t283 (Go.bits .and .i64 a1 3) t289 t294 (!t299) (((a2_0) % 4294967296) / 4) y285) = some r := H
       have A39 := Aside0.mk A390; clear A390
       have H' := Aside0.mk H
       clear H
       go_wp2_with (first | ((with_reducible refine gate_callee (f := 12) rfl ?_); refine goesL_ (some 80) rfl rfl Try.func12 (by kernel_rfl) rfl #[.int .i64 t297] rfl (by (try simp only [List.map_toArray, List.map_cons, List.map_nil]); first | done | rfl | (simp only [List.length_drop, List.length_take]; rfl)) ?_; (with_reducible refine (ossuarylaw0_Num.calls t297 t298 _ A37.out).mono ?_); rintro e w' ⟨rfl, ⟨nd, rfl⟩⟩; refine ⟨_, rfl, ?_⟩; have hnb40 := NB288_272.out; have hnc40 := NB272_288.out; have hcz41_0 := sq_d0 BK288; have hcz41_1 := sq_d1 BK288; have hfz41_0 := blk_frozen BK288.out 0; have hfz41_1 := blk_frozen BK288.out 1; obtain ⟨Ao42, co42, eo42⟩ := Kd.S_slice HO296.out; subst eo42) | (go_at_call 13; (with_reducible refine (audit_Check.calls k1 t283 4 (Go.bits .and .i64 a1 3) (((a2_0) % 4294967296) / 4) _ _ y285 _ _ t294 t299 _ ?side1 ?side2 ?side3 ?side4 A39.out).mono ?_); (case side1 => repeat (first | exact (Kd.R_reads' HO287.out).2.2 | (with_reducible refine Kd.C_alloc ?_ _) | (with_reducible refine Kd.C_drewN ?_ _) | (with_reducible refine Kd.C_drew ?_))); (case side2 => exact (Kd.R_reads' HO287.out).2.1); (case side3 => repeat (first | exact (Kd.S_reads' HO296.out).2.2 | (with_reducible refine Kd.C_alloc ?_ _) | (with_reducible refine Kd.C_drewN ?_ _) | (with_reducible refine Kd.C_drew ?_))); (case side4 => exact (Kd.S_reads' HO296.out).2.1); rintro e w43 ⟨rfl, hb⟩; (try replace hb := sq_un hb); have n0_ := sq_rb hb HO_7; have n1_ := sq_rb hb HO287; have n2_ := sq_rb hb HO292; have n3_ := Aside0.mk (Kd.S_below (by (with_reducible repeat (first | apply Kd.S_alloc | apply Kd.S_drewN | apply Kd.S_drew)); exact HO296.out) hb); have n4_ := sq_bk hb BK272; have n5_ := sq_bk hb BK288; have n6_ := sq_st hb HB; clear HO_7 HO287 HO292 HO296 BK272 BK288 HB; have HO_7 := n0_; have HO287 := n1_; have HO292 := n2_; have HO296 := n3_; have BK272 := n4_; have BK288 := n5_; have HB := n6_; clear n0_ n1_ n2_ n3_ n4_ n5_ n6_; (try clear hb); (try clear hb2); (try clear hk); (try clear hi)))
       go_meet
       case rel => exact ⟨_, (!t299), (by first | rfl | (simp; done) | (simp [*]; done)), H', ⟨by have := HK1.out; first | omega | exact Nat.le_refl _⟩, ⟨by (with_reducible repeat (first | apply Kd.R_alloc | apply Kd.R_drewN | apply Kd.R_drew)); exact Kd.R_mono HO292.out (fun _ hk => hk.2)⟩, ⟨by (with_reducible repeat (first | apply Kd.S_alloc | apply Kd.S_drewN | apply Kd.S_drew)); exact Kd.S_mono HO296.out (fun _ hk => ⟨hk.2, hk.1.2⟩)⟩, ⟨by (with_reducible repeat (first | apply Kd.R_alloc | apply Kd.R_drewN | apply Kd.R_drew)); exact Kd.R_mono HO287.out (fun _ hk => hk.2)⟩, ⟨by (with_reducible repeat (first | refine blk_drewN ?_ _ | refine blk_drew ?_ | refine blk_alloc ?_ _)); exact BK272.out⟩, ⟨by (with_reducible repeat (first | refine blk_drewN ?_ _ | refine blk_drew ?_ | refine blk_alloc ?_ _)); exact BK288.out⟩, ⟨by repeat (first | (with_reducible first | exact HB.out | apply below_alloc | apply pw_below_drewN | apply below_drew1 | refine below_set ?_ GE272.out | refine below_set ?_ GE288.out) | exact HB.out)⟩⟩
      ·
       rw [if_neg c38] at H
       have c38b0 : (t298 == 0) = false := beq_eq_false_iff_ne.mpr c38; have c38b1 : (t298 != 0) = true := bne_iff_ne.mpr c38
       (first | rw [c38b0] | (simp only [i64_w, i32_w]; rw [c38b0]) | skip)
       have H' := Aside0.mk H
       clear H
       go_wp2_with (first | ((with_reducible refine gate_callee (f := 12) rfl ?_); refine goesL_ (some 80) rfl rfl Try.func12 (by kernel_rfl) rfl #[.int .i64 t297] rfl (by (try simp only [List.map_toArray, List.map_cons, List.map_nil]); first | done | rfl | (simp only [List.length_drop, List.length_take]; rfl)) ?_; (with_reducible refine (ossuarylaw0_Num.calls t297 t298 _ A37.out).mono ?_); rintro e w' ⟨rfl, ⟨nd, rfl⟩⟩; refine ⟨_, rfl, ?_⟩))
       go_meet
       case rel => exact ⟨_, (true), (by first | rfl | (simp; done) | (simp [*]; done)), H', ⟨by have := HK1.out; first | omega | exact Nat.le_refl _⟩, ⟨by (with_reducible repeat (first | apply Kd.R_alloc | apply Kd.R_drewN | apply Kd.R_drew)); exact Kd.R_mono HO292.out (fun _ hk => hk.2)⟩, ⟨by (with_reducible repeat (first | apply Kd.S_alloc | apply Kd.S_drewN | apply Kd.S_drew)); exact Kd.S_mono HO296.out (fun _ hk => ⟨hk.2, hk.1.2⟩)⟩, ⟨by (with_reducible repeat (first | apply Kd.R_alloc | apply Kd.R_drewN | apply Kd.R_drew)); exact Kd.R_mono HO287.out (fun _ hk => hk.2)⟩, ⟨by (with_reducible repeat (first | refine blk_drewN ?_ _ | refine blk_drew ?_ | refine blk_alloc ?_ _)); exact BK272.out⟩, ⟨by (with_reducible repeat (first | refine blk_drewN ?_ _ | refine blk_drew ?_ | refine blk_alloc ?_ _)); exact BK288.out⟩, ⟨by repeat (first | (with_reducible first | exact HB.out | apply below_alloc | apply pw_below_drewN | apply below_drew1 | refine below_set ?_ GE272.out | refine below_set ?_ GE288.out) | exact HB.out)⟩⟩
     case rest =>
      clear HC22; (try clear c1); (try clear c2); (try clear p2); (try clear c3); (try clear c4); (try clear c5); (try clear c6); (try clear p6); (try clear c8); (try clear c8b0); (try clear c9); (try clear c12); (try clear c17); (try clear c18); (try clear c19); (try clear c20); (try clear c21); (try clear c30); (try clear c38); (try clear c38b0); (try clear c38b1); (try clear c40); (try clear hcz25_0); (try clear hcz25_1); (try clear hcz31_0); (try clear hcz31_1); (try clear hcz41_0); (try clear hcz41_1); (try clear hfz25_0); (try clear hfz25_1); (try clear hfz31_0); (try clear hfz31_1); (try clear hfz41_0); (try clear hfz41_1); (try clear p2); obtain ⟨kq, x89_21, rfl, HA, HJ21, HO_15, HO_17, HO_289001, BK272, BK288, HB⟩ := hcut
      cases kq with
      | zero => exact absurd HA.out (by simp [ossuarylaw12_AuditMoved.j1])
      | succ kj21 =>
       have H := HA.out; clear HA
       simp only [ossuarylaw12_AuditMoved.j1] at H
       by_cases c44 : x89_21 = true
       ·
        subst c44
        have H1 : (some false) = some r := by rw [if_pos rfl] at H; exact H
        clear H
        have H := H1
        clear H1
        exact absurd (Option.some.inj H) (by rw [HRT.out]; decide)
       ·
        replace c44 := Bool.eq_false_iff.mpr c44
        subst c44
        have H1 : (if 0 < (y285.length : Int) then ((some (([rd y285 0, rd y285 0] : List Int) : List Int)).bind fun y307 => ((ossuarylaw12_text.f kj21 ((wrap64 (a0 + (wrap64 (40 * (Go.bits .and .i64 a1 3))))) % 256)).bind fun t311 => ((audit_Respond.f kj21 t311 t289 (((a2_0) % 4294967296) / 4) y307).bind fun bt312 => ((audit_Check.f kj21 t283 4 (Go.bits .and .i64 (wrap64 ((Go.bits .and .i64 a1 3) + 1)) 3) (((a2_0) % 4294967296) / 4) y285 t294).bind fun t316 => (if t316 = true then (some false) else ((audit_Check.f kj21 t283 4 (Go.bits .and .i64 a1 3) (((a2_0) % 4294967296) / 4) (([Go.bits .and .i64 (wrap64 ((rd y285 0) + 1)) 3] : List Int)) t294).bind fun t317 => (if t317 = true then (some false) else ((audit_Check.f kj21 t283 4 (Go.bits .and .i64 a1 3) (((a2_0) % 4294967296) / 4) y307 t294).bind fun t318 => (if t318 = true then (some false) else ((ossuarylaw0_Num.f bt312.2).bind fun t319 => (if t319 = 0 then ((audit_Check.f kj21 t283 4 (Go.bits .and .i64 a1 3) (((a2_0) % 4294967296) / 4) y307 bt312.1).bind fun t320 => (some t320)) else (some false)))))))))))) else (none)) = some r := by rw [if_neg (show ¬ (false = true) by decide)] at H; exact H
        clear H
        have H := H1
        clear H1
        by_cases c45 : 0 < (y285.length : Int)
        ·
         rw [if_pos c45] at H
         have c45b0 : decide (0 < (y285.length : Int)) = true := decide_eq_true c45
         have c45b1 : decide (0 < y285.length) = true := decide_eq_true (by omega)
         clear c45
         obtain ⟨y301, hy301⟩ : ∃ y_ : List Int, y_ = (([Go.bits .and .i64 (wrap64 ((rd y285 0) + 1)) 3] : List Int)) := ⟨_, rfl⟩
         replace H : ((some (([rd y285 0, rd y285 0] : List Int) : List Int)).bind fun y307 => ((ossuarylaw12_text.f kj21 ((wrap64 (a0 + (wrap64 (40 * (Go.bits .and .i64 a1 3))))) % 256)).bind fun t311 => ((audit_Respond.f kj21 t311 t289 (((a2_0) % 4294967296) / 4) y307).bind fun bt312 => ((audit_Check.f kj21 t283 4 (Go.bits .and .i64 (wrap64 ((Go.bits .and .i64 a1 3) + 1)) 3) (((a2_0) % 4294967296) / 4) y285 t294).bind fun t316 => (if t316 = true then (some false) else ((audit_Check.f kj21 t283 4 (Go.bits .and .i64 a1 3) (((a2_0) % 4294967296) / 4) y301 t294).bind fun t317 => (if t317 = true then (some false) else ((audit_Check.f kj21 t283 4 (Go.bits .and .i64 a1 3) (((a2_0) % 4294967296) / 4) y307 t294).bind fun t318 => (if t318 = true then (some false) else ((ossuarylaw0_Num.f bt312.2).bind fun t319 => (if t319 = 0 then ((audit_Check.f kj21 t283 4 (Go.bits .and .i64 a1 3) (((a2_0) % 4294967296) / 4) y307 bt312.1).bind fun t320 => (some t320)) else (some false)))))))))))) = some r := by first | (rw [hy301]; with_reducible exact H) | (have H2_ := (Option.bind_some _ _).symm.trans H; rw [hy301]; with_reducible exact H2_) | (have H2_ := (Option.bind_some _ _).symm.trans H; with_reducible exact H2_) | with_reducible exact H | (rw [hy301]; exact H) | exact H
         have Ny301 := Aside0.mk hy301; clear hy301
         obtain ⟨y307, hy307⟩ : ∃ y_ : List Int, y_ = (([rd y285 0, rd y285 0] : List Int)) := ⟨_, rfl⟩
         replace H : ((ossuarylaw12_text.f kj21 ((wrap64 (a0 + (wrap64 (40 * (Go.bits .and .i64 a1 3))))) % 256)).bind fun t311 => ((audit_Respond.f kj21 t311 t289 (((a2_0) % 4294967296) / 4) y307).bind fun bt312 => ((audit_Check.f kj21 t283 4 (Go.bits .and .i64 (wrap64 ((Go.bits .and .i64 a1 3) + 1)) 3) (((a2_0) % 4294967296) / 4) y285 t294).bind fun t316 => (if t316 = true then (some false) else ((audit_Check.f kj21 t283 4 (Go.bits .and .i64 a1 3) (((a2_0) % 4294967296) / 4) y301 t294).bind fun t317 => (if t317 = true then (some false) else ((audit_Check.f kj21 t283 4 (Go.bits .and .i64 a1 3) (((a2_0) % 4294967296) / 4) y307 t294).bind fun t318 => (if t318 = true then (some false) else ((ossuarylaw0_Num.f bt312.2).bind fun t319 => (if t319 = 0 then ((audit_Check.f kj21 t283 4 (Go.bits .and .i64 a1 3) (((a2_0) % 4294967296) / 4) y307 bt312.1).bind fun t320 => (some t320)) else (some false))))))))))) = some r := by first | (rw [hy307]; with_reducible exact H) | (have H2_ := (Option.bind_some _ _).symm.trans H; rw [hy307]; with_reducible exact H2_) | (have H2_ := (Option.bind_some _ _).symm.trans H; with_reducible exact H2_) | with_reducible exact H | (rw [hy307]; exact H) | exact H
         have Ny307 := Aside0.mk hy307; clear hy307; replace H := Option.bind_eq_some_iff.mp H; obtain ⟨t311, A460, H⟩ := H; (try dsimp only at H); have A46 := Aside0.mk A460; clear A460; replace H := Option.bind_eq_some_iff.mp H; obtain ⟨⟨t312, t315⟩, A470, H⟩ := H; (try dsimp only at H); have A47 := Aside0.mk A470; clear A470; replace H := Option.bind_eq_some_iff.mp H; obtain ⟨t316, A480, H⟩ := H; (try dsimp only at H); have A48 := Aside0.mk A480; clear A480
         by_cases c49 : t316 = true
         ·
          subst c49
          have H1 : (some false) = some r := by rw [if_pos rfl] at H; exact H
          clear H
          have H := H1
          clear H1
          exact absurd (Option.some.inj H) (by rw [HRT.out]; decide)
         ·
          replace c49 := Bool.eq_false_iff.mpr c49
          subst c49
          have H1 : ((audit_Check.f kj21 t283 4 (Go.bits .and .i64 a1 3) (((a2_0) % 4294967296) / 4) y301 t294).bind fun t317 => (if t317 = true then (some false) else ((audit_Check.f kj21 t283 4 (Go.bits .and .i64 a1 3) (((a2_0) % 4294967296) / 4) y307 t294).bind fun t318 => (if t318 = true then (some false) else ((ossuarylaw0_Num.f t315).bind fun t319 => (if t319 = 0 then ((audit_Check.f kj21 t283 4 (Go.bits .and .i64 a1 3) (((a2_0) % 4294967296) / 4) y307 t312).bind fun t320 => (some t320)) else (some false))))))) = some r := by rw [if_neg (show ¬ (false = true) by decide)] at H; exact H
          clear H
          have H := H1
          clear H1; replace H := Option.bind_eq_some_iff.mp H; obtain ⟨t317, A500, H⟩ := H; (try dsimp only at H); have A50 := Aside0.mk A500; clear A500
          by_cases c51 : t317 = true
          ·
           subst c51
           have H1 : (some false) = some r := by rw [if_pos rfl] at H; exact H
           clear H
           have H := H1
           clear H1
           exact absurd (Option.some.inj H) (by rw [HRT.out]; decide)
          ·
           replace c51 := Bool.eq_false_iff.mpr c51
           subst c51
           have H1 : ((audit_Check.f kj21 t283 4 (Go.bits .and .i64 a1 3) (((a2_0) % 4294967296) / 4) y307 t294).bind fun t318 => (if t318 = true then (some false) else ((ossuarylaw0_Num.f t315).bind fun t319 => (if t319 = 0 then ((audit_Check.f kj21 t283 4 (Go.bits .and .i64 a1 3) (((a2_0) % 4294967296) / 4) y307 t312).bind fun t320 => (some t320)) else (some false))))) = some r := by rw [if_neg (show ¬ (false = true) by decide)] at H; exact H
           clear H
           have H := H1
           clear H1; replace H := Option.bind_eq_some_iff.mp H; obtain ⟨t318, A520, H⟩ := H
           replace H : (if t318 = true then (some false) else ((ossuarylaw0_Num.f t315).bind fun t319 => (if t319 = 0 then ((audit_Check.f kj21 t283 4 (Go.bits .and .i64 a1 3) (((a2_0) % 4294967296) / 4) y307 t312).bind fun t320 => (some t320)) else (some false)))) = some r := H
           have A52 := Aside0.mk A520; clear A520
           by_cases c53 : t318 = true
           ·
            subst c53
            have H1 : (some false) = some r := by rw [if_pos rfl] at H; exact H
            clear H
            have H := H1
            clear H1
            exact absurd (Option.some.inj H) (by rw [HRT.out]; decide)
           ·
            replace c53 := Bool.eq_false_iff.mpr c53
            subst c53
            have H1 : ((ossuarylaw0_Num.f t315).bind fun t319 => (if t319 = 0 then ((audit_Check.f kj21 t283 4 (Go.bits .and .i64 a1 3) (((a2_0) % 4294967296) / 4) y307 t312).bind fun t320 => (some t320)) else (some false))) = some r := by rw [if_neg (show ¬ (false = true) by decide)] at H; exact H
            clear H
            have H := H1
            clear H1; replace H := Option.bind_eq_some_iff.mp H; obtain ⟨t319, A540, H⟩ := H
            replace H : (if t319 = 0 then ((audit_Check.f kj21 t283 4 (Go.bits .and .i64 a1 3) (((a2_0) % 4294967296) / 4) y307 t312).bind fun t320 => (some t320)) else (some false)) = some r := H
            have A54 := Aside0.mk A540; clear A540
            by_cases c55 : t319 = 0
            ·
             rw [if_pos c55] at H
             have c55b0 : (t319 == 0) = true := beq_iff_eq.mpr c55; have c55b1 : (t319 != 0) = false := bne_eq_false_iff_eq.mpr c55; clear c55; replace H := Option.bind_eq_some_iff.mp H; obtain ⟨t320, A560, H⟩ := H
             replace H : (some t320) = some r := H
             have A56 := Aside0.mk A560; clear A560
             obtain rfl := Option.some.inj H
             try go_wp2
             have n0_ := Aside0.mk (Kd.R_drew HO_15.out); have n1_ := Aside0.mk (Kd.S_drew HO_17.out); have n2_ := Aside0.mk (Kd.R_drew HO_289001.out); have n3_ := Aside0.mk (blk_drew BK272.out); have n4_ := Aside0.mk (blk_drew BK288.out); have n5_ := Aside0.mk (below_drew1 HB.out); clear HO_15; clear HO_17; clear HO_289001; clear BK272; clear BK288; clear HB; have HO_15 := n0_; have HO_17 := n1_; have HO_289001 := n2_; have BK272 := n3_; have BK288 := n4_; have HB := n5_; clear n0_ n1_ n2_ n3_ n4_ n5_
             have p300 : 0 ≤ (0 : Int) := (by omega)
             have q300 : 0 < (y285.length : Int) := of_decide_eq_true (by first | (with_reducible assumption) | assumption)
             obtain ⟨ad300, e300, hx300_0⟩ := Kd.at_int (Kd.R_reads' HO_289001.out).2.2 0 p300 q300
             cases e300
             have qi300 : (0 < y285.length) = True := eq_true (by omega)
             (try rw [show ((0 : Int)).toNat = 0 from rfl] at hx300_0)
             (try rw [Addr.add_zero'] at hx300_0)
             replace p300 := eq_true p300
             replace q300 := eq_true q300
             refine start_ (n := 12) (S := fun w' => w'.cell? ⟨gb288, 0, none⟩ = some (.int .i64 (((a2_0) % 4294967296) / 4)) ∧ w'.cell? ⟨gb288, 1, none⟩ = some (.slice (some ad300) y285.length co28) ∧ w'.cell? ad300 = some (.int .i64 (rd y285 0))) (ds := []) #[false, false, false, false, false, false, false, false, false, false, false, false] (by kernel_rfl) rfl rfl ⟨(blk_cell BK288.out 0).trans rfl, (blk_cell BK288.out 1).trans rfl, hx300_0⟩ (fun hHeld => ?_); refine with_tabW ossuarylaw12_AuditMoved.tab16 ossuarylaw12_AuditMoved.bits16 (fun HT_ HW_ => ?_)
             generalize wc.drew = w57 at HO_15 HO_17 HO_289001 BK272 BK288 HB hx300_0 hHeld ⊢
             refine pure_ (i := 0) (N := some 90) (v := ?_) (a' := ?_) #[true, false, false, false, false, false, false, false, false, false, false, false] rfl rfl (any_of HT_.out (by kernel_rfl)) (fun _ _ _ h => h) (Or.inl ⟨by rfl, ?_⟩) ?_ ?_
             rotate_left
             ·
              intro w'
              go_simp
              with_reducible rfl
             rotate_left
             ·
              simp only [Act.put, List.setIfInBounds_toArray, List.set_cons_zero, List.set_cons_succ, i64_w, i32_w]
              rfl
             refine pure_ (i := 2) (N := some 92) (v := ?_) (a' := ?_) #[true, false, true, false, false, false, false, false, false, false, false, false] rfl rfl (any_of HT_.out (by kernel_rfl)) (fun _ _ _ h => h) (Or.inl ⟨by rfl, ?_⟩) ?_ ?_
             rotate_left
             ·
              intro w'
              go_simp
              with_reducible rfl
             rotate_left
             ·
              simp only [Act.put, List.setIfInBounds_toArray, List.set_cons_zero, List.set_cons_succ, i64_w, i32_w]
              rfl
             refine take_ (i := 1) (N := some 91) (v := ?_) (a' := ?_) #[true, true, true, false, false, false, false, false, false, false, false, false] rfl rfl (take_ofW HT_.out HW_.out (by kernel_rfl)) (fun _ _ _ h => h) (Or.inl ⟨by rfl, ?_⟩) hHeld ?_ ?_
             rotate_left
             ·
              rintro w' ⟨s0, s1, s2⟩
              go_simp
              with_reducible rfl
             rotate_left
             ·
              simp only [Act.put, List.setIfInBounds_toArray, List.set_cons_zero, List.set_cons_succ, i64_w, i32_w]
              rfl
             refine take_ (i := 3) (N := some 93) (v := ?_) (a' := ?_) #[true, true, true, true, false, false, false, false, false, false, false, false] rfl rfl (take_ofW HT_.out HW_.out (by kernel_rfl)) (fun _ _ _ h => h) (Or.inl ⟨by rfl, ?_⟩) hHeld ?_ ?_
             rotate_left
             ·
              rintro w' ⟨s0, s1, s2⟩
              go_simp
              with_reducible rfl
             rotate_left
             ·
              simp only [Act.put, List.setIfInBounds_toArray, List.set_cons_zero, List.set_cons_succ, i64_w, i32_w]
              rfl
             refine pure_ (i := 4) (N := some 94) (v := ?_) (a' := ?_) #[true, true, true, true, true, false, false, false, false, false, false, false] rfl rfl (any_of HT_.out (by kernel_rfl)) (fun _ _ _ h => h) (Or.inl ⟨by rfl, ?_⟩) ?_ ?_
             rotate_left
             ·
              intro w'
              go_simp
              with_reducible rfl
             rotate_left
             ·
              simp only [Act.put, List.setIfInBounds_toArray, List.set_cons_zero, List.set_cons_succ, i64_w, i32_w]
              rfl
             refine take_ (i := 5) (N := some 95) (v := ?_) (a' := ?_) #[true, true, true, true, true, true, false, false, false, false, false, false] rfl rfl (take_ofW HT_.out HW_.out (by kernel_rfl)) (fun _ _ _ h => h) (Or.inl ⟨by rfl, ?_⟩) hHeld ?_ ?_
             rotate_left
             ·
              rintro w' ⟨s0, s1, s2⟩
              go_simp
              with_reducible rfl
             rotate_left
             ·
              simp only [Act.put, List.setIfInBounds_toArray, List.set_cons_zero, List.set_cons_succ, i64_w, i32_w]
              rfl
             refine pure_ (i := 6) (N := some 96) (v := ?_) (a' := ?_) #[true, true, true, true, true, true, true, false, false, false, false, false] rfl rfl (any_of HT_.out (by kernel_rfl)) (fun _ _ _ h => h) (Or.inl ⟨by rfl, ?_⟩) ?_ ?_
             rotate_left
             ·
              intro w'
              go_simp
              with_reducible rfl
             rotate_left
             ·
              simp only [Act.put, List.setIfInBounds_toArray, List.set_cons_zero, List.set_cons_succ, i64_w, i32_w]
              rfl
             refine pure_ (i := 7) (N := some 97) (v := ?_) (a' := ?_) #[true, true, true, true, true, true, true, true, false, false, false, false] rfl rfl (any_of HT_.out (by kernel_rfl)) (fun _ _ _ h => h) (Or.inl ⟨by rfl, ?_⟩) ?_ ?_
             rotate_left
             ·
              intro w'
              go_simp
              with_reducible rfl
             rotate_left
             ·
              simp only [Act.put, List.setIfInBounds_toArray, List.set_cons_zero, List.set_cons_succ, i64_w, i32_w]
              rfl
             refine join_ (σ := Value × Nat) 1 #[true, true, true, true, true, true, true, true, true, true, true, false] (fun s_ => [(98, s_.1), (19, .pointer (some ⟨s_.2, 0, none⟩)), (99, .agg #[.int .i64 (((a2_0) % 4294967296) / 4), s_.1])]) (fun s_ w' => (w'.cell? ⟨gb288, 0, none⟩ = some (.int .i64 (((a2_0) % 4294967296) / 4)) ∧ w'.cell? ⟨gb288, 1, none⟩ = some (.slice (some ad300) y285.length co28) ∧ w'.cell? ad300 = some (.int .i64 (rd y285 0))) ∧ (Kd.R (Kd.int .i64) 3 w' w.heap.size (fun k_ => some k_ ≠ (.slice Ao35 t289.length co35 : Value).ownBlock ∧ some k_ ≠ (.slice (some ad300) y285.length co28 : Value).ownBlock) s_.1 y301) ∧ (Kd.R (Kd.int .i64) 3 w' w.heap.size (fun k_ => some k_ ≠ (s_.1 : Value).ownBlock ∧ some k_ ≠ (.slice (some ad300) y285.length co28 : Value).ownBlock) (.slice Ao35 t289.length co35) t289) ∧ (Kd.S k49 49 w' w.heap.size (fun k_ => some k_ ≠ (s_.1 : Value).ownBlock ∧ some k_ ≠ (.slice Ao35 t289.length co35 : Value).ownBlock ∧ some k_ ≠ (.slice (some ad300) y285.length co28 : Value).ownBlock) v295 t294) ∧ (Kd.R (Kd.int .i64) 3 w' w.heap.size (fun k_ => some k_ ≠ (s_.1 : Value).ownBlock ∧ some k_ ≠ (.slice Ao35 t289.length co35 : Value).ownBlock) (.slice (some ad300) y285.length co28) y285) ∧ (w'.heap[gb272]? = some (.cells #[.int .i64 a2_0, .slice A2_1 l2_1.length c2_1] 24 (0, 0))) ∧ (w'.heap[gb288]? = some (.cells #[.int .i64 (((a2_0) % 4294967296) / 4), .slice (some ad300) y285.length co28] 24 (0, 0))) ∧ (w'.heap[s_.2]? = some (.cells #[.int .i64 0, .slice none 0 0] 24 (0, 0))) ∧ (w.heap.size ≤ s_.2) ∧ (w.heap.size ≤ s_.2) ∧ (gb272 ≠ s_.2) ∧ (s_.2 ≠ gb272) ∧ (gb288 ≠ s_.2) ∧ (s_.2 ≠ gb288) ∧ (Below w.heap.size w w')) ?_ ?_
             rotate_left
             ·
              intro hCont
              refine two_ (i := 8) (j := 10) (Ni := some 98) (Nj := some 19) #[true, true, true, true, true, true, true, true, true, false, false, false] #[true, true, true, true, true, true, true, true, false, false, true, false] rfl rfl rfl rfl (two_of HT_.out (by kernel_rfl)) (by decide) (by decide) (fun K hK => ?_) (fun K hK => ?_)
              ·
               skip
               refine Kd.R_lit_step (Kd.int .i64) _ 3 ?hg (N := 98) ?hd (xs := ([Go.bits .and .i64 (wrap64 ((rd y285 0) + 1)) 3] : List Int)) (inner := [.int .i64 (Go.bits .and .i64 (wrap64 ((rd y285 0) + 1)) 3)]) (ok := fun _ => True) (okp := fun _ => True) ?hr ?hp (fun _ hk => hk) trivial (Below.refl _ _) (Nat.le_refl _) (by simp) ?_; (case hd => rfl); (case hg => rfl); (case hr => first | (go_simp; done) | (go_simp; rfl)); (case hp => exact (Reps.one (show Kd.M (Kd.int .i64) _ _ _ (Go.bits .and .i64 (wrap64 ((rd y285 0) + 1)) 3) [.int .i64 (Go.bits .and .i64 (wrap64 ((rd y285 0) + 1)) 3)] from rfl) (Reps.none _ _)))
               intro v302 w58 ho59 hb hg_ hnew_
               have HS2_ := (hb.cell (World.block_lt_of_cell? _ _ (hHeld.2.2))).trans (hHeld.2.2)
               clear hg_ hnew_
               (first | rw [← Ny301.out] at ho59 | (simp only [Int.reduceToNat] at ho59; rw [← Ny301.out] at ho59))
               have n0_ := Aside0.mk (Kd.R_elder' (by (with_reducible repeat (first | apply Kd.R_alloc | apply Kd.R_drewN | apply Kd.R_drew)); exact HO_15.out) (Kd.R_base ho59) hb)
               have n1_ := Aside0.mk (Kd.S_elder' (by (with_reducible repeat (first | apply Kd.S_alloc | apply Kd.S_drewN | apply Kd.S_drew)); exact HO_17.out) (Kd.R_base ho59) hb)
               have n2_ := Aside0.mk (Kd.R_elder' (by (with_reducible repeat (first | apply Kd.R_alloc | apply Kd.R_drewN | apply Kd.R_drew)); exact HO_289001.out) (Kd.R_base ho59) hb)
               have n3_ := Aside0.mk (Kd.R_lower (Kd.R_new' (Kd.R_new' ho59 (Kd.R_lt (by (with_reducible repeat (first | apply Kd.R_alloc | apply Kd.R_drewN | apply Kd.R_drew)); exact HO_15.out))) (Kd.R_lt (by (with_reducible repeat (first | apply Kd.R_alloc | apply Kd.R_drewN | apply Kd.R_drew)); exact HO_289001.out))) (below_size (by repeat (first | (with_reducible first | exact HB.out | apply below_alloc | apply pw_below_drewN | apply below_drew1 | refine below_set ?_ GE272.out | refine below_set ?_ GE288.out) | exact HB.out))))
               have n4_ := Aside0.mk (blk_below (g := gb272) (o := .cells #[.int .i64 a2_0, .slice A2_1 l2_1.length c2_1] 24 (0, 0)) (by (with_reducible repeat (first | refine blk_drewN ?_ _ | refine blk_drew ?_ | refine blk_alloc ?_ _)); exact BK272.out) hb)
               have n5_ := Aside0.mk (blk_below (g := gb288) (o := .cells #[.int .i64 (((a2_0) % 4294967296) / 4), .slice (some ad300) y285.length co28] 24 (0, 0)) (by (with_reducible repeat (first | refine blk_drewN ?_ _ | refine blk_drew ?_ | refine blk_alloc ?_ _)); exact BK288.out) hb)
               (repeat replace hb := sq_un hb); have n6_ := sq_st hb HB; clear HO_15; clear HO_17; clear HO_289001; clear BK272; clear BK288; clear HB; have HO_15 := n0_; have HO_17 := n1_; have HO_289001 := n2_; have HO303 := n3_; have BK272 := n4_; have BK288 := n5_; have HB := n6_; clear n0_ n1_ n2_ n3_ n4_ n5_ n6_; clear hb ho59; obtain ⟨Ao60, co60, eo60⟩ := Kd.R_slice HO303.out
               (first | subst eo60 | (injection eo60 with f1_ f2_ f3_; have f4_ := f1_.symm; have f5_ := f3_.symm; clear f1_ f2_ f3_; subst f4_; subst f5_))
               refine hK.out _ _ ⟨(blk_cell BK288.out 0).trans rfl, (blk_cell BK288.out 1).trans rfl, HS2_⟩ (fun hHeld => ?_)
               clear hK K
               refine norm_ (a' := ?_) ?_ ?_
               rotate_left
               ·
                show Act.put _ (some 98) _ = _
                simp only [Act.put, List.setIfInBounds_toArray, List.set_cons_zero, List.set_cons_succ, i64_w, i32_w]
                rfl
               refine pure_ (i := 9) (N := some 99) (v := ?_) (a' := ?_) #[true, true, true, true, true, true, true, true, true, true, false, false] rfl rfl (any_of HT_.out (by kernel_rfl)) (fun _ _ _ h => h) (Or.inl ⟨by rfl, ?_⟩) ?_ ?_
               rotate_left
               ·
                intro w'
                go_simp
                with_reducible rfl
               rotate_left
               ·
                simp only [Act.put, List.setIfInBounds_toArray, List.set_cons_zero, List.set_cons_succ, i64_w, i32_w]
                rfl
               refine one_ (i := 10) (N := some 19) #[true, true, true, true, true, true, true, true, true, true, true, false] rfl rfl (one_of HT_.out (by kernel_rfl)) (by decide) (fun K hK => ?_)
               refine box_step ?hg (N := 19) ?hd (cs := #[.int .i64 0, .slice none 0 0]) (t := 24) ?hr ?_; (case hd => rfl); (case hg => rfl); (case hr => first | (go_simp; done) | (go_simp; rfl))
               intro gb304 hg w61 hbox hb
               have HS2_ := (hb.cell (World.block_lt_of_cell? _ _ (hHeld.2.2))).trans (hHeld.2.2)
               have n0_ := Aside0.mk (Kd.R_below (by (with_reducible repeat (first | apply Kd.R_alloc | apply Kd.R_drewN | apply Kd.R_drew)); exact HO_15.out) hb)
               have n1_ := Aside0.mk (Kd.S_below (by (with_reducible repeat (first | apply Kd.S_alloc | apply Kd.S_drewN | apply Kd.S_drew)); exact HO_17.out) hb)
               have n2_ := Aside0.mk (Kd.R_below (by (with_reducible repeat (first | apply Kd.R_alloc | apply Kd.R_drewN | apply Kd.R_drew)); exact HO_289001.out) hb)
               have n3_ := Aside0.mk (Kd.R_below (by (with_reducible repeat (first | apply Kd.R_alloc | apply Kd.R_drewN | apply Kd.R_drew)); exact HO303.out) hb)
               have n4_ := Aside0.mk (blk_below (g := gb272) (o := .cells #[.int .i64 a2_0, .slice A2_1 l2_1.length c2_1] 24 (0, 0)) (by (with_reducible repeat (first | refine blk_drewN ?_ _ | refine blk_drew ?_ | refine blk_alloc ?_ _)); exact BK272.out) hb)
               have n5_ := Aside0.mk (blk_below (g := gb288) (o := .cells #[.int .i64 (((a2_0) % 4294967296) / 4), .slice (some ad300) y285.length co28] 24 (0, 0)) (by (with_reducible repeat (first | refine blk_drewN ?_ _ | refine blk_drew ?_ | refine blk_alloc ?_ _)); exact BK288.out) hb)
               (repeat replace hb := sq_un hb); have n6_ := sq_st hb HB; have n7_ := Aside0.mk (hbox)
               have n8_ := Aside0.mk ((by rw [hg]; exact (below_size (by repeat (first | (with_reducible first | exact HB.out | apply below_alloc | apply pw_below_drewN | apply below_drew1 | refine below_set ?_ GE272.out | refine below_set ?_ GE288.out) | exact HB.out))) : w.heap.size ≤ gb304))
               have n9_ := Aside0.mk ((by rw [hg]; exact (below_size (by repeat (first | (with_reducible first | exact HB.out | apply below_alloc | apply pw_below_drewN | apply below_drew1 | refine below_set ?_ GE272.out | refine below_set ?_ GE288.out) | exact HB.out))) : w.heap.size ≤ gb304))
               have n10_ := Aside0.mk ((by rw [hg]; exact Nat.ne_of_lt (blk_lt (g := gb272) (o := .cells #[.int .i64 a2_0, .slice A2_1 l2_1.length c2_1] 24 (0, 0)) (by (with_reducible repeat (first | refine blk_drewN ?_ _ | refine blk_drew ?_ | refine blk_alloc ?_ _)); exact BK272.out)) : gb272 ≠ gb304))
               have n11_ := Aside0.mk ((by rw [hg]; exact Nat.ne_of_gt (blk_lt (g := gb272) (o := .cells #[.int .i64 a2_0, .slice A2_1 l2_1.length c2_1] 24 (0, 0)) (by (with_reducible repeat (first | refine blk_drewN ?_ _ | refine blk_drew ?_ | refine blk_alloc ?_ _)); exact BK272.out)) : gb304 ≠ gb272))
               have n12_ := Aside0.mk ((by rw [hg]; exact Nat.ne_of_lt (blk_lt (g := gb288) (o := .cells #[.int .i64 (((a2_0) % 4294967296) / 4), .slice (some ad300) y285.length co28] 24 (0, 0)) (by (with_reducible repeat (first | refine blk_drewN ?_ _ | refine blk_drew ?_ | refine blk_alloc ?_ _)); exact BK288.out)) : gb288 ≠ gb304))
               have n13_ := Aside0.mk ((by rw [hg]; exact Nat.ne_of_gt (blk_lt (g := gb288) (o := .cells #[.int .i64 (((a2_0) % 4294967296) / 4), .slice (some ad300) y285.length co28] 24 (0, 0)) (by (with_reducible repeat (first | refine blk_drewN ?_ _ | refine blk_drew ?_ | refine blk_alloc ?_ _)); exact BK288.out)) : gb304 ≠ gb288))
               clear HO_15; clear HO_17; clear HO_289001; clear HO303; clear BK272; clear BK288; clear HB; have HO_15 := n0_; have HO_17 := n1_; have HO_289001 := n2_; have HO303 := n3_; have BK272 := n4_; have BK288 := n5_; have HB := n6_; have BK304 := n7_; have GW304 := n8_; have GE304 := n9_; have NB272_304 := n10_; have NB304_272 := n11_; have NB288_304 := n12_; have NB304_288 := n13_; clear n0_ n1_ n2_ n3_ n4_ n5_ n6_ n7_ n8_ n9_ n10_ n11_ n12_ n13_; clear hb hbox hg
               refine hK.out _ _ ⟨(blk_cell BK288.out 0).trans rfl, (blk_cell BK288.out 1).trans rfl, HS2_⟩ (fun hHeld => ?_)
               clear hK K
               refine norm_ (a' := ?_) ?_ ?_
               rotate_left
               ·
                show Act.put _ (some 19) _ = _
                simp only [Act.put, List.setIfInBounds_toArray, List.set_cons_zero, List.set_cons_succ, i64_w, i32_w]
                rfl
               exact norm_ (by simp only [putAll, Act.put, List.setIfInBounds_toArray, List.set_cons_zero, List.set_cons_succ]) (hCont (.slice Ao60 y301.length co60, gb304) _ ⟨hHeld, (by (with_reducible repeat (first | apply Kd.R_alloc | apply Kd.R_drewN | apply Kd.R_drew)); exact Kd.R_mono HO303.out (fun _ hk => ⟨hk.1.2, hk.2⟩)), (by (with_reducible repeat (first | apply Kd.R_alloc | apply Kd.R_drewN | apply Kd.R_drew)); exact Kd.R_mono HO_15.out (fun _ hk => ⟨hk.2, hk.1⟩)), (by (with_reducible repeat (first | apply Kd.S_alloc | apply Kd.S_drewN | apply Kd.S_drew)); exact Kd.S_mono HO_17.out (fun _ hk => ⟨hk.2, ⟨hk.1.1, hk.1.2⟩⟩)), (by (with_reducible repeat (first | apply Kd.R_alloc | apply Kd.R_drewN | apply Kd.R_drew)); exact Kd.R_mono HO_289001.out (fun _ hk => ⟨hk.2, hk.1⟩)), (by (with_reducible repeat (first | refine blk_drewN ?_ _ | refine blk_drew ?_ | refine blk_alloc ?_ _)); exact BK272.out), (by (with_reducible repeat (first | refine blk_drewN ?_ _ | refine blk_drew ?_ | refine blk_alloc ?_ _)); exact BK288.out), (by (with_reducible repeat (first | refine blk_drewN ?_ _ | refine blk_drew ?_ | refine blk_alloc ?_ _)); exact BK304.out), GW304.out, GE304.out, NB272_304.out, NB304_272.out, NB288_304.out, NB304_288.out, (by repeat (first | (with_reducible first | exact HB.out | apply below_alloc | apply pw_below_drewN | apply below_drew1 | refine below_set ?_ GE272.out | refine below_set ?_ GE288.out | refine below_set ?_ GE304.out) | exact HB.out))⟩)
              ·
               skip
               refine box_step ?hg (N := 19) ?hd (cs := #[.int .i64 0, .slice none 0 0]) (t := 24) ?hr ?_; (case hd => rfl); (case hg => rfl); (case hr => first | (go_simp; done) | (go_simp; rfl))
               intro gb304 hg w58 hbox hb
               have HS2_ := (hb.cell (World.block_lt_of_cell? _ _ (hHeld.2.2))).trans (hHeld.2.2)
               have n0_ := Aside0.mk (Kd.R_below (by (with_reducible repeat (first | apply Kd.R_alloc | apply Kd.R_drewN | apply Kd.R_drew)); exact HO_15.out) hb)
               have n1_ := Aside0.mk (Kd.S_below (by (with_reducible repeat (first | apply Kd.S_alloc | apply Kd.S_drewN | apply Kd.S_drew)); exact HO_17.out) hb)
               have n2_ := Aside0.mk (Kd.R_below (by (with_reducible repeat (first | apply Kd.R_alloc | apply Kd.R_drewN | apply Kd.R_drew)); exact HO_289001.out) hb)
               have n3_ := Aside0.mk (blk_below (g := gb272) (o := .cells #[.int .i64 a2_0, .slice A2_1 l2_1.length c2_1] 24 (0, 0)) (by (with_reducible repeat (first | refine blk_drewN ?_ _ | refine blk_drew ?_ | refine blk_alloc ?_ _)); exact BK272.out) hb)
               have n4_ := Aside0.mk (blk_below (g := gb288) (o := .cells #[.int .i64 (((a2_0) % 4294967296) / 4), .slice (some ad300) y285.length co28] 24 (0, 0)) (by (with_reducible repeat (first | refine blk_drewN ?_ _ | refine blk_drew ?_ | refine blk_alloc ?_ _)); exact BK288.out) hb)
               (repeat replace hb := sq_un hb); have n5_ := sq_st hb HB; have n6_ := Aside0.mk (hbox)
               have n7_ := Aside0.mk ((by rw [hg]; exact (below_size (by repeat (first | (with_reducible first | exact HB.out | apply below_alloc | apply pw_below_drewN | apply below_drew1 | refine below_set ?_ GE272.out | refine below_set ?_ GE288.out) | exact HB.out))) : w.heap.size ≤ gb304))
               have n8_ := Aside0.mk ((by rw [hg]; exact (below_size (by repeat (first | (with_reducible first | exact HB.out | apply below_alloc | apply pw_below_drewN | apply below_drew1 | refine below_set ?_ GE272.out | refine below_set ?_ GE288.out) | exact HB.out))) : w.heap.size ≤ gb304))
               have n9_ := Aside0.mk ((by rw [hg]; exact Nat.ne_of_lt (blk_lt (g := gb272) (o := .cells #[.int .i64 a2_0, .slice A2_1 l2_1.length c2_1] 24 (0, 0)) (by (with_reducible repeat (first | refine blk_drewN ?_ _ | refine blk_drew ?_ | refine blk_alloc ?_ _)); exact BK272.out)) : gb272 ≠ gb304))
               have n10_ := Aside0.mk ((by rw [hg]; exact Nat.ne_of_gt (blk_lt (g := gb272) (o := .cells #[.int .i64 a2_0, .slice A2_1 l2_1.length c2_1] 24 (0, 0)) (by (with_reducible repeat (first | refine blk_drewN ?_ _ | refine blk_drew ?_ | refine blk_alloc ?_ _)); exact BK272.out)) : gb304 ≠ gb272))
               have n11_ := Aside0.mk ((by rw [hg]; exact Nat.ne_of_lt (blk_lt (g := gb288) (o := .cells #[.int .i64 (((a2_0) % 4294967296) / 4), .slice (some ad300) y285.length co28] 24 (0, 0)) (by (with_reducible repeat (first | refine blk_drewN ?_ _ | refine blk_drew ?_ | refine blk_alloc ?_ _)); exact BK288.out)) : gb288 ≠ gb304))
               have n12_ := Aside0.mk ((by rw [hg]; exact Nat.ne_of_gt (blk_lt (g := gb288) (o := .cells #[.int .i64 (((a2_0) % 4294967296) / 4), .slice (some ad300) y285.length co28] 24 (0, 0)) (by (with_reducible repeat (first | refine blk_drewN ?_ _ | refine blk_drew ?_ | refine blk_alloc ?_ _)); exact BK288.out)) : gb304 ≠ gb288))
               clear HO_15; clear HO_17; clear HO_289001; clear BK272; clear BK288; clear HB; have HO_15 := n0_; have HO_17 := n1_; have HO_289001 := n2_; have BK272 := n3_; have BK288 := n4_; have HB := n5_; have BK304 := n6_; have GW304 := n7_; have GE304 := n8_; have NB272_304 := n9_; have NB304_272 := n10_; have NB288_304 := n11_; have NB304_288 := n12_; clear n0_ n1_ n2_ n3_ n4_ n5_ n6_ n7_ n8_ n9_ n10_ n11_ n12_; clear hb hbox hg
               refine hK.out _ _ ⟨(blk_cell BK288.out 0).trans rfl, (blk_cell BK288.out 1).trans rfl, HS2_⟩ (fun hHeld => ?_)
               clear hK K
               refine norm_ (a' := ?_) ?_ ?_
               rotate_left
               ·
                show Act.put _ (some 19) _ = _
                simp only [Act.put, List.setIfInBounds_toArray, List.set_cons_zero, List.set_cons_succ, i64_w, i32_w]
                rfl
               refine one_ (i := 8) (N := some 98) #[true, true, true, true, true, true, true, true, true, false, true, false] rfl rfl (one_of HT_.out (by kernel_rfl)) (by decide) (fun K hK => ?_)
               refine Kd.R_lit_step (Kd.int .i64) _ 3 ?hg (N := 98) ?hd (xs := ([Go.bits .and .i64 (wrap64 ((rd y285 0) + 1)) 3] : List Int)) (inner := [.int .i64 (Go.bits .and .i64 (wrap64 ((rd y285 0) + 1)) 3)]) (ok := fun _ => True) (okp := fun _ => True) ?hr ?hp (fun _ hk => hk) trivial (Below.refl _ _) (Nat.le_refl _) (by simp) ?_; (case hd => rfl); (case hg => rfl); (case hr => first | (go_simp; done) | (go_simp; rfl)); (case hp => exact (Reps.one (show Kd.M (Kd.int .i64) _ _ _ (Go.bits .and .i64 (wrap64 ((rd y285 0) + 1)) 3) [.int .i64 (Go.bits .and .i64 (wrap64 ((rd y285 0) + 1)) 3)] from rfl) (Reps.none _ _)))
               intro v302 w59 ho60 hb hg_ hnew_
               have HS2_ := (hb.cell (World.block_lt_of_cell? _ _ (hHeld.2.2))).trans (hHeld.2.2)
               clear hg_ hnew_
               (first | rw [← Ny301.out] at ho60 | (simp only [Int.reduceToNat] at ho60; rw [← Ny301.out] at ho60))
               have n0_ := Aside0.mk (Kd.R_elder' (by (with_reducible repeat (first | apply Kd.R_alloc | apply Kd.R_drewN | apply Kd.R_drew)); exact HO_15.out) (Kd.R_base ho60) hb)
               have n1_ := Aside0.mk (Kd.S_elder' (by (with_reducible repeat (first | apply Kd.S_alloc | apply Kd.S_drewN | apply Kd.S_drew)); exact HO_17.out) (Kd.R_base ho60) hb)
               have n2_ := Aside0.mk (Kd.R_elder' (by (with_reducible repeat (first | apply Kd.R_alloc | apply Kd.R_drewN | apply Kd.R_drew)); exact HO_289001.out) (Kd.R_base ho60) hb)
               have n3_ := Aside0.mk (Kd.R_lower (Kd.R_new' (Kd.R_new' ho60 (Kd.R_lt (by (with_reducible repeat (first | apply Kd.R_alloc | apply Kd.R_drewN | apply Kd.R_drew)); exact HO_15.out))) (Kd.R_lt (by (with_reducible repeat (first | apply Kd.R_alloc | apply Kd.R_drewN | apply Kd.R_drew)); exact HO_289001.out))) (below_size (by repeat (first | (with_reducible first | exact HB.out | apply below_alloc | apply pw_below_drewN | apply below_drew1 | refine below_set ?_ GE272.out | refine below_set ?_ GE288.out | refine below_set ?_ GE304.out) | exact HB.out))))
               have n4_ := Aside0.mk (blk_below (g := gb272) (o := .cells #[.int .i64 a2_0, .slice A2_1 l2_1.length c2_1] 24 (0, 0)) (by (with_reducible repeat (first | refine blk_drewN ?_ _ | refine blk_drew ?_ | refine blk_alloc ?_ _)); exact BK272.out) hb)
               have n5_ := Aside0.mk (blk_below (g := gb288) (o := .cells #[.int .i64 (((a2_0) % 4294967296) / 4), .slice (some ad300) y285.length co28] 24 (0, 0)) (by (with_reducible repeat (first | refine blk_drewN ?_ _ | refine blk_drew ?_ | refine blk_alloc ?_ _)); exact BK288.out) hb)
               have n6_ := Aside0.mk (blk_below (g := gb304) (o := .cells #[.int .i64 0, .slice none 0 0] 24 (0, 0)) (by (with_reducible repeat (first | refine blk_drewN ?_ _ | refine blk_drew ?_ | refine blk_alloc ?_ _)); exact BK304.out) hb)
               (repeat replace hb := sq_un hb); have n7_ := sq_st hb HB; clear HO_15; clear HO_17; clear HO_289001; clear BK272; clear BK288; clear BK304; clear HB; have HO_15 := n0_; have HO_17 := n1_; have HO_289001 := n2_; have HO303 := n3_; have BK272 := n4_; have BK288 := n5_; have BK304 := n6_; have HB := n7_; clear n0_ n1_ n2_ n3_ n4_ n5_ n6_ n7_; clear hb ho60; obtain ⟨Ao61, co61, eo61⟩ := Kd.R_slice HO303.out
               (first | subst eo61 | (injection eo61 with f1_ f2_ f3_; have f4_ := f1_.symm; have f5_ := f3_.symm; clear f1_ f2_ f3_; subst f4_; subst f5_))
               refine hK.out _ _ ⟨(blk_cell BK288.out 0).trans rfl, (blk_cell BK288.out 1).trans rfl, HS2_⟩ (fun hHeld => ?_)
               clear hK K
               refine norm_ (a' := ?_) ?_ ?_
               rotate_left
               ·
                show Act.put _ (some 98) _ = _
                simp only [Act.put, List.setIfInBounds_toArray, List.set_cons_zero, List.set_cons_succ, i64_w, i32_w]
                rfl
               refine pure_ (i := 9) (N := some 99) (v := ?_) (a' := ?_) #[true, true, true, true, true, true, true, true, true, true, true, false] rfl rfl (any_of HT_.out (by kernel_rfl)) (fun _ _ _ h => h) (Or.inl ⟨by rfl, ?_⟩) ?_ ?_
               rotate_left
               ·
                intro w'
                go_simp
                with_reducible rfl
               rotate_left
               ·
                simp only [Act.put, List.setIfInBounds_toArray, List.set_cons_zero, List.set_cons_succ, i64_w, i32_w]
                rfl
               exact norm_ (by simp only [putAll, Act.put, List.setIfInBounds_toArray, List.set_cons_zero, List.set_cons_succ]) (hCont (.slice Ao61 y301.length co61, gb304) _ ⟨hHeld, (by (with_reducible repeat (first | apply Kd.R_alloc | apply Kd.R_drewN | apply Kd.R_drew)); exact Kd.R_mono HO303.out (fun _ hk => ⟨hk.1.2, hk.2⟩)), (by (with_reducible repeat (first | apply Kd.R_alloc | apply Kd.R_drewN | apply Kd.R_drew)); exact Kd.R_mono HO_15.out (fun _ hk => ⟨hk.2, hk.1⟩)), (by (with_reducible repeat (first | apply Kd.S_alloc | apply Kd.S_drewN | apply Kd.S_drew)); exact Kd.S_mono HO_17.out (fun _ hk => ⟨hk.2, ⟨hk.1.1, hk.1.2⟩⟩)), (by (with_reducible repeat (first | apply Kd.R_alloc | apply Kd.R_drewN | apply Kd.R_drew)); exact Kd.R_mono HO_289001.out (fun _ hk => ⟨hk.2, hk.1⟩)), (by (with_reducible repeat (first | refine blk_drewN ?_ _ | refine blk_drew ?_ | refine blk_alloc ?_ _)); exact BK272.out), (by (with_reducible repeat (first | refine blk_drewN ?_ _ | refine blk_drew ?_ | refine blk_alloc ?_ _)); exact BK288.out), (by (with_reducible repeat (first | refine blk_drewN ?_ _ | refine blk_drew ?_ | refine blk_alloc ?_ _)); exact BK304.out), GW304.out, GE304.out, NB272_304.out, NB304_272.out, NB288_304.out, NB304_288.out, (by repeat (first | (with_reducible first | exact HB.out | apply below_alloc | apply pw_below_drewN | apply below_drew1 | refine below_set ?_ GE272.out | refine below_set ?_ GE288.out | refine below_set ?_ GE304.out) | exact HB.out))⟩)
             rintro ⟨v302, gb304⟩ w62 ⟨hS_, h0_, h1_, h2_, h3_, h4_, h5_, h6_, h7_, h8_, h9_, h10_, h11_, h12_, h13_⟩
             have n0_ : Aside0 (Kd.R (Kd.int .i64) 3 w62 w.heap.size (fun k_ => some k_ ≠ (.slice Ao35 t289.length co35 : Value).ownBlock ∧ some k_ ≠ (.slice (some ad300) y285.length co28 : Value).ownBlock) v302 y301) := ⟨h0_⟩
             have n1_ : Aside0 (Kd.R (Kd.int .i64) 3 w62 w.heap.size (fun k_ => some k_ ≠ (v302 : Value).ownBlock ∧ some k_ ≠ (.slice (some ad300) y285.length co28 : Value).ownBlock) (.slice Ao35 t289.length co35) t289) := ⟨h1_⟩
             have n2_ : Aside0 (Kd.S k49 49 w62 w.heap.size (fun k_ => some k_ ≠ (v302 : Value).ownBlock ∧ some k_ ≠ (.slice Ao35 t289.length co35 : Value).ownBlock ∧ some k_ ≠ (.slice (some ad300) y285.length co28 : Value).ownBlock) v295 t294) := ⟨h2_⟩
             have n3_ : Aside0 (Kd.R (Kd.int .i64) 3 w62 w.heap.size (fun k_ => some k_ ≠ (v302 : Value).ownBlock ∧ some k_ ≠ (.slice Ao35 t289.length co35 : Value).ownBlock) (.slice (some ad300) y285.length co28) y285) := ⟨h3_⟩
             have n4_ : Aside0 (w62.heap[gb272]? = some (.cells #[.int .i64 a2_0, .slice A2_1 l2_1.length c2_1] 24 (0, 0))) := ⟨h4_⟩
             have n5_ : Aside0 (w62.heap[gb288]? = some (.cells #[.int .i64 (((a2_0) % 4294967296) / 4), .slice (some ad300) y285.length co28] 24 (0, 0))) := ⟨h5_⟩
             have n6_ : Aside0 (w62.heap[gb304]? = some (.cells #[.int .i64 0, .slice none 0 0] 24 (0, 0))) := ⟨h6_⟩
             have n7_ : Aside0 (w.heap.size ≤ gb304) := ⟨h7_⟩
             have n8_ : Aside0 (w.heap.size ≤ gb304) := ⟨h8_⟩
             have n9_ : Aside0 (gb272 ≠ gb304) := ⟨h9_⟩
             have n10_ : Aside0 (gb304 ≠ gb272) := ⟨h10_⟩
             have n11_ : Aside0 (gb288 ≠ gb304) := ⟨h11_⟩
             have n12_ : Aside0 (gb304 ≠ gb288) := ⟨h12_⟩
             have n13_ : Aside0 (Below w.heap.size w w62) := ⟨h13_⟩
             clear HO_15; clear HO_17; clear HO_289001; clear BK272; clear BK288; clear HB; clear h0_ h1_ h2_ h3_ h4_ h5_ h6_ h7_ h8_ h9_ h10_ h11_ h12_ h13_; have HO303 := n0_; have HO_15 := n1_; have HO_17 := n2_; have HO_289001 := n3_; have BK272 := n4_; have BK288 := n5_; have BK304 := n6_; have GW304 := n7_; have GE304 := n8_; have NB272_304 := n9_; have NB304_272 := n10_; have NB288_304 := n11_; have NB304_288 := n12_; have HB := n13_; clear n0_ n1_ n2_ n3_ n4_ n5_ n6_ n7_ n8_ n9_ n10_ n11_ n12_ n13_
             have hHeld : w62.cell? ⟨gb288, 0, none⟩ = some (.int .i64 (((a2_0) % 4294967296) / 4)) ∧ w62.cell? ⟨gb288, 1, none⟩ = some (.slice (some ad300) y285.length co28) ∧ w62.cell? ad300 = some (.int .i64 (rd y285 0)) := hS_
             obtain ⟨Ao63, co63, eo63⟩ := Kd.R_slice HO303.out
             (first | subst eo63 | (injection eo63 with f1_ f2_ f3_; have f4_ := f1_.symm; have f5_ := f3_.symm; clear f1_ f2_ f3_; subst f4_; subst f5_))
             refine norm_ (a' := ?_) ?_ ?_
             rotate_left
             ·
              simp only [putAll, Act.put, List.setIfInBounds_toArray, List.set_cons_zero, List.set_cons_succ]
              rfl
             refine one_ (i := 11) (N := none) #[true, true, true, true, true, true, true, true, true, true, true, true] rfl rfl (one_of HT_.out (by kernel_rfl)) (by decide) (fun K hK => ?_)
             have hs64 : w62.cell? ⟨gb304, 0, none⟩ = some (.int .i64 0) := (blk_cell BK304.out 0).trans rfl; have hfs64 := blk_frozen BK304.out 0; have hns64_0 := NB272_304.out; have hns64_1 := NB288_304.out; have hms64_0 := NB304_272.out; have hms64_1 := NB304_288.out; have hs65 : w62.cell? ⟨gb304, 1, none⟩ = some (.slice none 0 0) := (blk_cell BK304.out 1).trans rfl; have hfs65 := blk_frozen BK304.out 1; have hns65_0 := NB272_304.out; have hns65_1 := NB288_304.out; have hms65_0 := NB304_272.out; have hms65_1 := NB304_288.out
             refine skip_ (w1 := ?_) (by rfl) rfl ?_ ?_
             rotate_left
             ·
              go_simp
              rfl
             refine hK.out _ _ ⟨((cell_far (p := ⟨gb304, _, none⟩) NB288_304.out _).trans (((cell_far (p := ⟨gb304, _, none⟩) NB288_304.out _).trans (hHeld.1)))), ((cell_far (p := ⟨gb304, _, none⟩) NB288_304.out _).trans (((cell_far (p := ⟨gb304, _, none⟩) NB288_304.out _).trans (hHeld.2.1)))), ((cell_far (p := ⟨gb304, _, none⟩) (by first | exact Kd.own_blk (Kd.R_ne HO_289001.out BK304.out (by decide)) | (rw [add_block]; exact Kd.own_blk (Kd.R_ne HO_289001.out BK304.out (by decide))) | (show (Addr.add _ _).block ≠ _; rw [add_block]; exact Kd.own_blk (Kd.R_ne HO_289001.out BK304.out (by decide))) | (dsimp only; exact Kd.own_blk (Kd.R_ne HO_289001.out BK304.out (by decide)))) _).trans (((cell_far (p := ⟨gb304, _, none⟩) (by first | exact Kd.own_blk (Kd.R_ne HO_289001.out BK304.out (by decide)) | (rw [add_block]; exact Kd.own_blk (Kd.R_ne HO_289001.out BK304.out (by decide))) | (show (Addr.add _ _).block ≠ _; rw [add_block]; exact Kd.own_blk (Kd.R_ne HO_289001.out BK304.out (by decide))) | (dsimp only; exact Kd.own_blk (Kd.R_ne HO_289001.out BK304.out (by decide)))) _).trans (hHeld.2.2))))⟩ (fun hHeld => ?_)
             clear hK K
             refine done_ (done_of HT_.out (by kernel_rfl)) ?_
             try go_wp2
             have n0_ : Aside0 (Kd.R (Kd.int .i64) 3 ((w62.setCell ⟨gb304, 0, none⟩ (.int .i64 (((a2_0) % 4294967296) / 4))).setCell ⟨gb304, 1, none⟩ (.slice Ao63 y301.length co63)) w.heap.size (fun k_ => some k_ ≠ (.slice (some ad300) y285.length co28 : Value).ownBlock ∧ some k_ ≠ (.slice Ao63 y301.length co63 : Value).ownBlock) (.slice Ao35 t289.length co35) t289) := ⟨by (with_reducible repeat (first | apply Kd.R_alloc | apply Kd.R_drewN | apply Kd.R_drew)); exact Kd.R_mono (Kd.R_far (p := ⟨gb304, 1, none⟩) (Kd.R_far (p := ⟨gb304, 0, none⟩) (Kd.R_types HO_15.out BK304.out (by decide)) (fun _ hk => hk.2) (.int .i64 (((a2_0) % 4294967296) / 4))) (fun _ hk => hk.2) (.slice Ao63 y301.length co63)) (fun _ hk => ⟨hk.1.2, hk.1.1⟩)⟩
             have n1_ : Aside0 (Kd.S k49 49 ((w62.setCell ⟨gb304, 0, none⟩ (.int .i64 (((a2_0) % 4294967296) / 4))).setCell ⟨gb304, 1, none⟩ (.slice Ao63 y301.length co63)) w.heap.size (fun k_ => some k_ ≠ (.slice Ao35 t289.length co35 : Value).ownBlock ∧ some k_ ≠ (.slice (some ad300) y285.length co28 : Value).ownBlock ∧ some k_ ≠ (.slice Ao63 y301.length co63 : Value).ownBlock) v295 t294) := ⟨by (with_reducible repeat (first | apply Kd.S_alloc | apply Kd.S_drewN | apply Kd.S_drew)); exact Kd.S_mono (Kd.S_far (p := ⟨gb304, 1, none⟩) (Kd.S_far (p := ⟨gb304, 0, none⟩) (Kd.S_types HO_17.out BK304.out (by decide)) (fun _ hk => hk.2) (.int .i64 (((a2_0) % 4294967296) / 4))) (fun _ hk => hk.2) (.slice Ao63 y301.length co63)) (fun _ hk => ⟨hk.1.2.1, ⟨hk.1.2.2, hk.1.1⟩⟩)⟩
             have n2_ : Aside0 (Kd.R (Kd.int .i64) 3 ((w62.setCell ⟨gb304, 0, none⟩ (.int .i64 (((a2_0) % 4294967296) / 4))).setCell ⟨gb304, 1, none⟩ (.slice Ao63 y301.length co63)) w.heap.size (fun k_ => some k_ ≠ (.slice Ao35 t289.length co35 : Value).ownBlock ∧ some k_ ≠ (.slice Ao63 y301.length co63 : Value).ownBlock) (.slice (some ad300) y285.length co28) y285) := ⟨by (with_reducible repeat (first | apply Kd.R_alloc | apply Kd.R_drewN | apply Kd.R_drew)); exact Kd.R_mono (Kd.R_far (p := ⟨gb304, 1, none⟩) (Kd.R_far (p := ⟨gb304, 0, none⟩) (Kd.R_types HO_289001.out BK304.out (by decide)) (fun _ hk => hk.2) (.int .i64 (((a2_0) % 4294967296) / 4))) (fun _ hk => hk.2) (.slice Ao63 y301.length co63)) (fun _ hk => ⟨hk.1.2, hk.1.1⟩)⟩
             have n3_ : Aside0 (Kd.R (Kd.int .i64) 3 ((w62.setCell ⟨gb304, 0, none⟩ (.int .i64 (((a2_0) % 4294967296) / 4))).setCell ⟨gb304, 1, none⟩ (.slice Ao63 y301.length co63)) w.heap.size (fun k_ => some k_ ≠ (.slice Ao35 t289.length co35 : Value).ownBlock ∧ some k_ ≠ (.slice (some ad300) y285.length co28 : Value).ownBlock) (.slice Ao63 y301.length co63) y301) := ⟨by (with_reducible repeat (first | apply Kd.R_alloc | apply Kd.R_drewN | apply Kd.R_drew)); exact Kd.R_mono (Kd.R_far (p := ⟨gb304, 1, none⟩) (Kd.R_far (p := ⟨gb304, 0, none⟩) (Kd.R_types HO303.out BK304.out (by decide)) (fun _ hk => hk.2) (.int .i64 (((a2_0) % 4294967296) / 4))) (fun _ hk => hk.2) (.slice Ao63 y301.length co63)) (fun _ hk => ⟨hk.1.1, hk.1.2⟩)⟩
             have n4_ : Aside0 (((w62.setCell ⟨gb304, 0, none⟩ (.int .i64 (((a2_0) % 4294967296) / 4))).setCell ⟨gb304, 1, none⟩ (.slice Ao63 y301.length co63)).heap[gb272]? = some (.cells #[.int .i64 a2_0, .slice A2_1 l2_1.length c2_1] 24 (0, 0))) := ⟨by (with_reducible repeat (first | refine blk_drewN ?_ _ | refine blk_drew ?_ | refine blk_alloc ?_ _)); refine blk_far ?_ NB272_304.out _; (with_reducible repeat (first | refine blk_drewN ?_ _ | refine blk_drew ?_ | refine blk_alloc ?_ _)); refine blk_far ?_ NB272_304.out _; (with_reducible repeat (first | refine blk_drewN ?_ _ | refine blk_drew ?_ | refine blk_alloc ?_ _)); exact BK272.out⟩
             have n5_ : Aside0 (((w62.setCell ⟨gb304, 0, none⟩ (.int .i64 (((a2_0) % 4294967296) / 4))).setCell ⟨gb304, 1, none⟩ (.slice Ao63 y301.length co63)).heap[gb288]? = some (.cells #[.int .i64 (((a2_0) % 4294967296) / 4), .slice (some ad300) y285.length co28] 24 (0, 0))) := ⟨by (with_reducible repeat (first | refine blk_drewN ?_ _ | refine blk_drew ?_ | refine blk_alloc ?_ _)); refine blk_far ?_ NB288_304.out _; (with_reducible repeat (first | refine blk_drewN ?_ _ | refine blk_drew ?_ | refine blk_alloc ?_ _)); refine blk_far ?_ NB288_304.out _; (with_reducible repeat (first | refine blk_drewN ?_ _ | refine blk_drew ?_ | refine blk_alloc ?_ _)); exact BK288.out⟩
             have n6_ : Aside0 (((w62.setCell ⟨gb304, 0, none⟩ (.int .i64 (((a2_0) % 4294967296) / 4))).setCell ⟨gb304, 1, none⟩ (.slice Ao63 y301.length co63)).heap[gb304]? = some (.cells #[.int .i64 (((a2_0) % 4294967296) / 4), .slice Ao63 y301.length co63] 24 (0, 0))) := ⟨by (with_reducible repeat (first | refine blk_drewN ?_ _ | refine blk_drew ?_ | refine blk_alloc ?_ _)); refine blk_put (cs := #[.int .i64 (((a2_0) % 4294967296) / 4), .slice none 0 0]) ?_ 1 _ rfl; (with_reducible repeat (first | refine blk_drewN ?_ _ | refine blk_drew ?_ | refine blk_alloc ?_ _)); refine blk_put (cs := #[.int .i64 0, .slice none 0 0]) ?_ 0 _ rfl; (with_reducible repeat (first | refine blk_drewN ?_ _ | refine blk_drew ?_ | refine blk_alloc ?_ _)); exact BK304.out⟩
             have n7_ : Aside0 (Below w.heap.size w ((w62.setCell ⟨gb304, 0, none⟩ (.int .i64 (((a2_0) % 4294967296) / 4))).setCell ⟨gb304, 1, none⟩ (.slice Ao63 y301.length co63))) := ⟨by repeat (first | (with_reducible first | exact HB.out | apply below_alloc | apply pw_below_drewN | apply below_drew1 | refine below_set ?_ GE272.out | refine below_set ?_ GE288.out | refine below_set ?_ GE304.out) | exact HB.out)⟩
             (try clear HO_15)
             (try clear HO_17)
             (try clear HO_289001)
             (try clear HO303)
             (try clear BK272)
             (try clear BK288)
             (try clear BK304)
             (try clear HB)
             generalize ((w62.setCell ⟨gb304, 0, none⟩ (.int .i64 (((a2_0) % 4294967296) / 4))).setCell ⟨gb304, 1, none⟩ (.slice Ao63 y301.length co63)) = w66 at n0_ n1_ n2_ n3_ n4_ n5_ n6_ n7_ ⊢
             have HO_15 := n0_; have HO_17 := n1_; have HO_289001 := n2_; have HO303 := n3_; have BK272 := n4_; have BK288 := n5_; have BK304 := n6_; have HB := n7_; clear n0_ n1_ n2_ n3_ n4_ n5_ n6_ n7_; have n0_ := Aside0.mk (Kd.R_drew HO_15.out); have n1_ := Aside0.mk (Kd.S_drew HO_17.out); have n2_ := Aside0.mk (Kd.R_drew HO_289001.out); have n3_ := Aside0.mk (Kd.R_drew HO303.out); have n4_ := Aside0.mk (blk_drew BK272.out); have n5_ := Aside0.mk (blk_drew BK288.out); have n6_ := Aside0.mk (blk_drew BK304.out); have n7_ := Aside0.mk (below_drew1 HB.out); clear HO_15; clear HO_17; clear HO_289001; clear HO303; clear BK272; clear BK288; clear BK304; clear HB; have HO_15 := n0_; have HO_17 := n1_; have HO_289001 := n2_; have HO303 := n3_; have BK272 := n4_; have BK288 := n5_; have BK304 := n6_; have HB := n7_; clear n0_ n1_ n2_ n3_ n4_ n5_ n6_ n7_
             have p305 : 0 ≤ (0 : Int) := (by omega)
             have q305 : 0 < (y285.length : Int) := of_decide_eq_true (by first | (with_reducible assumption) | assumption)
             obtain ⟨ad305, e305, hx305_0⟩ := Kd.at_int (Kd.R_reads' HO_289001.out).2.2 0 p305 q305
             obtain rfl : ad300 = ad305 := (by injection e305)
             have qi305 : (0 < y285.length) = True := eq_true (by omega)
             (try rw [show ((0 : Int)).toNat = 0 from rfl] at hx305_0)
             (try rw [Addr.add_zero'] at hx305_0)
             replace p305 := eq_true p305
             replace q305 := eq_true q305
             have p306 : 0 ≤ (0 : Int) := (by omega)
             have q306 : 0 < (y285.length : Int) := of_decide_eq_true (by first | (with_reducible assumption) | assumption)
             obtain ⟨ad306, e306, hx306_0⟩ := Kd.at_int (Kd.R_reads' HO_289001.out).2.2 0 p306 q306
             obtain rfl : ad300 = ad306 := (by injection e306)
             have qi306 : (0 < y285.length) = True := eq_true (by omega)
             (try rw [show ((0 : Int)).toNat = 0 from rfl] at hx306_0)
             (try rw [Addr.add_zero'] at hx306_0)
             replace p306 := eq_true p306
             replace q306 := eq_true q306
             refine start_ (n := 14) (S := fun w' => w'.cell? ⟨gb288, 0, none⟩ = some (.int .i64 (((a2_0) % 4294967296) / 4)) ∧ w'.cell? ⟨gb288, 1, none⟩ = some (.slice (some ad300) y285.length co28) ∧ w'.cell? ad300 = some (.int .i64 (rd y285 0)) ∧ w'.cell? ad300 = some (.int .i64 (rd y285 0))) (ds := []) #[false, false, false, false, false, false, false, false, false, false, false, false, false, false] (by kernel_rfl) rfl rfl ⟨(blk_cell BK288.out 0).trans rfl, (blk_cell BK288.out 1).trans rfl, hx305_0, hx306_0⟩ (fun hHeld => ?_); refine with_tabW ossuarylaw12_AuditMoved.tab17 ossuarylaw12_AuditMoved.bits17 (fun HT_ HW_ => ?_)
             generalize w66.drew = w67 at HO_15 HO_17 HO_289001 HO303 BK272 BK288 BK304 HB hx305_0 hx306_0 hHeld ⊢
             refine pure_ (i := 0) (N := some 100) (v := ?_) (a' := ?_) #[true, false, false, false, false, false, false, false, false, false, false, false, false, false] rfl rfl (any_of HT_.out (by kernel_rfl)) (fun _ _ _ h => h) (Or.inl ⟨by rfl, ?_⟩) ?_ ?_
             rotate_left
             ·
              intro w'
              go_simp
              with_reducible rfl
             rotate_left
             ·
              simp only [Act.put, List.setIfInBounds_toArray, List.set_cons_zero, List.set_cons_succ, i64_w, i32_w]
              rfl
             refine pure_ (i := 2) (N := some 102) (v := ?_) (a' := ?_) #[true, false, true, false, false, false, false, false, false, false, false, false, false, false] rfl rfl (any_of HT_.out (by kernel_rfl)) (fun _ _ _ h => h) (Or.inl ⟨by rfl, ?_⟩) ?_ ?_
             rotate_left
             ·
              intro w'
              go_simp
              with_reducible rfl
             rotate_left
             ·
              simp only [Act.put, List.setIfInBounds_toArray, List.set_cons_zero, List.set_cons_succ, i64_w, i32_w]
              rfl
             refine pure_ (i := 6) (N := some 106) (v := ?_) (a' := ?_) #[true, false, true, false, false, false, true, false, false, false, false, false, false, false] rfl rfl (any_of HT_.out (by kernel_rfl)) (fun _ _ _ h => h) (Or.inl ⟨by rfl, ?_⟩) ?_ ?_
             rotate_left
             ·
              intro w'
              go_simp
              with_reducible rfl
             rotate_left
             ·
              simp only [Act.put, List.setIfInBounds_toArray, List.set_cons_zero, List.set_cons_succ, i64_w, i32_w]
              rfl
             refine take_ (i := 1) (N := some 101) (v := ?_) (a' := ?_) #[true, true, true, false, false, false, true, false, false, false, false, false, false, false] rfl rfl (take_ofW HT_.out HW_.out (by kernel_rfl)) (fun _ _ _ h => h) (Or.inl ⟨by rfl, ?_⟩) hHeld ?_ ?_
             rotate_left
             ·
              rintro w' ⟨s0, s1, s2, s3⟩
              go_simp
              with_reducible rfl
             rotate_left
             ·
              simp only [Act.put, List.setIfInBounds_toArray, List.set_cons_zero, List.set_cons_succ, i64_w, i32_w]
              rfl
             refine take_ (i := 3) (N := some 103) (v := ?_) (a' := ?_) #[true, true, true, true, false, false, true, false, false, false, false, false, false, false] rfl rfl (take_ofW HT_.out HW_.out (by kernel_rfl)) (fun _ _ _ h => h) (Or.inl ⟨by rfl, ?_⟩) hHeld ?_ ?_
             rotate_left
             ·
              rintro w' ⟨s0, s1, s2, s3⟩
              go_simp
              with_reducible rfl
             rotate_left
             ·
              simp only [Act.put, List.setIfInBounds_toArray, List.set_cons_zero, List.set_cons_succ, i64_w, i32_w]
              rfl
             refine pure_ (i := 4) (N := some 104) (v := ?_) (a' := ?_) #[true, true, true, true, true, false, true, false, false, false, false, false, false, false] rfl rfl (any_of HT_.out (by kernel_rfl)) (fun _ _ _ h => h) (Or.inl ⟨by rfl, ?_⟩) ?_ ?_
             rotate_left
             ·
              intro w'
              go_simp
              with_reducible rfl
             rotate_left
             ·
              simp only [Act.put, List.setIfInBounds_toArray, List.set_cons_zero, List.set_cons_succ, i64_w, i32_w]
              rfl
             refine take_ (i := 5) (N := some 105) (v := ?_) (a' := ?_) #[true, true, true, true, true, true, true, false, false, false, false, false, false, false] rfl rfl (take_ofW HT_.out HW_.out (by kernel_rfl)) (fun _ _ _ h => h) (Or.inl ⟨by rfl, ?_⟩) hHeld ?_ ?_
             rotate_left
             ·
              rintro w' ⟨s0, s1, s2, s3⟩
              go_simp
              with_reducible rfl
             rotate_left
             ·
              simp only [Act.put, List.setIfInBounds_toArray, List.set_cons_zero, List.set_cons_succ, i64_w, i32_w]
              rfl
             refine take_ (i := 7) (N := some 107) (v := ?_) (a' := ?_) #[true, true, true, true, true, true, true, true, false, false, false, false, false, false] rfl rfl (take_ofW HT_.out HW_.out (by kernel_rfl)) (fun _ _ _ h => h) (Or.inl ⟨by rfl, ?_⟩) hHeld ?_ ?_
             rotate_left
             ·
              rintro w' ⟨s0, s1, s2, s3⟩
              go_simp
              with_reducible rfl
             rotate_left
             ·
              simp only [Act.put, List.setIfInBounds_toArray, List.set_cons_zero, List.set_cons_succ, i64_w, i32_w]
              rfl
             refine pure_ (i := 8) (N := some 108) (v := ?_) (a' := ?_) #[true, true, true, true, true, true, true, true, true, false, false, false, false, false] rfl rfl (any_of HT_.out (by kernel_rfl)) (fun _ _ _ h => h) (Or.inl ⟨by rfl, ?_⟩) ?_ ?_
             rotate_left
             ·
              intro w'
              go_simp
              with_reducible rfl
             rotate_left
             ·
              simp only [Act.put, List.setIfInBounds_toArray, List.set_cons_zero, List.set_cons_succ, i64_w, i32_w]
              rfl
             refine take_ (i := 9) (N := some 109) (v := ?_) (a' := ?_) #[true, true, true, true, true, true, true, true, true, true, false, false, false, false] rfl rfl (take_ofW HT_.out HW_.out (by kernel_rfl)) (fun _ _ _ h => h) (Or.inl ⟨by rfl, ?_⟩) hHeld ?_ ?_
             rotate_left
             ·
              rintro w' ⟨s0, s1, s2, s3⟩
              go_simp
              with_reducible rfl
             rotate_left
             ·
              simp only [Act.put, List.setIfInBounds_toArray, List.set_cons_zero, List.set_cons_succ, i64_w, i32_w]
              rfl
             refine join_ (σ := Value × Nat) 1 #[true, true, true, true, true, true, true, true, true, true, true, true, true, false] (fun s_ => [(110, s_.1), (20, .pointer (some ⟨s_.2, 0, none⟩)), (111, .agg #[.int .i64 (((a2_0) % 4294967296) / 4), s_.1])]) (fun s_ w' => (w'.cell? ⟨gb288, 0, none⟩ = some (.int .i64 (((a2_0) % 4294967296) / 4)) ∧ w'.cell? ⟨gb288, 1, none⟩ = some (.slice (some ad300) y285.length co28) ∧ w'.cell? ad300 = some (.int .i64 (rd y285 0)) ∧ w'.cell? ad300 = some (.int .i64 (rd y285 0))) ∧ (Kd.R (Kd.int .i64) 3 w' w.heap.size (fun k_ => some k_ ≠ (s_.1 : Value).ownBlock ∧ some k_ ≠ (.slice Ao35 t289.length co35 : Value).ownBlock ∧ some k_ ≠ (.slice (some ad300) y285.length co28 : Value).ownBlock) (.slice Ao63 y301.length co63) y301) ∧ (Kd.R (Kd.int .i64) 3 w' w.heap.size (fun k_ => some k_ ≠ (.slice Ao63 y301.length co63 : Value).ownBlock ∧ some k_ ≠ (.slice Ao35 t289.length co35 : Value).ownBlock ∧ some k_ ≠ (.slice (some ad300) y285.length co28 : Value).ownBlock) s_.1 y307) ∧ (Kd.R (Kd.int .i64) 3 w' w.heap.size (fun k_ => some k_ ≠ (.slice Ao63 y301.length co63 : Value).ownBlock ∧ some k_ ≠ (s_.1 : Value).ownBlock ∧ some k_ ≠ (.slice (some ad300) y285.length co28 : Value).ownBlock) (.slice Ao35 t289.length co35) t289) ∧ (Kd.S k49 49 w' w.heap.size (fun k_ => some k_ ≠ (.slice Ao63 y301.length co63 : Value).ownBlock ∧ some k_ ≠ (s_.1 : Value).ownBlock ∧ some k_ ≠ (.slice Ao35 t289.length co35 : Value).ownBlock ∧ some k_ ≠ (.slice (some ad300) y285.length co28 : Value).ownBlock) v295 t294) ∧ (Kd.R (Kd.int .i64) 3 w' w.heap.size (fun k_ => some k_ ≠ (.slice Ao63 y301.length co63 : Value).ownBlock ∧ some k_ ≠ (s_.1 : Value).ownBlock ∧ some k_ ≠ (.slice Ao35 t289.length co35 : Value).ownBlock) (.slice (some ad300) y285.length co28) y285) ∧ (w'.heap[gb272]? = some (.cells #[.int .i64 a2_0, .slice A2_1 l2_1.length c2_1] 24 (0, 0))) ∧ (w'.heap[gb288]? = some (.cells #[.int .i64 (((a2_0) % 4294967296) / 4), .slice (some ad300) y285.length co28] 24 (0, 0))) ∧ (w'.heap[gb304]? = some (.cells #[.int .i64 (((a2_0) % 4294967296) / 4), .slice Ao63 y301.length co63] 24 (0, 0))) ∧ (w'.heap[s_.2]? = some (.cells #[.int .i64 0, .slice none 0 0] 24 (0, 0))) ∧ (w.heap.size ≤ s_.2) ∧ (w.heap.size ≤ s_.2) ∧ (gb272 ≠ s_.2) ∧ (s_.2 ≠ gb272) ∧ (gb288 ≠ s_.2) ∧ (s_.2 ≠ gb288) ∧ (gb304 ≠ s_.2) ∧ (s_.2 ≠ gb304) ∧ (Below w.heap.size w w')) ?_ ?_
             rotate_left
             ·
              intro hCont
              refine two_ (i := 10) (j := 12) (Ni := some 110) (Nj := some 20) #[true, true, true, true, true, true, true, true, true, true, true, false, false, false] #[true, true, true, true, true, true, true, true, true, true, false, false, true, false] rfl rfl rfl rfl (two_of HT_.out (by kernel_rfl)) (by decide) (by decide) (fun K hK => ?_) (fun K hK => ?_)
              ·
               skip
               refine Kd.R_lit_step (Kd.int .i64) _ 3 ?hg (N := 110) ?hd (xs := ([rd y285 0, rd y285 0] : List Int)) (inner := [.int .i64 (rd y285 0), .int .i64 (rd y285 0)]) (ok := fun _ => True) (okp := fun _ => True) ?hr ?hp (fun _ hk => hk) trivial (Below.refl _ _) (Nat.le_refl _) (by simp) ?_; (case hd => rfl); (case hg => rfl); (case hr => first | (go_simp; done) | (go_simp; rfl)); (case hp => exact (Reps.one (show Kd.M (Kd.int .i64) _ _ _ (rd y285 0) [.int .i64 (rd y285 0)] from rfl) (Reps.one (show Kd.M (Kd.int .i64) _ _ _ (rd y285 0) [.int .i64 (rd y285 0)] from rfl) (Reps.none _ _))))
               intro v308 w68 ho69 hb hg_ hnew_
               have HS2_ := (hb.cell (World.block_lt_of_cell? _ _ (hHeld.2.2.1))).trans (hHeld.2.2.1)
               have HS3_ := (hb.cell (World.block_lt_of_cell? _ _ (hHeld.2.2.2))).trans (hHeld.2.2.2)
               clear hg_ hnew_
               (first | rw [← Ny307.out] at ho69 | (simp only [Int.reduceToNat] at ho69; rw [← Ny307.out] at ho69))
               have n0_ := Aside0.mk (Kd.R_elder' (by (with_reducible repeat (first | apply Kd.R_alloc | apply Kd.R_drewN | apply Kd.R_drew)); exact HO_15.out) (Kd.R_base ho69) hb)
               have n1_ := Aside0.mk (Kd.S_elder' (by (with_reducible repeat (first | apply Kd.S_alloc | apply Kd.S_drewN | apply Kd.S_drew)); exact HO_17.out) (Kd.R_base ho69) hb)
               have n2_ := Aside0.mk (Kd.R_elder' (by (with_reducible repeat (first | apply Kd.R_alloc | apply Kd.R_drewN | apply Kd.R_drew)); exact HO_289001.out) (Kd.R_base ho69) hb)
               have n3_ := Aside0.mk (Kd.R_elder' (by (with_reducible repeat (first | apply Kd.R_alloc | apply Kd.R_drewN | apply Kd.R_drew)); exact HO303.out) (Kd.R_base ho69) hb)
               have n4_ := Aside0.mk (Kd.R_lower (Kd.R_new' (Kd.R_new' (Kd.R_new' ho69 (Kd.R_lt (by (with_reducible repeat (first | apply Kd.R_alloc | apply Kd.R_drewN | apply Kd.R_drew)); exact HO_15.out))) (Kd.R_lt (by (with_reducible repeat (first | apply Kd.R_alloc | apply Kd.R_drewN | apply Kd.R_drew)); exact HO_289001.out))) (Kd.R_lt (by (with_reducible repeat (first | apply Kd.R_alloc | apply Kd.R_drewN | apply Kd.R_drew)); exact HO303.out))) (below_size (by repeat (first | (with_reducible first | exact HB.out | apply below_alloc | apply pw_below_drewN | apply below_drew1 | refine below_set ?_ GE272.out | refine below_set ?_ GE288.out | refine below_set ?_ GE304.out) | exact HB.out))))
               have n5_ := Aside0.mk (blk_below (g := gb272) (o := .cells #[.int .i64 a2_0, .slice A2_1 l2_1.length c2_1] 24 (0, 0)) (by (with_reducible repeat (first | refine blk_drewN ?_ _ | refine blk_drew ?_ | refine blk_alloc ?_ _)); exact BK272.out) hb)
               have n6_ := Aside0.mk (blk_below (g := gb288) (o := .cells #[.int .i64 (((a2_0) % 4294967296) / 4), .slice (some ad300) y285.length co28] 24 (0, 0)) (by (with_reducible repeat (first | refine blk_drewN ?_ _ | refine blk_drew ?_ | refine blk_alloc ?_ _)); exact BK288.out) hb)
               have n7_ := Aside0.mk (blk_below (g := gb304) (o := .cells #[.int .i64 (((a2_0) % 4294967296) / 4), .slice Ao63 y301.length co63] 24 (0, 0)) (by (with_reducible repeat (first | refine blk_drewN ?_ _ | refine blk_drew ?_ | refine blk_alloc ?_ _)); exact BK304.out) hb)
               (repeat replace hb := sq_un hb); have n8_ := sq_st hb HB; clear HO_15; clear HO_17; clear HO_289001; clear HO303; clear BK272; clear BK288; clear BK304; clear HB; have HO_15 := n0_; have HO_17 := n1_; have HO_289001 := n2_; have HO303 := n3_; have HO309 := n4_; have BK272 := n5_; have BK288 := n6_; have BK304 := n7_; have HB := n8_; clear n0_ n1_ n2_ n3_ n4_ n5_ n6_ n7_ n8_; clear hb ho69; obtain ⟨Ao70, co70, eo70⟩ := Kd.R_slice HO309.out
               (first | subst eo70 | (injection eo70 with f1_ f2_ f3_; have f4_ := f1_.symm; have f5_ := f3_.symm; clear f1_ f2_ f3_; subst f4_; subst f5_))
               refine hK.out _ _ ⟨(blk_cell BK288.out 0).trans rfl, (blk_cell BK288.out 1).trans rfl, HS2_, HS3_⟩ (fun hHeld => ?_)
               clear hK K
               refine norm_ (a' := ?_) ?_ ?_
               rotate_left
               ·
                show Act.put _ (some 110) _ = _
                simp only [Act.put, List.setIfInBounds_toArray, List.set_cons_zero, List.set_cons_succ, i64_w, i32_w]
                rfl
               refine pure_ (i := 11) (N := some 111) (v := ?_) (a' := ?_) #[true, true, true, true, true, true, true, true, true, true, true, true, false, false] rfl rfl (any_of HT_.out (by kernel_rfl)) (fun _ _ _ h => h) (Or.inl ⟨by rfl, ?_⟩) ?_ ?_
               rotate_left
               ·
                intro w'
                go_simp
                with_reducible rfl
               rotate_left
               ·
                simp only [Act.put, List.setIfInBounds_toArray, List.set_cons_zero, List.set_cons_succ, i64_w, i32_w]
                rfl
               refine one_ (i := 12) (N := some 20) #[true, true, true, true, true, true, true, true, true, true, true, true, true, false] rfl rfl (one_of HT_.out (by kernel_rfl)) (by decide) (fun K hK => ?_)
               refine box_step ?hg (N := 20) ?hd (cs := #[.int .i64 0, .slice none 0 0]) (t := 24) ?hr ?_; (case hd => rfl); (case hg => rfl); (case hr => first | (go_simp; done) | (go_simp; rfl))
               intro gb310 hg w71 hbox hb
               have HS2_ := (hb.cell (World.block_lt_of_cell? _ _ (hHeld.2.2.1))).trans (hHeld.2.2.1)
               have HS3_ := (hb.cell (World.block_lt_of_cell? _ _ (hHeld.2.2.2))).trans (hHeld.2.2.2)
               have n0_ := Aside0.mk (Kd.R_below (by (with_reducible repeat (first | apply Kd.R_alloc | apply Kd.R_drewN | apply Kd.R_drew)); exact HO_15.out) hb)
               have n1_ := Aside0.mk (Kd.S_below (by (with_reducible repeat (first | apply Kd.S_alloc | apply Kd.S_drewN | apply Kd.S_drew)); exact HO_17.out) hb)
               have n2_ := Aside0.mk (Kd.R_below (by (with_reducible repeat (first | apply Kd.R_alloc | apply Kd.R_drewN | apply Kd.R_drew)); exact HO_289001.out) hb)
               have n3_ := Aside0.mk (Kd.R_below (by (with_reducible repeat (first | apply Kd.R_alloc | apply Kd.R_drewN | apply Kd.R_drew)); exact HO303.out) hb)
               have n4_ := Aside0.mk (Kd.R_below (by (with_reducible repeat (first | apply Kd.R_alloc | apply Kd.R_drewN | apply Kd.R_drew)); exact HO309.out) hb)
               have n5_ := Aside0.mk (blk_below (g := gb272) (o := .cells #[.int .i64 a2_0, .slice A2_1 l2_1.length c2_1] 24 (0, 0)) (by (with_reducible repeat (first | refine blk_drewN ?_ _ | refine blk_drew ?_ | refine blk_alloc ?_ _)); exact BK272.out) hb)
               have n6_ := Aside0.mk (blk_below (g := gb288) (o := .cells #[.int .i64 (((a2_0) % 4294967296) / 4), .slice (some ad300) y285.length co28] 24 (0, 0)) (by (with_reducible repeat (first | refine blk_drewN ?_ _ | refine blk_drew ?_ | refine blk_alloc ?_ _)); exact BK288.out) hb)
               have n7_ := Aside0.mk (blk_below (g := gb304) (o := .cells #[.int .i64 (((a2_0) % 4294967296) / 4), .slice Ao63 y301.length co63] 24 (0, 0)) (by (with_reducible repeat (first | refine blk_drewN ?_ _ | refine blk_drew ?_ | refine blk_alloc ?_ _)); exact BK304.out) hb)
               (repeat replace hb := sq_un hb); have n8_ := sq_st hb HB; have n9_ := Aside0.mk (hbox)
               have n10_ := Aside0.mk ((by rw [hg]; exact (below_size (by repeat (first | (with_reducible first | exact HB.out | apply below_alloc | apply pw_below_drewN | apply below_drew1 | refine below_set ?_ GE272.out | refine below_set ?_ GE288.out | refine below_set ?_ GE304.out) | exact HB.out))) : w.heap.size ≤ gb310))
               have n11_ := Aside0.mk ((by rw [hg]; exact (below_size (by repeat (first | (with_reducible first | exact HB.out | apply below_alloc | apply pw_below_drewN | apply below_drew1 | refine below_set ?_ GE272.out | refine below_set ?_ GE288.out | refine below_set ?_ GE304.out) | exact HB.out))) : w.heap.size ≤ gb310))
               have n12_ := Aside0.mk ((by rw [hg]; exact Nat.ne_of_lt (blk_lt (g := gb272) (o := .cells #[.int .i64 a2_0, .slice A2_1 l2_1.length c2_1] 24 (0, 0)) (by (with_reducible repeat (first | refine blk_drewN ?_ _ | refine blk_drew ?_ | refine blk_alloc ?_ _)); exact BK272.out)) : gb272 ≠ gb310))
               have n13_ := Aside0.mk ((by rw [hg]; exact Nat.ne_of_gt (blk_lt (g := gb272) (o := .cells #[.int .i64 a2_0, .slice A2_1 l2_1.length c2_1] 24 (0, 0)) (by (with_reducible repeat (first | refine blk_drewN ?_ _ | refine blk_drew ?_ | refine blk_alloc ?_ _)); exact BK272.out)) : gb310 ≠ gb272))
               have n14_ := Aside0.mk ((by rw [hg]; exact Nat.ne_of_lt (blk_lt (g := gb288) (o := .cells #[.int .i64 (((a2_0) % 4294967296) / 4), .slice (some ad300) y285.length co28] 24 (0, 0)) (by (with_reducible repeat (first | refine blk_drewN ?_ _ | refine blk_drew ?_ | refine blk_alloc ?_ _)); exact BK288.out)) : gb288 ≠ gb310))
               have n15_ := Aside0.mk ((by rw [hg]; exact Nat.ne_of_gt (blk_lt (g := gb288) (o := .cells #[.int .i64 (((a2_0) % 4294967296) / 4), .slice (some ad300) y285.length co28] 24 (0, 0)) (by (with_reducible repeat (first | refine blk_drewN ?_ _ | refine blk_drew ?_ | refine blk_alloc ?_ _)); exact BK288.out)) : gb310 ≠ gb288))
               have n16_ := Aside0.mk ((by rw [hg]; exact Nat.ne_of_lt (blk_lt (g := gb304) (o := .cells #[.int .i64 (((a2_0) % 4294967296) / 4), .slice Ao63 y301.length co63] 24 (0, 0)) (by (with_reducible repeat (first | refine blk_drewN ?_ _ | refine blk_drew ?_ | refine blk_alloc ?_ _)); exact BK304.out)) : gb304 ≠ gb310))
               have n17_ := Aside0.mk ((by rw [hg]; exact Nat.ne_of_gt (blk_lt (g := gb304) (o := .cells #[.int .i64 (((a2_0) % 4294967296) / 4), .slice Ao63 y301.length co63] 24 (0, 0)) (by (with_reducible repeat (first | refine blk_drewN ?_ _ | refine blk_drew ?_ | refine blk_alloc ?_ _)); exact BK304.out)) : gb310 ≠ gb304))
               clear HO_15; clear HO_17; clear HO_289001; clear HO303; clear HO309; clear BK272; clear BK288; clear BK304; clear HB; have HO_15 := n0_; have HO_17 := n1_; have HO_289001 := n2_; have HO303 := n3_; have HO309 := n4_; have BK272 := n5_; have BK288 := n6_; have BK304 := n7_; have HB := n8_; have BK310 := n9_; have GW310 := n10_; have GE310 := n11_; have NB272_310 := n12_; have NB310_272 := n13_; have NB288_310 := n14_; have NB310_288 := n15_; have NB304_310 := n16_; have NB310_304 := n17_; clear n0_ n1_ n2_ n3_ n4_ n5_ n6_ n7_ n8_ n9_ n10_ n11_ n12_ n13_ n14_ n15_ n16_ n17_; clear hb hbox hg
               refine hK.out _ _ ⟨(blk_cell BK288.out 0).trans rfl, (blk_cell BK288.out 1).trans rfl, HS2_, HS3_⟩ (fun hHeld => ?_)
               clear hK K
               refine norm_ (a' := ?_) ?_ ?_
               rotate_left
               ·
                show Act.put _ (some 20) _ = _
                simp only [Act.put, List.setIfInBounds_toArray, List.set_cons_zero, List.set_cons_succ, i64_w, i32_w]
                rfl
               exact norm_ (by simp only [putAll, Act.put, List.setIfInBounds_toArray, List.set_cons_zero, List.set_cons_succ]) (hCont (.slice Ao70 y307.length co70, gb310) _ ⟨hHeld, (by (with_reducible repeat (first | apply Kd.R_alloc | apply Kd.R_drewN | apply Kd.R_drew)); exact Kd.R_mono HO303.out (fun _ hk => ⟨hk.2, ⟨hk.1.1, hk.1.2⟩⟩)), (by (with_reducible repeat (first | apply Kd.R_alloc | apply Kd.R_drewN | apply Kd.R_drew)); exact Kd.R_mono HO309.out (fun _ hk => ⟨hk.2, ⟨hk.1.1.2, hk.1.2⟩⟩)), (by (with_reducible repeat (first | apply Kd.R_alloc | apply Kd.R_drewN | apply Kd.R_drew)); exact Kd.R_mono HO_15.out (fun _ hk => ⟨hk.1.2, ⟨hk.2, hk.1.1⟩⟩)), (by (with_reducible repeat (first | apply Kd.S_alloc | apply Kd.S_drewN | apply Kd.S_drew)); exact Kd.S_mono HO_17.out (fun _ hk => ⟨hk.1.2.2, ⟨hk.2, ⟨hk.1.1, hk.1.2.1⟩⟩⟩)), (by (with_reducible repeat (first | apply Kd.R_alloc | apply Kd.R_drewN | apply Kd.R_drew)); exact Kd.R_mono HO_289001.out (fun _ hk => ⟨hk.1.2, ⟨hk.2, hk.1.1⟩⟩)), (by (with_reducible repeat (first | refine blk_drewN ?_ _ | refine blk_drew ?_ | refine blk_alloc ?_ _)); exact BK272.out), (by (with_reducible repeat (first | refine blk_drewN ?_ _ | refine blk_drew ?_ | refine blk_alloc ?_ _)); exact BK288.out), (by (with_reducible repeat (first | refine blk_drewN ?_ _ | refine blk_drew ?_ | refine blk_alloc ?_ _)); exact BK304.out), (by (with_reducible repeat (first | refine blk_drewN ?_ _ | refine blk_drew ?_ | refine blk_alloc ?_ _)); exact BK310.out), GW310.out, GE310.out, NB272_310.out, NB310_272.out, NB288_310.out, NB310_288.out, NB304_310.out, NB310_304.out, (by repeat (first | (with_reducible first | exact HB.out | apply below_alloc | apply pw_below_drewN | apply below_drew1 | refine below_set ?_ GE272.out | refine below_set ?_ GE288.out | refine below_set ?_ GE304.out | refine below_set ?_ GE310.out) | exact HB.out))⟩)
              ·
               skip
               refine box_step ?hg (N := 20) ?hd (cs := #[.int .i64 0, .slice none 0 0]) (t := 24) ?hr ?_; (case hd => rfl); (case hg => rfl); (case hr => first | (go_simp; done) | (go_simp; rfl))
               intro gb310 hg w68 hbox hb
               have HS2_ := (hb.cell (World.block_lt_of_cell? _ _ (hHeld.2.2.1))).trans (hHeld.2.2.1)
               have HS3_ := (hb.cell (World.block_lt_of_cell? _ _ (hHeld.2.2.2))).trans (hHeld.2.2.2)
               have n0_ := Aside0.mk (Kd.R_below (by (with_reducible repeat (first | apply Kd.R_alloc | apply Kd.R_drewN | apply Kd.R_drew)); exact HO_15.out) hb)
               have n1_ := Aside0.mk (Kd.S_below (by (with_reducible repeat (first | apply Kd.S_alloc | apply Kd.S_drewN | apply Kd.S_drew)); exact HO_17.out) hb)
               have n2_ := Aside0.mk (Kd.R_below (by (with_reducible repeat (first | apply Kd.R_alloc | apply Kd.R_drewN | apply Kd.R_drew)); exact HO_289001.out) hb)
               have n3_ := Aside0.mk (Kd.R_below (by (with_reducible repeat (first | apply Kd.R_alloc | apply Kd.R_drewN | apply Kd.R_drew)); exact HO303.out) hb)
               have n4_ := Aside0.mk (blk_below (g := gb272) (o := .cells #[.int .i64 a2_0, .slice A2_1 l2_1.length c2_1] 24 (0, 0)) (by (with_reducible repeat (first | refine blk_drewN ?_ _ | refine blk_drew ?_ | refine blk_alloc ?_ _)); exact BK272.out) hb)
               have n5_ := Aside0.mk (blk_below (g := gb288) (o := .cells #[.int .i64 (((a2_0) % 4294967296) / 4), .slice (some ad300) y285.length co28] 24 (0, 0)) (by (with_reducible repeat (first | refine blk_drewN ?_ _ | refine blk_drew ?_ | refine blk_alloc ?_ _)); exact BK288.out) hb)
               have n6_ := Aside0.mk (blk_below (g := gb304) (o := .cells #[.int .i64 (((a2_0) % 4294967296) / 4), .slice Ao63 y301.length co63] 24 (0, 0)) (by (with_reducible repeat (first | refine blk_drewN ?_ _ | refine blk_drew ?_ | refine blk_alloc ?_ _)); exact BK304.out) hb)
               (repeat replace hb := sq_un hb); have n7_ := sq_st hb HB; have n8_ := Aside0.mk (hbox)
               have n9_ := Aside0.mk ((by rw [hg]; exact (below_size (by repeat (first | (with_reducible first | exact HB.out | apply below_alloc | apply pw_below_drewN | apply below_drew1 | refine below_set ?_ GE272.out | refine below_set ?_ GE288.out | refine below_set ?_ GE304.out) | exact HB.out))) : w.heap.size ≤ gb310))
               have n10_ := Aside0.mk ((by rw [hg]; exact (below_size (by repeat (first | (with_reducible first | exact HB.out | apply below_alloc | apply pw_below_drewN | apply below_drew1 | refine below_set ?_ GE272.out | refine below_set ?_ GE288.out | refine below_set ?_ GE304.out) | exact HB.out))) : w.heap.size ≤ gb310))
               have n11_ := Aside0.mk ((by rw [hg]; exact Nat.ne_of_lt (blk_lt (g := gb272) (o := .cells #[.int .i64 a2_0, .slice A2_1 l2_1.length c2_1] 24 (0, 0)) (by (with_reducible repeat (first | refine blk_drewN ?_ _ | refine blk_drew ?_ | refine blk_alloc ?_ _)); exact BK272.out)) : gb272 ≠ gb310))
               have n12_ := Aside0.mk ((by rw [hg]; exact Nat.ne_of_gt (blk_lt (g := gb272) (o := .cells #[.int .i64 a2_0, .slice A2_1 l2_1.length c2_1] 24 (0, 0)) (by (with_reducible repeat (first | refine blk_drewN ?_ _ | refine blk_drew ?_ | refine blk_alloc ?_ _)); exact BK272.out)) : gb310 ≠ gb272))
               have n13_ := Aside0.mk ((by rw [hg]; exact Nat.ne_of_lt (blk_lt (g := gb288) (o := .cells #[.int .i64 (((a2_0) % 4294967296) / 4), .slice (some ad300) y285.length co28] 24 (0, 0)) (by (with_reducible repeat (first | refine blk_drewN ?_ _ | refine blk_drew ?_ | refine blk_alloc ?_ _)); exact BK288.out)) : gb288 ≠ gb310))
               have n14_ := Aside0.mk ((by rw [hg]; exact Nat.ne_of_gt (blk_lt (g := gb288) (o := .cells #[.int .i64 (((a2_0) % 4294967296) / 4), .slice (some ad300) y285.length co28] 24 (0, 0)) (by (with_reducible repeat (first | refine blk_drewN ?_ _ | refine blk_drew ?_ | refine blk_alloc ?_ _)); exact BK288.out)) : gb310 ≠ gb288))
               have n15_ := Aside0.mk ((by rw [hg]; exact Nat.ne_of_lt (blk_lt (g := gb304) (o := .cells #[.int .i64 (((a2_0) % 4294967296) / 4), .slice Ao63 y301.length co63] 24 (0, 0)) (by (with_reducible repeat (first | refine blk_drewN ?_ _ | refine blk_drew ?_ | refine blk_alloc ?_ _)); exact BK304.out)) : gb304 ≠ gb310))
               have n16_ := Aside0.mk ((by rw [hg]; exact Nat.ne_of_gt (blk_lt (g := gb304) (o := .cells #[.int .i64 (((a2_0) % 4294967296) / 4), .slice Ao63 y301.length co63] 24 (0, 0)) (by (with_reducible repeat (first | refine blk_drewN ?_ _ | refine blk_drew ?_ | refine blk_alloc ?_ _)); exact BK304.out)) : gb310 ≠ gb304))
               clear HO_15; clear HO_17; clear HO_289001; clear HO303; clear BK272; clear BK288; clear BK304; clear HB; have HO_15 := n0_; have HO_17 := n1_; have HO_289001 := n2_; have HO303 := n3_; have BK272 := n4_; have BK288 := n5_; have BK304 := n6_; have HB := n7_; have BK310 := n8_; have GW310 := n9_; have GE310 := n10_; have NB272_310 := n11_; have NB310_272 := n12_; have NB288_310 := n13_; have NB310_288 := n14_; have NB304_310 := n15_; have NB310_304 := n16_; clear n0_ n1_ n2_ n3_ n4_ n5_ n6_ n7_ n8_ n9_ n10_ n11_ n12_ n13_ n14_ n15_ n16_; clear hb hbox hg
               refine hK.out _ _ ⟨(blk_cell BK288.out 0).trans rfl, (blk_cell BK288.out 1).trans rfl, HS2_, HS3_⟩ (fun hHeld => ?_)
               clear hK K
               refine norm_ (a' := ?_) ?_ ?_
               rotate_left
               ·
                show Act.put _ (some 20) _ = _
                simp only [Act.put, List.setIfInBounds_toArray, List.set_cons_zero, List.set_cons_succ, i64_w, i32_w]
                rfl
               refine one_ (i := 10) (N := some 110) #[true, true, true, true, true, true, true, true, true, true, true, false, true, false] rfl rfl (one_of HT_.out (by kernel_rfl)) (by decide) (fun K hK => ?_)
               refine Kd.R_lit_step (Kd.int .i64) _ 3 ?hg (N := 110) ?hd (xs := ([rd y285 0, rd y285 0] : List Int)) (inner := [.int .i64 (rd y285 0), .int .i64 (rd y285 0)]) (ok := fun _ => True) (okp := fun _ => True) ?hr ?hp (fun _ hk => hk) trivial (Below.refl _ _) (Nat.le_refl _) (by simp) ?_; (case hd => rfl); (case hg => rfl); (case hr => first | (go_simp; done) | (go_simp; rfl)); (case hp => exact (Reps.one (show Kd.M (Kd.int .i64) _ _ _ (rd y285 0) [.int .i64 (rd y285 0)] from rfl) (Reps.one (show Kd.M (Kd.int .i64) _ _ _ (rd y285 0) [.int .i64 (rd y285 0)] from rfl) (Reps.none _ _))))
               intro v308 w69 ho70 hb hg_ hnew_
               have HS2_ := (hb.cell (World.block_lt_of_cell? _ _ (hHeld.2.2.1))).trans (hHeld.2.2.1)
               have HS3_ := (hb.cell (World.block_lt_of_cell? _ _ (hHeld.2.2.2))).trans (hHeld.2.2.2)
               clear hg_ hnew_
               (first | rw [← Ny307.out] at ho70 | (simp only [Int.reduceToNat] at ho70; rw [← Ny307.out] at ho70))
               have n0_ := Aside0.mk (Kd.R_elder' (by (with_reducible repeat (first | apply Kd.R_alloc | apply Kd.R_drewN | apply Kd.R_drew)); exact HO_15.out) (Kd.R_base ho70) hb)
               have n1_ := Aside0.mk (Kd.S_elder' (by (with_reducible repeat (first | apply Kd.S_alloc | apply Kd.S_drewN | apply Kd.S_drew)); exact HO_17.out) (Kd.R_base ho70) hb)
               have n2_ := Aside0.mk (Kd.R_elder' (by (with_reducible repeat (first | apply Kd.R_alloc | apply Kd.R_drewN | apply Kd.R_drew)); exact HO_289001.out) (Kd.R_base ho70) hb)
               have n3_ := Aside0.mk (Kd.R_elder' (by (with_reducible repeat (first | apply Kd.R_alloc | apply Kd.R_drewN | apply Kd.R_drew)); exact HO303.out) (Kd.R_base ho70) hb)
               have n4_ := Aside0.mk (Kd.R_lower (Kd.R_new' (Kd.R_new' (Kd.R_new' ho70 (Kd.R_lt (by (with_reducible repeat (first | apply Kd.R_alloc | apply Kd.R_drewN | apply Kd.R_drew)); exact HO_15.out))) (Kd.R_lt (by (with_reducible repeat (first | apply Kd.R_alloc | apply Kd.R_drewN | apply Kd.R_drew)); exact HO_289001.out))) (Kd.R_lt (by (with_reducible repeat (first | apply Kd.R_alloc | apply Kd.R_drewN | apply Kd.R_drew)); exact HO303.out))) (below_size (by repeat (first | (with_reducible first | exact HB.out | apply below_alloc | apply pw_below_drewN | apply below_drew1 | refine below_set ?_ GE272.out | refine below_set ?_ GE288.out | refine below_set ?_ GE304.out | refine below_set ?_ GE310.out) | exact HB.out))))
               have n5_ := Aside0.mk (blk_below (g := gb272) (o := .cells #[.int .i64 a2_0, .slice A2_1 l2_1.length c2_1] 24 (0, 0)) (by (with_reducible repeat (first | refine blk_drewN ?_ _ | refine blk_drew ?_ | refine blk_alloc ?_ _)); exact BK272.out) hb)
               have n6_ := Aside0.mk (blk_below (g := gb288) (o := .cells #[.int .i64 (((a2_0) % 4294967296) / 4), .slice (some ad300) y285.length co28] 24 (0, 0)) (by (with_reducible repeat (first | refine blk_drewN ?_ _ | refine blk_drew ?_ | refine blk_alloc ?_ _)); exact BK288.out) hb)
               have n7_ := Aside0.mk (blk_below (g := gb304) (o := .cells #[.int .i64 (((a2_0) % 4294967296) / 4), .slice Ao63 y301.length co63] 24 (0, 0)) (by (with_reducible repeat (first | refine blk_drewN ?_ _ | refine blk_drew ?_ | refine blk_alloc ?_ _)); exact BK304.out) hb)
               have n8_ := Aside0.mk (blk_below (g := gb310) (o := .cells #[.int .i64 0, .slice none 0 0] 24 (0, 0)) (by (with_reducible repeat (first | refine blk_drewN ?_ _ | refine blk_drew ?_ | refine blk_alloc ?_ _)); exact BK310.out) hb)
               (repeat replace hb := sq_un hb); have n9_ := sq_st hb HB; clear HO_15; clear HO_17; clear HO_289001; clear HO303; clear BK272; clear BK288; clear BK304; clear BK310; clear HB; have HO_15 := n0_; have HO_17 := n1_; have HO_289001 := n2_; have HO303 := n3_; have HO309 := n4_; have BK272 := n5_; have BK288 := n6_; have BK304 := n7_; have BK310 := n8_; have HB := n9_; clear n0_ n1_ n2_ n3_ n4_ n5_ n6_ n7_ n8_ n9_; clear hb ho70; obtain ⟨Ao71, co71, eo71⟩ := Kd.R_slice HO309.out
               (first | subst eo71 | (injection eo71 with f1_ f2_ f3_; have f4_ := f1_.symm; have f5_ := f3_.symm; clear f1_ f2_ f3_; subst f4_; subst f5_))
               refine hK.out _ _ ⟨(blk_cell BK288.out 0).trans rfl, (blk_cell BK288.out 1).trans rfl, HS2_, HS3_⟩ (fun hHeld => ?_)
               clear hK K
               refine norm_ (a' := ?_) ?_ ?_
               rotate_left
               ·
                show Act.put _ (some 110) _ = _
                simp only [Act.put, List.setIfInBounds_toArray, List.set_cons_zero, List.set_cons_succ, i64_w, i32_w]
                rfl
               refine pure_ (i := 11) (N := some 111) (v := ?_) (a' := ?_) #[true, true, true, true, true, true, true, true, true, true, true, true, true, false] rfl rfl (any_of HT_.out (by kernel_rfl)) (fun _ _ _ h => h) (Or.inl ⟨by rfl, ?_⟩) ?_ ?_
               rotate_left
               ·
                intro w'
                go_simp
                with_reducible rfl
               rotate_left
               ·
                simp only [Act.put, List.setIfInBounds_toArray, List.set_cons_zero, List.set_cons_succ, i64_w, i32_w]
                rfl
               exact norm_ (by simp only [putAll, Act.put, List.setIfInBounds_toArray, List.set_cons_zero, List.set_cons_succ]) (hCont (.slice Ao71 y307.length co71, gb310) _ ⟨hHeld, (by (with_reducible repeat (first | apply Kd.R_alloc | apply Kd.R_drewN | apply Kd.R_drew)); exact Kd.R_mono HO303.out (fun _ hk => ⟨hk.2, ⟨hk.1.1, hk.1.2⟩⟩)), (by (with_reducible repeat (first | apply Kd.R_alloc | apply Kd.R_drewN | apply Kd.R_drew)); exact Kd.R_mono HO309.out (fun _ hk => ⟨hk.2, ⟨hk.1.1.2, hk.1.2⟩⟩)), (by (with_reducible repeat (first | apply Kd.R_alloc | apply Kd.R_drewN | apply Kd.R_drew)); exact Kd.R_mono HO_15.out (fun _ hk => ⟨hk.1.2, ⟨hk.2, hk.1.1⟩⟩)), (by (with_reducible repeat (first | apply Kd.S_alloc | apply Kd.S_drewN | apply Kd.S_drew)); exact Kd.S_mono HO_17.out (fun _ hk => ⟨hk.1.2.2, ⟨hk.2, ⟨hk.1.1, hk.1.2.1⟩⟩⟩)), (by (with_reducible repeat (first | apply Kd.R_alloc | apply Kd.R_drewN | apply Kd.R_drew)); exact Kd.R_mono HO_289001.out (fun _ hk => ⟨hk.1.2, ⟨hk.2, hk.1.1⟩⟩)), (by (with_reducible repeat (first | refine blk_drewN ?_ _ | refine blk_drew ?_ | refine blk_alloc ?_ _)); exact BK272.out), (by (with_reducible repeat (first | refine blk_drewN ?_ _ | refine blk_drew ?_ | refine blk_alloc ?_ _)); exact BK288.out), (by (with_reducible repeat (first | refine blk_drewN ?_ _ | refine blk_drew ?_ | refine blk_alloc ?_ _)); exact BK304.out), (by (with_reducible repeat (first | refine blk_drewN ?_ _ | refine blk_drew ?_ | refine blk_alloc ?_ _)); exact BK310.out), GW310.out, GE310.out, NB272_310.out, NB310_272.out, NB288_310.out, NB310_288.out, NB304_310.out, NB310_304.out, (by repeat (first | (with_reducible first | exact HB.out | apply below_alloc | apply pw_below_drewN | apply below_drew1 | refine below_set ?_ GE272.out | refine below_set ?_ GE288.out | refine below_set ?_ GE304.out | refine below_set ?_ GE310.out) | exact HB.out))⟩)
             rintro ⟨v308, gb310⟩ w72 ⟨hS_, h0_, h1_, h2_, h3_, h4_, h5_, h6_, h7_, h8_, h9_, h10_, h11_, h12_, h13_, h14_, h15_, h16_, h17_⟩
             have n0_ : Aside0 (Kd.R (Kd.int .i64) 3 w72 w.heap.size (fun k_ => some k_ ≠ (v308 : Value).ownBlock ∧ some k_ ≠ (.slice Ao35 t289.length co35 : Value).ownBlock ∧ some k_ ≠ (.slice (some ad300) y285.length co28 : Value).ownBlock) (.slice Ao63 y301.length co63) y301) := ⟨h0_⟩
             have n1_ : Aside0 (Kd.R (Kd.int .i64) 3 w72 w.heap.size (fun k_ => some k_ ≠ (.slice Ao63 y301.length co63 : Value).ownBlock ∧ some k_ ≠ (.slice Ao35 t289.length co35 : Value).ownBlock ∧ some k_ ≠ (.slice (some ad300) y285.length co28 : Value).ownBlock) v308 y307) := ⟨h1_⟩
             have n2_ : Aside0 (Kd.R (Kd.int .i64) 3 w72 w.heap.size (fun k_ => some k_ ≠ (.slice Ao63 y301.length co63 : Value).ownBlock ∧ some k_ ≠ (v308 : Value).ownBlock ∧ some k_ ≠ (.slice (some ad300) y285.length co28 : Value).ownBlock) (.slice Ao35 t289.length co35) t289) := ⟨h2_⟩
             have n3_ : Aside0 (Kd.S k49 49 w72 w.heap.size (fun k_ => some k_ ≠ (.slice Ao63 y301.length co63 : Value).ownBlock ∧ some k_ ≠ (v308 : Value).ownBlock ∧ some k_ ≠ (.slice Ao35 t289.length co35 : Value).ownBlock ∧ some k_ ≠ (.slice (some ad300) y285.length co28 : Value).ownBlock) v295 t294) := ⟨h3_⟩
             have n4_ : Aside0 (Kd.R (Kd.int .i64) 3 w72 w.heap.size (fun k_ => some k_ ≠ (.slice Ao63 y301.length co63 : Value).ownBlock ∧ some k_ ≠ (v308 : Value).ownBlock ∧ some k_ ≠ (.slice Ao35 t289.length co35 : Value).ownBlock) (.slice (some ad300) y285.length co28) y285) := ⟨h4_⟩
             have n5_ : Aside0 (w72.heap[gb272]? = some (.cells #[.int .i64 a2_0, .slice A2_1 l2_1.length c2_1] 24 (0, 0))) := ⟨h5_⟩
             have n6_ : Aside0 (w72.heap[gb288]? = some (.cells #[.int .i64 (((a2_0) % 4294967296) / 4), .slice (some ad300) y285.length co28] 24 (0, 0))) := ⟨h6_⟩
             have n7_ : Aside0 (w72.heap[gb304]? = some (.cells #[.int .i64 (((a2_0) % 4294967296) / 4), .slice Ao63 y301.length co63] 24 (0, 0))) := ⟨h7_⟩
             have n8_ : Aside0 (w72.heap[gb310]? = some (.cells #[.int .i64 0, .slice none 0 0] 24 (0, 0))) := ⟨h8_⟩
             have n9_ : Aside0 (w.heap.size ≤ gb310) := ⟨h9_⟩
             have n10_ : Aside0 (w.heap.size ≤ gb310) := ⟨h10_⟩
             have n11_ : Aside0 (gb272 ≠ gb310) := ⟨h11_⟩
             have n12_ : Aside0 (gb310 ≠ gb272) := ⟨h12_⟩
             have n13_ : Aside0 (gb288 ≠ gb310) := ⟨h13_⟩
             have n14_ : Aside0 (gb310 ≠ gb288) := ⟨h14_⟩
             have n15_ : Aside0 (gb304 ≠ gb310) := ⟨h15_⟩
             have n16_ : Aside0 (gb310 ≠ gb304) := ⟨h16_⟩
             have n17_ : Aside0 (Below w.heap.size w w72) := ⟨h17_⟩
             clear HO_15; clear HO_17; clear HO_289001; clear HO303; clear BK272; clear BK288; clear BK304; clear HB; clear h0_ h1_ h2_ h3_ h4_ h5_ h6_ h7_ h8_ h9_ h10_ h11_ h12_ h13_ h14_ h15_ h16_ h17_; have HO303 := n0_; have HO309 := n1_; have HO_15 := n2_; have HO_17 := n3_; have HO_289001 := n4_; have BK272 := n5_; have BK288 := n6_; have BK304 := n7_; have BK310 := n8_; have GW310 := n9_; have GE310 := n10_; have NB272_310 := n11_; have NB310_272 := n12_; have NB288_310 := n13_; have NB310_288 := n14_; have NB304_310 := n15_; have NB310_304 := n16_; have HB := n17_; clear n0_ n1_ n2_ n3_ n4_ n5_ n6_ n7_ n8_ n9_ n10_ n11_ n12_ n13_ n14_ n15_ n16_ n17_
             have hHeld : w72.cell? ⟨gb288, 0, none⟩ = some (.int .i64 (((a2_0) % 4294967296) / 4)) ∧ w72.cell? ⟨gb288, 1, none⟩ = some (.slice (some ad300) y285.length co28) ∧ w72.cell? ad300 = some (.int .i64 (rd y285 0)) ∧ w72.cell? ad300 = some (.int .i64 (rd y285 0)) := hS_
             obtain ⟨Ao73, co73, eo73⟩ := Kd.R_slice HO309.out
             (first | subst eo73 | (injection eo73 with f1_ f2_ f3_; have f4_ := f1_.symm; have f5_ := f3_.symm; clear f1_ f2_ f3_; subst f4_; subst f5_))
             refine norm_ (a' := ?_) ?_ ?_
             rotate_left
             ·
              simp only [putAll, Act.put, List.setIfInBounds_toArray, List.set_cons_zero, List.set_cons_succ]
              rfl
             refine one_ (i := 13) (N := none) #[true, true, true, true, true, true, true, true, true, true, true, true, true, true] rfl rfl (one_of HT_.out (by kernel_rfl)) (by decide) (fun K hK => ?_)
             have hs74 : w72.cell? ⟨gb310, 0, none⟩ = some (.int .i64 0) := (blk_cell BK310.out 0).trans rfl; have hfs74 := blk_frozen BK310.out 0; have hns74_0 := NB272_310.out; have hns74_1 := NB288_310.out; have hns74_2 := NB304_310.out; have hms74_0 := NB310_272.out; have hms74_1 := NB310_288.out; have hms74_2 := NB310_304.out; have hs75 : w72.cell? ⟨gb310, 1, none⟩ = some (.slice none 0 0) := (blk_cell BK310.out 1).trans rfl; have hfs75 := blk_frozen BK310.out 1; have hns75_0 := NB272_310.out; have hns75_1 := NB288_310.out; have hns75_2 := NB304_310.out; have hms75_0 := NB310_272.out; have hms75_1 := NB310_288.out; have hms75_2 := NB310_304.out
             refine skip_ (w1 := ?_) (by rfl) rfl ?_ ?_
             rotate_left
             ·
              go_simp
              rfl
             refine hK.out _ _ ⟨((cell_far (p := ⟨gb310, _, none⟩) NB288_310.out _).trans (((cell_far (p := ⟨gb310, _, none⟩) NB288_310.out _).trans (hHeld.1)))), ((cell_far (p := ⟨gb310, _, none⟩) NB288_310.out _).trans (((cell_far (p := ⟨gb310, _, none⟩) NB288_310.out _).trans (hHeld.2.1)))), ((cell_far (p := ⟨gb310, _, none⟩) (by first | exact Kd.own_blk (Kd.R_ne HO_289001.out BK310.out (by decide)) | (rw [add_block]; exact Kd.own_blk (Kd.R_ne HO_289001.out BK310.out (by decide))) | (show (Addr.add _ _).block ≠ _; rw [add_block]; exact Kd.own_blk (Kd.R_ne HO_289001.out BK310.out (by decide))) | (dsimp only; exact Kd.own_blk (Kd.R_ne HO_289001.out BK310.out (by decide)))) _).trans (((cell_far (p := ⟨gb310, _, none⟩) (by first | exact Kd.own_blk (Kd.R_ne HO_289001.out BK310.out (by decide)) | (rw [add_block]; exact Kd.own_blk (Kd.R_ne HO_289001.out BK310.out (by decide))) | (show (Addr.add _ _).block ≠ _; rw [add_block]; exact Kd.own_blk (Kd.R_ne HO_289001.out BK310.out (by decide))) | (dsimp only; exact Kd.own_blk (Kd.R_ne HO_289001.out BK310.out (by decide)))) _).trans (hHeld.2.2.1)))), ((cell_far (p := ⟨gb310, _, none⟩) (by first | exact Kd.own_blk (Kd.R_ne HO_289001.out BK310.out (by decide)) | (rw [add_block]; exact Kd.own_blk (Kd.R_ne HO_289001.out BK310.out (by decide))) | (show (Addr.add _ _).block ≠ _; rw [add_block]; exact Kd.own_blk (Kd.R_ne HO_289001.out BK310.out (by decide))) | (dsimp only; exact Kd.own_blk (Kd.R_ne HO_289001.out BK310.out (by decide)))) _).trans (((cell_far (p := ⟨gb310, _, none⟩) (by first | exact Kd.own_blk (Kd.R_ne HO_289001.out BK310.out (by decide)) | (rw [add_block]; exact Kd.own_blk (Kd.R_ne HO_289001.out BK310.out (by decide))) | (show (Addr.add _ _).block ≠ _; rw [add_block]; exact Kd.own_blk (Kd.R_ne HO_289001.out BK310.out (by decide))) | (dsimp only; exact Kd.own_blk (Kd.R_ne HO_289001.out BK310.out (by decide)))) _).trans (hHeld.2.2.2))))⟩ (fun hHeld => ?_)
             clear hK K
             refine done_ (done_of HT_.out (by kernel_rfl)) ?_
             try go_wp2
             have n0_ : Aside0 (Kd.R (Kd.int .i64) 3 ((w72.setCell ⟨gb310, 0, none⟩ (.int .i64 (((a2_0) % 4294967296) / 4))).setCell ⟨gb310, 1, none⟩ (.slice Ao73 y307.length co73)) w.heap.size (fun k_ => some k_ ≠ (.slice (some ad300) y285.length co28 : Value).ownBlock ∧ some k_ ≠ (.slice Ao63 y301.length co63 : Value).ownBlock ∧ some k_ ≠ (.slice Ao73 y307.length co73 : Value).ownBlock) (.slice Ao35 t289.length co35) t289) := ⟨by (with_reducible repeat (first | apply Kd.R_alloc | apply Kd.R_drewN | apply Kd.R_drew)); exact Kd.R_mono (Kd.R_far (p := ⟨gb310, 1, none⟩) (Kd.R_far (p := ⟨gb310, 0, none⟩) (Kd.R_types HO_15.out BK310.out (by decide)) (fun _ hk => hk.2) (.int .i64 (((a2_0) % 4294967296) / 4))) (fun _ hk => hk.2) (.slice Ao73 y307.length co73)) (fun _ hk => ⟨hk.1.2.2, ⟨hk.1.1, hk.1.2.1⟩⟩)⟩
             have n1_ : Aside0 (Kd.S k49 49 ((w72.setCell ⟨gb310, 0, none⟩ (.int .i64 (((a2_0) % 4294967296) / 4))).setCell ⟨gb310, 1, none⟩ (.slice Ao73 y307.length co73)) w.heap.size (fun k_ => some k_ ≠ (.slice Ao35 t289.length co35 : Value).ownBlock ∧ some k_ ≠ (.slice (some ad300) y285.length co28 : Value).ownBlock ∧ some k_ ≠ (.slice Ao63 y301.length co63 : Value).ownBlock ∧ some k_ ≠ (.slice Ao73 y307.length co73 : Value).ownBlock) v295 t294) := ⟨by (with_reducible repeat (first | apply Kd.S_alloc | apply Kd.S_drewN | apply Kd.S_drew)); exact Kd.S_mono (Kd.S_far (p := ⟨gb310, 1, none⟩) (Kd.S_far (p := ⟨gb310, 0, none⟩) (Kd.S_types HO_17.out BK310.out (by decide)) (fun _ hk => hk.2) (.int .i64 (((a2_0) % 4294967296) / 4))) (fun _ hk => hk.2) (.slice Ao73 y307.length co73)) (fun _ hk => ⟨hk.1.2.2.1, ⟨hk.1.2.2.2, ⟨hk.1.1, hk.1.2.1⟩⟩⟩)⟩
             have n2_ : Aside0 (Kd.R (Kd.int .i64) 3 ((w72.setCell ⟨gb310, 0, none⟩ (.int .i64 (((a2_0) % 4294967296) / 4))).setCell ⟨gb310, 1, none⟩ (.slice Ao73 y307.length co73)) w.heap.size (fun k_ => some k_ ≠ (.slice Ao35 t289.length co35 : Value).ownBlock ∧ some k_ ≠ (.slice Ao63 y301.length co63 : Value).ownBlock ∧ some k_ ≠ (.slice Ao73 y307.length co73 : Value).ownBlock) (.slice (some ad300) y285.length co28) y285) := ⟨by (with_reducible repeat (first | apply Kd.R_alloc | apply Kd.R_drewN | apply Kd.R_drew)); exact Kd.R_mono (Kd.R_far (p := ⟨gb310, 1, none⟩) (Kd.R_far (p := ⟨gb310, 0, none⟩) (Kd.R_types HO_289001.out BK310.out (by decide)) (fun _ hk => hk.2) (.int .i64 (((a2_0) % 4294967296) / 4))) (fun _ hk => hk.2) (.slice Ao73 y307.length co73)) (fun _ hk => ⟨hk.1.2.2, ⟨hk.1.1, hk.1.2.1⟩⟩)⟩
             have n3_ : Aside0 (Kd.R (Kd.int .i64) 3 ((w72.setCell ⟨gb310, 0, none⟩ (.int .i64 (((a2_0) % 4294967296) / 4))).setCell ⟨gb310, 1, none⟩ (.slice Ao73 y307.length co73)) w.heap.size (fun k_ => some k_ ≠ (.slice Ao35 t289.length co35 : Value).ownBlock ∧ some k_ ≠ (.slice (some ad300) y285.length co28 : Value).ownBlock ∧ some k_ ≠ (.slice Ao73 y307.length co73 : Value).ownBlock) (.slice Ao63 y301.length co63) y301) := ⟨by (with_reducible repeat (first | apply Kd.R_alloc | apply Kd.R_drewN | apply Kd.R_drew)); exact Kd.R_mono (Kd.R_far (p := ⟨gb310, 1, none⟩) (Kd.R_far (p := ⟨gb310, 0, none⟩) (Kd.R_types HO303.out BK310.out (by decide)) (fun _ hk => hk.2) (.int .i64 (((a2_0) % 4294967296) / 4))) (fun _ hk => hk.2) (.slice Ao73 y307.length co73)) (fun _ hk => ⟨hk.1.2.1, ⟨hk.1.2.2, hk.1.1⟩⟩)⟩
             have n4_ : Aside0 (Kd.R (Kd.int .i64) 3 ((w72.setCell ⟨gb310, 0, none⟩ (.int .i64 (((a2_0) % 4294967296) / 4))).setCell ⟨gb310, 1, none⟩ (.slice Ao73 y307.length co73)) w.heap.size (fun k_ => some k_ ≠ (.slice Ao35 t289.length co35 : Value).ownBlock ∧ some k_ ≠ (.slice (some ad300) y285.length co28 : Value).ownBlock ∧ some k_ ≠ (.slice Ao63 y301.length co63 : Value).ownBlock) (.slice Ao73 y307.length co73) y307) := ⟨by (with_reducible repeat (first | apply Kd.R_alloc | apply Kd.R_drewN | apply Kd.R_drew)); exact Kd.R_mono (Kd.R_far (p := ⟨gb310, 1, none⟩) (Kd.R_far (p := ⟨gb310, 0, none⟩) (Kd.R_types HO309.out BK310.out (by decide)) (fun _ hk => hk.2) (.int .i64 (((a2_0) % 4294967296) / 4))) (fun _ hk => hk.2) (.slice Ao73 y307.length co73)) (fun _ hk => ⟨hk.1.2.1, ⟨hk.1.2.2, hk.1.1⟩⟩)⟩
             have n5_ : Aside0 (((w72.setCell ⟨gb310, 0, none⟩ (.int .i64 (((a2_0) % 4294967296) / 4))).setCell ⟨gb310, 1, none⟩ (.slice Ao73 y307.length co73)).heap[gb272]? = some (.cells #[.int .i64 a2_0, .slice A2_1 l2_1.length c2_1] 24 (0, 0))) := ⟨by (with_reducible repeat (first | refine blk_drewN ?_ _ | refine blk_drew ?_ | refine blk_alloc ?_ _)); refine blk_far ?_ NB272_310.out _; (with_reducible repeat (first | refine blk_drewN ?_ _ | refine blk_drew ?_ | refine blk_alloc ?_ _)); refine blk_far ?_ NB272_310.out _; (with_reducible repeat (first | refine blk_drewN ?_ _ | refine blk_drew ?_ | refine blk_alloc ?_ _)); exact BK272.out⟩
             have n6_ : Aside0 (((w72.setCell ⟨gb310, 0, none⟩ (.int .i64 (((a2_0) % 4294967296) / 4))).setCell ⟨gb310, 1, none⟩ (.slice Ao73 y307.length co73)).heap[gb288]? = some (.cells #[.int .i64 (((a2_0) % 4294967296) / 4), .slice (some ad300) y285.length co28] 24 (0, 0))) := ⟨by (with_reducible repeat (first | refine blk_drewN ?_ _ | refine blk_drew ?_ | refine blk_alloc ?_ _)); refine blk_far ?_ NB288_310.out _; (with_reducible repeat (first | refine blk_drewN ?_ _ | refine blk_drew ?_ | refine blk_alloc ?_ _)); refine blk_far ?_ NB288_310.out _; (with_reducible repeat (first | refine blk_drewN ?_ _ | refine blk_drew ?_ | refine blk_alloc ?_ _)); exact BK288.out⟩
             have n7_ : Aside0 (((w72.setCell ⟨gb310, 0, none⟩ (.int .i64 (((a2_0) % 4294967296) / 4))).setCell ⟨gb310, 1, none⟩ (.slice Ao73 y307.length co73)).heap[gb304]? = some (.cells #[.int .i64 (((a2_0) % 4294967296) / 4), .slice Ao63 y301.length co63] 24 (0, 0))) := ⟨by (with_reducible repeat (first | refine blk_drewN ?_ _ | refine blk_drew ?_ | refine blk_alloc ?_ _)); refine blk_far ?_ NB304_310.out _; (with_reducible repeat (first | refine blk_drewN ?_ _ | refine blk_drew ?_ | refine blk_alloc ?_ _)); refine blk_far ?_ NB304_310.out _; (with_reducible repeat (first | refine blk_drewN ?_ _ | refine blk_drew ?_ | refine blk_alloc ?_ _)); exact BK304.out⟩
             have n8_ : Aside0 (((w72.setCell ⟨gb310, 0, none⟩ (.int .i64 (((a2_0) % 4294967296) / 4))).setCell ⟨gb310, 1, none⟩ (.slice Ao73 y307.length co73)).heap[gb310]? = some (.cells #[.int .i64 (((a2_0) % 4294967296) / 4), .slice Ao73 y307.length co73] 24 (0, 0))) := ⟨by (with_reducible repeat (first | refine blk_drewN ?_ _ | refine blk_drew ?_ | refine blk_alloc ?_ _)); refine blk_put (cs := #[.int .i64 (((a2_0) % 4294967296) / 4), .slice none 0 0]) ?_ 1 _ rfl; (with_reducible repeat (first | refine blk_drewN ?_ _ | refine blk_drew ?_ | refine blk_alloc ?_ _)); refine blk_put (cs := #[.int .i64 0, .slice none 0 0]) ?_ 0 _ rfl; (with_reducible repeat (first | refine blk_drewN ?_ _ | refine blk_drew ?_ | refine blk_alloc ?_ _)); exact BK310.out⟩
             have n9_ : Aside0 (Below w.heap.size w ((w72.setCell ⟨gb310, 0, none⟩ (.int .i64 (((a2_0) % 4294967296) / 4))).setCell ⟨gb310, 1, none⟩ (.slice Ao73 y307.length co73))) := ⟨by repeat (first | (with_reducible first | exact HB.out | apply below_alloc | apply pw_below_drewN | apply below_drew1 | refine below_set ?_ GE272.out | refine below_set ?_ GE288.out | refine below_set ?_ GE304.out | refine below_set ?_ GE310.out) | exact HB.out)⟩
             (try clear HO_15)
             (try clear HO_17)
             (try clear HO_289001)
             (try clear HO303)
             (try clear HO309)
             (try clear BK272)
             (try clear BK288)
             (try clear BK304)
             (try clear BK310)
             (try clear HB)
             generalize ((w72.setCell ⟨gb310, 0, none⟩ (.int .i64 (((a2_0) % 4294967296) / 4))).setCell ⟨gb310, 1, none⟩ (.slice Ao73 y307.length co73)) = w76 at n0_ n1_ n2_ n3_ n4_ n5_ n6_ n7_ n8_ n9_ ⊢
             have HO_15 := n0_; have HO_17 := n1_; have HO_289001 := n2_; have HO303 := n3_; have HO309 := n4_; have BK272 := n5_; have BK288 := n6_; have BK304 := n7_; have BK310 := n8_; have HB := n9_; clear n0_ n1_ n2_ n3_ n4_ n5_ n6_ n7_ n8_ n9_; have n0_ := Aside0.mk (Kd.R_drew HO_15.out); have n1_ := Aside0.mk (Kd.S_drew HO_17.out); have n2_ := Aside0.mk (Kd.R_drew HO_289001.out); have n3_ := Aside0.mk (Kd.R_drew HO303.out); have n4_ := Aside0.mk (Kd.R_drew HO309.out); have n5_ := Aside0.mk (blk_drew BK272.out); have n6_ := Aside0.mk (blk_drew BK288.out); have n7_ := Aside0.mk (blk_drew BK304.out); have n8_ := Aside0.mk (blk_drew BK310.out); have n9_ := Aside0.mk (below_drew1 HB.out); clear HO_15; clear HO_17; clear HO_289001; clear HO303; clear HO309; clear BK272; clear BK288; clear BK304; clear BK310; clear HB; have HO_15 := n0_; have HO_17 := n1_; have HO_289001 := n2_; have HO303 := n3_; have HO309 := n4_; have BK272 := n5_; have BK288 := n6_; have BK304 := n7_; have BK310 := n8_; have HB := n9_; clear n0_ n1_ n2_ n3_ n4_ n5_ n6_ n7_ n8_ n9_
             refine start_ (n := 14) (S := fun w' => w'.cell? ⟨gb310, 0, none⟩ = some (.int .i64 (((a2_0) % 4294967296) / 4)) ∧ w'.cell? ⟨gb310, 1, none⟩ = some (.slice Ao73 y307.length co73)) (ds := []) #[false, false, false, false, false, false, false, false, false, false, false, false, false, false] (by kernel_rfl) rfl rfl ⟨(blk_cell BK310.out 0).trans rfl, (blk_cell BK310.out 1).trans rfl⟩ (fun hHeld => ?_); refine with_tabW ossuarylaw12_AuditMoved.tab18 ossuarylaw12_AuditMoved.bits18 (fun HT_ HW_ => ?_)
             generalize w76.drew = w77 at HO_15 HO_17 HO_289001 HO303 HO309 BK272 BK288 BK304 BK310 HB hHeld ⊢
             refine pure_ (i := 0) (N := some 113) (v := ?_) (a' := ?_) #[true, false, false, false, false, false, false, false, false, false, false, false, false, false] rfl rfl (any_of HT_.out (by kernel_rfl)) (fun _ _ _ h => h) (Or.inl ⟨by rfl, ?_⟩) ?_ ?_
             rotate_left
             ·
              intro w'
              go_simp
              with_reducible rfl
             rotate_left
             ·
              simp only [Act.put, List.setIfInBounds_toArray, List.set_cons_zero, List.set_cons_succ, i64_w, i32_w]
              rfl
             refine pure_ (i := 1) (N := some 114) (v := ?_) (a' := ?_) #[true, true, false, false, false, false, false, false, false, false, false, false, false, false] rfl rfl (any_of HT_.out (by kernel_rfl)) (fun _ _ _ h => h) (Or.inl ⟨by rfl, ?_⟩) ?_ ?_
             rotate_left
             ·
              intro w'
              go_simp
              with_reducible rfl
             rotate_left
             ·
              simp only [Act.put, List.setIfInBounds_toArray, List.set_cons_zero, List.set_cons_succ, i64_w, i32_w]
              rfl
             refine pure_ (i := 2) (N := some 115) (v := ?_) (a' := ?_) #[true, true, true, false, false, false, false, false, false, false, false, false, false, false] rfl rfl (any_of HT_.out (by kernel_rfl)) (fun _ _ _ h => h) (Or.inl ⟨by rfl, ?_⟩) ?_ ?_
             rotate_left
             ·
              intro w'
              go_simp
              with_reducible rfl
             rotate_left
             ·
              simp only [Act.put, List.setIfInBounds_toArray, List.set_cons_zero, List.set_cons_succ, i64_w, i32_w]
              rfl
             refine pure_ (i := 3) (N := some 116) (v := ?_) (a' := ?_) #[true, true, true, true, false, false, false, false, false, false, false, false, false, false] rfl rfl (any_of HT_.out (by kernel_rfl)) (fun _ _ _ h => h) (Or.inl ⟨by rfl, ?_⟩) ?_ ?_
             rotate_left
             ·
              intro w'
              go_simp
              with_reducible rfl
             rotate_left
             ·
              simp only [Act.put, List.setIfInBounds_toArray, List.set_cons_zero, List.set_cons_succ, i64_w, i32_w]
              rfl
             refine pure_ (i := 4) (N := some 117) (v := ?_) (a' := ?_) #[true, true, true, true, true, false, false, false, false, false, false, false, false, false] rfl rfl (any_of HT_.out (by kernel_rfl)) (fun _ _ _ h => h) (Or.inl ⟨by rfl, ?_⟩) ?_ ?_
             rotate_left
             ·
              intro w'
              go_simp
              with_reducible rfl
             rotate_left
             ·
              simp only [Act.put, List.setIfInBounds_toArray, List.set_cons_zero, List.set_cons_succ, i64_w, i32_w]
              rfl
             refine pure_ (i := 6) (N := some 119) (v := ?_) (a' := ?_) #[true, true, true, true, true, false, true, false, false, false, false, false, false, false] rfl rfl (any_of HT_.out (by kernel_rfl)) (fun _ _ _ h => h) (Or.inl ⟨by rfl, ?_⟩) ?_ ?_
             rotate_left
             ·
              intro w'
              go_simp
              with_reducible rfl
             rotate_left
             ·
              simp only [Act.put, List.setIfInBounds_toArray, List.set_cons_zero, List.set_cons_succ, i64_w, i32_w]
              rfl
             refine take_ (i := 7) (N := some 120) (v := ?_) (a' := ?_) #[true, true, true, true, true, false, true, true, false, false, false, false, false, false] rfl rfl (take_ofW HT_.out HW_.out (by kernel_rfl)) (fun _ _ _ h => h) (Or.inl ⟨by rfl, ?_⟩) hHeld ?_ ?_
             rotate_left
             ·
              rintro w' ⟨s0, s1⟩
              go_simp
              with_reducible rfl
             rotate_left
             ·
              simp only [Act.put, List.setIfInBounds_toArray, List.set_cons_zero, List.set_cons_succ, i64_w, i32_w]
              rfl
             refine one_ (i := 5) (N := some 118) #[true, true, true, true, true, true, true, true, false, false, false, false, false, false] rfl rfl (one_of HT_.out (by kernel_rfl)) (by decide) (fun K hK => ?_)
             refine goes_ Try.func18 (by kernel_rfl) rfl #[.int .u8 ((wrap64 (a0 + (wrap64 (40 * (Go.bits .and .i64 a1 3))))) % 256)] (by rfl) rfl rfl (by (try simp only [List.map_toArray, List.map_cons, List.map_nil]); first | done | rfl | (simp only [List.length_drop, List.length_take]; rfl)) ?_
             with_reducible refine (ossuarylaw12_text.calls kj21 ((wrap64 (a0 + (wrap64 (40 * (Go.bits .and .i64 a1 3))))) % 256) t311 _ A46.out).mono ?_
             rintro e w78 ⟨rfl, hb⟩
             refine ⟨_, rfl, ?_⟩
             have n0_ := Aside0.mk (Kd.R_below (by (with_reducible repeat (first | apply Kd.R_alloc | apply Kd.R_drewN | apply Kd.R_drew)); exact HO_15.out) hb)
             have n1_ := Aside0.mk (Kd.S_below (by (with_reducible repeat (first | apply Kd.S_alloc | apply Kd.S_drewN | apply Kd.S_drew)); exact HO_17.out) hb)
             have n2_ := Aside0.mk (Kd.R_below (by (with_reducible repeat (first | apply Kd.R_alloc | apply Kd.R_drewN | apply Kd.R_drew)); exact HO_289001.out) hb)
             have n3_ := Aside0.mk (Kd.R_below (by (with_reducible repeat (first | apply Kd.R_alloc | apply Kd.R_drewN | apply Kd.R_drew)); exact HO303.out) hb)
             have n4_ := Aside0.mk (Kd.R_below (by (with_reducible repeat (first | apply Kd.R_alloc | apply Kd.R_drewN | apply Kd.R_drew)); exact HO309.out) hb)
             have n5_ := Aside0.mk (blk_below (g := gb272) (o := .cells #[.int .i64 a2_0, .slice A2_1 l2_1.length c2_1] 24 (0, 0)) (by (with_reducible repeat (first | refine blk_drewN ?_ _ | refine blk_drew ?_ | refine blk_alloc ?_ _)); exact BK272.out) hb)
             have n6_ := Aside0.mk (blk_below (g := gb288) (o := .cells #[.int .i64 (((a2_0) % 4294967296) / 4), .slice (some ad300) y285.length co28] 24 (0, 0)) (by (with_reducible repeat (first | refine blk_drewN ?_ _ | refine blk_drew ?_ | refine blk_alloc ?_ _)); exact BK288.out) hb)
             have n7_ := Aside0.mk (blk_below (g := gb304) (o := .cells #[.int .i64 (((a2_0) % 4294967296) / 4), .slice Ao63 y301.length co63] 24 (0, 0)) (by (with_reducible repeat (first | refine blk_drewN ?_ _ | refine blk_drew ?_ | refine blk_alloc ?_ _)); exact BK304.out) hb)
             have n8_ := Aside0.mk (blk_below (g := gb310) (o := .cells #[.int .i64 (((a2_0) % 4294967296) / 4), .slice Ao73 y307.length co73] 24 (0, 0)) (by (with_reducible repeat (first | refine blk_drewN ?_ _ | refine blk_drew ?_ | refine blk_alloc ?_ _)); exact BK310.out) hb)
             (repeat replace hb := sq_un hb); have n9_ := sq_st hb HB; clear HO_15; clear HO_17; clear HO_289001; clear HO303; clear HO309; clear BK272; clear BK288; clear BK304; clear BK310; clear HB; have HO_15 := n0_; have HO_17 := n1_; have HO_289001 := n2_; have HO303 := n3_; have HO309 := n4_; have BK272 := n5_; have BK288 := n6_; have BK304 := n7_; have BK310 := n8_; have HB := n9_; clear n0_ n1_ n2_ n3_ n4_ n5_ n6_ n7_ n8_ n9_
             (try clear hb)
             (try clear hb2)
             (try clear hk)
             (try clear hi)
             refine hK.out _ _ ⟨(blk_cell BK310.out 0).trans rfl, (blk_cell BK310.out 1).trans rfl⟩ (fun hHeld => ?_)
             clear hK K
             refine norm_ (a' := ?_) ?_ ?_
             rotate_left
             ·
              show Act.put _ (some 118) _ = _
              simp only [Act.put, List.setIfInBounds_toArray, List.set_cons_zero, List.set_cons_succ, i64_w, i32_w]
              rfl
             refine one_ (i := 8) (N := some 121) #[true, true, true, true, true, true, true, true, true, false, false, false, false, false] rfl rfl (one_of HT_.out (by kernel_rfl)) (by decide) (fun K hK => ?_)
             refine goes_ Try.func9 (by kernel_rfl) rfl #[.string t311, .slice Ao35 t289.length co35, .agg #[.int .i64 (((a2_0) % 4294967296) / 4), .slice Ao73 y307.length co73]] (by rfl) rfl rfl (by (try simp only [List.map_toArray, List.map_cons, List.map_nil]); first | done | rfl | (simp only [List.length_drop, List.length_take]; rfl)) ?_
             with_reducible refine (audit_Respond.calls kj21 t311 _ _ t289 (((a2_0) % 4294967296) / 4) _ _ y307 t312 t315 _ ?side1 ?side2 ?side3 ?side4 A47.out).mono ?_
             (case side1 => repeat (first | exact (Kd.R_reads' HO_15.out).2.2 | (with_reducible refine Kd.C_alloc ?_ _) | (with_reducible refine Kd.C_drewN ?_ _) | (with_reducible refine Kd.C_drew ?_)))
             (case side2 => exact (Kd.R_reads' HO_15.out).2.1)
             (case side3 => repeat (first | exact (Kd.R_reads' HO309.out).2.2 | (with_reducible refine Kd.C_alloc ?_ _) | (with_reducible refine Kd.C_drewN ?_ _) | (with_reducible refine Kd.C_drew ?_)))
             (case side4 => exact (Kd.R_reads' HO309.out).2.1)
             rintro e w79 ⟨v313, rfl, ho0, hb⟩
             refine ⟨_, rfl, ?_⟩
             have n0_ := Aside0.mk (Kd.R_below (by (with_reducible repeat (first | apply Kd.R_alloc | apply Kd.R_drewN | apply Kd.R_drew)); exact HO_15.out) hb)
             have n1_ := Aside0.mk (Kd.S_elder' (by (with_reducible repeat (first | apply Kd.S_alloc | apply Kd.S_drewN | apply Kd.S_drew)); exact HO_17.out) (Kd.S_base ho0) hb)
             have n2_ := Aside0.mk (Kd.R_below (by (with_reducible repeat (first | apply Kd.R_alloc | apply Kd.R_drewN | apply Kd.R_drew)); exact HO_289001.out) hb)
             have n3_ := Aside0.mk (Kd.R_below (by (with_reducible repeat (first | apply Kd.R_alloc | apply Kd.R_drewN | apply Kd.R_drew)); exact HO303.out) hb)
             have n4_ := Aside0.mk (Kd.R_below (by (with_reducible repeat (first | apply Kd.R_alloc | apply Kd.R_drewN | apply Kd.R_drew)); exact HO309.out) hb)
             have n5_ := Aside0.mk (Kd.S_lower (Kd.S_new' (Kd.S_new' (Kd.S_new' (Kd.S_new' (Kd.S_new' ho0 (Kd.R_lt (by (with_reducible repeat (first | apply Kd.R_alloc | apply Kd.R_drewN | apply Kd.R_drew)); exact HO_15.out))) (Kd.S_lt (by (with_reducible repeat (first | apply Kd.S_alloc | apply Kd.S_drewN | apply Kd.S_drew)); exact HO_17.out))) (Kd.R_lt (by (with_reducible repeat (first | apply Kd.R_alloc | apply Kd.R_drewN | apply Kd.R_drew)); exact HO_289001.out))) (Kd.R_lt (by (with_reducible repeat (first | apply Kd.R_alloc | apply Kd.R_drewN | apply Kd.R_drew)); exact HO303.out))) (Kd.R_lt (by (with_reducible repeat (first | apply Kd.R_alloc | apply Kd.R_drewN | apply Kd.R_drew)); exact HO309.out))) (below_size (by repeat (first | (with_reducible first | exact HB.out | apply below_alloc | apply pw_below_drewN | apply below_drew1 | refine below_set ?_ GE272.out | refine below_set ?_ GE288.out | refine below_set ?_ GE304.out | refine below_set ?_ GE310.out) | exact HB.out))))
             have n6_ := Aside0.mk (blk_below (g := gb272) (o := .cells #[.int .i64 a2_0, .slice A2_1 l2_1.length c2_1] 24 (0, 0)) (by (with_reducible repeat (first | refine blk_drewN ?_ _ | refine blk_drew ?_ | refine blk_alloc ?_ _)); exact BK272.out) hb)
             have n7_ := Aside0.mk (blk_below (g := gb288) (o := .cells #[.int .i64 (((a2_0) % 4294967296) / 4), .slice (some ad300) y285.length co28] 24 (0, 0)) (by (with_reducible repeat (first | refine blk_drewN ?_ _ | refine blk_drew ?_ | refine blk_alloc ?_ _)); exact BK288.out) hb)
             have n8_ := Aside0.mk (blk_below (g := gb304) (o := .cells #[.int .i64 (((a2_0) % 4294967296) / 4), .slice Ao63 y301.length co63] 24 (0, 0)) (by (with_reducible repeat (first | refine blk_drewN ?_ _ | refine blk_drew ?_ | refine blk_alloc ?_ _)); exact BK304.out) hb)
             have n9_ := Aside0.mk (blk_below (g := gb310) (o := .cells #[.int .i64 (((a2_0) % 4294967296) / 4), .slice Ao73 y307.length co73] 24 (0, 0)) (by (with_reducible repeat (first | refine blk_drewN ?_ _ | refine blk_drew ?_ | refine blk_alloc ?_ _)); exact BK310.out) hb)
             (repeat replace hb := sq_un hb); have n10_ := sq_st hb HB; clear HO_15; clear HO_17; clear HO_289001; clear HO303; clear HO309; clear BK272; clear BK288; clear BK304; clear BK310; clear HB; have HO_15 := n0_; have HO_17 := n1_; have HO_289001 := n2_; have HO303 := n3_; have HO309 := n4_; have HO314 := n5_; have BK272 := n6_; have BK288 := n7_; have BK304 := n8_; have BK310 := n9_; have HB := n10_; clear n0_ n1_ n2_ n3_ n4_ n5_ n6_ n7_ n8_ n9_ n10_
             (try clear hb)
             (try clear hb2)
             (try clear hk)
             (try clear hi)
             (try clear ho0)
             refine hK.out _ _ ⟨(blk_cell BK310.out 0).trans rfl, (blk_cell BK310.out 1).trans rfl⟩ (fun hHeld => ?_)
             clear hK K
             refine norm_ (a' := ?_) ?_ ?_
             rotate_left
             ·
              show Act.put _ (some 121) _ = _
              simp only [Act.put, List.setIfInBounds_toArray, List.set_cons_zero, List.set_cons_succ, i64_w, i32_w]
              rfl
             refine pure_ (i := 9) (N := some 112) (v := ?_) (a' := ?_) #[true, true, true, true, true, true, true, true, true, true, false, false, false, false] rfl rfl (any_of HT_.out (by kernel_rfl)) (fun _ _ _ h => h) (Or.inl ⟨by rfl, ?_⟩) ?_ ?_
             rotate_left
             ·
              intro w'
              go_simp
              with_reducible rfl
             rotate_left
             ·
              simp only [Act.put, List.setIfInBounds_toArray, List.set_cons_zero, List.set_cons_succ, i64_w, i32_w]
              rfl
             refine pure_ (i := 10) (N := some 122) (v := ?_) (a' := ?_) #[true, true, true, true, true, true, true, true, true, true, true, false, false, false] rfl rfl (any_of HT_.out (by kernel_rfl)) (fun _ _ _ h => h) (Or.inl ⟨by rfl, ?_⟩) ?_ ?_
             rotate_left
             ·
              intro w'
              go_simp
              with_reducible rfl
             rotate_left
             ·
              simp only [Act.put, List.setIfInBounds_toArray, List.set_cons_zero, List.set_cons_succ, i64_w, i32_w]
              rfl
             refine pure_ (i := 11) (N := some 123) (v := ?_) (a' := ?_) #[true, true, true, true, true, true, true, true, true, true, true, true, false, false] rfl rfl (any_of HT_.out (by kernel_rfl)) (fun _ _ _ h => h) (Or.inl ⟨by rfl, ?_⟩) ?_ ?_
             rotate_left
             ·
              intro w'
              go_simp
              with_reducible rfl
             rotate_left
             ·
              simp only [Act.put, List.setIfInBounds_toArray, List.set_cons_zero, List.set_cons_succ, i64_w, i32_w]
              rfl
             refine pure_ (i := 12) (N := some 21) (v := ?_) (a' := ?_) #[true, true, true, true, true, true, true, true, true, true, true, true, true, false] rfl rfl (any_of HT_.out (by kernel_rfl)) (fun _ _ _ h => h) (Or.inl ⟨by rfl, ?_⟩) ?_ ?_
             rotate_left
             ·
              intro w'
              go_simp
              with_reducible rfl
             rotate_left
             ·
              simp only [Act.put, List.setIfInBounds_toArray, List.set_cons_zero, List.set_cons_succ, i64_w, i32_w]
              rfl
             refine pure_ (i := 13) (N := some 22) (v := ?_) (a' := ?_) #[true, true, true, true, true, true, true, true, true, true, true, true, true, true] rfl rfl (any_of HT_.out (by kernel_rfl)) (fun _ _ _ h => h) (Or.inl ⟨by rfl, ?_⟩) ?_ ?_
             rotate_left
             ·
              intro w'
              go_simp
              with_reducible rfl
             rotate_left
             ·
              simp only [Act.put, List.setIfInBounds_toArray, List.set_cons_zero, List.set_cons_succ, i64_w, i32_w]
              rfl
             refine done_ (done_of HT_.out (by kernel_rfl)) ?_
             have hnb80 := NB288_272.out; have hnc80 := NB272_288.out; have hnb81 := NB288_304.out; have hnc81 := NB304_288.out; have hnb82 := NB288_310.out; have hnc82 := NB310_288.out; have hcz83_0 := sq_d0 BK288; have hcz83_1 := sq_d1 BK288; have hfz83_0 := blk_frozen BK288.out 0; have hfz83_1 := blk_frozen BK288.out 1
             obtain ⟨Ao84, co84, eo84⟩ := Kd.S_slice HO_17.out
             subst eo84
             try go_wp2_with (first | ((with_reducible refine gate_callee (f := 13) rfl ?_); refine goesL_ (some 130) rfl rfl Try.func13 (by kernel_rfl) rfl #[.int .i64 t283, .int .i64 4, .int .i64 (Go.bits .and .i64 (wrap64 ((Go.bits .and .i64 a1 3) + 1)) 3), .agg #[.int .i64 (((a2_0) % 4294967296) / 4), .slice (some ad300) y285.length co28], .slice Ao84 t294.length co84] rfl (by (try simp only [List.map_toArray, List.map_cons, List.map_nil]); first | done | rfl | (simp only [List.length_drop, List.length_take]; rfl)) ?_; (with_reducible refine (audit_Check.calls kj21 t283 4 (Go.bits .and .i64 (wrap64 ((Go.bits .and .i64 a1 3) + 1)) 3) (((a2_0) % 4294967296) / 4) _ _ y285 _ _ t294 false _ ?side1 ?side2 ?side3 ?side4 A48.out).mono ?_); (case side1 => repeat (first | exact (Kd.R_reads' HO_289001.out).2.2 | (with_reducible refine Kd.C_alloc ?_ _) | (with_reducible refine Kd.C_drewN ?_ _) | (with_reducible refine Kd.C_drew ?_))); (case side2 => exact (Kd.R_reads' HO_289001.out).2.1); (case side3 => repeat (first | exact (Kd.S_reads' HO_17.out).2.2 | (with_reducible refine Kd.C_alloc ?_ _) | (with_reducible refine Kd.C_drewN ?_ _) | (with_reducible refine Kd.C_drew ?_))); (case side4 => exact (Kd.S_reads' HO_17.out).2.1); rintro e w85 ⟨rfl, hb⟩; refine ⟨_, rfl, ?_⟩; (try replace hb := sq_un hb); have n0_ := sq_rb hb HO_15; have n1_ := Aside0.mk (Kd.S_below (by (with_reducible repeat (first | apply Kd.S_alloc | apply Kd.S_drewN | apply Kd.S_drew)); exact HO_17.out) hb); have n2_ := sq_rb hb HO_289001; have n3_ := sq_rb hb HO303; have n4_ := sq_rb hb HO309; have n5_ := Aside0.mk (Kd.S_below (by (with_reducible repeat (first | apply Kd.S_alloc | apply Kd.S_drewN | apply Kd.S_drew)); exact HO314.out) hb); have n6_ := sq_bk hb BK272; have n7_ := sq_bk hb BK288; have n8_ := sq_bk hb BK304; have n9_ := sq_bk hb BK310; have n10_ := sq_st hb HB; clear HO_15 HO_17 HO_289001 HO303 HO309 HO314 BK272 BK288 BK304 BK310 HB; have HO_15 := n0_; have HO_17 := n1_; have HO_289001 := n2_; have HO303 := n3_; have HO309 := n4_; have HO314 := n5_; have BK272 := n6_; have BK288 := n7_; have BK304 := n8_; have BK310 := n9_; have HB := n10_; clear n0_ n1_ n2_ n3_ n4_ n5_ n6_ n7_ n8_ n9_ n10_; (try clear hb); (try clear hb2); (try clear hk); (try clear hi); have hnb86 := NB304_272.out; have hnc86 := NB272_304.out; have hnb87 := NB304_310.out; have hnc87 := NB310_304.out; have hcz88_0 := sq_d0 BK304; have hcz88_1 := sq_d1 BK304; have hfz88_0 := blk_frozen BK304.out 0; have hfz88_1 := blk_frozen BK304.out 1) | (go_at_call 13; (with_reducible refine (audit_Check.calls kj21 t283 4 (Go.bits .and .i64 a1 3) (((a2_0) % 4294967296) / 4) _ _ y301 _ _ t294 false _ ?side1 ?side2 ?side3 ?side4 A50.out).mono ?_); (case side1 => repeat (first | exact (Kd.R_reads' HO303.out).2.2 | (with_reducible refine Kd.C_alloc ?_ _) | (with_reducible refine Kd.C_drewN ?_ _) | (with_reducible refine Kd.C_drew ?_))); (case side2 => exact (Kd.R_reads' HO303.out).2.1); (case side3 => repeat (first | exact (Kd.S_reads' HO_17.out).2.2 | (with_reducible refine Kd.C_alloc ?_ _) | (with_reducible refine Kd.C_drewN ?_ _) | (with_reducible refine Kd.C_drew ?_))); (case side4 => exact (Kd.S_reads' HO_17.out).2.1); rintro e w89 ⟨rfl, hb⟩; (try replace hb := sq_un hb); have n0_ := sq_rb hb HO_15; have n1_ := Aside0.mk (Kd.S_below (by (with_reducible repeat (first | apply Kd.S_alloc | apply Kd.S_drewN | apply Kd.S_drew)); exact HO_17.out) hb); have n2_ := sq_rb hb HO_289001; have n3_ := sq_rb hb HO303; have n4_ := sq_rb hb HO309; have n5_ := Aside0.mk (Kd.S_below (by (with_reducible repeat (first | apply Kd.S_alloc | apply Kd.S_drewN | apply Kd.S_drew)); exact HO314.out) hb); have n6_ := sq_bk hb BK272; have n7_ := sq_bk hb BK288; have n8_ := sq_bk hb BK304; have n9_ := sq_bk hb BK310; have n10_ := sq_st hb HB; clear HO_15 HO_17 HO_289001 HO303 HO309 HO314 BK272 BK288 BK304 BK310 HB; have HO_15 := n0_; have HO_17 := n1_; have HO_289001 := n2_; have HO303 := n3_; have HO309 := n4_; have HO314 := n5_; have BK272 := n6_; have BK288 := n7_; have BK304 := n8_; have BK310 := n9_; have HB := n10_; clear n0_ n1_ n2_ n3_ n4_ n5_ n6_ n7_ n8_ n9_ n10_; (try clear hb); (try clear hb2); (try clear hk); (try clear hi); have hnb90 := NB310_272.out; have hnc90 := NB272_310.out; have hcz91_0 := sq_d0 BK310; have hcz91_1 := sq_d1 BK310; have hfz91_0 := blk_frozen BK310.out 0; have hfz91_1 := blk_frozen BK310.out 1) | (go_at_call 13; (with_reducible refine (audit_Check.calls kj21 t283 4 (Go.bits .and .i64 a1 3) (((a2_0) % 4294967296) / 4) _ _ y307 _ _ t294 false _ ?side1 ?side2 ?side3 ?side4 A52.out).mono ?_); (case side1 => repeat (first | exact (Kd.R_reads' HO309.out).2.2 | (with_reducible refine Kd.C_alloc ?_ _) | (with_reducible refine Kd.C_drewN ?_ _) | (with_reducible refine Kd.C_drew ?_))); (case side2 => exact (Kd.R_reads' HO309.out).2.1); (case side3 => repeat (first | exact (Kd.S_reads' HO_17.out).2.2 | (with_reducible refine Kd.C_alloc ?_ _) | (with_reducible refine Kd.C_drewN ?_ _) | (with_reducible refine Kd.C_drew ?_))); (case side4 => exact (Kd.S_reads' HO_17.out).2.1); rintro e w92 ⟨rfl, hb⟩; (try replace hb := sq_un hb); have n0_ := sq_rb hb HO_15; have n1_ := Aside0.mk (Kd.S_below (by (with_reducible repeat (first | apply Kd.S_alloc | apply Kd.S_drewN | apply Kd.S_drew)); exact HO_17.out) hb); have n2_ := sq_rb hb HO_289001; have n3_ := sq_rb hb HO303; have n4_ := sq_rb hb HO309; have n5_ := Aside0.mk (Kd.S_below (by (with_reducible repeat (first | apply Kd.S_alloc | apply Kd.S_drewN | apply Kd.S_drew)); exact HO314.out) hb); have n6_ := sq_bk hb BK272; have n7_ := sq_bk hb BK288; have n8_ := sq_bk hb BK304; have n9_ := sq_bk hb BK310; have n10_ := sq_st hb HB; clear HO_15 HO_17 HO_289001 HO303 HO309 HO314 BK272 BK288 BK304 BK310 HB; have HO_15 := n0_; have HO_17 := n1_; have HO_289001 := n2_; have HO303 := n3_; have HO309 := n4_; have HO314 := n5_; have BK272 := n6_; have BK288 := n7_; have BK304 := n8_; have BK310 := n9_; have HB := n10_; clear n0_ n1_ n2_ n3_ n4_ n5_ n6_ n7_ n8_ n9_ n10_; (try clear hb); (try clear hb2); (try clear hk); (try clear hi)) | (go_at_call 12; (with_reducible refine (ossuarylaw0_Num.calls t315 t319 _ A54.out).mono ?_); rintro e w' ⟨rfl, ⟨nd, rfl⟩⟩; have hcz93_0 := sq_d0 BK310; have hcz93_1 := sq_d1 BK310; have hfz93_0 := blk_frozen BK310.out 0; have hfz93_1 := blk_frozen BK310.out 1; obtain ⟨Ao94, co94, eo94⟩ := Kd.S_slice HO314.out; subst eo94) | (go_at_call 13; (with_reducible refine (audit_Check.calls kj21 t283 4 (Go.bits .and .i64 a1 3) (((a2_0) % 4294967296) / 4) _ _ y307 _ _ t312 t320 _ ?side1 ?side2 ?side3 ?side4 A56.out).mono ?_); (case side1 => repeat (first | exact (Kd.R_reads' HO309.out).2.2 | (with_reducible refine Kd.C_alloc ?_ _) | (with_reducible refine Kd.C_drewN ?_ _) | (with_reducible refine Kd.C_drew ?_))); (case side2 => exact (Kd.R_reads' HO309.out).2.1); (case side3 => repeat (first | exact (Kd.S_reads' HO314.out).2.2 | (with_reducible refine Kd.C_alloc ?_ _) | (with_reducible refine Kd.C_drewN ?_ _) | (with_reducible refine Kd.C_drew ?_))); (case side4 => exact (Kd.S_reads' HO314.out).2.1); rintro e w95 ⟨rfl, hb⟩; (try replace hb := sq_un hb); have n0_ := sq_rb hb HO_15; have n1_ := Aside0.mk (Kd.S_below (by (with_reducible repeat (first | apply Kd.S_alloc | apply Kd.S_drewN | apply Kd.S_drew)); exact HO_17.out) hb); have n2_ := sq_rb hb HO_289001; have n3_ := sq_rb hb HO303; have n4_ := sq_rb hb HO309; have n5_ := Aside0.mk (Kd.S_below (by (with_reducible repeat (first | apply Kd.S_alloc | apply Kd.S_drewN | apply Kd.S_drew)); exact HO314.out) hb); have n6_ := sq_bk hb BK272; have n7_ := sq_bk hb BK288; have n8_ := sq_bk hb BK304; have n9_ := sq_bk hb BK310; have n10_ := sq_st hb HB; clear HO_15 HO_17 HO_289001 HO303 HO309 HO314 BK272 BK288 BK304 BK310 HB; have HO_15 := n0_; have HO_17 := n1_; have HO_289001 := n2_; have HO303 := n3_; have HO309 := n4_; have HO314 := n5_; have BK272 := n6_; have BK288 := n7_; have BK304 := n8_; have BK310 := n9_; have HB := n10_; clear n0_ n1_ n2_ n3_ n4_ n5_ n6_ n7_ n8_ n9_ n10_; (try clear hb); (try clear hb2); (try clear hk); (try clear hi)))
             go_ret
             exact ⟨by first | rfl | (simp [errW_none, errW_some] <;> rfl) | (simp [*, errW_none, errW_some] <;> rfl), by repeat (first | (with_reducible first | exact HB.out | apply below_alloc | apply pw_below_drewN | apply below_drew1 | refine below_set ?_ GE272.out | refine below_set ?_ GE288.out | refine below_set ?_ GE304.out | refine below_set ?_ GE310.out) | exact HB.out)⟩
            ·
             rw [if_neg c55] at H
             have c55b0 : (t319 == 0) = false := beq_eq_false_iff_ne.mpr c55; have c55b1 : (t319 != 0) = true := bne_iff_ne.mpr c55
             exact absurd (Option.some.inj H) (by rw [HRT.out]; decide)
        ·
         rw [if_neg c45] at H
         exact absurd H (by simp)
 ·
  replace c5 := Bool.eq_false_iff.mpr c5
  subst c5
  have H1 : (some false) = some r := by rw [if_neg (show ¬ (false = true) by decide)] at H; exact H
  clear H
  have H := H1
  clear H1
  exact absurd (Option.some.inj H) (by rw [HRT.out]; decide)

end Go.Proofs.Ytgolnkankkegdaa.HAuditMoved
