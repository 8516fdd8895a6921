/- Lean functions for the Go functions that the law reaches, and proofs that the calls come to them: written by a program of this session. -/
import Derived.Test.YtgolnkankkegdaaHAuditMovedx0
import Derived.Test.YtgolnkankkegdaaHAuditMovedx1
import Derived.Test.YtgolnkankkegdaaHAuditMovedx2
namespace Go.Proofs.Ytgolnkankkegdaa.HAuditMoved
open Go.RowKit Go.Proofs.YtgolnkankkegdaaW.PrintWords Go.Proofs.YtgolnkankkegdaaW.PrintLast Go.Proofs.YtgolnkankkegdaaW.PrintMore
attribute [local go_sem] max2_int min2_int max_two min_two max_three min_three max_four min_four   -- for this text's walks alone
set_option linter.unusedVariables false
set_option linter.unusedSimpArgs false

/-! ### audit_Respond: function 9 -/
def audit_Respond.l0 : Nat → ByteArray → List Int → List Int → List (S49) → List Int → Int → Int → Int → List Int → Option ((List (S49)) × Int)
  | 0, _, _, _, _, _, _, _, _, _ => none
  | k + 1, x0, x1, x9, x10, x29, x30, x31, x146000, x146001 => if x31 < x30 then (if 0 ≤ x31 then (if x31 < (x29.length : Int) then ((proof_Path.f k x9 (rd x29 x31)).bind fun bt151 => (if 0 ≤ (wrap64 ((rd x29 x31) * 8)) then (if (wrap64 ((rd x29 x31) * 8)) ≤ (wrap64 ((wrap64 ((rd x29 x31) + 1)) * 8)) then (if (wrap64 ((wrap64 ((rd x29 x31) + 1)) * 8)) ≤ (x0.size : Int) then (if bt151.1.length + x1.length < 17592186044416 then ((audit_keyed.f k x146000 (x0.extract ((wrap64 ((rd x29 x31) * 8)) : Int).toNat ((wrap64 ((wrap64 ((rd x29 x31) + 1)) * 8)) : Int).toNat)).bind fun t158 => (if x10.length < 2932031007402 then (audit_Respond.l0 k x0 x1 x9 (x10 ++ [(⟨x0.extract ((wrap64 ((rd x29 x31) * 8)) : Int).toNat ((wrap64 ((wrap64 ((rd x29 x31) + 1)) * 8)) : Int).toNat, (bt151.1 ++ x1), t158⟩ : S49)]) x29 x30 (wrap64 (x31 + 1)) x146000 x146001) else (none))) else (none)) else (none)) else (none)) else (none))) else (none)) else (none)) else (some (x10, 0))
def audit_Respond.f (k : Nat) (a0 : ByteArray) (l1 : List Int) (a2_0 : Int) (l2_1 : List Int) : Option ((List (S49)) × Int) := (audit_form.f k a0 l1 a2_0 l2_1).bind fun t146 => (if t146 = true then (some (([] : List (S49)), 1200)) else ((tree_Leaves.f k a0).bind fun t147 => (audit_Respond.l0 k a0 l1 t147 ([] : List (S49)) l2_1 (l2_1.length : Int) 0 a2_0 l2_1)))
theorem audit_Respond.mono_l : ∀ k, (∀ y0 y1 y2 y3 y4 y5 y6 y7 y8, LeO (audit_Respond.l0 k y0 y1 y2 y3 y4 y5 y6 y7 y8) (audit_Respond.l0 (k + 1) y0 y1 y2 y3 y4 y5 y6 y7 y8))
 | 0 => fun _ _ _ _ _ _ _ _ _ r h => by simp [audit_Respond.l0] at h
 | k + 1 => by
  have ih0 := audit_Respond.mono_l k
  ·
   intro y0 y1 y2 y3 y4 y5 y6 y7 y8
   unfold audit_Respond.l0
   repeat' first
   | (with_reducible exact ih0 _ _ _ _ _ _ _ _ _)
   | (with_reducible exact audit_form.mono _ _ _ _ _)
   | (with_reducible exact audit_keyed.mono _ _ _)
   | (with_reducible exact proof_Path.mono _ _ _)
   | (with_reducible exact tree_Leaves.mono _ _)
   | (with_reducible exact LeO.refl _)
   | (with_reducible exact LeO.none _)
   | (with_reducible refine LeO.ite ?_ ?_)
   | (with_reducible refine LeO.bind ?_ (fun _ => ?_))
   | exact ih0 _ _ _ _ _ _ _ _ _
   | exact audit_form.mono _ _ _ _ _
   | exact audit_keyed.mono _ _ _
   | exact proof_Path.mono _ _ _
   | exact tree_Leaves.mono _ _
   | exact LeO.none _
   | refine LeO.ite ?_ ?_
   | refine LeO.bind ?_ (fun _ => ?_)
theorem audit_Respond.mono : ∀ a0 a1 a2 a3 k, LeO (audit_Respond.f k a0 a1 a2 a3) (audit_Respond.f (k + 1) a0 a1 a2 a3) := by
 intro a0 a1 a2 a3 k
 have ih0 := audit_Respond.mono_l k
 unfold audit_Respond.f
 repeat' first
   | (with_reducible exact ih0 _ _ _ _ _ _ _ _ _)
   | (with_reducible exact audit_form.mono _ _ _ _ _)
   | (with_reducible exact audit_keyed.mono _ _ _)
   | (with_reducible exact proof_Path.mono _ _ _)
   | (with_reducible exact tree_Leaves.mono _ _)
   | (with_reducible exact LeO.refl _)
   | (with_reducible exact LeO.none _)
   | (with_reducible refine LeO.ite ?_ ?_)
   | (with_reducible refine LeO.bind ?_ (fun _ => ?_))
   | exact ih0 _ _ _ _ _ _ _ _ _
   | exact audit_form.mono _ _ _ _ _
   | exact audit_keyed.mono _ _ _
   | exact proof_Path.mono _ _ _
   | exact tree_Leaves.mono _ _
   | exact LeO.none _
   | refine LeO.ite ?_ ?_
   | refine LeO.bind ?_ (fun _ => ?_)
def audit_Respond.T11 : Bool × List (List Nat × List Nat) := (true, [([], []), ([], []), ([], []), ([], []), ([2, 3], [2, 3]), ([], []), ([5], [5]), ([], []), ([6, 7, 4], [6, 7]), ([1, 4, 8], [1, 4, 8]), ([9], [9]), ([0, 10, 8], [0, 10]), ([11, 11, 0, 1, 2, 3, 4, 5, 6, 7, 8, 9, 10, 11], [0, 11])])
def audit_Respond.B11 : List Nat := [0, 0, 0, 0, 12, 0, 32, 0, 252, 510, 1022, 2047, 4095]
theorem audit_Respond.tab11 : rtab .any (opsOf Try.f9 11) = audit_Respond.T11 := by kernel_rfl
theorem audit_Respond.bits11 : waitsOk audit_Respond.T11.2 audit_Respond.B11 = true := by kernel_rfl
def audit_Respond.T1 : Bool × List (List Nat × List Nat) := (true, [([], []), ([], []), ([0, 1], [0, 1]), ([], []), ([3, 2], [3]), ([2, 4], [2, 4]), ([5, 4], [5]), ([6, 6, 0, 1, 2, 3, 4, 5, 6], [6])])
def audit_Respond.B1 : List Nat := [0, 0, 3, 0, 15, 31, 63, 127]
theorem audit_Respond.tab1 : rtab .any (opsOf Try.f9 1) = audit_Respond.T1 := by kernel_rfl
theorem audit_Respond.bits1 : waitsOk audit_Respond.T1.2 audit_Respond.B1 = true := by kernel_rfl
set_option maxHeartbeats 8000000 in
set_option maxRecDepth 100000 in
theorem audit_Respond.calls (k : Nat) (a0 : ByteArray) (A1 : Option Addr) (c1 : Nat) (l1 : List Int) (a2_0 : Int) (A2_1 : Option Addr) (c2_1 : Nat) (l2_1 : List Int) (r1 : List (S49)) (r2 : Int) (w : World) (hr1 : Kd.C (Kd.int .i64) w A1 l1.length l1) (hc1 : l1.length ≤ c1) (hr2_1 : Kd.C (Kd.int .i64) w A2_1 l2_1.length l2_1) (hc2_1 : l2_1.length ≤ c2_1) (h : audit_Respond.f k a0 l1 a2_0 l2_1 = some (r1, r2)) :
  Calls Try.prog 9 #[.string a0, .slice A1 l1.length c1, .agg #[.int .i64 a2_0, .slice A2_1 l2_1.length c2_1]] w fun e w' => ∃ v0_ : Value, e = .returned (.tuple #[v0_, .int .i64 r2]) ∧ Kd.S k49 49 w' w.heap.size (fun _ => True) v0_ r1 ∧ Below w.heap.size w w' := by
 have hu24 := Try.underlying24
 have hu49 := Try.underlying49
 have HR1 := Aside0.mk hr1; have HC1 := Aside0.mk hc1; clear hr1 hc1; have HR2_1 := Aside0.mk hr2_1; have HC2_1 := Aside0.mk hc2_1; clear hr2_1 hc2_1
 have HB := Aside0.mk (Below.refl w.heap.size w)
 have H : ((audit_form.f k a0 l1 a2_0 l2_1).bind fun t146 => (if t146 = true then (some (([] : List (S49)), 1200)) else ((tree_Leaves.f k a0).bind fun t147 => (audit_Respond.l0 k a0 l1 t147 ([] : List (S49)) l2_1 (l2_1.length : Int) 0 a2_0 l2_1)))) = some (r1, r2) := h
 clear h; replace H := Option.bind_eq_some_iff.mp H; obtain ⟨t146, A40, H⟩ := H
 replace H : (if t146 = true then (some (([] : List (S49)), 1200)) else ((tree_Leaves.f k a0).bind fun t147 => (audit_Respond.l0 k a0 l1 t147 ([] : List (S49)) l2_1 (l2_1.length : Int) 0 a2_0 l2_1))) = some (r1, r2) := H
 have A4 := Aside0.mk A40; clear A40
 by_cases c5 : t146 = true
 ·
  subst c5
  have H1 : (some (([] : List (S49)), 1200)) = some (r1, r2) := by rw [if_pos rfl] at H; exact H
  clear H
  have H := H1
  clear H1
  simp only [Option.some.injEq, Prod.mk.injEq] at H
  obtain ⟨rfl, rfl⟩ := H
  go_enter Try.func9, Try.ntmps9
  go_wp2_with (first | ((with_reducible refine gate_dst (N := 5) rfl ?_); refine box_event ?hg (N := 5) ?hd (cs := #[.int .i64 a2_0, .slice A2_1 l2_1.length c2_1]) (t := 24) ?hr ?_; (case hd => rfl); (case hg => rfl); (case hr => first | (go_simp; done) | (go_simp; rfl)); intro gb145 hg w6 hbox hb; (try replace hb := sq_un hb); have n0_ := sq_st hb HB; have n1_ := Aside0.mk (hbox); have n2_ := sq_sz HB hg; have n3_ := sq_sz HB hg; clear HB; have HB := n0_; have BK145 := n1_; have GW145 := n2_; have GE145 := n3_; clear n0_ n1_ n2_ n3_; clear hb hbox hg; have hcz7_0 := sq_d0 BK145; have hcz7_1 := sq_d1 BK145; have hfz7_0 := blk_frozen BK145.out 0; have hfz7_1 := blk_frozen BK145.out 1))
  try go_wp2
  obtain ⟨tH, hH, hF_⟩ := Option.bind_eq_some_iff.mp A4.out
  obtain ⟨tM, hM, hF_⟩ := Option.bind_eq_some_iff.mp hF_
  have HHAS := Aside0.mk hH; have HMAY := Aside0.mk hM
  have HTT := Aside0.mk (Option.some.inj hF_)
  clear hH hM hF_; have n0_ := Aside0.mk (blk_drew BK145.out); have n1_ := Aside0.mk (below_drew1 HB.out); clear BK145 HB; have BK145 := n0_; have HB := n1_; clear n0_ n1_
  refine start_ (n := 8) (S := fun w' => w'.cell? ⟨gb145, 0, none⟩ = some (.int .i64 a2_0) ∧ w'.cell? ⟨gb145, 1, none⟩ = some (.slice A2_1 l2_1.length c2_1)) (ds := []) #[false, false, false, false, false, false, false, false] (by kernel_rfl) rfl rfl ⟨(blk_cell BK145.out 0).trans rfl, (blk_cell BK145.out 1).trans rfl⟩ (fun hHeld => ?_); refine with_tabW audit_Respond.tab1 audit_Respond.bits1 (fun HT_ HW_ => ?_)
  generalize w6.drew = w901 at BK145 HB hHeld ⊢
  refine pure_ (i := 0) (N := some 16) (v := ?_) (a' := ?_) #[true, false, false, false, false, false, false, false] rfl rfl (any_of HT_.out (by kernel_rfl)) (fun _ _ _ h => h) (Or.inl ⟨by rfl, ?_⟩) ?_ ?_
  rotate_left
  ·
   intro w'
   go_simp
   with_reducible rfl
  rotate_left
  ·
   simp only [Act.put, List.setIfInBounds_toArray, List.set_cons_zero, List.set_cons_succ, i64_w, i32_w]
   rfl
  refine pure_ (i := 1) (N := some 17) (v := ?_) (a' := ?_) #[true, true, false, false, false, false, false, false] rfl rfl (any_of HT_.out (by kernel_rfl)) (fun _ _ _ h => h) (Or.inl ⟨by rfl, ?_⟩) ?_ ?_
  rotate_left
  ·
   intro w'
   go_simp
   with_reducible rfl
  rotate_left
  ·
   simp only [Act.put, List.setIfInBounds_toArray, List.set_cons_zero, List.set_cons_succ, i64_w, i32_w]
   rfl
  refine take_ (i := 3) (N := some 19) (v := ?_) (a' := ?_) #[true, true, false, true, false, false, false, false] rfl rfl (take_ofW HT_.out HW_.out (by kernel_rfl)) (fun _ _ _ h => h) (Or.inl ⟨by rfl, ?_⟩) hHeld ?_ ?_
  rotate_left
  ·
   rintro w' ⟨s0, s1⟩
   go_simp
   with_reducible rfl
  rotate_left
  ·
   simp only [Act.put, List.setIfInBounds_toArray, List.set_cons_zero, List.set_cons_succ, i64_w, i32_w]
   rfl
  refine one_ (i := 2) (N := some 18) #[true, true, true, true, false, false, false, false] rfl rfl (one_of HT_.out (by kernel_rfl)) (by decide) (fun K hK => ?_)
  refine goes_ Try.func26 (by kernel_rfl) rfl #[.string a0, .slice A1 l1.length c1] (by rfl) rfl rfl (by (try simp only [List.map_toArray, List.map_cons, List.map_nil]); first | done | rfl) ?_
  with_reducible refine (audit_has.calls k a0 _ _ l1 tH _ ?side1 ?side2 HHAS.out).mono ?_
  (case side1 => repeat (first | exact (Kd.C_below HR1.out HB.out) | (with_reducible refine Kd.C_alloc ?_ _) | (with_reducible refine Kd.C_drewN ?_ _) | (with_reducible refine Kd.C_drew ?_)))
  (case side2 => exact HC1.out)
  rintro e w902 ⟨vH, rfl, hFH, hb⟩
  have HFH := Aside0.mk hFH; clear hFH
  refine ⟨_, rfl, ?_⟩
  have n0_ := Aside0.mk (blk_below (g := gb145) (o := .cells #[.int .i64 a2_0, .slice A2_1 l2_1.length c2_1] 24 (0, 0)) (by (with_reducible repeat (first | refine blk_drewN ?_ _ | refine blk_drew ?_ | refine blk_alloc ?_ _)); exact BK145.out) hb)
  (try replace hb := sq_un hb); have n1_ := sq_st hb HB; clear BK145 HB; have BK145 := n0_; have HB := n1_; clear n0_ n1_ hb
  refine hK.out _ _ ⟨(blk_cell BK145.out 0).trans rfl, (blk_cell BK145.out 1).trans rfl⟩ (fun hHeld => ?_)
  clear hK K
  refine norm_ (a' := ?_) ?_ ?_
  rotate_left
  ·
   show Act.put _ (some 18) _ = _
   simp only [Act.put, List.setIfInBounds_toArray, List.set_cons_zero, List.set_cons_succ, i64_w, i32_w]
   rfl
  refine one_ (i := 4) (N := some 20) #[true, true, true, true, true, false, false, false] rfl rfl (one_of HT_.out (by kernel_rfl)) (by decide) (fun K hK => ?_)
  refine goes_ Try.func27 (by kernel_rfl) rfl #[.agg #[.int .i64 a2_0, .slice A2_1 l2_1.length c2_1]] (by rfl) rfl rfl (by (try simp only [List.map_toArray, List.map_cons, List.map_nil]); first | done | rfl) ?_
  with_reducible refine (audit_may.calls a2_0 _ _ l2_1 tM _ ?side1 ?side2 HMAY.out).mono ?_
  (case side1 => repeat (first | exact (Kd.C_below HR2_1.out HB.out) | (with_reducible refine Kd.C_alloc ?_ _) | (with_reducible refine Kd.C_drewN ?_ _) | (with_reducible refine Kd.C_drew ?_)))
  (case side2 => exact HC2_1.out)
  rintro e w903 ⟨vM, rfl, hFM, hb⟩
  have HFM := Aside0.mk hFM; have n2_ := Aside0.mk (Go.Proofs.YtgolnkankkegdaaErr.Fault.below HFH.out hb); clear hFM HFH; have HFH := n2_; clear n2_
  refine ⟨_, rfl, ?_⟩
  have n0_ := Aside0.mk (blk_below (g := gb145) (o := .cells #[.int .i64 a2_0, .slice A2_1 l2_1.length c2_1] 24 (0, 0)) (by (with_reducible repeat (first | refine blk_drewN ?_ _ | refine blk_drew ?_ | refine blk_alloc ?_ _)); exact BK145.out) hb)
  (try replace hb := sq_un hb); have n1_ := sq_st hb HB; clear BK145 HB; have BK145 := n0_; have HB := n1_; clear n0_ n1_ hb
  refine hK.out _ _ ⟨(blk_cell BK145.out 0).trans rfl, (blk_cell BK145.out 1).trans rfl⟩ (fun hHeld => ?_)
  clear hK K
  refine norm_ (a' := ?_) ?_ ?_
  rotate_left
  ·
   show Act.put _ (some 20) _ = _
   simp only [Act.put, List.setIfInBounds_toArray, List.set_cons_zero, List.set_cons_succ, i64_w, i32_w]
   rfl
  refine one_ (i := 5) (N := some 21) #[true, true, true, true, true, true, false, false] rfl rfl (one_of HT_.out (by kernel_rfl)) (by decide) (fun K hK => ?_)
  refine value_ (w1 := w903.alloc (.cells #[vH, vM] 58)) (v := .slice (some ⟨w903.heap.size, 0, none⟩) 2 2) (by rfl) rfl ?_ ?_
  ·
   have f1_ := Go.Proofs.YtgolnkankkegdaaErr.fault_form HFH.out
   have f2_ := Go.Proofs.YtgolnkankkegdaaErr.fault_form HFM.out
   rcases f1_ with rfl | ⟨gH, rfl⟩ <;> rcases f2_ with rfl | ⟨gM, rfl⟩ <;> (go_simp; try rfl)
  refine hK.out _ _ ⟨(blk_cell (blk_alloc BK145.out _) 0).trans rfl, (blk_cell (blk_alloc BK145.out _) 1).trans rfl⟩ (fun hHeld => ?_)
  clear hK K
  refine norm_ (a' := ?_) ?_ ?_
  rotate_left
  ·
   show Act.put _ (some 21) _ = _
   simp only [Act.put, List.setIfInBounds_toArray, List.set_cons_zero, List.set_cons_succ, i64_w, i32_w]
   rfl
  refine one_ (i := 6) (N := some 22) #[true, true, true, true, true, true, true, false] rfl rfl (one_of HT_.out (by kernel_rfl)) (by decide) (fun K hK => ?_)
  refine goes_ Try.func25 (by kernel_rfl) rfl #[.slice (some ⟨w903.heap.size, 0, none⟩) 2 2] (by rfl) rfl rfl (by (try simp only [List.map_toArray, List.map_cons, List.map_nil]); first | done | rfl) ?_
  with_reducible refine (Go.Proofs.YtgolnkankkegdaaErr.join_walk tH tM vH vM w903.heap.size _ ?side1 ?side2 ?side3 ?side4).mono ?_
  (case side1 => exact Go.Proofs.YtgolnkankkegdaaErr.Fault.below HFH.out (below_alloc (Below.refl _ _) _))
  (case side2 => exact Go.Proofs.YtgolnkankkegdaaErr.Fault.below HFM.out (below_alloc (Below.refl _ _) _))
  (case side3 => exact (blk_cell (blk_new w903 _) 0).trans rfl)
  (case side4 => exact (blk_cell (blk_new w903 _) 1).trans rfl)
  rintro e w904 ⟨vJ, rfl, hJ, hb⟩
  rw [HTT.out] at hJ
  have HJ := Aside0.mk hJ; clear hJ HFH HFM
  refine ⟨_, rfl, ?_⟩
  have n0_ := Aside0.mk (blk_below (blk_alloc BK145.out _) hb); have n1_ := Aside0.mk (below_step (below_alloc HB.out _) hb); clear BK145 HB; have BK145 := n0_; have HB := n1_; clear n0_ n1_ hb
  refine hK.out _ _ ⟨(blk_cell BK145.out 0).trans rfl, (blk_cell BK145.out 1).trans rfl⟩ (fun hHeld => ?_)
  clear hK K
  refine norm_ (a' := ?_) ?_ ?_
  rotate_left
  ·
   show Act.put _ (some 22) _ = _
   simp only [Act.put, List.setIfInBounds_toArray, List.set_cons_zero, List.set_cons_succ, i64_w, i32_w]
   rfl
  refine pure_ (i := 7) (N := some 8) (v := ?_) (a' := ?_) #[true, true, true, true, true, true, true, true] rfl rfl (any_of HT_.out (by kernel_rfl)) (fun _ _ _ h => h) (Or.inl ⟨by rfl, ?_⟩) ?_ ?_
  rotate_left
  ·
   intro w'
   go_simp
   with_reducible rfl
  rotate_left
  ·
   simp only [Act.put, List.setIfInBounds_toArray, List.set_cons_zero, List.set_cons_succ, i64_w, i32_w]
   rfl
  refine done_ (done_of HT_.out (by kernel_rfl)) ?_
  clear HHAS HMAY HTT hHeld; have hcz901_0 := sq_d0 BK145; have hcz901_1 := sq_d1 BK145; have hfz901_0 := blk_frozen BK145.out 0; have hfz901_1 := blk_frozen BK145.out 1
  go_wp2_with (first | (go_at_call 28; refine (Go.Proofs.YtgolnkankkegdaaErr.is_walk true vJ _ HJ.out).mono ?_; rintro e w' ⟨rfl, rfl⟩))
  (try clear hcz901_0 hcz901_1 hfz901_0 hfz901_1)
  (try clear HJ)
  go_ret2
  exact ⟨_, by first | rfl | (simp [errW_none, errW_some] <;> rfl) | (simp [*, errW_none, errW_some] <;> rfl), by first | exact Kd.S_nil _ _ _ _ _ | exact Kd.N_nil _ _ _ _ _ | exact Kd.V_nil _ _ _ _ _ | exact Kd.Q_nil _ _ _ _ _ | exact Kd.R_nil _ _ _ _ _, by repeat (first | (with_reducible first | exact HB.out | apply below_alloc | apply pw_below_drewN | apply below_drew1 | refine below_set ?_ GE145.out) | exact HB.out)⟩
 ·
  replace c5 := Bool.eq_false_iff.mpr c5
  subst c5
  have H1 : ((tree_Leaves.f k a0).bind fun t147 => (audit_Respond.l0 k a0 l1 t147 ([] : List (S49)) l2_1 (l2_1.length : Int) 0 a2_0 l2_1)) = some (r1, r2) := by rw [if_neg (show ¬ (false = true) by decide)] at H; exact H
  clear H
  have H := H1
  clear H1; replace H := Option.bind_eq_some_iff.mp H; obtain ⟨t147, A90, H⟩ := H
  replace H : (audit_Respond.l0 k a0 l1 t147 ([] : List (S49)) l2_1 (l2_1.length : Int) 0 a2_0 l2_1) = some (r1, r2) := H
  have A9 := Aside0.mk A90; clear A90
  have H' := Aside0.mk H
  clear H
  go_enter Try.func9, Try.ntmps9
  go_wp2_with (first | ((with_reducible refine gate_dst (N := 5) rfl ?_); refine box_event ?hg (N := 5) ?hd (cs := #[.int .i64 a2_0, .slice A2_1 l2_1.length c2_1]) (t := 24) ?hr ?_; (case hd => rfl); (case hg => rfl); (case hr => first | (go_simp; done) | (go_simp; rfl)); intro gb145 hg w10 hbox hb; (try replace hb := sq_un hb); have n0_ := sq_st hb HB; have n1_ := Aside0.mk (hbox); have n2_ := sq_sz HB hg; have n3_ := sq_sz HB hg; clear HB; have HB := n0_; have BK145 := n1_; have GW145 := n2_; have GE145 := n3_; clear n0_ n1_ n2_ n3_; clear hb hbox hg; have hcz11_0 := sq_d0 BK145; have hcz11_1 := sq_d1 BK145; have hfz11_0 := blk_frozen BK145.out 0; have hfz11_1 := blk_frozen BK145.out 1))
  try go_wp2
  obtain ⟨tH, hH, hF_⟩ := Option.bind_eq_some_iff.mp A4.out
  obtain ⟨tM, hM, hF_⟩ := Option.bind_eq_some_iff.mp hF_
  have HHAS := Aside0.mk hH; have HMAY := Aside0.mk hM
  have HTT := Aside0.mk (Option.some.inj hF_)
  clear hH hM hF_; have n0_ := Aside0.mk (blk_drew BK145.out); have n1_ := Aside0.mk (below_drew1 HB.out); clear BK145 HB; have BK145 := n0_; have HB := n1_; clear n0_ n1_
  refine start_ (n := 8) (S := fun w' => w'.cell? ⟨gb145, 0, none⟩ = some (.int .i64 a2_0) ∧ w'.cell? ⟨gb145, 1, none⟩ = some (.slice A2_1 l2_1.length c2_1)) (ds := []) #[false, false, false, false, false, false, false, false] (by kernel_rfl) rfl rfl ⟨(blk_cell BK145.out 0).trans rfl, (blk_cell BK145.out 1).trans rfl⟩ (fun hHeld => ?_); refine with_tabW audit_Respond.tab1 audit_Respond.bits1 (fun HT_ HW_ => ?_)
  generalize w10.drew = w901 at BK145 HB hHeld ⊢
  refine pure_ (i := 0) (N := some 16) (v := ?_) (a' := ?_) #[true, false, false, false, false, false, false, false] rfl rfl (any_of HT_.out (by kernel_rfl)) (fun _ _ _ h => h) (Or.inl ⟨by rfl, ?_⟩) ?_ ?_
  rotate_left
  ·
   intro w'
   go_simp
   with_reducible rfl
  rotate_left
  ·
   simp only [Act.put, List.setIfInBounds_toArray, List.set_cons_zero, List.set_cons_succ, i64_w, i32_w]
   rfl
  refine pure_ (i := 1) (N := some 17) (v := ?_) (a' := ?_) #[true, true, false, false, false, false, false, false] rfl rfl (any_of HT_.out (by kernel_rfl)) (fun _ _ _ h => h) (Or.inl ⟨by rfl, ?_⟩) ?_ ?_
  rotate_left
  ·
   intro w'
   go_simp
   with_reducible rfl
  rotate_left
  ·
   simp only [Act.put, List.setIfInBounds_toArray, List.set_cons_zero, List.set_cons_succ, i64_w, i32_w]
   rfl
  refine take_ (i := 3) (N := some 19) (v := ?_) (a' := ?_) #[true, true, false, true, false, false, false, false] rfl rfl (take_ofW HT_.out HW_.out (by kernel_rfl)) (fun _ _ _ h => h) (Or.inl ⟨by rfl, ?_⟩) hHeld ?_ ?_
  rotate_left
  ·
   rintro w' ⟨s0, s1⟩
   go_simp
   with_reducible rfl
  rotate_left
  ·
   simp only [Act.put, List.setIfInBounds_toArray, List.set_cons_zero, List.set_cons_succ, i64_w, i32_w]
   rfl
  refine one_ (i := 2) (N := some 18) #[true, true, true, true, false, false, false, false] rfl rfl (one_of HT_.out (by kernel_rfl)) (by decide) (fun K hK => ?_)
  refine goes_ Try.func26 (by kernel_rfl) rfl #[.string a0, .slice A1 l1.length c1] (by rfl) rfl rfl (by (try simp only [List.map_toArray, List.map_cons, List.map_nil]); first | done | rfl) ?_
  with_reducible refine (audit_has.calls k a0 _ _ l1 tH _ ?side1 ?side2 HHAS.out).mono ?_
  (case side1 => repeat (first | exact (Kd.C_below HR1.out HB.out) | (with_reducible refine Kd.C_alloc ?_ _) | (with_reducible refine Kd.C_drewN ?_ _) | (with_reducible refine Kd.C_drew ?_)))
  (case side2 => exact HC1.out)
  rintro e w902 ⟨vH, rfl, hFH, hb⟩
  have HFH := Aside0.mk hFH; clear hFH
  refine ⟨_, rfl, ?_⟩
  have n0_ := Aside0.mk (blk_below (g := gb145) (o := .cells #[.int .i64 a2_0, .slice A2_1 l2_1.length c2_1] 24 (0, 0)) (by (with_reducible repeat (first | refine blk_drewN ?_ _ | refine blk_drew ?_ | refine blk_alloc ?_ _)); exact BK145.out) hb)
  (try replace hb := sq_un hb); have n1_ := sq_st hb HB; clear BK145 HB; have BK145 := n0_; have HB := n1_; clear n0_ n1_ hb
  refine hK.out _ _ ⟨(blk_cell BK145.out 0).trans rfl, (blk_cell BK145.out 1).trans rfl⟩ (fun hHeld => ?_)
  clear hK K
  refine norm_ (a' := ?_) ?_ ?_
  rotate_left
  ·
   show Act.put _ (some 18) _ = _
   simp only [Act.put, List.setIfInBounds_toArray, List.set_cons_zero, List.set_cons_succ, i64_w, i32_w]
   rfl
  refine one_ (i := 4) (N := some 20) #[true, true, true, true, true, false, false, false] rfl rfl (one_of HT_.out (by kernel_rfl)) (by decide) (fun K hK => ?_)
  refine goes_ Try.func27 (by kernel_rfl) rfl #[.agg #[.int .i64 a2_0, .slice A2_1 l2_1.length c2_1]] (by rfl) rfl rfl (by (try simp only [List.map_toArray, List.map_cons, List.map_nil]); first | done | rfl) ?_
  with_reducible refine (audit_may.calls a2_0 _ _ l2_1 tM _ ?side1 ?side2 HMAY.out).mono ?_
  (case side1 => repeat (first | exact (Kd.C_below HR2_1.out HB.out) | (with_reducible refine Kd.C_alloc ?_ _) | (with_reducible refine Kd.C_drewN ?_ _) | (with_reducible refine Kd.C_drew ?_)))
  (case side2 => exact HC2_1.out)
  rintro e w903 ⟨vM, rfl, hFM, hb⟩
  have HFM := Aside0.mk hFM; have n2_ := Aside0.mk (Go.Proofs.YtgolnkankkegdaaErr.Fault.below HFH.out hb); clear hFM HFH; have HFH := n2_; clear n2_
  refine ⟨_, rfl, ?_⟩
  have n0_ := Aside0.mk (blk_below (g := gb145) (o := .cells #[.int .i64 a2_0, .slice A2_1 l2_1.length c2_1] 24 (0, 0)) (by (with_reducible repeat (first | refine blk_drewN ?_ _ | refine blk_drew ?_ | refine blk_alloc ?_ _)); exact BK145.out) hb)
  (try replace hb := sq_un hb); have n1_ := sq_st hb HB; clear BK145 HB; have BK145 := n0_; have HB := n1_; clear n0_ n1_ hb
  refine hK.out _ _ ⟨(blk_cell BK145.out 0).trans rfl, (blk_cell BK145.out 1).trans rfl⟩ (fun hHeld => ?_)
  clear hK K
  refine norm_ (a' := ?_) ?_ ?_
  rotate_left
  ·
   show Act.put _ (some 20) _ = _
   simp only [Act.put, List.setIfInBounds_toArray, List.set_cons_zero, List.set_cons_succ, i64_w, i32_w]
   rfl
  refine one_ (i := 5) (N := some 21) #[true, true, true, true, true, true, false, false] rfl rfl (one_of HT_.out (by kernel_rfl)) (by decide) (fun K hK => ?_)
  refine value_ (w1 := w903.alloc (.cells #[vH, vM] 58)) (v := .slice (some ⟨w903.heap.size, 0, none⟩) 2 2) (by rfl) rfl ?_ ?_
  ·
   have f1_ := Go.Proofs.YtgolnkankkegdaaErr.fault_form HFH.out
   have f2_ := Go.Proofs.YtgolnkankkegdaaErr.fault_form HFM.out
   rcases f1_ with rfl | ⟨gH, rfl⟩ <;> rcases f2_ with rfl | ⟨gM, rfl⟩ <;> (go_simp; try rfl)
  refine hK.out _ _ ⟨(blk_cell (blk_alloc BK145.out _) 0).trans rfl, (blk_cell (blk_alloc BK145.out _) 1).trans rfl⟩ (fun hHeld => ?_)
  clear hK K
  refine norm_ (a' := ?_) ?_ ?_
  rotate_left
  ·
   show Act.put _ (some 21) _ = _
   simp only [Act.put, List.setIfInBounds_toArray, List.set_cons_zero, List.set_cons_succ, i64_w, i32_w]
   rfl
  refine one_ (i := 6) (N := some 22) #[true, true, true, true, true, true, true, false] rfl rfl (one_of HT_.out (by kernel_rfl)) (by decide) (fun K hK => ?_)
  refine goes_ Try.func25 (by kernel_rfl) rfl #[.slice (some ⟨w903.heap.size, 0, none⟩) 2 2] (by rfl) rfl rfl (by (try simp only [List.map_toArray, List.map_cons, List.map_nil]); first | done | rfl) ?_
  with_reducible refine (Go.Proofs.YtgolnkankkegdaaErr.join_walk tH tM vH vM w903.heap.size _ ?side1 ?side2 ?side3 ?side4).mono ?_
  (case side1 => exact Go.Proofs.YtgolnkankkegdaaErr.Fault.below HFH.out (below_alloc (Below.refl _ _) _))
  (case side2 => exact Go.Proofs.YtgolnkankkegdaaErr.Fault.below HFM.out (below_alloc (Below.refl _ _) _))
  (case side3 => exact (blk_cell (blk_new w903 _) 0).trans rfl)
  (case side4 => exact (blk_cell (blk_new w903 _) 1).trans rfl)
  rintro e w904 ⟨vJ, rfl, hJ, hb⟩
  rw [HTT.out] at hJ
  have HJ := Aside0.mk hJ; clear hJ HFH HFM
  refine ⟨_, rfl, ?_⟩
  have n0_ := Aside0.mk (blk_below (blk_alloc BK145.out _) hb); have n1_ := Aside0.mk (below_step (below_alloc HB.out _) hb); clear BK145 HB; have BK145 := n0_; have HB := n1_; clear n0_ n1_ hb
  refine hK.out _ _ ⟨(blk_cell BK145.out 0).trans rfl, (blk_cell BK145.out 1).trans rfl⟩ (fun hHeld => ?_)
  clear hK K
  refine norm_ (a' := ?_) ?_ ?_
  rotate_left
  ·
   show Act.put _ (some 22) _ = _
   simp only [Act.put, List.setIfInBounds_toArray, List.set_cons_zero, List.set_cons_succ, i64_w, i32_w]
   rfl
  refine pure_ (i := 7) (N := some 8) (v := ?_) (a' := ?_) #[true, true, true, true, true, true, true, true] rfl rfl (any_of HT_.out (by kernel_rfl)) (fun _ _ _ h => h) (Or.inl ⟨by rfl, ?_⟩) ?_ ?_
  rotate_left
  ·
   intro w'
   go_simp
   with_reducible rfl
  rotate_left
  ·
   simp only [Act.put, List.setIfInBounds_toArray, List.set_cons_zero, List.set_cons_succ, i64_w, i32_w]
   rfl
  refine done_ (done_of HT_.out (by kernel_rfl)) ?_
  clear HHAS HMAY HTT hHeld; have hcz901_0 := sq_d0 BK145; have hcz901_1 := sq_d1 BK145; have hfz901_0 := blk_frozen BK145.out 0; have hfz901_1 := blk_frozen BK145.out 1
  go_wp2_with (first | (go_at_call 28; refine (Go.Proofs.YtgolnkankkegdaaErr.is_walk false vJ _ HJ.out).mono ?_; rintro e w' ⟨rfl, rfl⟩) | ((with_reducible refine gate_callee (f := 29) rfl ?_); refine goesL_ (some 27) rfl rfl Try.func29 (by kernel_rfl) rfl #[.string a0] rfl (by (try simp only [List.map_toArray, List.map_cons, List.map_nil]); first | done | rfl | (simp only [List.length_drop, List.length_take]; rfl)) ?_; (with_reducible refine (tree_Leaves.calls k a0 t147 _ A9.out).mono ?_); rintro e w13 ⟨v148, rfl, ho0, hb⟩; refine ⟨_, rfl, ?_⟩; (try replace hb := sq_un hb); have n0_ := Aside0.mk (Kd.R_lower ho0 (below_size (by repeat (first | (with_reducible first | exact HB.out | apply below_alloc | apply pw_below_drewN | apply below_drew1 | refine below_set ?_ GE145.out) | exact HB.out)))); have n1_ := sq_bk hb BK145; have n2_ := sq_st hb HB; clear BK145 HB; have HO149 := n0_; have BK145 := n1_; have HB := n2_; clear n0_ n1_ n2_; (try clear hb); (try clear hb2); (try clear hk); (try clear hi); (try clear ho0); have hcz14_0 := sq_d0 BK145; have hcz14_1 := sq_d1 BK145; have hfz14_0 := blk_frozen BK145.out 0; have hfz14_1 := blk_frozen BK145.out 1))
  (try clear hcz901_0 hcz901_1 hfz901_0 hfz901_1)
  (try clear HJ)
  go_loopg [10, 31] k (fun kq v10 v31 w' => ∃ (x10_1 : List (S49)) (x31_1 : Int), v31 = .int .i64 x31_1 ∧ Aside0 (audit_Respond.l0 kq a0 l1 t147 x10_1 l2_1 (l2_1.length : Int) x31_1 a2_0 l2_1 = some (r1, r2)) ∧ Aside0 (kq ≤ k) ∧ Aside0 (Kd.R (Kd.int .i64) 3 w' w.heap.size (fun _ => True) v148 t147) ∧ Aside0 (Kd.S k49 49 w' w.heap.size (fun k_ => some k_ ≠ (v148 : Value).ownBlock) v10 x10_1) ∧ Aside0 (w'.heap[gb145]? = some (.cells #[.int .i64 a2_0, (.slice A2_1 l2_1.length c2_1)] 24 (0, 0))) ∧ Aside0 (Below w.heap.size w w'))
  case atStart => exact ⟨(([] : List (S49))), (0), (by first | rfl | (simp; done) | (simp [*]; done)), H', ⟨Nat.le_refl _⟩, ⟨by (with_reducible repeat (first | apply Kd.R_alloc | apply Kd.R_drewN | apply Kd.R_drew)); exact HO149.out⟩, ⟨by first | exact Kd.S_nil _ _ _ _ _ | exact Kd.N_nil _ _ _ _ _ | exact Kd.V_nil _ _ _ _ _ | exact Kd.Q_nil _ _ _ _ _ | exact Kd.R_nil _ _ _ _ _⟩, ⟨by (with_reducible repeat (first | refine blk_drewN ?_ _ | refine blk_drew ?_ | refine blk_alloc ?_ _)); exact BK145.out⟩, ⟨by repeat (first | (with_reducible first | exact HB.out | apply below_alloc | apply pw_below_drewN | apply below_drew1 | refine below_set ?_ GE145.out) | exact HB.out)⟩⟩
  case round =>
   clear H'
   (try clear c1); (try clear c2); (try clear p2); (try clear c5); (try clear c9); (try clear hcz11_0); (try clear hcz11_1); (try clear hcz14_0); (try clear hcz14_1); (try clear hcz7_0); (try clear hcz7_1); (try clear hfz11_0); (try clear hfz11_1); (try clear hfz14_0); (try clear hfz14_1); (try clear hfz7_0); (try clear hfz7_1); obtain ⟨x10_1, x31_1, rfl, HA, HK1, HO_9, HO_10, BK145, HB⟩ := hrel
   cases gk with
   | zero => exact absurd HA.out (by simp [audit_Respond.l0])
   | succ k1 =>
    have H := HA.out; clear HA
    simp only [audit_Respond.l0] at H
    by_cases c15 : x31_1 < (l2_1.length : Int)
    ·
     rw [if_pos c15] at H
     have c15b0 : decide (x31_1 < (l2_1.length : Int)) = true := decide_eq_true c15; clear c15
     by_cases c16 : 0 ≤ x31_1
     ·
      rw [if_pos c16] at H
      have c16b0 : decide (0 ≤ x31_1) = true := decide_eq_true c16; clear c16
      by_cases c17 : x31_1 < (l2_1.length : Int)
      ·
       rw [if_pos c17] at H
       have c17b0 : decide (x31_1 < (l2_1.length : Int)) = true := decide_eq_true c17; clear c17; replace H := Option.bind_eq_some_iff.mp H; obtain ⟨⟨t151, t152⟩, A180, H⟩ := H; (try dsimp only at H); have A18 := Aside0.mk A180; clear A180
       obtain ⟨ji19, hji19⟩ : ∃ j_ : Int, (wrap64 ((rd l2_1 x31_1) * 8)) = j_ := ⟨_, rfl⟩
       replace H : (if 0 ≤ (ji19) then (if (ji19) ≤ (wrap64 ((wrap64 ((rd l2_1 x31_1) + 1)) * 8)) then (if (wrap64 ((wrap64 ((rd l2_1 x31_1) + 1)) * 8)) ≤ (a0.size : Int) then (if t151.length + l1.length < 17592186044416 then ((audit_keyed.f k1 a2_0 (a0.extract ((ji19) : Int).toNat ((wrap64 ((wrap64 ((rd l2_1 x31_1) + 1)) * 8)) : Int).toNat)).bind fun t158 => (if x10_1.length < 2932031007402 then (audit_Respond.l0 k1 a0 l1 t147 (x10_1 ++ [(⟨a0.extract ((ji19) : Int).toNat ((wrap64 ((wrap64 ((rd l2_1 x31_1) + 1)) * 8)) : Int).toNat, (t151 ++ l1), t158⟩ : S49)]) l2_1 (l2_1.length : Int) (wrap64 (x31_1 + 1)) a2_0 l2_1) else (none))) else (none)) else (none)) else (none)) else (none)) = some (r1, r2) := by first | (rw [hji19] at H; exact H) | (simp only [hji19] at H ⊢; exact H)
       (try rw [hji19] at A18)
       have hji19w : (IntKind.i64.wrap ((rd l2_1 x31_1) * 8)) = ji19 := (i64_w _).trans hji19
       by_cases c20 : 0 ≤ (ji19)
       ·
        rw [if_pos c20] at H
        have c20b0 := eq_true c20; have c20b1 : decide (0 ≤ (ji19)) = true := decide_eq_true c20; clear c20
        by_cases c21 : (ji19) ≤ (wrap64 ((wrap64 ((rd l2_1 x31_1) + 1)) * 8))
        ·
         rw [if_pos c21] at H
         have c21b0 := eq_true c21; have c21b1 : decide ((ji19) ≤ (wrap64 ((wrap64 ((rd l2_1 x31_1) + 1)) * 8))) = true := decide_eq_true c21
         by_cases c22 : (wrap64 ((wrap64 ((rd l2_1 x31_1) + 1)) * 8)) ≤ (a0.size : Int)
         ·
          rw [if_pos c22] at H
          have c22b0 := eq_true c22; have c22b1 : decide ((wrap64 ((wrap64 ((rd l2_1 x31_1) + 1)) * 8)) ≤ (a0.size : Int)) = true := decide_eq_true c22
          by_cases c23 : t151.length + l1.length < 17592186044416
          ·
           rw [if_pos c23] at H
           have LMc23 := Aside0.mk c23; clear c23
           obtain ⟨y155, hy155⟩ : ∃ y_ : List Int, y_ = (t151 ++ l1) := ⟨_, rfl⟩
           replace H : ((audit_keyed.f k1 a2_0 (a0.extract ((ji19) : Int).toNat ((wrap64 ((wrap64 ((rd l2_1 x31_1) + 1)) * 8)) : Int).toNat)).bind fun t158 => (if x10_1.length < 2932031007402 then (audit_Respond.l0 k1 a0 l1 t147 (x10_1 ++ [(⟨a0.extract ((ji19) : Int).toNat ((wrap64 ((wrap64 ((rd l2_1 x31_1) + 1)) * 8)) : Int).toNat, y155, t158⟩ : S49)]) l2_1 (l2_1.length : Int) (wrap64 (x31_1 + 1)) a2_0 l2_1) else (none))) = some (r1, r2) := by first | (rw [hy155]; with_reducible exact H) | (have H2_ := (Option.bind_some _ _).symm.trans H; rw [hy155]; with_reducible exact H2_) | (have H2_ := (Option.bind_some _ _).symm.trans H; with_reducible exact H2_) | with_reducible exact H | (rw [hy155]; exact H) | exact H
           have Ny155 := Aside0.mk hy155; clear hy155; replace H := Option.bind_eq_some_iff.mp H; obtain ⟨t158, A240, H⟩ := H; (try dsimp only at H); have A24 := Aside0.mk A240; clear A240
           by_cases c25 : x10_1.length < 2932031007402
           ·
            rw [if_pos c25] at H
            have LMc25 := Aside0.mk c25; clear c25
            obtain ⟨y159, hy159⟩ : ∃ y_ : List (S49), y_ = (x10_1 ++ [(⟨a0.extract ((ji19) : Int).toNat ((wrap64 ((wrap64 ((rd l2_1 x31_1) + 1)) * 8)) : Int).toNat, y155, t158⟩ : S49)]) := ⟨_, rfl⟩
            replace H : (audit_Respond.l0 k1 a0 l1 t147 y159 l2_1 (l2_1.length : Int) (wrap64 (x31_1 + 1)) a2_0 l2_1) = some (r1, r2) := by first | (rw [hy159]; with_reducible exact H) | (have H2_ := (Option.bind_some _ _).symm.trans H; rw [hy159]; with_reducible exact H2_) | (have H2_ := (Option.bind_some _ _).symm.trans H; with_reducible exact H2_) | with_reducible exact H | (rw [hy159]; exact H) | exact H
            have Ny159 := Aside0.mk hy159; clear hy159
            have H' := Aside0.mk H
            clear H
            have p150 : 0 ≤ (x31_1 : Int) := of_decide_eq_true (by first | (with_reducible assumption) | assumption)
            have q150 : x31_1 < (l2_1.length : Int) := of_decide_eq_true (by first | (with_reducible assumption) | assumption)
            obtain ⟨ad150, e150, hx150_0⟩ := Kd.at_int HR2_1.out x31_1 p150 q150
            cases e150
            replace hx150_0 := (HB.out.cell (World.block_lt_of_cell? w _ hx150_0)).trans hx150_0
            replace p150 := eq_true p150
            replace q150 := eq_true q150
            obtain ⟨Ao26, co26, eo26⟩ := Kd.R_slice HO_9.out; subst eo26
            try go_wp2_with (first | ((with_reducible refine gate_callee (f := 30) rfl ?_); refine goesL_ (some 38) rfl rfl Try.func30 (by kernel_rfl) rfl #[.slice Ao26 t147.length co26, .int .i64 (rd l2_1 x31_1)] rfl (by (try simp only [List.map_toArray, List.map_cons, List.map_nil]); first | done | rfl | (simp only [List.length_drop, List.length_take]; rfl)) ?_; (with_reducible refine (proof_Path.calls k1 _ _ t147 (rd l2_1 x31_1) t151 t152 _ ?side1 ?side2 A18.out).mono ?_); (case side1 => repeat (first | exact (Kd.R_reads' HO_9.out).2.2 | (with_reducible refine Kd.C_alloc ?_ _) | (with_reducible refine Kd.C_drewN ?_ _) | (with_reducible refine Kd.C_drew ?_))); (case side2 => exact (Kd.R_reads' HO_9.out).2.1); rintro e w27 ⟨v153, rfl, ho0, hb⟩; refine ⟨_, rfl, ?_⟩; (try replace hb := sq_un hb); have n0_ := Aside0.mk (Kd.R_elder' (by (with_reducible repeat (first | apply Kd.R_alloc | apply Kd.R_drewN | apply Kd.R_drew)); exact HO_9.out) (Kd.R_base ho0) hb); have n1_ := Aside0.mk (Kd.S_elder' (by (with_reducible repeat (first | apply Kd.S_alloc | apply Kd.S_drewN | apply Kd.S_drew)); exact HO_10.out) (Kd.R_base ho0) hb); have n2_ := Aside0.mk (Kd.R_lower (Kd.R_new' ho0 (Kd.R_lt (by (with_reducible repeat (first | apply Kd.R_alloc | apply Kd.R_drewN | apply Kd.R_drew)); exact HO_9.out))) (below_size (by repeat (first | (with_reducible first | exact HB.out | apply below_alloc | apply pw_below_drewN | apply below_drew1 | refine below_set ?_ GE145.out) | exact HB.out)))); have n3_ := sq_bk hb BK145; have n4_ := sq_st hb HB; clear HO_9 HO_10 BK145 HB; have HO_9 := n0_; have HO_10 := n1_; have HO154 := n2_; have BK145 := n3_; have HB := n4_; clear n0_ n1_ n2_ n3_ n4_; (try clear hb); (try clear hb2); (try clear hk); (try clear hi); (try clear ho0)))
            have n0_ := Aside0.mk (Kd.R_drew HO_9.out); have n1_ := Aside0.mk (Kd.S_drew HO_10.out); have n2_ := Aside0.mk (Kd.R_drew HO154.out); have n3_ := Aside0.mk (blk_drew BK145.out); have n4_ := Aside0.mk (below_drew1 HB.out); clear HO_9; clear HO_10; clear HO154; clear BK145; clear HB; have HO_9 := n0_; have HO_10 := n1_; have HO154 := n2_; have BK145 := n3_; have HB := n4_; clear n0_ n1_ n2_ n3_ n4_
            refine start_ (n := 13) (S := fun w' => w'.cell? ⟨gb145, 0, none⟩ = some (.int .i64 a2_0) ∧ w'.cell? ⟨gb145, 1, none⟩ = some (.slice (some ad150) l2_1.length c2_1)) (ds := []) #[false, false, false, false, false, false, false, false, false, false, false, false, false] (by kernel_rfl) rfl rfl ⟨(blk_cell BK145.out 0).trans rfl, (blk_cell BK145.out 1).trans rfl⟩ (fun hHeld => ?_); refine with_tabW audit_Respond.tab11 audit_Respond.bits11 (fun HT_ HW_ => ?_)
            generalize w27.drew = w28 at HO_9 HO_10 HO154 BK145 HB hHeld ⊢
            refine pure_ (i := 0) (N := some 48) (v := ?_) (a' := ?_) #[true, false, false, false, false, false, false, false, false, false, false, false, false] rfl rfl (any_of HT_.out (by kernel_rfl)) (fun _ _ _ h => h) (Or.inl ⟨by rfl, ?_⟩) ?_ ?_
            rotate_left
            ·
             intro w'
             go_simp
             with_reducible rfl
            rotate_left
            ·
             simp only [Act.put, List.setIfInBounds_toArray, List.set_cons_zero, List.set_cons_succ, i64_w, i32_w]
             rfl
            refine pure_ (i := 1) (N := some 49) (v := ?_) (a' := ?_) #[true, true, false, false, false, false, false, false, false, false, false, false, false] rfl rfl (any_of HT_.out (by kernel_rfl)) (fun _ _ _ h => h) (Or.inl ⟨by rfl, ?_⟩) ?_ ?_
            rotate_left
            ·
             intro w'
             go_simp
             with_reducible rfl
            rotate_left
            ·
             simp only [Act.put, List.setIfInBounds_toArray, List.set_cons_zero, List.set_cons_succ, i64_w, i32_w]
             rfl
            refine pure_ (i := 2) (N := some 50) (v := ?_) (a' := ?_) #[true, true, true, false, false, false, false, false, false, false, false, false, false] rfl rfl (any_of HT_.out (by kernel_rfl)) (fun _ _ _ h => h) (Or.inl ⟨by rfl, ?_⟩) ?_ ?_
            rotate_left
            ·
             intro w'
             go_simp
             with_reducible rfl
            rotate_left
            ·
             simp only [Act.put, List.setIfInBounds_toArray, List.set_cons_zero, List.set_cons_succ, i64_w, i32_w]
             rfl
            refine pure_ (i := 3) (N := some 51) (v := ?_) (a' := ?_) #[true, true, true, true, false, false, false, false, false, false, false, false, false] rfl rfl (any_of HT_.out (by kernel_rfl)) (fun _ _ _ h => h) (Or.inl ⟨by rfl, ?_⟩) ?_ ?_
            rotate_left
            ·
             intro w'
             go_simp
             with_reducible rfl
            rotate_left
            ·
             simp only [Act.put, List.setIfInBounds_toArray, List.set_cons_zero, List.set_cons_succ, i64_w, i32_w]
             rfl
            refine pure_ (i := 5) (N := some 53) (v := ?_) (a' := ?_) #[true, true, true, true, false, true, false, false, false, false, false, false, false] rfl rfl (any_of HT_.out (by kernel_rfl)) (fun _ _ _ h => h) (Or.inl ⟨by rfl, ?_⟩) ?_ ?_
            rotate_left
            ·
             intro w'
             go_simp
             with_reducible rfl
            rotate_left
            ·
             simp only [Act.put, List.setIfInBounds_toArray, List.set_cons_zero, List.set_cons_succ, i64_w, i32_w]
             rfl
            refine pure_ (i := 7) (N := some 55) (v := ?_) (a' := ?_) #[true, true, true, true, false, true, false, true, false, false, false, false, false] rfl rfl (any_of HT_.out (by kernel_rfl)) (fun _ _ _ h => h) (Or.inl ⟨by rfl, ?_⟩) ?_ ?_
            rotate_left
            ·
             intro w'
             go_simp
             with_reducible rfl
            rotate_left
            ·
             simp only [Act.put, List.setIfInBounds_toArray, List.set_cons_zero, List.set_cons_succ, i64_w, i32_w]
             rfl
            refine take_ (i := 6) (N := some 54) (v := ?_) (a' := ?_) #[true, true, true, true, false, true, true, true, false, false, false, false, false] rfl rfl (take_ofW HT_.out HW_.out (by kernel_rfl)) (fun _ _ _ h => h) (Or.inl ⟨by rfl, ?_⟩) hHeld ?_ ?_
            rotate_left
            ·
             rintro w' ⟨s0, s1⟩
             go_simp
             with_reducible rfl
            rotate_left
            ·
             simp only [Act.put, List.setIfInBounds_toArray, List.set_cons_zero, List.set_cons_succ, i64_w, i32_w]
             rfl
            refine one_ (i := 4) (N := some 52) #[true, true, true, true, true, true, true, true, false, false, false, false, false] rfl rfl (one_of HT_.out (by kernel_rfl)) (by decide) (fun K hK => ?_)
            refine Kd.R_append_rows_step (Kd.int .i64) (w0 := w) w.heap.size (by rfl) (.tmp 50) (.tmp 51) 22 3 (.int .i64 0) 8 rfl Try.underlying22 info3 rfl (by decide) (by omega) v153 t151 l1 _ _ _ (fun k_ => some k_ ≠ (.slice Ao26 t147.length co26 : Value).ownBlock) (fun _ => False) rfl rfl ?aO ?aR (fun _ _ h => h) (fun _ h => h.elim) ?aF ?aB ?aS ?aL ?_
            (case aR => repeat (first | exact (Kd.C_below HR1.out HB.out) | (with_reducible refine Kd.C_alloc ?_ _) | (with_reducible refine Kd.C_drewN ?_ _) | (with_reducible refine Kd.C_drew ?_)))
            (case aB => exact (by repeat (first | (with_reducible first | exact HB.out | apply below_alloc | apply pw_below_drewN | apply below_drew1 | refine below_set ?_ GE145.out) | exact HB.out)))
            (case aF => exact (fun k_ hk => Kd.fresh' (Kd.R_lt (by (with_reducible repeat (first | apply Kd.R_alloc | apply Kd.R_drewN | apply Kd.R_drew)); exact HO_9.out)) k_ hk))
            (case aO => exact (by (with_reducible repeat (first | apply Kd.R_alloc | apply Kd.R_drewN | apply Kd.R_drew)); exact Kd.R_mono HO154.out (fun _ hk => hk.2)))
            (case aS => exact (below_size (by repeat (first | (with_reducible first | exact HB.out | apply below_alloc | apply pw_below_drewN | apply below_drew1 | refine below_set ?_ GE145.out) | exact HB.out))))
            (case aL => have := LMc23.out; omega)
            intro v156 w29 ho hb hg hat
            rw [← Ny155.out] at ho
            have n0_ := Aside0.mk (Kd.R_after (ok := (fun _ => True)) (by (with_reducible repeat (first | apply Kd.R_alloc | apply Kd.R_drewN | apply Kd.R_drew)); exact HO_9.out) hg hat)
            have n1_ := Aside0.mk (Kd.S_after (ok := (fun k_ => some k_ ≠ (.slice Ao26 t147.length co26 : Value).ownBlock)) (by (with_reducible repeat (first | apply Kd.S_alloc | apply Kd.S_drewN | apply Kd.S_drew)); exact HO_10.out) hg hat)
            have n2_ := Aside0.mk (blk_grown (g := gb145) (o := .cells #[.int .i64 a2_0, .slice (some ad150) l2_1.length c2_1] 24 (0, 0)) (by (with_reducible repeat (first | refine blk_drewN ?_ _ | refine blk_drew ?_ | refine blk_alloc ?_ _)); exact BK145.out) hg (Kd.R_ne HO154.out BK145.out (by decide)))
            have n3_ := Aside0.mk (hb); have n4_ := Aside0.mk (ho); clear HO_9; clear HO_10; clear BK145; clear HB; clear HO154; have HO_9 := n0_; have HO_10 := n1_; have BK145 := n2_; have HB := n3_; have HO157 := n4_; clear n0_ n1_ n2_ n3_ n4_; clear ho hb hg hat
            refine hK.out _ _ ⟨(blk_cell BK145.out 0).trans rfl, (blk_cell BK145.out 1).trans rfl⟩ (fun hHeld => ?_)
            clear hK K
            refine norm_ (a' := ?_) ?_ ?_
            rotate_left
            ·
             show Act.put _ (some 52) _ = _
             simp only [Act.put, List.setIfInBounds_toArray, List.set_cons_zero, List.set_cons_succ, i64_w, i32_w]
             rfl
            refine one_ (i := 8) (N := some 56) #[true, true, true, true, true, true, true, true, true, false, false, false, false] rfl rfl (one_of HT_.out (by kernel_rfl)) (by decide) (fun K hK => ?_)
            refine goes_ Try.func31 (by kernel_rfl) rfl #[.int .i64 a2_0, .string (a0.extract ((ji19) : Int).toNat ((wrap64 ((wrap64 ((rd l2_1 x31_1) + 1)) * 8)) : Int).toNat)] (by rfl) rfl rfl (by (try simp only [List.map_toArray, List.map_cons, List.map_nil]); first | done | (simp only [hji19]; rfl) | rfl | (simp only [List.length_drop, List.length_take]; rfl)) ?_
            with_reducible refine (audit_keyed.calls k1 a2_0 (a0.extract ((ji19) : Int).toNat ((wrap64 ((wrap64 ((rd l2_1 x31_1) + 1)) * 8)) : Int).toNat) t158 _ A24.out).mono ?_
            rintro e w' ⟨rfl, ⟨nd, rfl⟩⟩
            refine ⟨_, rfl, ?_⟩
            obtain ⟨Ao30, co30, eo30⟩ := Kd.R_slice HO157.out
            (first | subst eo30 | (injection eo30 with f1_ f2_ f3_; have f4_ := f1_.symm; have f5_ := f3_.symm; clear f1_ f2_ f3_; subst f4_; subst f5_))
            refine hK.out _ _ ⟨(blk_cell BK145.out 0).trans rfl, (blk_cell BK145.out 1).trans rfl⟩ (fun hHeld => ?_)
            clear hK K
            refine norm_ (a' := ?_) ?_ ?_
            rotate_left
            ·
             show Act.put _ (some 56) _ = _
             simp only [Act.put, List.setIfInBounds_toArray, List.set_cons_zero, List.set_cons_succ, i64_w, i32_w]
             rfl
            refine pure_ (i := 9) (N := some 57) (v := ?_) (a' := ?_) #[true, true, true, true, true, true, true, true, true, true, false, false, false] rfl rfl (any_of HT_.out (by kernel_rfl)) (fun _ _ _ h => h) (Or.inl ⟨by rfl, ?_⟩) ?_ ?_
            rotate_left
            ·
             intro w'
             go_simp
             with_reducible rfl
            rotate_left
            ·
             simp only [Act.put, List.setIfInBounds_toArray, List.set_cons_zero, List.set_cons_succ, i64_w, i32_w]
             rfl
            refine one_ (i := 10) (N := some 58) #[true, true, true, true, true, true, true, true, true, true, true, false, false] rfl rfl (one_of HT_.out (by kernel_rfl)) (by decide) (fun K hK => ?_)
            refine value_ (w1 := ?_) (v := ?_) (by rfl) rfl ?_ ?_
            rotate_left 2
            ·
             go_simp
             constructor
             ·
              rfl
             ·
              rfl
            refine hK.out _ _ ⟨(blk_cell (blk_alloc BK145.out _) 0).trans rfl, (blk_cell (blk_alloc BK145.out _) 1).trans rfl⟩ (fun hHeld => ?_)
            clear hK K
            refine norm_ (a' := ?_) ?_ ?_
            rotate_left
            ·
             show Act.put _ (some 58) _ = _
             simp only [Act.put, List.setIfInBounds_toArray, List.set_cons_zero, List.set_cons_succ, i64_w, i32_w]
             rfl
            refine one_ (i := 11) (N := some 59) #[true, true, true, true, true, true, true, true, true, true, true, true, false] rfl rfl (one_of HT_.out (by kernel_rfl)) (by decide) (fun K hK => ?_)
            refine Kd.S_append_step k49 (w0 := w) w.heap.size (by rfl) (.tmp 48) (.tmp 58) 25 49 (.agg #[(.string ⟨#[]⟩), (.slice none 0 0), (.int .i64 0)]) 48 rfl Try.underlying25 info49 rfl (by decide) (by omega) u10 x10_1 (⟨a0.extract ((ji19) : Int).toNat ((wrap64 ((wrap64 ((rd l2_1 x31_1) + 1)) * 8)) : Int).toNat, y155, t158⟩ : S49) [.string (a0.extract ((ji19) : Int).toNat ((wrap64 ((wrap64 ((rd l2_1 x31_1) + 1)) * 8)) : Int).toNat), .slice Ao30 y155.length co30, .int .i64 t158] (fun k_ => some k_ ≠ (.slice Ao26 t147.length co26 : Value).ownBlock) (fun k_ => some k_ = (.slice Ao30 y155.length co30 : Value).ownBlock) rfl rfl ?aP (fun k_ hk_ => ((Kd.R_mono (ok' := fun k_ => ((fun k_ => some k_ ≠ (.slice Ao26 t147.length co26 : Value).ownBlock)) k_ ∧ some k_ ≠ (u10 : Value).ownBlock) (Kd.R_apart' (HO157.out) (Kd.S_typed HO_10.out) (by decide)) (fun k_ hk => ⟨hk.1, hk.2⟩))).1 k_ hk_.symm) ?aF ?aO ?aB ?aS ?aL ?_
            (case aP => exact k49_mkM _ _ _ (⟨a0.extract ((ji19) : Int).toNat ((wrap64 ((wrap64 ((rd l2_1 x31_1) + 1)) * 8)) : Int).toNat, y155, t158⟩ : S49) (Kd.R_mono (Kd.R_tight rfl (Kd.R_mono (ok' := fun k_ => ((fun k_ => some k_ ≠ (.slice Ao26 t147.length co26 : Value).ownBlock)) k_ ∧ some k_ ≠ (u10 : Value).ownBlock) (Kd.R_apart' (HO157.out) (Kd.S_typed HO_10.out) (by decide)) (fun k_ hk => ⟨hk.1, hk.2⟩))) (fun _ h_ => h_)))
            (case aB => exact (by repeat (first | (with_reducible first | exact HB.out | apply below_alloc | apply pw_below_drewN | apply below_drew1 | refine below_set ?_ GE145.out) | exact HB.out)))
            (case aF => exact (fun k_ hk => Kd.fresh' (Kd.R_lt (by (with_reducible repeat (first | apply Kd.R_alloc | apply Kd.R_drewN | apply Kd.R_drew)); exact HO_9.out)) k_ hk))
            (case aO => exact (by (with_reducible repeat (first | apply Kd.S_alloc | apply Kd.S_drewN | apply Kd.S_drew)); exact Kd.S_mono HO_10.out (fun k_ hk => ⟨hk.1, fun e_ => hk.2 e_⟩)))
            (case aS => exact (below_size (by repeat (first | (with_reducible first | exact HB.out | apply below_alloc | apply pw_below_drewN | apply below_drew1 | refine below_set ?_ GE145.out) | exact HB.out))))
            (case aL => have := LMc25.out; omega)
            intro v160 w31 ho hb hg hat
            rw [← Ny159.out] at ho
            have n0_ := Aside0.mk (Kd.R_over' (by (with_reducible repeat (first | apply Kd.R_alloc | apply Kd.R_drewN | apply Kd.R_drew)); exact HO_9.out) (Kd.S_typed (by (with_reducible repeat (first | apply Kd.S_alloc | apply Kd.S_drewN | apply Kd.S_drew)); exact HO_10.out)) (by decide) hg)
            have n1_ := Aside0.mk (blk_grown (g := gb145) (o := .cells #[.int .i64 a2_0, .slice (some ad150) l2_1.length c2_1] 24 (0, 0)) (by (with_reducible repeat (first | refine blk_drewN ?_ _ | refine blk_drew ?_ | refine blk_alloc ?_ _)); exact BK145.out) hg (Kd.S_ne HO_10.out BK145.out (by decide)))
            have n2_ := Aside0.mk (hb); have n3_ := Aside0.mk (ho); clear HO_9; clear BK145; clear HB; clear HO_10; clear HO157; have HO_9 := n0_; have BK145 := n1_; have HB := n2_; have HO161 := n3_; clear n0_ n1_ n2_ n3_; clear ho hb hg hat
            refine hK.out _ _ ⟨(blk_cell BK145.out 0).trans rfl, (blk_cell BK145.out 1).trans rfl⟩ (fun hHeld => ?_)
            clear hK K
            refine norm_ (a' := ?_) ?_ ?_
            rotate_left
            ·
             show Act.put _ (some 59) _ = _
             simp only [Act.put, List.setIfInBounds_toArray, List.set_cons_zero, List.set_cons_succ, i64_w, i32_w]
             rfl
            refine pure_ (i := 12) (N := some 10) (v := ?_) (a' := ?_) #[true, true, true, true, true, true, true, true, true, true, true, true, true] rfl rfl (any_of HT_.out (by kernel_rfl)) (fun _ _ _ h => h) (Or.inl ⟨by rfl, ?_⟩) ?_ ?_
            rotate_left
            ·
             intro w'
             go_simp
             with_reducible rfl
            rotate_left
            ·
             simp only [Act.put, List.setIfInBounds_toArray, List.set_cons_zero, List.set_cons_succ, i64_w, i32_w]
             rfl
            refine done_ (done_of HT_.out (by kernel_rfl)) ?_
            try go_wp2
            (first | go_roundg k1 | (simp only [← hji19]; go_roundg k1))
            case measure => have := HK1.out; omega
            case rel => exact ⟨(y159), (wrap64 (x31_1 + 1)), (by first | rfl | (simp; done) | (simp [*]; done)), (by first | exact H' | (have h_ := H'; simp only [← hji19] at h_ ⊢; exact h_)), ⟨by have := HK1.out; omega⟩, ⟨by (with_reducible repeat (first | apply Kd.R_alloc | apply Kd.R_drewN | apply Kd.R_drew)); exact Kd.R_mono HO_9.out (fun _ hk => trivial)⟩, ⟨by (with_reducible repeat (first | apply Kd.S_alloc | apply Kd.S_drewN | apply Kd.S_drew)); exact HO161.out⟩, ⟨by (with_reducible repeat (first | refine blk_drewN ?_ _ | refine blk_drew ?_ | refine blk_alloc ?_ _)); exact BK145.out⟩, ⟨by repeat (first | (with_reducible first | exact HB.out | apply below_alloc | apply pw_below_drewN | apply below_drew1 | refine below_set ?_ GE145.out) | exact HB.out)⟩⟩
           ·
            rw [if_neg c25] at H
            exact absurd H (by simp)
          ·
           rw [if_neg c23] at H
           exact absurd H (by simp)
         ·
          rw [if_neg c22] at H
          exact absurd H (by simp)
        ·
         rw [if_neg c21] at H
         exact absurd H (by simp)
       ·
        rw [if_neg c20] at H
        exact absurd H (by simp)
      ·
       rw [if_neg c17] at H
       exact absurd H (by simp)
     ·
      rw [if_neg c16] at H
      exact absurd H (by simp)
    ·
     rw [if_neg c15] at H
     have c15b0 : decide (x31_1 < (l2_1.length : Int)) = false := decide_eq_false c15; clear c15
     simp only [Option.some.injEq, Prod.mk.injEq] at H
     obtain ⟨rfl, rfl⟩ := H
     go_wp2
     go_ret2
     exact ⟨_, by first | rfl | (simp [errW_none, errW_some] <;> rfl) | (simp [*, errW_none, errW_some] <;> rfl), by (with_reducible repeat (first | apply Kd.S_alloc | apply Kd.S_drewN | apply Kd.S_drew)); exact Kd.S_mono HO_10.out (fun _ hk => trivial), by repeat (first | (with_reducible first | exact HB.out | apply below_alloc | apply pw_below_drewN | apply below_drew1 | refine below_set ?_ GE145.out) | exact HB.out)⟩

/-! ### ossuarylaw0_Num: function 12 -/
def ossuarylaw0_Num.f (a0 : Int) : Option (Int) := some a0
set_option maxHeartbeats 8000000 in
set_option maxRecDepth 100000 in
theorem ossuarylaw0_Num.calls (a0 : Int) (r : Int) (w : World) (h : ossuarylaw0_Num.f a0 = some r) :
  Calls Try.prog 12 #[.int .i64 a0] w fun e w' => e = .returned (.int .i64 r) ∧ Drawn0 w w' := by
 have H : (some a0) = some r := h
 clear h
 obtain rfl := Option.some.inj H
 go_enter Try.func12, Try.ntmps12
 go_wp2
 go_ret
 exact ⟨by first | rfl | (simp; done) | (simp [*]; done), by repeat (first | exact Drawn0.refl _ | apply Drawn0.step)⟩

/-! ### proof_Long: function 55 -/
def proof_Long.f : Nat → Int → Int → Option (Int)
  | 0, _, _ => none
  | k + 1, a0, a1 => if a0 ≤ 1 then (some 0) else ((tree_Half.f k a0).bind fun t162 => (if a1 < t162 then ((proof_Long.f k t162 a1).bind fun t163 => (some (wrap64 (1 + t163)))) else ((proof_Long.f k (wrap64 (a0 - t162)) (wrap64 (a1 - t162))).bind fun t164 => (some (wrap64 (1 + t164))))))
theorem proof_Long.mono_l : ∀ k, (∀ y0 y1, LeO (proof_Long.f k y0 y1) (proof_Long.f (k + 1) y0 y1))
 | 0 => fun _ _ r h => by simp [proof_Long.f] at h
 | k + 1 => by
  have ih0 := proof_Long.mono_l k
  ·
   intro y0 y1
   unfold proof_Long.f
   repeat' first
   | (with_reducible exact ih0 _ _)
   | (with_reducible exact tree_Half.mono _ _)
   | (with_reducible exact LeO.refl _)
   | (with_reducible exact LeO.none _)
   | (with_reducible refine LeO.ite ?_ ?_)
   | (with_reducible refine LeO.bind ?_ (fun _ => ?_))
   | exact ih0 _ _
   | exact tree_Half.mono _ _
   | exact LeO.none _
   | refine LeO.ite ?_ ?_
   | refine LeO.bind ?_ (fun _ => ?_)
theorem proof_Long.mono : ∀ a0 a1 k, LeO (proof_Long.f k a0 a1) (proof_Long.f (k + 1) a0 a1) := by
 intro a0 a1 k
 have ih0 := proof_Long.mono_l k
 exact ih0 a0 a1
set_option maxHeartbeats 8000000 in
set_option maxRecDepth 100000 in
theorem proof_Long.calls (k : Nat) : ∀ (a0 : Int) (a1 : Int) (r : Int) (w : World) (h : proof_Long.f k a0 a1 = some r),
  Calls Try.prog 55 #[.int .i64 a0, .int .i64 a1] w fun e w' => e = .returned (.int .i64 r) ∧ Drawn0 w w' := by
 induction k using Nat.strongRecOn with
 | _ k ih =>
 intro a0 a1 r w h
 cases k with
 | zero => exact absurd h (by simp [proof_Long.f])
 | succ k =>
 simp only [proof_Long.f] at h
 have H : (if a0 ≤ 1 then (some 0) else ((tree_Half.f k a0).bind fun t162 => (if a1 < t162 then ((proof_Long.f k t162 a1).bind fun t163 => (some (wrap64 (1 + t163)))) else ((proof_Long.f k (wrap64 (a0 - t162)) (wrap64 (a1 - t162))).bind fun t164 => (some (wrap64 (1 + t164))))))) = some r := h
 clear h
 by_cases c3 : a0 ≤ 1
 ·
  rw [if_pos c3] at H
  have c3b0 : decide (a0 ≤ 1) = true := decide_eq_true c3; clear c3
  obtain rfl := Option.some.inj H
  go_enter Try.func55, Try.ntmps55
  go_wp2
  go_ret
  exact ⟨by first | rfl | (simp; done) | (simp [*]; done), by repeat (first | exact Drawn0.refl _ | apply Drawn0.step)⟩
 ·
  rw [if_neg c3] at H
  have c3b0 : decide (a0 ≤ 1) = false := decide_eq_false c3; clear c3; replace H := Option.bind_eq_some_iff.mp H; obtain ⟨t162, A40, H⟩ := H
  replace H : (if a1 < t162 then ((proof_Long.f k t162 a1).bind fun t163 => (some (wrap64 (1 + t163)))) else ((proof_Long.f k (wrap64 (a0 - t162)) (wrap64 (a1 - t162))).bind fun t164 => (some (wrap64 (1 + t164))))) = some r := H
  have A4 := Aside0.mk A40; clear A40
  by_cases c5 : a1 < t162
  ·
   rw [if_pos c5] at H
   have c5b0 : decide (a1 < t162) = true := decide_eq_true c5; clear c5; replace H := Option.bind_eq_some_iff.mp H; obtain ⟨t163, A60, H⟩ := H
   replace H : (some (wrap64 (1 + t163))) = some r := H
   have A6 := Aside0.mk A60; clear A60
   obtain rfl := Option.some.inj H
   go_enter Try.func55, Try.ntmps55
   go_wp2_with (first | ((with_reducible refine gate_callee (f := 60) rfl ?_); refine goesL_ (some 9) rfl rfl Try.func60 (by kernel_rfl) rfl #[.int .i64 a0] rfl (by (try simp only [List.map_toArray, List.map_cons, List.map_nil]); first | done | rfl | (simp only [List.length_drop, List.length_take]; rfl)) ?_; (with_reducible refine (tree_Half.calls k a0 t162 _ A4.out).mono ?_); rintro e w' ⟨rfl, ⟨nd, rfl⟩⟩; refine ⟨_, rfl, ?_⟩) | ((with_reducible refine gate_callee (f := 55) rfl ?_); refine goesL_ (some 15) rfl rfl Try.func55 (by kernel_rfl) rfl #[.int .i64 t162, .int .i64 a1] rfl (by (try simp only [List.map_toArray, List.map_cons, List.map_nil]); first | done | rfl | (simp only [List.length_drop, List.length_take]; rfl)) ?_; (with_reducible refine (ih k (by omega) t162 a1 t163 _ A6.out).mono ?_); rintro e w' ⟨rfl, ⟨nd, rfl⟩⟩; refine ⟨_, rfl, ?_⟩))
   go_ret
   exact ⟨by first | rfl | (simp; done) | (simp [*]; done), by repeat (first | exact Drawn0.refl _ | apply Drawn0.step)⟩
  ·
   rw [if_neg c5] at H
   have c5b0 : decide (a1 < t162) = false := decide_eq_false c5; clear c5; replace H := Option.bind_eq_some_iff.mp H; obtain ⟨t164, A70, H⟩ := H
   replace H : (some (wrap64 (1 + t164))) = some r := H
   have A7 := Aside0.mk A70; clear A70
   obtain rfl := Option.some.inj H
   go_enter Try.func55, Try.ntmps55
   go_wp2_with (first | ((with_reducible refine gate_callee (f := 60) rfl ?_); refine goesL_ (some 9) rfl rfl Try.func60 (by kernel_rfl) rfl #[.int .i64 a0] rfl (by (try simp only [List.map_toArray, List.map_cons, List.map_nil]); first | done | rfl | (simp only [List.length_drop, List.length_take]; rfl)) ?_; (with_reducible refine (tree_Half.calls k a0 t162 _ A4.out).mono ?_); rintro e w' ⟨rfl, ⟨nd, rfl⟩⟩; refine ⟨_, rfl, ?_⟩) | ((with_reducible refine gate_callee (f := 55) rfl ?_); refine goesL_ (some 23) rfl rfl Try.func55 (by kernel_rfl) rfl #[.int .i64 (wrap64 (a0 - t162)), .int .i64 (wrap64 (a1 - t162))] rfl (by (try simp only [List.map_toArray, List.map_cons, List.map_nil]); first | done | rfl | (simp only [List.length_drop, List.length_take]; rfl)) ?_; (with_reducible refine (ih k (by omega) (wrap64 (a0 - t162)) (wrap64 (a1 - t162)) t164 _ A7.out).mono ?_); rintro e w' ⟨rfl, ⟨nd, rfl⟩⟩; refine ⟨_, rfl, ?_⟩))
   go_ret
   exact ⟨by first | rfl | (simp; done) | (simp [*]; done), by repeat (first | exact Drawn0.refl _ | apply Drawn0.step)⟩

end Go.Proofs.Ytgolnkankkegdaa.HAuditMoved
