/- Disks, sectors, writes, rot that are none are refused; the law's walk, by hand: no condition beyond the statement. -/
import Derived.Test.YtoloonnoobnafaaDqC
import Derived.Test.YtoloonnoobnafaaInvR
import Derived.IntWalk
namespace Go.Proofs.Ytoloonnoobnafaa.FoW
open Go.RowKit Go.Proofs.YtoloonnoobnafaaW.PrintWords Go.Proofs.YtoloonnoobnafaaW.PrintLast Go.Proofs.YtoloonnoobnafaaW.PrintMore
open Go.Proofs.Ytoloonnoobnafaa.HDiskGone Go.Proofs.Ytoloonnoobnafaa.Dk Go.Proofs.Ytoloonnoobnafaa.Dp Go.Proofs.Ytoloonnoobnafaa.Dq Go.Proofs.Ytoloonnoobnafaa.DkC Go.Proofs.Ytoloonnoobnafaa.DqC Go.Proofs.Ytoloonnoobnafaa.InvR
set_option linter.unusedVariables false
set_option linter.unusedSimpArgs false
theorem new_open {w : World} {g : Nat} {s : List ByteArray} {c : List S62} (h : Bx w g ⟨false, s, c⟩) (n : Nat) (hn : s.length = n) : ∃ A a, w.cell? ⟨g, 1, none⟩ = some (.slice A n a) ∧ Kd.R Kd.string 9 w 0 (fun _ => True) (.slice A n a) s := by
  obtain ⟨p, q, hb, _, _, e, h1, _⟩ := h
  injection e with e
  have e1 := congrArg (fun a : Array Value => a[1]?) e
  simp at e1
  obtain ⟨A, a, rfl⟩ := Kd.R_slice h1
  subst hn
  exact ⟨A, a, by rw [blk_cell hb 1]; simp [e1], h1⟩
def T8 : Bool × List (List Nat × List Nat) := (true, [([], []), ([], []), ([1], [1]), ([], []), ([3], [3]), ([], []), ([5], [5]), ([6], [6]), ([4, 7], [4, 7]), ([], []), ([9], [9]), ([], []), ([11], [11]), ([], []), ([12, 13], [12, 13]), ([14], [14]), ([10, 15], [10, 15]), ([], []), ([17], [17]), ([], []), ([19], [19]), ([18, 20], [18, 20]), ([], []), ([22], [22]), ([23], [23]), ([], []), ([25], [25]), ([26], [26]), ([27], [27]), ([], []), ([29], [29]), ([30, 30], [30]), ([31], [31]), ([0, 2, 8, 16, 21, 24, 28, 32], [0, 2, 8, 16, 21, 24, 28, 32]), ([33, 0, 1, 2, 3, 4, 5, 6, 7, 8, 9, 10, 11, 12, 13, 14, 15, 16, 17, 18, 19, 20, 21, 22, 23, 24, 25, 26, 27, 28, 29, 30, 31, 32, 33], [33])])
def B8 : List Nat := [0, 0, 2, 0, 8, 0, 32, 96, 248, 0, 512, 0, 2048, 0, 14336, 30720, 65024, 0, 131072, 0, 524288, 1966080, 0, 4194304, 12582912, 0, 33554432, 100663296, 234881024, 0, 536870912, 1610612736, 3758096384, 8589934591, 17179869183]
theorem tab8 : rtab .any (opsOf Try.f6 8) = T8 := by kernel_rfl
theorem bits8 : waitsOk T8.2 B8 = true := by kernel_rfl
def Rs (w : World) (v : Value) (l : List ByteArray) : Prop := Kd.R Kd.string 9 w 0 (fun _ => True) v l
def Rc (w : World) (v : Value) (l : List S62) : Prop := Kd.R k62 62 w 0 (fun _ => True) v l
def shortS : ByteArray := ⟨#[115, 104, 111, 114, 116]⟩
/-- The eight disks, their cells in a row. -/
def badA (pg u1 u7 u15 u20 u27 u31 : Value) : Array Value := #[.bool false, .slice none 0 0, .slice none 0 0, .bool false, u1, .slice none 0 0, .bool false, pg, u7, .bool false, pg, u15, .bool false, pg, u20, .bool true, pg, .slice none 0 0, .bool true, .slice none 0 0, u27, .bool false, u31, .slice none 0 0]
def fam (s : ByteArray) (dn : Int) (pg : Value) : List Ent := [
  ⟨1, 61, [1], fun vs w => Rs w (vs 1) [shortS]⟩,
  ⟨2, 62, [2, 1], fun vs w => vs 2 = .agg #[.bool false, vs 1, .slice none 0 0]⟩,
  ⟨4, 64, [4], fun vs w => vs 4 = pg⟩,
  ⟨7, 67, [7], fun vs w => Rc w (vs 7) [⟨2, s⟩]⟩,
  ⟨8, 68, [8, 7], fun vs w => vs 8 = .agg #[.bool false, pg, vs 7]⟩,
  ⟨10, 70, [10], fun vs w => vs 10 = pg⟩,
  ⟨15, 75, [15], fun vs w => Rc w (vs 15) [⟨-dn, s⟩]⟩,
  ⟨16, 76, [16, 15], fun vs w => vs 16 = .agg #[.bool false, pg, vs 15]⟩,
  ⟨18, 78, [18], fun vs w => vs 18 = pg⟩,
  ⟨20, 80, [20], fun vs w => Rc w (vs 20) [⟨0, ⟨#[120]⟩⟩]⟩,
  ⟨21, 81, [21, 20], fun vs w => vs 21 = .agg #[.bool false, pg, vs 20]⟩,
  ⟨23, 83, [23], fun vs w => vs 23 = pg⟩,
  ⟨24, 84, [24], fun vs w => vs 24 = .agg #[.bool true, pg, .slice none 0 0]⟩,
  ⟨27, 87, [27], fun vs w => Rc w (vs 27) [⟨0, s⟩]⟩,
  ⟨28, 88, [28, 27], fun vs w => vs 28 = .agg #[.bool true, .slice none 0 0, vs 27]⟩,
  ⟨31, 91, [31], fun vs w => Rs w (vs 31) (List.replicate (72 + dn).toNat ⟨#[]⟩)⟩,
  ⟨32, 92, [32, 31], fun vs w => vs 32 = .agg #[.bool false, vs 31, .slice none 0 0]⟩,
  ⟨33, 93, [33, 1, 7, 15, 20, 27, 31], fun vs w => ∃ g, vs 33 = .slice (some ⟨g, 0, none⟩) 8 8 ∧ w.heap[g]? = some (.cells (badA pg (vs 1) (vs 7) (vs 15) (vs 20) (vs 27) (vs 31)) 25 (0, 0))⟩,
  ⟨34, 9, [34, 33], fun vs w => vs 34 = vs 33⟩]
theorem fam_congr (s : ByteArray) (dn : Int) (pg : Value) : ∀ e, e ∈ fam s dn pg → ∀ vs vs' w, (∀ k, k ∈ e.D → vs' k = vs k) → e.p vs w → e.p vs' w := by
  unfold fam
  refine fam_all ?_ (fam_all ?_ (fam_all ?_ (fam_all ?_ (fam_all ?_ (fam_all ?_ (fam_all ?_ (fam_all ?_ (fam_all ?_ (fam_all ?_ (fam_all ?_ (fam_all ?_ (fam_all ?_ (fam_all ?_ (fam_all ?_ (fam_all ?_ (fam_all ?_ (fam_all ?_ (fam_all ?_ fam_nil))))))))))))))))))
  all_goals
    intro vs vs' w h hp
    simp only [List.mem_cons, List.not_mem_nil, or_false, forall_eq_or_imp, forall_eq] at h
    dsimp only at hp ⊢
    simp only [h]
    exact hp
theorem fam_mono (s : ByteArray) (dn : Int) (pg : Value) : ∀ e, e ∈ fam s dn pg → ∀ vs w w1, Below w.heap.size w w1 → e.p vs w → e.p vs w1 := by
  unfold fam
  refine fam_all ?_ (fam_all ?_ (fam_all ?_ (fam_all ?_ (fam_all ?_ (fam_all ?_ (fam_all ?_ (fam_all ?_ (fam_all ?_ (fam_all ?_ (fam_all ?_ (fam_all ?_ (fam_all ?_ (fam_all ?_ (fam_all ?_ (fam_all ?_ (fam_all ?_ (fam_all ?_ (fam_all ?_ fam_nil))))))))))))))))))
  all_goals
    intro vs w w1 hb hp
    first | exact Kd.R_below hp hb | exact hp | (obtain ⟨g, h1, h2⟩ := hp; exact ⟨g, h1, blk_below h2 hb⟩)
theorem stepF_mk {P : Program} {ops : Array Oper} {Q : Exit → Act → World → Prop} {B : List Nat} {F : List Ent} {a : Act} {w : World} {e : Ent}
    (h : ∀ (vs : Nat → Value) (b : Nat → Bool) (w' : World) (A : Act), (∀ t, ((ent (entO F) vs).all fun x => !(x.2.1 == t)) = true → A.tmps[t]? = a.tmps[t]?) →
      (∀ (k : Nat) x, (ent (entO F) vs)[k]? = some x → (((ent (entO F) vs).drop (k + 1)).all fun y => !(y.2.1 == x.2.1)) = true → b x.1 = true → Nat.ble (x.2.1 + 1) a.tmps.size = true → A.tmps[x.2.1]? = some x.2.2) →
      Below w.heap.size w w' → (∀ x, x ∈ F → (B.getD e.i 0).testBit x.i = true → b x.i = true ∧ x.p vs w') →
      ∃ oi, ops[e.i]? = some oi ∧ oi.dst = some e.t ∧ ∀ K : Act → World → Prop, (∀ v w1, Below w'.heap.size w' w1 → e.p (upv vs e.i v) w1 → K (A.put (some e.t) v) w1) → if Region.wanted oi (yielded ops A.tmps) = true then Oper.wp P oi A w' K Q else K (A.put oi.dst undef) w') : StepF P ops Q B F a w e :=
  fun vs b w' hb hd => h vs b w' _ (fun t ht => putSel_off ht) (fun k x h1 h2 h3 h4 => putSel_on k h1 h2 h3 h4) hb hd
theorem fam_mem {F : List Ent} (k : Nat) {x : Ent} (h : F[k]? = some x) : x ∈ F := List.mem_of_getElem? h
theorem m62 {w : World} {base : Nat} {ok : Nat → Prop} (a : Int) (s : ByteArray) : Kd.M k62 w base ok ⟨a, s⟩ [.int .i64 a, .string s] := ⟨[.int .i64 a], [.string s], rfl, rfl, rfl⟩
theorem mod8 (x : Int) : ∃ k : Nat, k < 8 ∧ wrap64 ((IntKind.u64.wrap x).tmod 8) = (k : Int) := by
  have h0 : 0 ≤ IntKind.u64.wrap x := by
    have e : IntKind.u64.wrap x = x % 18446744073709551616 := rfl
    rw [e]; omega
  generalize IntKind.u64.wrap x = y at h0
  rw [Int.tmod_eq_emod_of_nonneg h0]
  obtain ⟨k, hk⟩ := Int.eq_ofNat_of_zero_le (show 0 ≤ y % 8 by omega)
  refine ⟨k, by omega, ?_⟩
  rw [hk]; unfold wrap64; omega
/-- Each of the eight is a disk that may not be. -/
theorem pick8 {w : World} {s : ByteArray} {dn : Int} {pg u1 u7 u15 u20 u27 u31 : Value} (h1 : 1 ≤ dn) (h2 : dn ≤ 1024) (hg : Rs w pg (List.replicate 2 blankS))
    (hu : Rs w u1 [shortS] ∧ Rc w u7 [⟨2, s⟩] ∧ Rc w u15 [⟨-dn, s⟩] ∧ Rc w u20 [⟨0, ⟨#[120]⟩⟩] ∧ Rc w u27 [⟨0, s⟩] ∧ Rs w u31 (List.replicate (72 + dn).toNat ⟨#[]⟩)) (k : Nat) (hk : k < 8) :
    ∃ (d : DS) (p q : Value), (badA pg u1 u7 u15 u20 u27 u31)[k * 3]? = some (.bool d.lost) ∧ (badA pg u1 u7 u15 u20 u27 u31)[k * 3 + 1]? = some p ∧ (badA pg u1 u7 u15 u20 u27 u31)[k * 3 + 2]? = some q ∧ DV w (.agg #[.bool d.lost, p, q]) d ∧ disk_May.f d.lost d.ss d.cs = some false := by
  obtain ⟨r1, r7, r15, r20, r27, r31⟩ := hu
  have e : k = 0 ∨ k = 1 ∨ k = 2 ∨ k = 3 ∨ k = 4 ∨ k = 5 ∨ k = 6 ∨ k = 7 := by omega
  rcases e with rfl | rfl | rfl | rfl | rfl | rfl | rfl | rfl
  · exact ⟨⟨false, [], []⟩, _, _, rfl, rfl, rfl, ⟨_, _, rfl, Kd.R_nil _ _ _ _ _, Kd.R_nil _ _ _ _ _⟩, may_many (.inl (by decide)) (by decide) (by decide)⟩
  · exact ⟨⟨false, [shortS], []⟩, _, _, rfl, rfl, rfl, ⟨_, _, rfl, r1, Kd.R_nil _ _ _ _ _⟩, may_short 0 (by decide) (by decide) (by simp) (by simp)⟩
  · exact ⟨⟨false, List.replicate 2 blankS, [⟨2, s⟩]⟩, _, _, rfl, rfl, rfl, ⟨_, _, rfl, hg, r7⟩, may_bad 0 (by simp) (.inr (.inl (by simp))) (by simp) (by simp)⟩
  · exact ⟨⟨false, List.replicate 2 blankS, [⟨-dn, s⟩]⟩, _, _, rfl, rfl, rfl, ⟨_, _, rfl, hg, r15⟩, may_bad 0 (by simp) (.inl (by show -dn < 0; omega)) (by simp) (by simp)⟩
  · exact ⟨⟨false, List.replicate 2 blankS, [⟨0, ⟨#[120]⟩⟩]⟩, _, _, rfl, rfl, rfl, ⟨_, _, rfl, hg, r20⟩, may_bad 0 (by simp) (.inr (.inr (by decide))) (by simp) (by simp)⟩
  · exact ⟨⟨true, List.replicate 2 blankS, []⟩, _, _, rfl, rfl, rfl, ⟨_, _, rfl, hg, Kd.R_nil _ _ _ _ _⟩, may_lostful (by simp) (by simp) (by simp)⟩
  · exact ⟨⟨true, [], [⟨0, s⟩]⟩, _, _, rfl, rfl, rfl, ⟨_, _, rfl, Kd.R_nil _ _ _ _ _, r27⟩, may_lostful (by simp) (by simp) (by simp)⟩
  · exact ⟨⟨false, List.replicate (72 + dn).toNat ⟨#[]⟩, []⟩, _, _, rfl, rfl, rfl, ⟨_, _, rfl, r31, Kd.R_nil _ _ _ _ _⟩, may_many (.inr (by show 72 < (List.replicate (72 + dn).toNat _).length; rw [List.length_replicate]; omega)) (by show (List.replicate (72 + dn).toNat _).length ≤ _; rw [List.length_replicate]; omega) (by simp)⟩
theorem Num_b (x : Int) (w : World) : Calls Try.prog 12 #[.int .i64 x] w fun e w' => e = .returned (.int .i64 x) ∧ Below w.heap.size w w' :=
  (Num_k x w).mono fun _ _ ⟨h, n, e⟩ => ⟨h, by rw [e]; exact pw_below_drewN (Below.refl _ _) n⟩
set_option maxHeartbeats 4000000 in
set_option maxRecDepth 100000 in
theorem forms_walk (y x : Int) (w : World) :
    Calls Try.prog 6 #[.int .i64 y, .int .i64 x] w fun e w' => e = .returned (.bool true) ∧ Below w.heap.size w w' := by
  have HB := Aside0.mk (Below.refl w.heap.size w)
  obtain ⟨s, hs⟩ : ∃ s, Aside0 (fullS 97 = s) := ⟨_, ⟨rfl⟩⟩
  go_enter Try.func6, Try.ntmps6
  go_wp2_with (first
    | (go_at_call 29; refine (Awake_k _).mono ?_; rintro e w1 ⟨rfl, hb⟩; have n0 := Aside0.mk (below_step HB.out hb); clear HB hb; have HB := n0; clear n0)
    | (go_at_call 9; refine (New_k 2 (by decide) (by decide) _).mono ?_; rintro e w2 ⟨v2, rfl, hv, hb⟩; have HV := Aside0.mk hv; have n0 := Aside0.mk (below_step HB.out hb); clear HB hb hv; have HB := n0; clear n0)
    | ((with_reducible refine gate_dst (N := 6) rfl ?_); refine new_disk 6 _ v2 _ HV.out rfl rfl rfl rfl rfl rfl rfl rfl ?_; intro g6 hg6 w3 hbx hb; have B6 := Aside0.mk hbx; have n0 := Aside0.mk (below_step HB.out hb); have G6 := Aside0.mk (Nat.le_trans (below_size HB.out) hg6); clear HB hb hbx hg6 HV; have HB := n0; clear n0; obtain ⟨A6, a6, hc6, hr6⟩ := new_open B6.out 2 (by simp); have HR6 := Aside0.mk hr6; clear hr6)
    | (go_at_call 12; refine (Num_k _ _).mono ?_; rintro e w' ⟨rfl, nd, rfl⟩)
    | (go_at_call 30; (with_reducible refine (Full_e 97 (by omega) (by omega) s hs.out _).mono ?_); rintro e w4 ⟨rfl, hb⟩; (repeat replace hb := sq_un hb); have n1 := Aside0.mk (B6.out.below hb); have n2 := Aside0.mk (Kd.R_below HR6.out hb); have n0 := Aside0.mk (below_step HB.out hb); replace hc6 := pw_cell_below hb hc6; clear HB hb B6 HR6; have HB := n0; have B6 := n1; have HR6 := n2; clear n0 n1 n2))
  obtain ⟨dn, hd1, hd2, hd⟩ : ∃ dn : Nat, 1 ≤ dn ∧ dn ≤ 1024 ∧ wrap64 (1 + Go.bits .and .i64 x 1023) = (dn : Int) := by
    rw [and_mask x 10 (by decide) 1023 1024 (by decide) (by decide)]
    obtain ⟨k, hk⟩ := Int.eq_ofNat_of_zero_le (show 0 ≤ x % 1024 by omega)
    refine ⟨1 + k, by omega, by omega, ?_⟩
    rw [hk]; unfold wrap64; omega
  rw [hd]
  clear hd
  have hd1' : (1 : Int) ≤ (dn : Int) := by omega
  have hd2' : (dn : Int) ≤ 1024 := by omega
  have hn1 : IntKind.i64.wrap (-(dn : Int)) = -(dn : Int) := IntWalk.i64_in _ (by omega)
  have hn2 : IntKind.i64.wrap (72 + (dn : Int)) = 72 + (dn : Int) := IntWalk.i64_in _ (by omega)
  go_cut [9] (fun v9 wx => ∃ (g : Nat) (u1 u7 u15 u20 u27 u31 : Value), v9 = .slice (some ⟨g, 0, none⟩) 8 8 ∧ Aside0 (wx.heap[g]? = some (.cells (badA (.slice A6 2 a6) u1 u7 u15 u20 u27 u31) 25 (0, 0))) ∧ Aside0 (Rs wx u1 [shortS] ∧ Rc wx u7 [⟨2, s⟩] ∧ Rc wx u15 [⟨-(dn : Int), s⟩] ∧ Rc wx u20 [⟨0, ⟨#[120]⟩⟩] ∧ Rc wx u27 [⟨0, s⟩] ∧ Rs wx u31 (List.replicate (72 + (dn : Int)).toNat ⟨#[]⟩)) ∧ Aside0 (Below w4.heap.size w4 wx))
  case first =>
      refine start_ (n := 35) (S := fun _ => True) (ds := []) #[false, false, false, false, false, false, false, false, false, false, false, false, false, false, false, false, false, false, false, false, false, false, false, false, false, false, false, false, false, false, false, false, false, false, false] (by kernel_rfl) rfl rfl trivial (fun _ => ?_)
      refine with_tabW tab8 bits8 (fun HT_ HW_ => ?_)
      have HW4 := Aside0.mk (below_drew1 (Below.refl w4.heap.size w4))
      generalize w4.drew = w4d at HW4 ⊢
      refine pure_ (i := 0) (N := some 60) (v := ?_) (a' := ?_) #[true, false, false, false, false, false, false, false, false, false, false, false, false, false, false, false, false, false, false, false, false, false, false, false, false, false, false, false, false, false, false, false, false, false, false] rfl rfl (any_of HT_.out (by kernel_rfl)) (fun _ _ _ h => h) (Or.inl ⟨by rfl, ?_⟩) ?_ ?_
      rotate_left; (intro w'; go_simp; with_reducible rfl); rotate_left; (simp only [Act.put, List.setIfInBounds_toArray, List.set_cons_zero, List.set_cons_succ, i64_w, i32_w]; rfl)
      refine pure_ (i := 3) (N := some 63) (v := ?_) (a' := ?_) #[true, false, false, true, false, false, false, false, false, false, false, false, false, false, false, false, false, false, false, false, false, false, false, false, false, false, false, false, false, false, false, false, false, false, false] rfl rfl (any_of HT_.out (by kernel_rfl)) (fun _ _ _ h => h) (Or.inl ⟨by rfl, ?_⟩) ?_ ?_
      rotate_left; (intro w'; go_simp; with_reducible rfl); rotate_left; (simp only [Act.put, List.setIfInBounds_toArray, List.set_cons_zero, List.set_cons_succ, i64_w, i32_w]; rfl)
      refine pure_ (i := 5) (N := some 65) (v := ?_) (a' := ?_) #[true, false, false, true, false, true, false, false, false, false, false, false, false, false, false, false, false, false, false, false, false, false, false, false, false, false, false, false, false, false, false, false, false, false, false] rfl rfl (any_of HT_.out (by kernel_rfl)) (fun _ _ _ h => h) (Or.inl ⟨by rfl, ?_⟩) ?_ ?_
      rotate_left; (intro w'; go_simp; with_reducible rfl); rotate_left; (simp only [Act.put, List.setIfInBounds_toArray, List.set_cons_zero, List.set_cons_succ, i64_w, i32_w]; rfl)
      refine pure_ (i := 6) (N := some 66) (v := ?_) (a' := ?_) #[true, false, false, true, false, true, true, false, false, false, false, false, false, false, false, false, false, false, false, false, false, false, false, false, false, false, false, false, false, false, false, false, false, false, false] rfl rfl (any_of HT_.out (by kernel_rfl)) (fun _ _ _ h => h) (Or.inl ⟨by rfl, ?_⟩) ?_ ?_
      rotate_left; (intro w'; go_simp; with_reducible rfl); rotate_left; (simp only [Act.put, List.setIfInBounds_toArray, List.set_cons_zero, List.set_cons_succ, i64_w, i32_w]; rfl)
      refine pure_ (i := 9) (N := some 69) (v := ?_) (a' := ?_) #[true, false, false, true, false, true, true, false, false, true, false, false, false, false, false, false, false, false, false, false, false, false, false, false, false, false, false, false, false, false, false, false, false, false, false] rfl rfl (any_of HT_.out (by kernel_rfl)) (fun _ _ _ h => h) (Or.inl ⟨by rfl, ?_⟩) ?_ ?_
      rotate_left; (intro w'; go_simp; with_reducible rfl); rotate_left; (simp only [Act.put, List.setIfInBounds_toArray, List.set_cons_zero, List.set_cons_succ, i64_w, i32_w]; rfl)
      refine pure_ (i := 11) (N := some 71) (v := ?_) (a' := ?_) #[true, false, false, true, false, true, true, false, false, true, false, true, false, false, false, false, false, false, false, false, false, false, false, false, false, false, false, false, false, false, false, false, false, false, false] rfl rfl (any_of HT_.out (by kernel_rfl)) (fun _ _ _ h => h) (Or.inl ⟨by rfl, ?_⟩) ?_ ?_
      rotate_left; (intro w'; go_simp; with_reducible rfl); rotate_left; (simp only [Act.put, List.setIfInBounds_toArray, List.set_cons_zero, List.set_cons_succ, i64_w, i32_w]; rfl)
      refine pure_ (i := 12) (N := some 72) (v := ?_) (a' := ?_) #[true, false, false, true, false, true, true, false, false, true, false, true, true, false, false, false, false, false, false, false, false, false, false, false, false, false, false, false, false, false, false, false, false, false, false] rfl rfl (any_of HT_.out (by kernel_rfl)) (fun _ _ _ h => h) (Or.inl ⟨by rfl, ?_⟩) ?_ ?_
      rotate_left; (intro w'; go_simp; with_reducible rfl); rotate_left; (simp only [Act.put, List.setIfInBounds_toArray, List.set_cons_zero, List.set_cons_succ, i64_w, i32_w]; rfl)
      refine pure_ (i := 13) (N := some 73) (v := ?_) (a' := ?_) #[true, false, false, true, false, true, true, false, false, true, false, true, true, true, false, false, false, false, false, false, false, false, false, false, false, false, false, false, false, false, false, false, false, false, false] rfl rfl (any_of HT_.out (by kernel_rfl)) (fun _ _ _ h => h) (Or.inl ⟨by rfl, ?_⟩) ?_ ?_
      rotate_left; (intro w'; go_simp; with_reducible rfl); rotate_left; (simp only [Act.put, List.setIfInBounds_toArray, List.set_cons_zero, List.set_cons_succ, i64_w, i32_w]; rfl)
      refine pure_ (i := 14) (N := some 74) (v := ?_) (a' := ?_) #[true, false, false, true, false, true, true, false, false, true, false, true, true, true, true, false, false, false, false, false, false, false, false, false, false, false, false, false, false, false, false, false, false, false, false] rfl rfl (any_of HT_.out (by kernel_rfl)) (fun _ _ _ h => h) (Or.inl ⟨by rfl, ?_⟩) ?_ ?_
      rotate_left; (intro w'; go_simp; with_reducible rfl); rotate_left; (simp only [Act.put, List.setIfInBounds_toArray, List.set_cons_zero, List.set_cons_succ, i64_w, i32_w]; rfl)
      refine pure_ (i := 17) (N := some 77) (v := ?_) (a' := ?_) #[true, false, false, true, false, true, true, false, false, true, false, true, true, true, true, false, false, true, false, false, false, false, false, false, false, false, false, false, false, false, false, false, false, false, false] rfl rfl (any_of HT_.out (by kernel_rfl)) (fun _ _ _ h => h) (Or.inl ⟨by rfl, ?_⟩) ?_ ?_
      rotate_left; (intro w'; go_simp; with_reducible rfl); rotate_left; (simp only [Act.put, List.setIfInBounds_toArray, List.set_cons_zero, List.set_cons_succ, i64_w, i32_w]; rfl)
      refine pure_ (i := 19) (N := some 79) (v := ?_) (a' := ?_) #[true, false, false, true, false, true, true, false, false, true, false, true, true, true, true, false, false, true, false, true, false, false, false, false, false, false, false, false, false, false, false, false, false, false, false] rfl rfl (any_of HT_.out (by kernel_rfl)) (fun _ _ _ h => h) (Or.inl ⟨by rfl, ?_⟩) ?_ ?_
      rotate_left; (intro w'; go_simp; with_reducible rfl); rotate_left; (simp only [Act.put, List.setIfInBounds_toArray, List.set_cons_zero, List.set_cons_succ, i64_w, i32_w]; rfl)
      refine pure_ (i := 22) (N := some 82) (v := ?_) (a' := ?_) #[true, false, false, true, false, true, true, false, false, true, false, true, true, true, true, false, false, true, false, true, false, false, true, false, false, false, false, false, false, false, false, false, false, false, false] rfl rfl (any_of HT_.out (by kernel_rfl)) (fun _ _ _ h => h) (Or.inl ⟨by rfl, ?_⟩) ?_ ?_
      rotate_left; (intro w'; go_simp; with_reducible rfl); rotate_left; (simp only [Act.put, List.setIfInBounds_toArray, List.set_cons_zero, List.set_cons_succ, i64_w, i32_w]; rfl)
      refine pure_ (i := 25) (N := some 85) (v := ?_) (a' := ?_) #[true, false, false, true, false, true, true, false, false, true, false, true, true, true, true, false, false, true, false, true, false, false, true, false, false, true, false, false, false, false, false, false, false, false, false] rfl rfl (any_of HT_.out (by kernel_rfl)) (fun _ _ _ h => h) (Or.inl ⟨by rfl, ?_⟩) ?_ ?_
      rotate_left; (intro w'; go_simp; with_reducible rfl); rotate_left; (simp only [Act.put, List.setIfInBounds_toArray, List.set_cons_zero, List.set_cons_succ, i64_w, i32_w]; rfl)
      refine pure_ (i := 26) (N := some 86) (v := ?_) (a' := ?_) #[true, false, false, true, false, true, true, false, false, true, false, true, true, true, true, false, false, true, false, true, false, false, true, false, false, true, true, false, false, false, false, false, false, false, false] rfl rfl (any_of HT_.out (by kernel_rfl)) (fun _ _ _ h => h) (Or.inl ⟨by rfl, ?_⟩) ?_ ?_
      rotate_left; (intro w'; go_simp; with_reducible rfl); rotate_left; (simp only [Act.put, List.setIfInBounds_toArray, List.set_cons_zero, List.set_cons_succ, i64_w, i32_w]; rfl)
      refine pure_ (i := 29) (N := some 89) (v := ?_) (a' := ?_) #[true, false, false, true, false, true, true, false, false, true, false, true, true, true, true, false, false, true, false, true, false, false, true, false, false, true, true, false, false, true, false, false, false, false, false] rfl rfl (any_of HT_.out (by kernel_rfl)) (fun _ _ _ h => h) (Or.inl ⟨by rfl, ?_⟩) ?_ ?_
      rotate_left; (intro w'; go_simp; with_reducible rfl); rotate_left; (simp only [Act.put, List.setIfInBounds_toArray, List.set_cons_zero, List.set_cons_succ, i64_w, i32_w]; rfl)
      refine pure_ (i := 30) (N := some 90) (v := ?_) (a' := ?_) #[true, false, false, true, false, true, true, false, false, true, false, true, true, true, true, false, false, true, false, true, false, false, true, false, false, true, true, false, false, true, true, false, false, false, false] rfl rfl (any_of HT_.out (by kernel_rfl)) (fun _ _ _ h => h) (Or.inl ⟨by rfl, ?_⟩) ?_ ?_
      rotate_left; (intro w'; go_simp; with_reducible rfl); rotate_left; (simp only [Act.put, List.setIfInBounds_toArray, List.set_cons_zero, List.set_cons_succ, i64_w, i32_w]; rfl)
      refine inv_fam (fam s (dn : Int) (.slice A6 2 a6)) HT_.out HW_.out (show baseOk T8.2 [1, 2, 4, 7, 8, 10, 15, 16, 18, 20, 21, 23, 24, 27, 28, 31, 32, 33, 34] = true by kernel_rfl) (show (lof T8.2.length [1, 2, 4, 7, 8, 10, 15, 16, 18, 20, 21, 23, 24, 27, 28, 31, 32, 33, 34] (fun _ => false) == [true, false, false, true, false, true, true, false, false, true, false, true, true, true, true, false, false, true, false, true, false, false, true, false, false, true, true, false, false, true, true, false, false, false, false] && 19 == 19) = true by kernel_rfl) (show List.Nodup [61, 62, 64, 67, 68, 70, 75, 76, 78, 80, 81, 83, 84, 87, 88, 91, 92, 93, 9] by decide) (fam_congr _ _ _) (fam_mono _ _ _) (show (([(1, [1]), (2, [2, 1]), (4, [4]), (7, [7]), (8, [8, 7]), (10, [10]), (15, [15]), (16, [16, 15]), (18, [18]), (20, [20]), (21, [21, 20]), (23, [23]), (24, [24]), (27, [27]), (28, [28, 27]), (31, [31]), (32, [32, 31]), (33, [33, 1, 7, 15, 20, 27, 31]), (34, [34, 33])] : List (Nat × List Nat)).all fun e => e.2.all fun k => k == e.1 || (B8.getD e.1 0).testBit k) = true by kernel_rfl) ?_ ?_
      · unfold fam
        refine fam_all (stepF_mk (fun vs b w' A hoff hon hb hdp => ?_)) ?_
        · skip
          refine ⟨_, rfl, rfl, fun K hK => ?_⟩
          refine Kd.R_lit_step Kd.string (w0 := w') w'.heap.size 9 ?hg (N := 61) ?hd (xs := ([shortS] : List ByteArray)) (inner := [.string shortS]) (ok := fun _ => True) (okp := fun _ => True) ?hr ?hp (fun _ hk => hk) trivial (Below.refl _ _) (Nat.le_refl _) (by simp) ?_; (case hd => rfl); (case hg => rfl); (case hr => first | (go_simp; done) | (go_simp; rfl)); (case hp => exact Reps.one (show Kd.M Kd.string _ _ _ shortS [.string shortS] from rfl) (Reps.none _ _))
          intro v w1 ho hb1 _ _; exact hK v w1 hb1 (show Rs w1 (upv vs 1 v 1) _ by rw [upv_self]; exact Kd.R_lower ho (Nat.zero_le _))
        refine fam_all (stepF_mk (fun vs b w' A hoff hon hb hdp => ?_)) ?_
        · have f := (hdp _ (fam_mem 0 rfl) (show (B8.getD 2 0).testBit 1 = true by kernel_rfl)).2
          obtain ⟨X, Y, ex⟩ := Kd.R_slice f
          have e61 : A.tmps[61]? = some (vs 1) := hon 0 (1, 61, vs 1) rfl rfl (hdp _ (fam_mem 0 rfl) (show (B8.getD 2 0).testBit 1 = true by kernel_rfl)).1 rfl
          rw [ex] at e61
          skip
          refine ⟨_, rfl, rfl, fun K hK => ?_⟩
          refine event_step (v := .agg #[.bool false, vs 1, .slice none 0 0]) (w1 := w') (by rfl) (by rw [ex]; first | (go_simp; done) | (go_simp; rfl)) (hK _ _ (Below.refl _ _) ?_)
          show upv vs 2 _ 2 = .agg #[.bool false, upv vs 2 _ 1, .slice none 0 0]; rw [upv_self, upv_ne (by decide)]
        refine fam_all (stepF_mk (fun vs b w' A hoff hon hb hdp => ?_)) ?_
        · have e63 : A.tmps[63]? = some (.pointer (some ⟨g6, 1, none⟩)) := (hoff 63 rfl).trans rfl
          have hcx : w'.cell? ⟨g6, 1, none⟩ = some (.slice A6 2 a6) := pw_cell_below (below_step HW4.out hb) hc6
          refine ⟨_, rfl, rfl, fun K hK => ?_⟩
          refine event_step (v := (.slice A6 2 a6)) (w1 := w') (by rfl) (by first | (go_simp; done) | (go_simp; rfl)) (hK _ _ (Below.refl _ _) ?_)
          show upv vs 4 _ 4 = _; rw [upv_self]
        refine fam_all (stepF_mk (fun vs b w' A hoff hon hb hdp => ?_)) ?_
        · have e66 : A.tmps[66]? = some (.agg #[.int .i64 2, .string s]) := (hoff 66 rfl).trans rfl
          refine ⟨_, rfl, rfl, fun K hK => ?_⟩
          refine Kd.R_lit_step k62 (w0 := w') w'.heap.size 62 ?hg (N := 67) ?hd (xs := ([⟨2, s⟩] : List S62)) (inner := [.int .i64 2, .string s]) (ok := fun _ => True) (okp := fun _ => True) ?hr ?hp (fun _ hk => hk) trivial (Below.refl _ _) (Nat.le_refl _) (by simp) ?_; (case hd => rfl); (case hg => rfl); (case hr => first | (go_simp; done) | (go_simp; rfl)); (case hp => exact Reps.c2 (m62 _ _) (Reps.none _ _))
          intro v w1 ho hb1 _ _; exact hK v w1 hb1 (show Rc w1 (upv vs 7 v 7) _ by rw [upv_self]; exact Kd.R_lower ho (Nat.zero_le _))
        refine fam_all (stepF_mk (fun vs b w' A hoff hon hb hdp => ?_)) ?_
        · have f := (hdp _ (fam_mem 3 rfl) (show (B8.getD 8 0).testBit 7 = true by kernel_rfl)).2
          obtain ⟨X, Y, ex⟩ := Kd.R_slice f
          have e67 : A.tmps[67]? = some (vs 7) := hon 3 (7, 67, vs 7) rfl rfl (hdp _ (fam_mem 3 rfl) (show (B8.getD 8 0).testBit 7 = true by kernel_rfl)).1 rfl
          rw [ex] at e67
          have e64 : A.tmps[64]? = some (vs 4) := hon 2 (4, 64, vs 4) rfl rfl (hdp _ (fam_mem 2 rfl) (show (B8.getD 8 0).testBit 4 = true by kernel_rfl)).1 rfl
          have fg := (hdp _ (fam_mem 2 rfl) (show (B8.getD 8 0).testBit 4 = true by kernel_rfl)).2
          have fg' : vs 4 = .slice A6 2 a6 := fg
          rw [fg'] at e64
          refine ⟨_, rfl, rfl, fun K hK => ?_⟩
          refine event_step (v := .agg #[.bool false, (.slice A6 2 a6), vs 7]) (w1 := w') (by rfl) (by rw [ex]; first | (go_simp; done) | (go_simp; rfl)) (hK _ _ (Below.refl _ _) ?_)
          show upv vs 8 _ 8 = .agg #[.bool false, (.slice A6 2 a6), upv vs 8 _ 7]; rw [upv_self, upv_ne (by decide)]
        refine fam_all (stepF_mk (fun vs b w' A hoff hon hb hdp => ?_)) ?_
        · have e69 : A.tmps[69]? = some (.pointer (some ⟨g6, 1, none⟩)) := (hoff 69 rfl).trans rfl
          have hcx : w'.cell? ⟨g6, 1, none⟩ = some (.slice A6 2 a6) := pw_cell_below (below_step HW4.out hb) hc6
          refine ⟨_, rfl, rfl, fun K hK => ?_⟩
          refine event_step (v := (.slice A6 2 a6)) (w1 := w') (by rfl) (by first | (go_simp; done) | (go_simp; rfl)) (hK _ _ (Below.refl _ _) ?_)
          show upv vs 10 _ 10 = _; rw [upv_self]
        refine fam_all (stepF_mk (fun vs b w' A hoff hon hb hdp => ?_)) ?_
        · have e74 : A.tmps[74]? = some (.agg #[.int .i64 (-(dn : Int)), .string s]) := (hoff 74 rfl).trans rfl
          refine ⟨_, rfl, rfl, fun K hK => ?_⟩
          refine Kd.R_lit_step k62 (w0 := w') w'.heap.size 62 ?hg (N := 75) ?hd (xs := ([⟨-(dn : Int), s⟩] : List S62)) (inner := [.int .i64 (-(dn : Int)), .string s]) (ok := fun _ => True) (okp := fun _ => True) ?hr ?hp (fun _ hk => hk) trivial (Below.refl _ _) (Nat.le_refl _) (by simp) ?_; (case hd => rfl); (case hg => rfl); (case hr => first | (go_simp; done) | (go_simp; rfl)); (case hp => exact Reps.c2 (m62 _ _) (Reps.none _ _))
          intro v w1 ho hb1 _ _; exact hK v w1 hb1 (show Rc w1 (upv vs 15 v 15) _ by rw [upv_self]; exact Kd.R_lower ho (Nat.zero_le _))
        refine fam_all (stepF_mk (fun vs b w' A hoff hon hb hdp => ?_)) ?_
        · have f := (hdp _ (fam_mem 6 rfl) (show (B8.getD 16 0).testBit 15 = true by kernel_rfl)).2
          obtain ⟨X, Y, ex⟩ := Kd.R_slice f
          have e75 : A.tmps[75]? = some (vs 15) := hon 6 (15, 75, vs 15) rfl rfl (hdp _ (fam_mem 6 rfl) (show (B8.getD 16 0).testBit 15 = true by kernel_rfl)).1 rfl
          rw [ex] at e75
          have e70 : A.tmps[70]? = some (vs 10) := hon 5 (10, 70, vs 10) rfl rfl (hdp _ (fam_mem 5 rfl) (show (B8.getD 16 0).testBit 10 = true by kernel_rfl)).1 rfl
          have fg := (hdp _ (fam_mem 5 rfl) (show (B8.getD 16 0).testBit 10 = true by kernel_rfl)).2
          have fg' : vs 10 = .slice A6 2 a6 := fg
          rw [fg'] at e70
          refine ⟨_, rfl, rfl, fun K hK => ?_⟩
          refine event_step (v := .agg #[.bool false, (.slice A6 2 a6), vs 15]) (w1 := w') (by rfl) (by rw [ex]; first | (go_simp; done) | (go_simp; rfl)) (hK _ _ (Below.refl _ _) ?_)
          show upv vs 16 _ 16 = .agg #[.bool false, (.slice A6 2 a6), upv vs 16 _ 15]; rw [upv_self, upv_ne (by decide)]
        refine fam_all (stepF_mk (fun vs b w' A hoff hon hb hdp => ?_)) ?_
        · have e77 : A.tmps[77]? = some (.pointer (some ⟨g6, 1, none⟩)) := (hoff 77 rfl).trans rfl
          have hcx : w'.cell? ⟨g6, 1, none⟩ = some (.slice A6 2 a6) := pw_cell_below (below_step HW4.out hb) hc6
          refine ⟨_, rfl, rfl, fun K hK => ?_⟩
          refine event_step (v := (.slice A6 2 a6)) (w1 := w') (by rfl) (by first | (go_simp; done) | (go_simp; rfl)) (hK _ _ (Below.refl _ _) ?_)
          show upv vs 18 _ 18 = _; rw [upv_self]
        refine fam_all (stepF_mk (fun vs b w' A hoff hon hb hdp => ?_)) ?_
        · have e79 : A.tmps[79]? = some (.agg #[.int .i64 0, .string ⟨#[120]⟩]) := (hoff 79 rfl).trans rfl
          refine ⟨_, rfl, rfl, fun K hK => ?_⟩
          refine Kd.R_lit_step k62 (w0 := w') w'.heap.size 62 ?hg (N := 80) ?hd (xs := ([⟨0, ⟨#[120]⟩⟩] : List S62)) (inner := [.int .i64 0, .string ⟨#[120]⟩]) (ok := fun _ => True) (okp := fun _ => True) ?hr ?hp (fun _ hk => hk) trivial (Below.refl _ _) (Nat.le_refl _) (by simp) ?_; (case hd => rfl); (case hg => rfl); (case hr => first | (go_simp; done) | (go_simp; rfl)); (case hp => exact Reps.c2 (m62 _ _) (Reps.none _ _))
          intro v w1 ho hb1 _ _; exact hK v w1 hb1 (show Rc w1 (upv vs 20 v 20) _ by rw [upv_self]; exact Kd.R_lower ho (Nat.zero_le _))
        refine fam_all (stepF_mk (fun vs b w' A hoff hon hb hdp => ?_)) ?_
        · have f := (hdp _ (fam_mem 9 rfl) (show (B8.getD 21 0).testBit 20 = true by kernel_rfl)).2
          obtain ⟨X, Y, ex⟩ := Kd.R_slice f
          have e80 : A.tmps[80]? = some (vs 20) := hon 9 (20, 80, vs 20) rfl rfl (hdp _ (fam_mem 9 rfl) (show (B8.getD 21 0).testBit 20 = true by kernel_rfl)).1 rfl
          rw [ex] at e80
          have e78 : A.tmps[78]? = some (vs 18) := hon 8 (18, 78, vs 18) rfl rfl (hdp _ (fam_mem 8 rfl) (show (B8.getD 21 0).testBit 18 = true by kernel_rfl)).1 rfl
          have fg := (hdp _ (fam_mem 8 rfl) (show (B8.getD 21 0).testBit 18 = true by kernel_rfl)).2
          have fg' : vs 18 = .slice A6 2 a6 := fg
          rw [fg'] at e78
          refine ⟨_, rfl, rfl, fun K hK => ?_⟩
          refine event_step (v := .agg #[.bool false, (.slice A6 2 a6), vs 20]) (w1 := w') (by rfl) (by rw [ex]; first | (go_simp; done) | (go_simp; rfl)) (hK _ _ (Below.refl _ _) ?_)
          show upv vs 21 _ 21 = .agg #[.bool false, (.slice A6 2 a6), upv vs 21 _ 20]; rw [upv_self, upv_ne (by decide)]
        refine fam_all (stepF_mk (fun vs b w' A hoff hon hb hdp => ?_)) ?_
        · have e82 : A.tmps[82]? = some (.pointer (some ⟨g6, 1, none⟩)) := (hoff 82 rfl).trans rfl
          have hcx : w'.cell? ⟨g6, 1, none⟩ = some (.slice A6 2 a6) := pw_cell_below (below_step HW4.out hb) hc6
          refine ⟨_, rfl, rfl, fun K hK => ?_⟩
          refine event_step (v := (.slice A6 2 a6)) (w1 := w') (by rfl) (by first | (go_simp; done) | (go_simp; rfl)) (hK _ _ (Below.refl _ _) ?_)
          show upv vs 23 _ 23 = _; rw [upv_self]
        refine fam_all (stepF_mk (fun vs b w' A hoff hon hb hdp => ?_)) ?_
        · have e83 : A.tmps[83]? = some (vs 23) := hon 11 (23, 83, vs 23) rfl rfl (hdp _ (fam_mem 11 rfl) (show (B8.getD 24 0).testBit 23 = true by kernel_rfl)).1 rfl
          have fg := (hdp _ (fam_mem 11 rfl) (show (B8.getD 24 0).testBit 23 = true by kernel_rfl)).2
          have fg' : vs 23 = .slice A6 2 a6 := fg
          rw [fg'] at e83
          refine ⟨_, rfl, rfl, fun K hK => ?_⟩
          refine event_step (v := (.agg #[.bool true, .slice A6 2 a6, .slice none 0 0])) (w1 := w') (by rfl) (by first | (go_simp; done) | (go_simp; rfl)) (hK _ _ (Below.refl _ _) ?_)
          show upv vs 24 _ 24 = _; rw [upv_self]
        refine fam_all (stepF_mk (fun vs b w' A hoff hon hb hdp => ?_)) ?_
        · have e86 : A.tmps[86]? = some (.agg #[.int .i64 0, .string s]) := (hoff 86 rfl).trans rfl
          refine ⟨_, rfl, rfl, fun K hK => ?_⟩
          refine Kd.R_lit_step k62 (w0 := w') w'.heap.size 62 ?hg (N := 87) ?hd (xs := ([⟨0, s⟩] : List S62)) (inner := [.int .i64 0, .string s]) (ok := fun _ => True) (okp := fun _ => True) ?hr ?hp (fun _ hk => hk) trivial (Below.refl _ _) (Nat.le_refl _) (by simp) ?_; (case hd => rfl); (case hg => rfl); (case hr => first | (go_simp; done) | (go_simp; rfl)); (case hp => exact Reps.c2 (m62 _ _) (Reps.none _ _))
          intro v w1 ho hb1 _ _; exact hK v w1 hb1 (show Rc w1 (upv vs 27 v 27) _ by rw [upv_self]; exact Kd.R_lower ho (Nat.zero_le _))
        refine fam_all (stepF_mk (fun vs b w' A hoff hon hb hdp => ?_)) ?_
        · have f := (hdp _ (fam_mem 13 rfl) (show (B8.getD 28 0).testBit 27 = true by kernel_rfl)).2
          obtain ⟨X, Y, ex⟩ := Kd.R_slice f
          have e87 : A.tmps[87]? = some (vs 27) := hon 13 (27, 87, vs 27) rfl rfl (hdp _ (fam_mem 13 rfl) (show (B8.getD 28 0).testBit 27 = true by kernel_rfl)).1 rfl
          rw [ex] at e87
          skip
          refine ⟨_, rfl, rfl, fun K hK => ?_⟩
          refine event_step (v := .agg #[.bool true, .slice none 0 0, vs 27]) (w1 := w') (by rfl) (by rw [ex]; first | (go_simp; done) | (go_simp; rfl)) (hK _ _ (Below.refl _ _) ?_)
          show upv vs 28 _ 28 = .agg #[.bool true, .slice none 0 0, upv vs 28 _ 27]; rw [upv_self, upv_ne (by decide)]
        refine fam_all (stepF_mk (fun vs b w' A hoff hon hb hdp => ?_)) ?_
        · have e90 : A.tmps[90]? = some (.int .i64 (72 + (dn : Int))) := (hoff 90 rfl).trans rfl
          refine ⟨_, rfl, rfl, fun K hK => ?_⟩
          refine Kd.R_make_step Kd.string (w0 := w') w'.heap.size 9 (by rfl) (N := 91) rfl 22 (.tmp 90) (.tmp 90) rfl (72 + (dn : Int)) (by simp [Act.eval, e90]) (by simp [Act.eval, e90]) Try.underlying22 (.string ⟨#[]⟩) 16 info9 rfl (by decide) (by omega) (⟨#[]⟩ : ByteArray) (ok := fun _ => True) (okp := fun _ => True) rfl (fun _ hk => hk) trivial (by omega) (by omega) (Below.refl _ _) (Nat.le_refl _) ?_
          intro v w1 ho hb1 _ _; exact hK v w1 hb1 (show Rs w1 (upv vs 31 v 31) _ by rw [upv_self]; exact Kd.R_lower ho (Nat.zero_le _))
        refine fam_all (stepF_mk (fun vs b w' A hoff hon hb hdp => ?_)) ?_
        · have f := (hdp _ (fam_mem 15 rfl) (show (B8.getD 32 0).testBit 31 = true by kernel_rfl)).2
          obtain ⟨X, Y, ex⟩ := Kd.R_slice f
          have e91 : A.tmps[91]? = some (vs 31) := hon 15 (31, 91, vs 31) rfl rfl (hdp _ (fam_mem 15 rfl) (show (B8.getD 32 0).testBit 31 = true by kernel_rfl)).1 rfl
          rw [ex] at e91
          skip
          refine ⟨_, rfl, rfl, fun K hK => ?_⟩
          refine event_step (v := .agg #[.bool false, vs 31, .slice none 0 0]) (w1 := w') (by rfl) (by rw [ex]; first | (go_simp; done) | (go_simp; rfl)) (hK _ _ (Below.refl _ _) ?_)
          show upv vs 32 _ 32 = .agg #[.bool false, upv vs 32 _ 31, .slice none 0 0]; rw [upv_self, upv_ne (by decide)]
        refine fam_all (stepF_mk (fun vs b w' A hoff hon hb hdp => ?_)) ?_
        · have e60 : A.tmps[60]? = some (.agg #[.bool false, .slice none 0 0, .slice none 0 0]) := (hoff 60 rfl).trans rfl
          have e62 : A.tmps[62]? = some (vs 2) := hon 1 (2, 62, vs 2) rfl rfl (hdp _ (fam_mem 1 rfl) (show (B8.getD 33 0).testBit 2 = true by kernel_rfl)).1 rfl
          have f2 := (hdp _ (fam_mem 1 rfl) (show (B8.getD 33 0).testBit 2 = true by kernel_rfl)).2
          have e68 : A.tmps[68]? = some (vs 8) := hon 4 (8, 68, vs 8) rfl rfl (hdp _ (fam_mem 4 rfl) (show (B8.getD 33 0).testBit 8 = true by kernel_rfl)).1 rfl
          have f8 := (hdp _ (fam_mem 4 rfl) (show (B8.getD 33 0).testBit 8 = true by kernel_rfl)).2
          have e76 : A.tmps[76]? = some (vs 16) := hon 7 (16, 76, vs 16) rfl rfl (hdp _ (fam_mem 7 rfl) (show (B8.getD 33 0).testBit 16 = true by kernel_rfl)).1 rfl
          have f16 := (hdp _ (fam_mem 7 rfl) (show (B8.getD 33 0).testBit 16 = true by kernel_rfl)).2
          have e81 : A.tmps[81]? = some (vs 21) := hon 10 (21, 81, vs 21) rfl rfl (hdp _ (fam_mem 10 rfl) (show (B8.getD 33 0).testBit 21 = true by kernel_rfl)).1 rfl
          have f21 := (hdp _ (fam_mem 10 rfl) (show (B8.getD 33 0).testBit 21 = true by kernel_rfl)).2
          have e84 : A.tmps[84]? = some (vs 24) := hon 12 (24, 84, vs 24) rfl rfl (hdp _ (fam_mem 12 rfl) (show (B8.getD 33 0).testBit 24 = true by kernel_rfl)).1 rfl
          have f24 := (hdp _ (fam_mem 12 rfl) (show (B8.getD 33 0).testBit 24 = true by kernel_rfl)).2
          have e88 : A.tmps[88]? = some (vs 28) := hon 14 (28, 88, vs 28) rfl rfl (hdp _ (fam_mem 14 rfl) (show (B8.getD 33 0).testBit 28 = true by kernel_rfl)).1 rfl
          have f28 := (hdp _ (fam_mem 14 rfl) (show (B8.getD 33 0).testBit 28 = true by kernel_rfl)).2
          have e92 : A.tmps[92]? = some (vs 32) := hon 16 (32, 92, vs 32) rfl rfl (hdp _ (fam_mem 16 rfl) (show (B8.getD 33 0).testBit 32 = true by kernel_rfl)).1 rfl
          have f32 := (hdp _ (fam_mem 16 rfl) (show (B8.getD 33 0).testBit 32 = true by kernel_rfl)).2
          replace f2 : vs 2 = .agg #[.bool false, vs 1, .slice none 0 0] := f2
          replace f8 : vs 8 = .agg #[.bool false, .slice A6 2 a6, vs 7] := f8
          replace f16 : vs 16 = .agg #[.bool false, .slice A6 2 a6, vs 15] := f16
          replace f21 : vs 21 = .agg #[.bool false, .slice A6 2 a6, vs 20] := f21
          replace f24 : vs 24 = .agg #[.bool true, .slice A6 2 a6, .slice none 0 0] := f24
          replace f28 : vs 28 = .agg #[.bool true, .slice none 0 0, vs 27] := f28
          replace f32 : vs 32 = .agg #[.bool false, vs 31, .slice none 0 0] := f32
          rw [f2] at e62
          rw [f8] at e68
          rw [f16] at e76
          rw [f21] at e81
          rw [f24] at e84
          rw [f28] at e88
          rw [f32] at e92
          refine ⟨_, rfl, rfl, fun K hK => ?_⟩
          refine event_step (v := .slice (some ⟨w'.heap.size, 0, none⟩) 8 8) (w1 := w'.alloc (.cells (badA (.slice A6 2 a6) (vs 1) (vs 7) (vs 15) (vs 20) (vs 27) (vs 31)) 25)) (by rfl) (by first | (go_simp; done) | (go_simp; rfl)) (hK _ _ (below_alloc (Below.refl _ _) _) ?_)
          exact ⟨w'.heap.size, upv_self _ _ _, by simp only [upv_ne (i := 33) (j := 1) (by decide), upv_ne (i := 33) (j := 7) (by decide), upv_ne (i := 33) (j := 15) (by decide), upv_ne (i := 33) (j := 20) (by decide), upv_ne (i := 33) (j := 27) (by decide), upv_ne (i := 33) (j := 31) (by decide)]; exact blk_new _ _⟩
        refine fam_all (stepF_mk (fun vs b w' A hoff hon hb hdp => ?_)) ?_
        · have e93 : A.tmps[93]? = some (vs 33) := hon 17 (33, 93, vs 33) rfl rfl (hdp _ (fam_mem 17 rfl) (show (B8.getD 34 0).testBit 33 = true by kernel_rfl)).1 rfl
          refine ⟨_, rfl, rfl, fun K hK => ?_⟩
          refine event_step (v := (vs 33)) (w1 := w') (by rfl) (by first | (go_simp; done) | (go_simp; rfl)) (hK _ _ (Below.refl _ _) ?_)
          show upv vs 34 _ 34 = upv vs 34 _ 33; rw [upv_self, upv_ne (by decide)]
        exact fam_nil
      · intro vs w' hb h
        have hh : ∀ (k : Nat) (x : Ent), (fam s (dn : Int) (.slice A6 2 a6))[k]? = some x → x.p vs w' := fun k x hx => h x (fam_mem k hx)
        obtain ⟨g9, h33, h9⟩ := hh 17 _ rfl
        have h34 : vs 34 = vs 33 := hh 18 _ rfl
        simp only [fam, entO, ent, List.map, putSel, if_true, Act.put, List.setIfInBounds_toArray, List.set_cons_zero, List.set_cons_succ]
        go_wp2_with fail
        go_meet
        exact ⟨g9, vs 1, vs 7, vs 15, vs 20, vs 27, vs 31, h34.trans h33, ⟨h9⟩, ⟨hh 0 _ rfl, hh 3 _ rfl, hh 6 _ rfl, hh 9 _ rfl, hh 13 _ rfl, hh 15 _ rfl⟩, ⟨below_step HW4.out hb⟩⟩
  case rest =>
    obtain ⟨g9, u1, u7, u15, u20, u27, u31, rfl, B9, HU, hbw⟩ := hcut
    obtain ⟨k, hk8, hk⟩ := mod8 y
    obtain ⟨db, p, q, hp0, hp1, hp2, hdv, hmn⟩ := pick8 hd1' hd2' (Kd.R_below HR6.out hbw.out) HU.out k hk8
    have hq0 := (blk_cell B9.out (k * 3)).trans hp0
    have hq1 := (blk_cell B9.out (k * 3 + 1)).trans hp1
    have hq2 := (blk_cell B9.out (k * 3 + 2)).trans hp2
    have HDV := Aside0.mk hdv
    have HM := Aside0.mk hmn
    have n0 := Aside0.mk (below_step HB.out hbw.out); have n1 := Aside0.mk (B6.out.below hbw.out)
    clear HB B6 hbw hp0 hp1 hp2 hdv hmn HU HR6 hc6 B9
    have HB := n0; have B6 := n1; clear n0 n1
    have hu25 := Try.underlying25
    have hk0' : (0 : Int) ≤ (k : Int) := by omega
    have hk8' : (k : Int) < 8 := by omega
    go_upto_region 10 with (first
      | ((with_reducible refine gate_dst (N := 10) rfl ?_); refine new_disk 10 _ (.agg #[.bool db.lost, p, q]) db HDV.out rfl rfl rfl rfl rfl rfl rfl rfl ?_; intro g10 hg10 w10 hbx hb; have HT := Aside0.mk (And.intro (B6.out.below hb) hbx); have n0 := Aside0.mk (below_step HB.out hb); clear HB hb hbx hg10 B6 HDV hq0 hq1 hq2; have HB := n0; clear n0; have HC := Aside0.mk (Below.refl w10.heap.size w10)))
    have HVA := Aside0.mk (new_valid 2 (by decide) (by decide))
    have hl2 : (List.replicate 2 blankS).length = 2 := by simp
    have ho1 : 1 + (dn : Int) < 0 ∨ ((List.replicate 2 blankS).length : Int) ≤ 1 + (dn : Int) := by rw [hl2]; omega
    have ho2 : -(dn : Int) < 0 ∨ ((List.replicate 2 blankS).length : Int) ≤ -(dn : Int) := by omega
    have ho3 : 1 + (dn : Int) < 0 ∨ ((List.replicate 2 blankS).length : Int) ≤ 1 + (dn : Int) ∨ s.size ≠ 64 := by rw [hl2]; omega
    have hss : s.size = 64 := by rw [← hs.out]; exact full_size _
    have ho4 : (0 : Int) < 0 ∨ ((List.replicate 2 blankS).length : Int) ≤ 0 ∨ (s ++ (⟨#[120]⟩ : ByteArray)).size ≠ 64 := by
      refine .inr (.inr ?_)
      rw [ByteArray.size_append, hss]; decide
    have ho5 : (0 : Int) < 0 ∨ ((List.replicate 2 blankS).length : Int) ≤ 0 ∨ 63 + (dn : Int) < 0 ∨ 64 ≤ 63 + (dn : Int) ∨ (1 : Int) < 1 ∨ (255 : Int) < 1 := by omega
    have ho6 : (0 : Int) < 0 ∨ ((List.replicate 2 blankS).length : Int) ≤ 0 ∨ -(dn : Int) < 0 ∨ 64 ≤ -(dn : Int) ∨ (1 : Int) < 1 ∨ (255 : Int) < 1 := by omega
    have ho7 : (0 : Int) < 0 ∨ ((List.replicate 2 blankS).length : Int) ≤ 0 ∨ (0 : Int) < 0 ∨ (64 : Int) ≤ 0 ∨ (0 : Int) < 1 ∨ (255 : Int) < 0 := by omega
    have ho8 : (0 : Int) < 0 ∨ ((List.replicate 2 blankS).length : Int) ≤ 0 ∨ (0 : Int) < 0 ∨ (64 : Int) ≤ 0 ∨ 255 + (dn : Int) < 1 ∨ 255 < 255 + (dn : Int) := by omega
    have ho9 : 72 + (dn : Int) < 1 ∨ 72 < 72 + (dn : Int) := by omega
    clear hl2 hk
    have HO1 := Aside0.mk ho1; have HO2 := Aside0.mk ho2; have HO3 := Aside0.mk ho3; have HO4 := Aside0.mk ho4; have HO5 := Aside0.mk ho5; have HO6 := Aside0.mk ho6; have HO7 := Aside0.mk ho7; have HO8 := Aside0.mk ho8; have HO9 := Aside0.mk ho9
    clear ho1 ho2 ho3 ho4 ho5 ho6 ho7 ho8 ho9
    go_wp2_with (first
      | ((with_reducible refine gate_dst (N := 102) rfl ?_); refine load_box 10 g10 _ rfl rfl rfl ((HT.out.2).below HC.out) ?_; intro v0 hv; have HV := Aside0.mk hv; clear hv)
      | (go_at_call 14; (with_reducible refine (ReadNo_k HV.out HM.out 0).mono ?_); rintro e w11 ⟨rfl, hb⟩; have n0 := Aside0.mk (below_step HC.out hb); clear HC hb HV; have HC := n0; clear n0)
      | ((with_reducible refine gate_dst (N := 107) rfl ?_); refine load_box 10 g10 _ rfl rfl rfl ((HT.out.2).below HC.out) ?_; intro v0 hv; have HV := Aside0.mk hv; clear hv)
      | (go_at_call 16; (with_reducible refine (WriteNo_k HV.out HM.out 0 s).mono ?_); rintro e w11 ⟨v11, rfl, hv, hb⟩; have n0 := Aside0.mk (below_step HC.out hb); clear HC hb HV; have HC := n0; clear n0; have HV := Aside0.mk hv; clear hv)
      | ((with_reducible refine gate_dst (N := 13) rfl ?_); refine new_disk 13 _ v11 _ HV.out rfl rfl rfl rfl rfl rfl rfl rfl ?_; intro gx hgx w12 hbx hb; clear hbx hgx; have n0 := Aside0.mk (below_step HC.out hb); clear HC hb HV; have HC := n0; clear n0)
      | ((with_reducible refine gate_dst (N := 113) rfl ?_); refine load_box 10 g10 _ rfl rfl rfl ((HT.out.2).below HC.out) ?_; intro v0 hv; have HV := Aside0.mk hv; clear hv)
      | (go_at_call 18; (with_reducible refine (FlushNo_k HV.out HM.out).mono ?_); rintro e w11 ⟨v11, rfl, hv, hb⟩; have n0 := Aside0.mk (below_step HC.out hb); clear HC hb HV; have HC := n0; clear n0; have HV := Aside0.mk hv; clear hv)
      | ((with_reducible refine gate_dst (N := 15) rfl ?_); refine new_disk 15 _ v11 _ HV.out rfl rfl rfl rfl rfl rfl rfl rfl ?_; intro gx hgx w12 hbx hb; clear hbx hgx; have n0 := Aside0.mk (below_step HC.out hb); clear HC hb HV; have HC := n0; clear n0)
      | ((with_reducible refine gate_dst (N := 118) rfl ?_); refine load_box 10 g10 _ rfl rfl rfl ((HT.out.2).below HC.out) ?_; intro v0 hv; have HV := Aside0.mk hv; clear hv)
      | (go_at_call 20; (with_reducible refine (CrashNo_k HV.out HM.out 1).mono ?_); rintro e w11 ⟨v11, rfl, hv, hb⟩; have n0 := Aside0.mk (below_step HC.out hb); clear HC hb HV; have HC := n0; clear n0; have HV := Aside0.mk hv; clear hv)
      | ((with_reducible refine gate_dst (N := 17) rfl ?_); refine new_disk 17 _ v11 _ HV.out rfl rfl rfl rfl rfl rfl rfl rfl ?_; intro gx hgx w12 hbx hb; clear hbx hgx; have n0 := Aside0.mk (below_step HC.out hb); clear HC hb HV; have HC := n0; clear n0)
      | ((with_reducible refine gate_dst (N := 123) rfl ?_); refine load_box 10 g10 _ rfl rfl rfl ((HT.out.2).below HC.out) ?_; intro v0 hv; have HV := Aside0.mk hv; clear hv)
      | (go_at_call 22; (with_reducible refine (RotNo_k HV.out HM.out 0 0 1).mono ?_); rintro e w11 ⟨v11, rfl, hv, hb⟩; have n0 := Aside0.mk (below_step HC.out hb); clear HC hb HV; have HC := n0; clear n0; have HV := Aside0.mk hv; clear hv)
      | ((with_reducible refine gate_dst (N := 19) rfl ?_); refine new_disk 19 _ v11 _ HV.out rfl rfl rfl rfl rfl rfl rfl rfl ?_; intro gx hgx w12 hbx hb; clear hbx hgx; have n0 := Aside0.mk (below_step HC.out hb); clear HC hb HV; have HC := n0; clear n0)
      | ((with_reducible refine gate_dst (N := 128) rfl ?_); refine load_box 10 g10 _ rfl rfl rfl ((HT.out.2).below HC.out) ?_; intro v0 hv; have HV := Aside0.mk hv; clear hv)
      | (go_at_call 24; (with_reducible refine (LoseNo_k HV.out HM.out).mono ?_); rintro e w11 ⟨v11, rfl, hv, hb⟩; have n0 := Aside0.mk (below_step HC.out hb); clear HC hb HV; have HC := n0; clear n0; have HV := Aside0.mk hv; clear hv)
      | ((with_reducible refine gate_dst (N := 21) rfl ?_); refine new_disk 21 _ v11 _ HV.out rfl rfl rfl rfl rfl rfl rfl rfl ?_; intro gx hgx w12 hbx hb; clear hbx hgx; have n0 := Aside0.mk (below_step HC.out hb); clear HC hb HV; have HC := n0; clear n0)
      | ((with_reducible refine gate_dst (N := 133) rfl ?_); refine load_box 6 g6 _ rfl rfl rfl ((HT.out.1).below HC.out) ?_; intro v0 hv; have HV := Aside0.mk hv; clear hv)
      | (go_at_call 14; (with_reducible refine (ReadOut_k HV.out HVA.out (1 + (dn : Int)) HO1.out).mono ?_); rintro e w11 ⟨rfl, hb⟩; have n0 := Aside0.mk (below_step HC.out hb); clear HC hb HV; have HC := n0; clear n0)
      | ((with_reducible refine gate_dst (N := 140) rfl ?_); refine load_box 6 g6 _ rfl rfl rfl ((HT.out.1).below HC.out) ?_; intro v0 hv; have HV := Aside0.mk hv; clear hv)
      | (go_at_call 14; (with_reducible refine (ReadOut_k HV.out HVA.out (-(dn : Int)) HO2.out).mono ?_); rintro e w11 ⟨rfl, hb⟩; have n0 := Aside0.mk (below_step HC.out hb); clear HC hb HV; have HC := n0; clear n0)
      | ((with_reducible refine gate_dst (N := 147) rfl ?_); refine load_box 6 g6 _ rfl rfl rfl ((HT.out.1).below HC.out) ?_; intro v0 hv; have HV := Aside0.mk hv; clear hv)
      | (go_at_call 16; (with_reducible refine (WriteOut_k HV.out HVA.out (1 + (dn : Int)) s HO3.out).mono ?_); rintro e w11 ⟨v11, rfl, hv, hb⟩; have n0 := Aside0.mk (below_step HC.out hb); clear HC hb HV; have HC := n0; clear n0; have HV := Aside0.mk hv; clear hv)
      | ((with_reducible refine gate_dst (N := 27) rfl ?_); refine new_disk 27 _ v11 _ HV.out rfl rfl rfl rfl rfl rfl rfl rfl ?_; intro gx hgx w12 hbx hb; clear hbx hgx; have n0 := Aside0.mk (below_step HC.out hb); clear HC hb HV; have HC := n0; clear n0)
      | ((with_reducible refine gate_dst (N := 155) rfl ?_); refine load_box 6 g6 _ rfl rfl rfl ((HT.out.1).below HC.out) ?_; intro v0 hv; have HV := Aside0.mk hv; clear hv)
      | (go_at_call 16; (with_reducible refine (WriteOut_k HV.out HVA.out 0 (s ++ ⟨#[120]⟩) HO4.out).mono ?_); rintro e w11 ⟨v11, rfl, hv, hb⟩; have n0 := Aside0.mk (below_step HC.out hb); clear HC hb HV; have HC := n0; clear n0; have HV := Aside0.mk hv; clear hv)
      | ((with_reducible refine gate_dst (N := 29) rfl ?_); refine new_disk 29 _ v11 _ HV.out rfl rfl rfl rfl rfl rfl rfl rfl ?_; intro gx hgx w12 hbx hb; clear hbx hgx; have n0 := Aside0.mk (below_step HC.out hb); clear HC hb HV; have HC := n0; clear n0)
      | ((with_reducible refine gate_dst (N := 162) rfl ?_); refine load_box 6 g6 _ rfl rfl rfl ((HT.out.1).below HC.out) ?_; intro v0 hv; have HV := Aside0.mk hv; clear hv)
      | (go_at_call 22; (with_reducible refine (RotOut_k HV.out HVA.out 0 (63 + (dn : Int)) 1 HO5.out).mono ?_); rintro e w11 ⟨v11, rfl, hv, hb⟩; have n0 := Aside0.mk (below_step HC.out hb); clear HC hb HV; have HC := n0; clear n0; have HV := Aside0.mk hv; clear hv)
      | ((with_reducible refine gate_dst (N := 31) rfl ?_); refine new_disk 31 _ v11 _ HV.out rfl rfl rfl rfl rfl rfl rfl rfl ?_; intro gx hgx w12 hbx hb; clear hbx hgx; have n0 := Aside0.mk (below_step HC.out hb); clear HC hb HV; have HC := n0; clear n0)
      | ((with_reducible refine gate_dst (N := 169) rfl ?_); refine load_box 6 g6 _ rfl rfl rfl ((HT.out.1).below HC.out) ?_; intro v0 hv; have HV := Aside0.mk hv; clear hv)
      | (go_at_call 22; (with_reducible refine (RotOut_k HV.out HVA.out 0 (-(dn : Int)) 1 HO6.out).mono ?_); rintro e w11 ⟨v11, rfl, hv, hb⟩; have n0 := Aside0.mk (below_step HC.out hb); clear HC hb HV; have HC := n0; clear n0; have HV := Aside0.mk hv; clear hv)
      | ((with_reducible refine gate_dst (N := 33) rfl ?_); refine new_disk 33 _ v11 _ HV.out rfl rfl rfl rfl rfl rfl rfl rfl ?_; intro gx hgx w12 hbx hb; clear hbx hgx; have n0 := Aside0.mk (below_step HC.out hb); clear HC hb HV; have HC := n0; clear n0)
      | ((with_reducible refine gate_dst (N := 176) rfl ?_); refine load_box 6 g6 _ rfl rfl rfl ((HT.out.1).below HC.out) ?_; intro v0 hv; have HV := Aside0.mk hv; clear hv)
      | (go_at_call 22; (with_reducible refine (RotOut_k HV.out HVA.out 0 0 0 HO7.out).mono ?_); rintro e w11 ⟨v11, rfl, hv, hb⟩; have n0 := Aside0.mk (below_step HC.out hb); clear HC hb HV; have HC := n0; clear n0; have HV := Aside0.mk hv; clear hv)
      | ((with_reducible refine gate_dst (N := 35) rfl ?_); refine new_disk 35 _ v11 _ HV.out rfl rfl rfl rfl rfl rfl rfl rfl ?_; intro gx hgx w12 hbx hb; clear hbx hgx; have n0 := Aside0.mk (below_step HC.out hb); clear HC hb HV; have HC := n0; clear n0)
      | ((with_reducible refine gate_dst (N := 181) rfl ?_); refine load_box 6 g6 _ rfl rfl rfl ((HT.out.1).below HC.out) ?_; intro v0 hv; have HV := Aside0.mk hv; clear hv)
      | (go_at_call 22; (with_reducible refine (RotOut_k HV.out HVA.out 0 0 (255 + (dn : Int)) HO8.out).mono ?_); rintro e w11 ⟨v11, rfl, hv, hb⟩; have n0 := Aside0.mk (below_step HC.out hb); clear HC hb HV; have HC := n0; clear n0; have HV := Aside0.mk hv; clear hv)
      | ((with_reducible refine gate_dst (N := 37) rfl ?_); refine new_disk 37 _ v11 _ HV.out rfl rfl rfl rfl rfl rfl rfl rfl ?_; intro gx hgx w12 hbx hb; clear hbx hgx; have n0 := Aside0.mk (below_step HC.out hb); clear HC hb HV; have HC := n0; clear n0)
      | (go_at_call 9; (with_reducible refine (NewNo_k (72 + (dn : Int)) HO9.out _).mono ?_); rintro e w11 ⟨v11, rfl, hv, hb⟩; have n0 := Aside0.mk (below_step HC.out hb); clear HC hb; have HC := n0; clear n0; have HV := Aside0.mk hv; clear hv)
      | ((with_reducible refine gate_dst (N := 39) rfl ?_); refine new_disk 39 _ v11 _ HV.out rfl rfl rfl rfl rfl rfl rfl rfl ?_; intro gx hgx w12 hbx hb; clear hbx hgx; have n0 := Aside0.mk (below_step HC.out hb); clear HC hb HV; have HC := n0; clear n0; obtain ⟨p1, q1, hb1, hd1⟩ := HT.out.2.below HC.out; have HV := Aside0.mk hd1; have hx0 := (blk_cell hb1 0).trans rfl; have hx1 := (blk_cell hb1 1).trans rfl; have hx2 := (blk_cell hb1 2).trans rfl; clear hb1 hd1)
      | (go_at_call 26; (with_reducible refine (MayNo_k HV.out HM.out).mono ?_); rintro e w11 ⟨rfl, hb⟩; have n0 := Aside0.mk (below_step HC.out hb); clear HC hb HV; have HC := n0; clear n0)
      | (go_at_call 12; (with_reducible refine (Num_b 1300 _).mono ?_); rintro e w13 ⟨rfl, hb⟩; have n0 := Aside0.mk (below_step HC.out hb); clear HC hb; have HC := n0; clear n0))
    go_ret
    exact ⟨rfl, below_step HB.out HC.out⟩
theorem walk (a0 a1 : Int) (w : World) (w0 : (Lit.int .i64 a0).wf = true) (w1 : (Lit.int .i64 a1).wf = true) :
    Calls Try.prog 6 #[.int .i64 a0, .int .i64 a1] w fun e w' => e = .returned (.bool true) ∧ Below w.heap.size w w' := forms_walk a0 a1 w
end Go.Proofs.Ytoloonnoobnafaa.FoW
