/- Who has the shard answers each question rightly, and other answers are refused: the law's walk, by hand; no condition beyond the statement. -/
import Derived.Test.YtgolnkankkegdaaAb
import Derived.IntWalk
namespace Go.Proofs.Ytgolnkankkegdaa.Aw
open Go.RowKit Go.Proofs.YtgolnkankkegdaaW.PrintWords Go.Proofs.YtgolnkankkegdaaW.PrintLast Go.Proofs.YtgolnkankkegdaaW.PrintMore
open Go.Proofs.Ytgolnkankkegdaa.HAuditMoved Go.Proofs.Ytgolnkankkegdaa.Ap Go.Proofs.Ytgolnkankkegdaa.Ac Go.Proofs.Ytgolnkankkegdaa.Ab
set_option linter.unusedVariables false
set_option linter.unusedSimpArgs false
set_option maxHeartbeats 4000000 in
set_option maxRecDepth 100000 in
theorem true_walk (A A2 : Option Addr) (c c2 : Nat) (l l2 : List Int) (at_ b no which by_ : Int) (w : World) (hr : Kd.C (Kd.int .i64) w A l.length l) (hr2 : Kd.C (Kd.int .i64) w A2 l2.length l2) : Calls Try.prog 4 #[.slice A l.length c, .int .i64 at_, .int .i64 b, .agg #[.int .i64 no, .slice A2 l2.length c2], .int .i64 which, .int .i64 by_] w fun e w' => e = .returned (.bool true) ∧ Below w.heap.size w w' := by
  have HR := Aside0.mk hr; have HR2 := Aside0.mk hr2
  clear hr hr2
  go_enter Try.func4, Try.ntmps4
  go_upto_block 0 with (first
    | ((with_reducible refine gate_dst (N := 9) rfl ?_); refine box_event rfl (N := 9) rfl (cs := #[.int .i64 no, .slice A2 l2.length c2]) (t := 24) ?hr ?_; (case hr => first | (go_simp; done) | (go_simp; rfl)); intro g9 hg9 w1 hbox hb; have K9 := Aside0.mk hbox; have FB := Aside0.mk hb; have HB := Aside0.mk (Below.refl w1.heap.size w1); have G9 := Aside0.mk hg9; clear hbox hb hg9)
    | (go_at_call 17; refine (Awake_k _).mono ?_; rintro e w2 ⟨rfl, hb⟩; have n0 := Aside0.mk (below_step HB.out hb); clear HB hb; have HB := n0; clear n0)
    | (go_at_call 18; refine (Text_e (b % 256) (by omega) (by omega) _).mono ?_; rintro e w3 ⟨s, rfl, HS, HZ, hb⟩; have n0 := Aside0.mk (below_step HB.out hb); clear HB hb; have HB := n0; clear n0)
    | (go_at_call 20; refine (Leaves_k s (by rw [HZ.out]; omega) _).mono ?_; rintro e w4 ⟨vl, rfl, hv, hb⟩; have VL := Aside0.mk hv; have n0 := Aside0.mk (below_step HB.out hb); clear HB hb hv; have HB := n0; clear n0)
    | (go_at_call 19; refine (Root_e VL.out (by rw [leaves4 HZ.out]; omega)).mono ?_; rintro e w5 ⟨own, fl, rfl, HO, hb⟩; clear VL; have n0 := Aside0.mk (below_step HB.out hb); clear HB hb; have HB := n0; clear n0))
  go_cut [16] (fun v wx => Aside0 ((Kd.R (Kd.int .i64) 3 wx w1.heap.size (fun _ => True) v ((l.take 6).map fun x => x % 4294967296 / 4))) ∧ Aside0 (Below w1.heap.size w1 wx))
  case first =>
    go_wp2_with fail
    go_loopw [16, 17] (fun v i wr => ∃ j : Nat, j ≤ l.length ∧ j ≤ 6 ∧ i = .int .i64 j ∧ Aside0 ((Kd.R (Kd.int .i64) 3 wr w1.heap.size (fun _ => True) v ((l.take j).map fun x => x % 4294967296 / 4))) ∧ Aside0 (Below w1.heap.size w1 wr)) (fun _ i _ => 6 - (intOf i).toNat)
    case atStart => exact ⟨0, by omega, by omega, rfl, ⟨Kd.R_nil _ _ _ _ _⟩, HB⟩
    case round =>
      clear HB
      obtain ⟨j, hj, hj6, rfl, HV, HB⟩ := hrel
      by_cases hc : j < l.length ∧ j < 6
      · obtain ⟨q1, q2⟩ := hc
        obtain ⟨ad, rfl, hcell⟩ := Kd.at_int (Kd.C_below HR.out (below_step FB.out HB.out)) (j : Int) (by omega) (by omega)
        rw [Int.toNat_natCast] at hcell
        go_wp2_with (first
          | ((with_reducible refine gate_dst (N := 61) rfl ?_); (refine Kd.R_append (Kd.int .i64) (w0 := w1) w1.heap.size rfl (.tmp 52) (.tmp 60) 22 3 (.int .i64 0) 8 rfl Try.underlying22 info3 rfl (by decide) (by omega) _ ((l.take j).map fun x => x % 4294967296 / 4) _ [_] (fun _ => True) (fun _ => False) rfl rfl rfl (fun _ hk => hk.elim) (fun _ _ => trivial) HV.out HB.out (below_size HB.out) (by rw [List.length_map, List.length_take]; omega) ?_; intro v1 w6 hv1 hb1 hgr hat)))
        clear hgr hat
        refine ⟨⟨j + 1, by omega, by omega, by go_num, ⟨?_⟩, ⟨hb1⟩⟩, by simp [intOf]; omega⟩
        rw [take_snoc q1]; exact hv1
      · by_cases q1 : j < l.length
        · obtain rfl : j = 6 := by omega
          go_wp2_with fail
          go_meet; exact ⟨HV, HB⟩
        · go_wp2_with fail
          rw [List.take_of_length_le (show l.length ≤ j by omega), ← List.take_of_length_le (show l.length ≤ 6 by omega)] at HV
          go_meet; exact ⟨HV, HB⟩
  case rest =>
    clear HB
    obtain ⟨HV, HB⟩ := hcut
    obtain ⟨rs, HRS⟩ : ∃ rs, Aside0 (rs = rsL l) := ⟨_, ⟨rfl⟩⟩
    rw [show (l.take 6).map (fun x => x % 4294967296 / 4) = rs from HRS.out.symm] at HV
    obtain ⟨AR, cR, rfl, hcR, _⟩ := Kd.R_reads HV.out
    have HN : rs.length ≤ 6 := by rw [HRS.out]; unfold rsL; rw [List.length_map, List.length_take]; omega
    by_cases hn : rs.length < 1
    · go_wp2_with fail
      go_ret
      exact ⟨rfl, below_step FB.out HB.out⟩
    · go_upto_region 13 with fail
      obtain ⟨k, hk, hke⟩ : ∃ k : Nat, k < rs.length ∧ wrap64 ((IntKind.u64.wrap at_).tmod (rs.length : Int)) = (k : Int) := ⟨_, umod_lt at_ rs.length (by omega), umod_lit at_ rs.length _ rfl (by omega) (by omega)⟩
      rw [hke]
      clear hke hcR
      obtain ⟨g16, c16, he, hg16, _⟩ := Kd.R_form HV.out (by omega)
      injection he with he _ he2
      subst he; subst he2
      have G16 := Aside0.mk hg16; clear hg16
      obtain ⟨R', HR'⟩ : ∃ R', Aside0 (R' = rs.set k own) := ⟨_, ⟨rfl⟩⟩
      go_upto_region 14 with (first
        | ((with_reducible refine gate_store (t := 3) (p := 75) rfl ?_); refine store_int (w0 := w1) w1.heap.size 3 (.tmp 75) (.tmp 74) k rs own rfl rfl rfl ?ad rfl rfl rfl HV.out hk HB.out ?_; (case ad => first | (go_simp; done) | (go_simp; rfl)); intro w7 hv7 hb7 hg7; clear hg7; have n0 := Aside0.mk hv7; clear HV HB hv7; have HV := n0; clear n0; have HB := Aside0.mk hb7; clear hb7))
      rw [← HR'.out] at HV
      have n0 := Aside0.mk (below_step FB.out HB.out); have n1 := Aside0.mk (blk_below K9.out HB.out); clear FB K9 HB; have FB := n0; have K9 := n1; clear n0 n1; have HB := Aside0.mk (Below.refl w7.heap.size w7)
      have HL : Aside0 (R'.length = rs.length) := ⟨by rw [HR'.out, List.length_set]⟩
      go_upto_region 16 with (first
        | (go_at_call 19; refine (Root_e (Kd.R_below HV.out HB.out) (by rw [HL.out]; omega)).mono ?_; rintro e w8 ⟨r, fl2, rfl, HO2, hb⟩; have n0 := Aside0.mk (below_step HB.out hb); clear HB hb; have HB := n0; clear n0)
        | (go_at_call 21; refine (Path_e (Kd.R_below HV.out HB.out) (by rw [HL.out]; omega) _).mono ?_; rintro e w9 ⟨vp, p, fl3, rfl, HP, hp, hb⟩; have VP := Aside0.mk hp; have n0 := Aside0.mk (below_step HB.out hb); clear HB hb hp; have HB := n0; clear n0))
      have n0 := Aside0.mk (below_step FB.out HB.out); have n1 := Aside0.mk (blk_below K9.out HB.out); have n2 := Aside0.mk (Kd.R_below HV.out HB.out); clear FB K9 HB HV; have FB := n0; have K9 := n1; have HV := n2; clear n0 n1 n2; have HB := Aside0.mk (Below.refl w9.heap.size w9)
      have hc0 : w9.cell? ⟨g9, 0, none⟩ = some (.int .i64 no) := (blk_cell K9.out 0).trans rfl
      go_upto_block 2 with (first
        | ((with_reducible refine gate_dst (N := 23) rfl ?_); (refine new_box 23 24 (.agg #[.int .i64 0, .slice none 0 0]) 2 (.tmp 92) #[.int .i64 (no % 4294967296 / 4), .slice none 0 0] rfl rfl rfl rfl rfl rfl (by kernel_rfl) rfl rfl ?hy rfl (by simp [Value.oneCell']) ?_; (case hy => first | (go_simp; done) | (go_simp; rfl)); intro g23 hg23 w10 hbox hb; have B23 := Aside0.mk hbox; have G23 := Aside0.mk hg23; clear HB; have HB := Aside0.mk hb; clear hbox hb hg23 hc0)))
      obtain ⟨nq, HNQ⟩ : ∃ nq, Aside0 (nq = no % 4294967296 / 4) := ⟨_, ⟨rfl⟩⟩
      rw [← HNQ.out] at B23
      go_cut [24] (fun i wx => ∃ u, Aside0 (wx.heap[g23]? = some (.cells #[.int .i64 nq, u] 24 (0, 0))) ∧ Aside0 ((Kd.R (Kd.int .i64) 3 wx w9.heap.size (fun _ => True) u ((l2.take 8).map fun x => x % 4))) ∧ Aside0 (Below w9.heap.size w9 wx))
      case first =>
        go_wp2_with fail
        go_loopw [24] (fun i wr => ∃ j : Nat, j ≤ l2.length ∧ j ≤ 8 ∧ i = .int .i64 j ∧ ∃ u, Aside0 (wr.heap[g23]? = some (.cells #[.int .i64 nq, u] 24 (0, 0))) ∧ Aside0 ((Kd.R (Kd.int .i64) 3 wr w9.heap.size (fun _ => True) u ((l2.take j).map fun x => x % 4))) ∧ Aside0 (Below w9.heap.size w9 wr)) (fun i _ => 8 - (intOf i).toNat)
        case atStart => exact ⟨0, by omega, by omega, rfl, _, B23, ⟨Kd.R_nil _ _ _ _ _⟩, HB⟩
        case round =>
          clear HB B23
          obtain ⟨j, hj, hj8, rfl, u, B23, HU, HB⟩ := hrel
          have hc1 : wr.cell? ⟨g9, 1, none⟩ = some (.slice A2 l2.length c2) := (blk_cell (blk_below K9.out HB.out) 1).trans rfl
          by_cases q1 : j < l2.length
          · by_cases q2 : j < 8
            · obtain ⟨ad, rfl, hcell⟩ := Kd.at_int (Kd.C_below HR2.out (below_step FB.out HB.out)) (j : Int) (by omega) (by omega)
              rw [Int.toNat_natCast] at hcell
              go_upto_region 20 with fail
              have hcu : wr.cell? ⟨g23, 1, none⟩ = some u := (blk_cell B23.out 1).trans rfl
              obtain ⟨x, HX⟩ : ∃ x, Aside0 (x = rd l2 (j : Int)) := ⟨_, ⟨rfl⟩⟩
              rw [← HX.out] at hcell
              refine start_ (n := 12) (S := fun w' => w'.cell? ⟨g23, 1, none⟩ = some u ∧ w'.cell? ⟨g9, 1, none⟩ = some (.slice (some ad) l2.length c2) ∧ w'.cell? (ad.add j) = some (.int .i64 x)) (ds := [9, 11]) #[false, false, false, false, false, false, false, false, false, false, false, false] (by kernel_rfl) rfl rfl ⟨hcu, hc1, hcell⟩ (fun hHeld => ?_)
              refine pure_ (i := 0) (N := some 104) (v := ?_) (a' := ?_) #[true, false, false, false, false, false, false, false, false, false, false, false] rfl rfl (by kernel_rfl) (fun _ _ _ h => h) (Or.inl ⟨by rfl, ?_⟩) ?_ ?_
              rotate_left; (intro w'; go_simp; with_reducible rfl); rotate_left; (simp only [Act.put, List.setIfInBounds_toArray, List.set_cons_zero, List.set_cons_succ, i64_w, i32_w]; rfl)
              refine take_ (i := 1) (N := some 105) (v := ?_) (a' := ?_) #[true, true, false, false, false, false, false, false, false, false, false, false] rfl rfl (by kernel_rfl) (fun _ _ _ h => h) (Or.inl ⟨by rfl, ?_⟩) hHeld ?_ ?_
              rotate_left; (rintro w' ⟨hA, hB, hC⟩; go_simp; with_reducible rfl); rotate_left; (simp only [Act.put, List.setIfInBounds_toArray, List.set_cons_zero, List.set_cons_succ, i64_w, i32_w]; rfl)
              refine pure_ (i := 2) (N := some 106) (v := ?_) (a' := ?_) #[true, true, true, false, false, false, false, false, false, false, false, false] rfl rfl (by kernel_rfl) (fun _ _ _ h => h) (Or.inl ⟨by rfl, ?_⟩) ?_ ?_
              rotate_left; (intro w'; go_simp; with_reducible rfl); rotate_left; (simp only [Act.put, List.setIfInBounds_toArray, List.set_cons_zero, List.set_cons_succ, i64_w, i32_w]; rfl)
              refine take_ (i := 3) (N := some 107) (v := ?_) (a' := ?_) #[true, true, true, true, false, false, false, false, false, false, false, false] rfl rfl (by kernel_rfl) (fun _ _ _ h => h) (Or.inl ⟨by rfl, ?_⟩) hHeld ?_ ?_
              rotate_left; (rintro w' ⟨hA, hB, hC⟩; go_simp; with_reducible rfl); rotate_left; (simp only [Act.put, List.setIfInBounds_toArray, List.set_cons_zero, List.set_cons_succ, i64_w, i32_w]; rfl)
              refine pure_ (i := 4) (N := some 108) (v := ?_) (a' := ?_) #[true, true, true, true, true, false, false, false, false, false, false, false] rfl rfl (by kernel_rfl) (fun _ _ _ h => h) (Or.inl ⟨by rfl, ?_⟩) ?_ ?_
              rotate_left; (intro w'; go_simp; with_reducible rfl); rotate_left; (simp only [Act.put, List.setIfInBounds_toArray, List.set_cons_zero, List.set_cons_succ, i64_w, i32_w]; rfl)
              refine pure_ (i := 5) (N := some 109) (v := ?_) (a' := ?_) #[true, true, true, true, true, true, false, false, false, false, false, false] rfl rfl (by kernel_rfl) (fun _ _ _ h => h) (Or.inl ⟨by rfl, ?_⟩) ?_ ?_
              rotate_left; (intro w'; go_simp; with_reducible rfl); rotate_left; (simp only [Act.put, List.setIfInBounds_toArray, List.set_cons_zero, List.set_cons_succ, i64_w, i32_w]; rfl)
              refine take_ (i := 6) (N := some 110) (v := ?_) (a' := ?_) #[true, true, true, true, true, true, true, false, false, false, false, false] rfl rfl (by kernel_rfl) (fun _ _ _ h => h) (Or.inl ⟨by rfl, ?_⟩) hHeld ?_ ?_
              rotate_left; (rintro w' ⟨hA, hB, hC⟩; go_simp; with_reducible rfl); rotate_left; (simp only [Act.put, List.setIfInBounds_toArray, List.set_cons_zero, List.set_cons_succ, i64_w, i32_w]; rfl)
              refine pure_ (i := 7) (N := some 111) (v := ?_) (a' := ?_) #[true, true, true, true, true, true, true, true, false, false, false, false] rfl rfl (by kernel_rfl) (fun _ _ _ h => h) (Or.inl ⟨by rfl, ?_⟩) ?_ ?_
              rotate_left; (intro w'; go_simp; with_reducible rfl); rotate_left; (simp only [Act.put, List.setIfInBounds_toArray, List.set_cons_zero, List.set_cons_succ, i64_w, i32_w]; rfl)
              refine one_ (i := 8) (N := some 112) #[true, true, true, true, true, true, true, true, true, false, false, false] rfl rfl (by kernel_rfl) (by decide) (fun K hK => ?_)
              refine value_ (w1 := ?_) (v := ?_) (by rfl) rfl ?_ ?_; rotate_left 2; (go_simp; (constructor <;> rfl))
              refine hK.out _ _ (S_alloc _ hHeld) (fun hHeld => ?_); clear hK K
              refine norm_ (a' := ?_) ?_ ?_; rotate_left; (show Act.put _ (some 112) _ = _; simp only [Act.put, List.setIfInBounds_toArray, List.set_cons_zero, List.set_cons_succ, i64_w, i32_w]; rfl)
              refine last_ (i := 9) (N := some 113) #[true, true, true, true, true, true, true, true, true, true, false, false] rfl rfl (by kernel_rfl) (by decide) (fun K hK => ?_)
              refine Kd.R_append_step (Kd.int .i64) (w0 := w9) (W := wr.drew) w9.heap.size (by rfl) (.tmp 105) (.tmp 112) 22 3 (.int .i64 0) 8 rfl Try.underlying22 info3 rfl (by decide) (by omega) u ((l2.take j).map fun x => x % 4) (Go.bits .and .i64 x 3) [.int .i64 (Go.bits .and .i64 x 3)] (fun _ => True) (fun _ => False) rfl rfl ?aP (fun _ hk => hk.elim) ?aF ?aO ?aB ?aS ?aL ?_
              (case aP => exact rfl); (case aF => exact (fun _ _ => trivial)); (case aO => exact Kd.R_drew HU.out); (case aB => exact below_drew1 HB.out); (case aS => exact below_size (below_drew1 HB.out)); (case aL => rw [List.length_map, List.length_take]; omega)
              intro v1 w11 hv1 hb1 hgr hat
              refine hK.out _ _ ?_; clear hK K
              refine norm_ (a' := ?_) ?_ ?_; rotate_left; (show Act.put _ (some 113) _ = _; simp only [Act.put, List.setIfInBounds_toArray, List.set_cons_zero, List.set_cons_succ, i64_w, i32_w]; rfl)
              refine pure_ (i := 10) (N := some 114) (v := ?_) (a' := ?_) #[true, true, true, true, true, true, true, true, true, true, true, false] rfl rfl (by kernel_rfl) (fun _ _ _ h => h) (Or.inl ⟨by rfl, ?_⟩) ?_ ?_
              rotate_left; (intro w'; go_simp; with_reducible rfl); rotate_left; (simp only [Act.put, List.setIfInBounds_toArray, List.set_cons_zero, List.set_cons_succ, i64_w, i32_w]; rfl)
              obtain ⟨A1, c1, rfl, _⟩ := Kd.R_reads hv1
              have hln : (List.map (fun x => x % 4) (l2.take j) ++ [Go.bits .and .i64 x 3] : List Int).length = j + 1 := by rw [List.length_append, List.length_map, List.length_take, List.length_singleton]; omega
              rw [hln] at hv1; simp only [hln]
              have hne : some g23 ≠ u.ownBlock := Kd.R_ne HU.out B23.out (by decide)
              have hB6 := (hgr.block g23 (blk_lt B23.out) hne).trans B23.out
              have hs1 := blk_cell hB6 1; have hf1 := blk_frozen hB6 1
              rw [show (#[.int .i64 nq, u] : Array Value)[1]? = some u from rfl] at hs1
              refine last_ (i := 11) (N := none) #[true, true, true, true, true, true, true, true, true, true, true, true] rfl rfl (by kernel_rfl) (by decide) (fun K hK => ?_)
              refine skip_ (w1 := w11.setCell ⟨g23, 1, none⟩ (.slice A1 (j + 1) c1)) (by rfl) rfl (by first | (go_simp; done) | (go_simp; rfl)) ?_
              refine hK.out _ _ ?_; clear hK K
              refine done_ (by kernel_rfl) ?_
              go_wp2_with fail
              refine ⟨⟨j + 1, by omega, by omega, by go_num, .slice A1 (j + 1) c1, ⟨blk_put hB6 1 _ rfl⟩, ⟨?_⟩, ⟨below_set hb1 G23.out⟩⟩, by simp [intOf]; omega⟩
              rw [take_snoc q1, ← HX.out, ← and_mask x 2 (by omega) 3 4 rfl rfl]
              exact Kd.R_set hv1 hB6 (by decide) 1 _
            · obtain rfl : j = 8 := by omega
              go_wp2_with fail
              go_meet; exact ⟨u, B23, HU, HB⟩
          · go_wp2_with fail
            rw [List.take_of_length_le (show l2.length ≤ j by omega), ← List.take_of_length_le (show l2.length ≤ 8 by omega)] at HU
            go_meet; exact ⟨u, B23, HU, HB⟩
      case rest =>
        clear HB B23
        obtain ⟨u, B23, HU, HB⟩ := hcut
        obtain ⟨AU, cU, rfl, hcU, _⟩ := Kd.R_reads HU.out
        obtain ⟨Q, HQ⟩ : ∃ Q, Aside0 (Q = qL l2 b) := ⟨_, ⟨rfl⟩⟩
        have hcu := blk_cell B23.out 1
        have hfu := blk_frozen B23.out 1
        rw [show (#[.int .i64 nq, .slice AU ((l2.take 8).map fun x => x % 4).length cU] : Array Value)[1]? = some (.slice AU ((l2.take 8).map fun x => x % 4).length cU) from rfl] at hcu
        have hln : ((l2.take 8).map fun x => x % 4).length = min 8 l2.length := by rw [List.length_map, List.length_take]
        rw [hln] at hcu
        go_upto_if 118 with fail
        go_cut [] (fun wx => ∃ u, Aside0 (wx.heap[g23]? = some (.cells #[.int .i64 nq, u] 24 (0, 0))) ∧ Aside0 ((Kd.R (Kd.int .i64) 3 wx w9.heap.size (fun _ => True) u Q)) ∧ Aside0 (Below w9.heap.size w9 wx))
        case first =>
          by_cases hq : l2.length < 1
          · have hmz : min 8 l2.length = 0 := by omega
            rw [hmz] at hcu
            go_wp2_with (first
              | ((with_reducible refine gate_dst (N := 121) rfl ?_); (refine Kd.R_lit (Kd.int .i64) (w0 := w9) w9.heap.size 3 rfl (N := 121) rfl (xs := [Go.bits .and .i64 b 3]) (inner := [.int .i64 (Go.bits .and .i64 b 3)]) (ok := fun _ => True) (okp := fun _ => False) ?hr ?hp (fun _ hk => hk.elim) trivial HB.out (below_size HB.out) (by simp) ?_; (case hr => first | (go_simp; done) | (go_simp; rfl)); (case hp => exact Kd.reps_scalar (enc := Value.int .i64) [Go.bits .and .i64 b 3]); intro v1 w11 hv1 hb1 hgr hnew; have hB6 := (hgr.block g23 (blk_lt B23.out) (by simp)).trans B23.out; obtain ⟨A1, c1, rfl, _⟩ := Kd.R_reads hv1; clear hcu hfu; have hcu : w11.cell? ⟨g23, 1, none⟩ = some (.slice AU ((l2.take 8).map fun x => x % 4).length cU) := (blk_cell hB6 1).trans rfl; have hfu := blk_frozen hB6 1)))
            go_meet
            refine ⟨_, ⟨blk_put hB6 1 _ rfl⟩, ⟨?_⟩, ⟨below_set hb1 G23.out⟩⟩
            rw [HQ.out]; unfold qL; rw [if_pos hq, ← and_mask b 2 (by omega) 3 4 rfl rfl]
            exact Kd.R_set hv1 hB6 (by decide) 1 _
          · go_wp2_with fail
            go_meet
            refine ⟨_, B23, ⟨?_⟩, HB⟩
            rw [HQ.out]; unfold qL; rw [if_neg hq]
            exact HU.out
        case rest =>
          clear B23 HU HB hcu hfu hln hcU
          obtain ⟨u, B23, HU, HB⟩ := hcut
          obtain ⟨AU, cU, rfl, _⟩ := Kd.R_reads HU.out
          have n0 := Aside0.mk (below_step FB.out HB.out); have n1 := Aside0.mk (Kd.R_below HV.out HB.out); have n2 := Aside0.mk (Kd.R_below VP.out HB.out); clear FB K9 HV VP HB G9; have FB := n0; have HV := n1; have VP := n2; clear n0 n1 n2
          have HB := Aside0.mk (Below.refl wc.heap.size wc)
          have HST : Aside0 (Sits s R' k) := ⟨sits_of HZ.out HO.out (by rw [← HRS.out]; exact HR'.out) (by rw [← HRS.out]; exact hk)⟩
          have HRR : Aside0 (r = rootS R') := ⟨HO2.out.trans (sits_root HST.out)⟩
          have HPP : Aside0 (p = pathS R' k) := ⟨HP.out.trans (sits_path HST.out)⟩
          have HNN : Aside0 (0 ≤ nq ∧ nq < 1073741824) := ⟨by rw [HNQ.out]; omega⟩
          have HQL : Aside0 (1 ≤ Q.length ∧ Q.length ≤ 8) := ⟨by rw [HQ.out]; exact qL_len l2 b⟩
          have HQI : Aside0 (∀ x, x ∈ Q → 0 ≤ x ∧ x < 4) := ⟨by rw [HQ.out]; exact qL_in l2 b⟩
          have HQA : Aside0 (∀ n, 0 ≤ n → n < 2147483647 → askL n Q = true) := ⟨by rw [HQ.out]; exact fun n h0 h1 => qL_ask h0 h1⟩
          clear HO HO2 HP HQ HNQ HRS HR'
          obtain ⟨zs, HZS⟩ : ∃ zs, Aside0 (zs = Q.map (ansOf s p nq)) := ⟨_, ⟨rfl⟩⟩
          have HZL : Aside0 (zs.length = Q.length) := ⟨by rw [HZS.out, List.length_map]⟩
          have CHK : Aside0 (∀ (W : World) (zz : List S49) (A : Option Addr) (n cc : Nat) (nn : Int) (t : Bool), zz.length = n → Below wc.heap.size wc W → Kd.C k49 W A zz.length zz → zz.length ≤ cc → (∀ x, x ∈ zz → AnsOk x) → auditA (rootS R') (R'.length : Int) (k : Int) nn Q zz = t →
              Calls Try.prog 13 #[.int .i64 r, .int .i64 rs.length, .int .i64 k, .agg #[.int .i64 nn, .slice AU Q.length cU], .slice A n cc] W fun e w' => e = .returned (.bool t) ∧ Below W.heap.size W w') :=
            ⟨fun W zz A n cc nn t hn hb hC hc ho ht => by subst hn; exact Check_k (Kd.R_below HU.out hb) hC hc ho (by have := HQL.out; omega) r rs.length k nn t (by rw [HRR.out, ← HL.out]; exact ht)⟩
          obtain ⟨hc0, hc1⟩ := box_cells B23.out
          have hq1 := HQL.out.1; have hq8 := HQL.out.2
          have hu24 := Try.underlying24
          go_upto_region 27 with (first
            | (go_at_call 9; refine (Respond_k (Kd.R_below VP.out HB.out) (Kd.R_below HU.out HB.out) s nq HZ.out (by rw [HPP.out]; exact HST.out.long) (by rw [HPP.out]; exact pathS_seals _ R' k rfl HST.out.seals) HNN.out.1 (by have := HNN.out; omega) HQL.out.1 (by have := HQL.out; omega) HQI.out).mono ?_; rintro e w14 ⟨va, rfl, ha, hb⟩; rw [← HZS.out] at ha; have AS := Aside0.mk ha; obtain ⟨AA, cA, rfl, hcA, _⟩ := Kd.S_reads ha; simp only [HZL.out] at ha hcA ⊢; clear AS; have AS := Aside0.mk ha; have n0 := Aside0.mk (below_step HB.out hb); clear HB hb ha hc0 hc1; have HB := n0; clear n0; obtain ⟨hc0, hc1⟩ := box_cells (blk_below B23.out HB.out))
            | (go_at_call 12; refine (ossuarylaw0_Num.calls _ _ _ rfl).mono ?_; rintro e w15 ⟨rfl, ⟨nd, rfl⟩⟩; have n0 := Aside0.mk (pw_below_drewN HB.out nd); have n1 := Aside0.mk (Kd.S_drewN AS.out nd); clear HB AS hc0 hc1; have HB := n0; have AS := n1; clear n0 n1; obtain ⟨hc0, hc1⟩ := box_cells (blk_below B23.out HB.out))
            | (go_at_call 13; (with_reducible refine (CHK.out _ zs _ _ _ nq true HZL.out HB.out (Kd.S_reads' AS.out).2.2 (by rw [HZL.out]; exact hcA) (by rw [HZS.out, HPP.out]; exact HST.out.ok nq Q HQI.out) (by rw [HZS.out, HPP.out]; exact HST.out.yes nq Q (HQA.out nq HNN.out.1 (by have := HNN.out; omega)) HQI.out)).mono ?_; rintro e w16 ⟨rfl, hb⟩; have n0 := Aside0.mk (below_step HB.out hb); have n1 := Aside0.mk (Kd.S_below AS.out hb); clear HB AS hc0 hc1 hb; have HB := n0; have AS := n1; clear n0 n1; obtain ⟨hc0, hc1⟩ := box_cells (blk_below B23.out HB.out))))
          obtain ⟨j, hj, hje⟩ : ∃ j : Nat, j < Q.length ∧ wrap64 ((IntKind.u64.wrap which).tmod (Q.length : Int)) = (j : Int) := ⟨_, umod_lt which Q.length (by omega), umod_lit which Q.length _ rfl (by omega) (by omega)⟩
          rw [hje]
          clear hje hcA
          have AR := Aside0.mk (Kd.S_R AS.out); clear AS
          obtain ⟨g25, c25, he, hg25, hl25⟩ := Kd.R_form AR.out (by rw [HZL.out]; omega)
          have G25 := Aside0.mk hg25; clear hg25
          injection he with he hln he2
          clear hln
          subst he; subst he2
          obtain ⟨X, HX⟩ : ∃ X, Aside0 (X = zs.getD j ⟨⟨#[]⟩, [], 0⟩) := ⟨_, ⟨rfl⟩⟩
          obtain ⟨cx, hcl, hM, hcc, _⟩ := Kd.R_elem AR.out ⟨⟨#[]⟩, [], 0⟩ (j : Int) (by omega) (by omega)
          rw [Int.toNat_natCast, ← HX.out] at hM
          rw [Int.toNat_natCast] at hcc
          obtain ⟨v1, rfl, hv1⟩ := k49_openM hM
          have MX := Aside0.mk hM; clear hM hcl
          obtain ⟨A1, c1, rfl, _⟩ := Kd.R_reads hv1
          clear hv1
          obtain ⟨hxe, hx8, hx2, hxo⟩ := ans_at (n := nq) HST.out (by rw [HZS.out, HPP.out]) hj HQI.out HX.out
          have HXE := Aside0.mk hxe; have HXO := Aside0.mk hxo; clear hxe hxo
          have e0 : w16.cell? ⟨g25, j * 3, none⟩ = some (.string X.f0) := hcc 0 _ rfl
          have e1 : w16.cell? ⟨g25, j * 3 + 1, none⟩ = some (.slice A1 X.f1.length c1) := hcc 1 _ rfl
          have e2 : w16.cell? ⟨g25, j * 3 + 2, none⟩ = some (.int .i64 X.f2) := hcc 2 _ rfl
          clear hcc
          have hu49 := Try.underlying49
          go_upto_region 28 with (first
            | ((with_reducible refine gate_dst (N := 28) rfl ?_); refine new_box 28 49 (.agg #[.string ⟨#[]⟩, .slice none 0 0, .int .i64 0]) 3 (.tmp 161) #[.string X.f0, .slice A1 X.f1.length c1, .int .i64 X.f2] rfl rfl rfl rfl rfl rfl (by kernel_rfl) rfl rfl ?hy rfl (by simp [Value.oneCell']) ?_; (case hy => first | (go_simp; done) | (go_simp; rfl)); intro g28 hg28 w17 hbox hb; have N28 := Aside0.mk (Nat.lt_of_lt_of_le hl25.1 hg28); have B28 := Aside0.mk hbox; have n0 := Aside0.mk (below_step HB.out hb); have n1 := Aside0.mk (Kd.R_below AR.out hb); have n2 := Aside0.mk (Kd.M_below MX.out hb); clear HB AR MX hc0 hc1 e0 e1 e2 hb hg28 hl25 hbox; have HB := n0; have AR := n1; have MX := n2; clear n0 n1 n2))
          obtain ⟨e0, e1, e2⟩ := box3_cells B28.out
          obtain ⟨hc0, hc1⟩ := box_cells (blk_below B23.out HB.out)
          have hnq : IntKind.i64.wrap (nq + 1) = nq + 1 := IntWalk.i64_in _ (by have := HNN.out; omega)
          go_upto_region 33 with (first
            | ((with_reducible refine gate_dst (N := 29) rfl ?_); (refine new_box 29 24 (.agg #[.int .i64 0, .slice none 0 0]) 2 (.tmp 177) #[.int .i64 (nq + 1), .slice AU Q.length cU] rfl rfl rfl rfl rfl rfl (by kernel_rfl) rfl rfl ?hy rfl (by simp [Value.oneCell']) ?_; (case hy => first | (go_simp; done) | (go_simp; rfl)); intro g29 hg29 w18 hbox hb; obtain ⟨f0, f1⟩ := box_cells hbox; have n3 := Aside0.mk (blk_below B28.out hb); have n0 := Aside0.mk (below_step HB.out hb); have n1 := Aside0.mk (Kd.R_below AR.out hb); have n2 := Aside0.mk (Kd.M_below MX.out hb); clear HB AR MX hc0 hc1 hb hg29 hbox e0 e1 e2 B28; have HB := n0; have AR := n1; have MX := n2; have B28 := n3; clear n0 n1 n2 n3))
            | (go_at_call 13; (with_reducible refine (CHK.out _ zs _ _ _ (nq + 1) false HZL.out HB.out (Kd.R_reads' AR.out).2.2 (by rw [HZL.out]; exact (Kd.R_reads' AR.out).2.1) (by rw [HZS.out, HPP.out]; exact HST.out.ok nq Q HQI.out) (by have := HNN.out; rw [HZS.out, HPP.out]; exact HST.out.nonce nq (nq + 1) Q (by omega) (by omega) (by omega) (by omega) (by omega) hq1)).mono ?_; rintro e w19 ⟨rfl, hb⟩; have n3 := Aside0.mk (blk_below B28.out hb); have n0 := Aside0.mk (below_step HB.out hb); have n1 := Aside0.mk (Kd.R_below AR.out hb); have n2 := Aside0.mk (Kd.M_below MX.out hb); clear HB AR MX hb B28 f0 f1; have HB := n0; have AR := n1; have MX := n2; have B28 := n3; clear n0 n1 n2 n3)))
          obtain ⟨i, hi, hie⟩ : ∃ i : Nat, i < 8 ∧ Go.bits .and .i64 by_ 7 = (i : Int) := ⟨(by_ % 8).toNat, by omega, by rw [and_mask by_ 3 (by omega) 7 8 rfl rfl]; omega⟩
          have kb := print_bytes (P := Try.prog) 9 50 5 Try.underlying9 Try.underlying50 Try.underlying5 X.f0 w19
          have kc := bytes_cell w19 5 X.f0 i (by omega)
          have kf := bytes_frozen w19 5 X.f0 i (by omega)
          obtain ⟨e0, e1, e2⟩ := box3_cells B28.out
          rw [hx8] at kb
          go_upto_region 35 with fail
          clear kb kc kf hie e0 e1 e2
          obtain ⟨v, HVV⟩ : ∃ v, Aside0 (v = Go.bits .xor .u8 (bt X.f0 (i : Int)) (wrap64 (1 + Go.bits .and .i64 (by_ / 8) 127) % 256)) := ⟨_, ⟨rfl⟩⟩
          rw [← HVV.out]
          obtain ⟨w20, HW⟩ : ∃ w20, Aside0 (w20 = (Lib.bytesWorld w19 5 X.f0).setCell ⟨w19.heap.size, i, none⟩ (.int .u8 v)) := ⟨_, ⟨rfl⟩⟩
          rw [← HW.out]
          obtain ⟨T, HT⟩ : ∃ T, Aside0 (T = strOfNums ((bytesOf X.f0).set i v)) := ⟨_, ⟨rfl⟩⟩
          obtain ⟨hT8, hTne⟩ := turned_facts X.f0 i by_ hx8 hi HVV.out
          rw [← HT.out] at hT8 hTne
          have HTN : Aside0 (ofL T.data.toList ≠ ofL (blockS s Q[j]).data.toList) := ⟨by rw [show blockS s Q[j] = X.f0 from (congrArg S49.f0 HXE.out).symm]; exact hTne⟩
          have HCV : Aside0 (∀ W : World, W.heap[w19.heap.size]? = w20.heap[w19.heap.size]? → ∀ c, (convert 50 9 (.slice (some ⟨w19.heap.size, 0, none⟩) 8 c)).run Try.prog W = .ok (.string T) W) :=
            ⟨fun W hW c => by have h := back_any (P := Try.prog) w19 W 50 5 9 X.f0 i v (by omega) Try.underlying50 Try.underlying5 Try.underlying9 (by rw [← HW.out]; exact hW) c; rw [hx8] at h; rw [HT.out]; exact h⟩
          have hb : Below w19.heap.size w19 w20 := by rw [HW.out]; exact bytes_step _ _ _ _ _
          have N30 := Aside0.mk (show w19.heap.size ≠ g25 from Nat.ne_of_gt (Nat.lt_trans N28.out (blk_lt B28.out)))
          have L30 := Aside0.mk (show w19.heap.size < w20.heap.size by rw [HW.out]; exact bytes_in _ _ _ _ _)
          have n3 := Aside0.mk (blk_below B28.out hb); have n0 := Aside0.mk (below_step HB.out hb); have n1 := Aside0.mk (Kd.R_below AR.out hb); have n2 := Aside0.mk (k49.M_mono (fun k (hk : True ∧ k ≠ g25) => hk.2) (Kd.M_below MX.out hb)); clear HB AR MX hb B28 hTne; have HB := n0; have AR := n1; have MX := n2; have B28 := n3; clear n0 n1 n2 n3
          have KB := Aside0.mk (KeepBut.refl w20 g25 none)
          have HXJ : Aside0 (zs[j]? = some X) := ⟨by rw [HX.out, List.getD_eq_getElem?_getD, List.getElem?_eq_getElem (by rw [HZL.out]; exact hj)]; rfl⟩
          obtain ⟨z1, HZ1⟩ : ∃ z1, Aside0 (z1 = zs.set j ⟨T, X.f1, X.f2⟩) := ⟨_, ⟨rfl⟩⟩
          have HL1 : Aside0 (z1.length = Q.length) := ⟨by rw [HZ1.out, List.length_set]; exact HZL.out⟩
          have HOK : Aside0 (∀ x, x ∈ zs → AnsOk x) := ⟨by rw [HZS.out, HPP.out]; exact HST.out.ok nq Q HQI.out⟩
          have HOY : Aside0 (∀ (y : Int) x, x ∈ zs.set j ⟨T, X.f1, y⟩ → AnsOk x) := ⟨fun y x hx => by
            rcases List.mem_or_eq_of_mem_set hx with h | rfl
            · exact HOK.out x h
            · exact ⟨by show T.size ≤ _; omega, HXO.out.2⟩⟩
          have HA1 : Aside0 (auditA (rootS R') (R'.length : Int) (k : Int) nq Q z1 = false) := ⟨by
            rw [HZ1.out, HZS.out, HPP.out, show X.f2 = pairS nq (ofL (blockS s Q[j]).data.toList) from congrArg S49.f2 HXE.out]
            exact HST.out.turned nq Q j hj T X.f1 HTN.out⟩
          have HA2 : Aside0 (auditA (rootS R') (R'.length : Int) (k : Int) nq Q (zs.set j ⟨T, X.f1, pairS nq (ofL T.data.toList)⟩) = false) := ⟨by
            rw [HZS.out, HPP.out, show X.f1 = pathS (leavesL s.data.toList) (Q[j]).toNat ++ pathS R' k from congrArg S49.f1 HXE.out]
            exact HST.out.lied nq Q HQI.out j hj T hT8 HTN.out⟩
          have kd := HCV.out w20 rfl (grownCap w19 8 0 5)
          obtain ⟨hc0, hc1⟩ := box_cells (blk_below B23.out HB.out)
          go_upto_region 38 with (first
            | ((with_reducible refine gate_store (t := 9) (p := 208) rfl ?_); (refine store_event (t := 9) (p := 208) (v := .tmp 206) (w1 := w20.setCells g25 (j * 3 + 0) [.string T]) rfl rfl rfl (exec_store rfl ?ad ?hx (ans_put0 T AR.out HXJ.out).1) ?_; (case ad => first | (go_simp; done) | (go_simp; rfl)); (case hx => first | rfl | (go_simp; done) | (go_simp; rfl)); intro w21 hw; have hp := (ans_put0 T AR.out HXJ.out).2; rw [← HZ1.out, ← hw] at hp; clear hw; have n0 := Aside0.mk (below_put HB.out hp.2 G25.out); have n1 := Aside0.mk (kb_grown KB.out hp.2); have n2 := Aside0.mk hp.1; clear HB KB AR hp hc0 hc1 kd; have HB := n0; have KB := n1; have AR := n2; clear n0 n1 n2; obtain ⟨hc0, hc1⟩ := box_cells (blk_below B23.out HB.out)))
            | (go_at_call 13; (with_reducible refine (CHK.out _ z1 _ _ _ nq false HL1.out HB.out (Kd.R_reads' AR.out).2.2 (by rw [HL1.out]; exact (Kd.R_reads' AR.out).2.1) (by rw [HZ1.out]; exact HOY.out _) HA1.out).mono ?_; rintro e w22 ⟨rfl, hb⟩; have n0 := Aside0.mk (below_step HB.out hb); have n1 := Aside0.mk (Kd.R_below AR.out hb); have n2 := Aside0.mk (kb_below KB.out hb); clear HB AR KB hb hc0 hc1; have HB := n0; have AR := n1; have KB := n2; clear n0 n1 n2; obtain ⟨hc0, hc1⟩ := box_cells (blk_below B23.out HB.out))))
          have kd := HCV.out w22.drew (kb_blk KB.out L30.out N30.out) (grownCap w19 8 0 5)
          obtain ⟨K2, HK2⟩ : ∃ K2, Aside0 (K2 = pairS nq (ofL T.data.toList)) := ⟨_, ⟨rfl⟩⟩
          obtain ⟨z2, HZ2⟩ : ∃ z2, Aside0 (z2 = zs.set j ⟨T, X.f1, K2⟩) := ⟨_, ⟨rfl⟩⟩
          have HL2 : Aside0 (z2.length = Q.length) := ⟨by rw [HZ2.out, List.length_set]; exact HZL.out⟩
          rw [← HK2.out, ← HZ2.out] at HA2
          have HX1 : Aside0 (z1[j]? = some ⟨T, X.f1, X.f2⟩) := ⟨by rw [HZ1.out]; exact List.getElem?_set_self (by rw [HZL.out]; exact hj)⟩
          have HX2 : Aside0 (z2[j]? = some ⟨T, X.f1, K2⟩) := ⟨by rw [HZ2.out]; exact List.getElem?_set_self (by rw [HZL.out]; exact hj)⟩
          have HZ12 : Aside0 (z1.set j ⟨T, X.f1, K2⟩ = z2) := ⟨by rw [HZ1.out, HZ2.out, List.set_set]⟩
          have HZ23 : Aside0 (z2.set j X = zs) := ⟨by
            obtain ⟨h, e⟩ := List.getElem?_eq_some_iff.1 HXJ.out
            rw [HZ2.out, List.set_set, ← e]; exact List.set_getElem_self h⟩
          refine start_ (n := 11) (S := fun w' => w'.cell? ⟨g23, 0, none⟩ = some (.int .i64 nq)) (ds := [10]) #[false, false, false, false, false, false, false, false, false, false, false] (by kernel_rfl) rfl rfl hc0 (fun hHeld => ?_)
          refine pure_ (i := 0) (N := some 216) (v := ?_) (a' := ?_) #[true, false, false, false, false, false, false, false, false, false, false] rfl rfl (by kernel_rfl) (fun _ _ _ h => h) (Or.inl ⟨by rfl, ?_⟩) ?_ ?_
          rotate_left; (intro w'; go_simp; with_reducible rfl); rotate_left; (simp only [Act.put, List.setIfInBounds_toArray, List.set_cons_zero, List.set_cons_succ, i64_w, i32_w]; rfl)
          refine pure_ (i := 1) (N := some 217) (v := ?_) (a' := ?_) #[true, true, false, false, false, false, false, false, false, false, false] rfl rfl (by kernel_rfl) (fun _ _ _ h => h) (Or.inl ⟨by rfl, ?_⟩) ?_ ?_
          rotate_left; (intro w'; go_simp; with_reducible rfl); rotate_left; (simp only [Act.put, List.setIfInBounds_toArray, List.set_cons_zero, List.set_cons_succ, i64_w, i32_w]; rfl)
          refine pure_ (i := 2) (N := some 218) (v := ?_) (a' := ?_) #[true, true, true, false, false, false, false, false, false, false, false] rfl rfl (by kernel_rfl) (fun _ _ _ h => h) (Or.inl ⟨by rfl, ?_⟩) ?_ ?_
          rotate_left; (intro w'; go_simp; with_reducible rfl); rotate_left; (simp only [Act.put, List.setIfInBounds_toArray, List.set_cons_zero, List.set_cons_succ, i64_w, i32_w]; rfl)
          refine take_ (i := 3) (N := some 219) (v := ?_) (a' := ?_) #[true, true, true, true, false, false, false, false, false, false, false] rfl rfl (by kernel_rfl) (fun _ _ _ h => h) (Or.inl ⟨by rfl, ?_⟩) hHeld ?_ ?_
          rotate_left; (rintro w' hA; go_simp; with_reducible rfl); rotate_left; (simp only [Act.put, List.setIfInBounds_toArray, List.set_cons_zero, List.set_cons_succ, i64_w, i32_w]; rfl)
          refine pure_ (i := 4) (N := some 220) (v := ?_) (a' := ?_) #[true, true, true, true, true, false, false, false, false, false, false] rfl rfl (by kernel_rfl) (fun _ _ _ h => h) (Or.inl ⟨by rfl, ?_⟩) ?_ ?_
          rotate_left; (intro w'; go_simp; with_reducible rfl); rotate_left; (simp only [Act.put, List.setIfInBounds_toArray, List.set_cons_zero, List.set_cons_succ, i64_w, i32_w]; rfl)
          refine one_ (i := 5) (N := some 221) #[true, true, true, true, true, true, false, false, false, false, false] rfl rfl (by kernel_rfl) (by decide) (fun K hK => ?_)
          refine value_ (w1 := ?_) (v := ?_) (by rfl) rfl ?_ ?_; rotate_left 2; (go_simp; (constructor <;> rfl))
          refine hK.out _ _ hHeld (fun hHeld => ?_); clear hK K
          refine norm_ (a' := ?_) ?_ ?_; rotate_left; (show Act.put _ (some 221) _ = _; simp only [Act.put, List.setIfInBounds_toArray, List.set_cons_zero, List.set_cons_succ, i64_w, i32_w]; rfl)
          refine one_ (i := 6) (N := some 222) #[true, true, true, true, true, true, true, false, false, false, false] rfl rfl (by kernel_rfl) (by decide) (fun K hK => ?_)
          refine goes_ Try.func23 (by kernel_rfl) rfl #[.string T] (by rfl) rfl rfl (by (try simp only [List.map_toArray, List.map_cons, List.map_nil]); first | done | rfl) ?_
          (with_reducible refine (Of_k T (by omega) _).mono ?_)
          rintro e w23 ⟨rfl, ⟨nd, rfl⟩⟩; refine ⟨_, rfl, ?_⟩
          refine hK.out _ _ hHeld (fun hHeld => ?_); clear hK K
          refine norm_ (a' := ?_) ?_ ?_; rotate_left; (show Act.put _ (some 222) _ = _; simp only [Act.put, List.setIfInBounds_toArray, List.set_cons_zero, List.set_cons_succ, i64_w, i32_w]; rfl)
          refine one_ (i := 7) (N := some 223) #[true, true, true, true, true, true, true, true, false, false, false] rfl rfl (by kernel_rfl) (by decide) (fun K hK => ?_)
          refine goes_ Try.func22 (by kernel_rfl) rfl #[.int .i64 nq, .int .i64 (ofL T.data.toList)] (by rfl) rfl rfl (by (try simp only [List.map_toArray, List.map_cons, List.map_nil]); first | done | rfl) ?_
          (with_reducible refine (Pair_k nq _ _).mono ?_)
          rintro e w23 ⟨rfl, ⟨nd2, rfl⟩⟩; rw [← HK2.out]; refine ⟨_, rfl, ?_⟩
          refine hK.out _ _ hHeld (fun hHeld => ?_); clear hK K
          refine norm_ (a' := ?_) ?_ ?_; rotate_left; (show Act.put _ (some 223) _ = _; simp only [Act.put, List.setIfInBounds_toArray, List.set_cons_zero, List.set_cons_succ, i64_w, i32_w]; rfl)
          refine pure_ (i := 8) (N := some 224) (v := ?_) (a' := ?_) #[true, true, true, true, true, true, true, true, true, false, false] rfl rfl (by kernel_rfl) (fun _ _ _ h => h) (Or.inl ⟨by rfl, ?_⟩) ?_ ?_
          rotate_left; (intro w'; go_simp; with_reducible rfl); rotate_left; (simp only [Act.put, List.setIfInBounds_toArray, List.set_cons_zero, List.set_cons_succ, i64_w, i32_w]; rfl)
          refine pure_ (i := 9) (N := some 225) (v := ?_) (a' := ?_) #[true, true, true, true, true, true, true, true, true, true, false] rfl rfl (by kernel_rfl) (fun _ _ _ h => h) (Or.inl ⟨by rfl, ?_⟩) ?_ ?_
          rotate_left; (intro w'; go_simp; with_reducible rfl); rotate_left; (simp only [Act.put, List.setIfInBounds_toArray, List.set_cons_zero, List.set_cons_succ, i64_w, i32_w]; rfl)
          have hb : Below w22.heap.size w22 ((w22.drew.drewN nd).drewN nd2) := pw_below_drewN (pw_below_drewN (below_drew1 (Below.refl _ _)) nd) nd2
          clear hHeld kd hc0 hc1
          generalize (w22.drew.drewN nd).drewN nd2 = w24 at hb ⊢
          have n0 := Aside0.mk (below_step HB.out hb); have n1 := Aside0.mk (Kd.R_below AR.out hb); have n2 := Aside0.mk (kb_below KB.out hb); clear HB AR KB hb; have HB := n0; have AR := n1; have KB := n2; clear n0 n1 n2
          have hp := ans_put2 K2 AR.out HX1.out
          refine last_ (i := 10) (N := none) #[true, true, true, true, true, true, true, true, true, true, true] rfl rfl (by kernel_rfl) (by decide) (fun K hK => ?_)
          refine skip_ (w1 := w24.setCells g25 (j * 3 + 2) [.int .i64 K2]) (by rfl) rfl (exec_store rfl ?ad ?hx hp.1) ?_; (case ad => first | (go_simp; done) | (go_simp; rfl)); (case hx => first | rfl | (go_simp; done) | (go_simp; rfl))
          refine hK.out _ _ ?_; clear hK K
          refine done_ (by kernel_rfl) ?_
          replace hp := hp.2
          have hp1 := hp.1; rw [show (⟨(⟨T, X.f1, X.f2⟩ : S49).f0, (⟨T, X.f1, X.f2⟩ : S49).f1, K2⟩ : S49) = ⟨T, X.f1, K2⟩ from rfl, HZ12.out] at hp1
          generalize w24.setCells g25 (j * 3 + 2) [.int .i64 K2] = w25 at hp hp1 ⊢
          have n0 := Aside0.mk (below_put HB.out hp.2 G25.out); have n1 := Aside0.mk (kb_grown KB.out hp.2); have n2 := Aside0.mk hp1; clear HB KB AR hp hp1; have HB := n0; have KB := n1; have AR := n2; clear n0 n1 n2
          obtain ⟨hc0, hc1⟩ := box_cells (blk_below B23.out HB.out)
          go_upto_region 41 with (go_at_call 13; with_reducible refine (CHK.out _ z2 _ _ _ nq false HL2.out HB.out (Kd.R_reads' AR.out).2.2 (by rw [HL2.out]; exact (Kd.R_reads' AR.out).2.1) (by rw [HZ2.out]; exact HOY.out _) HA2.out).mono ?_; rintro e w26 ⟨rfl, hb⟩; have n0 := Aside0.mk (below_step HB.out hb); have n1 := Aside0.mk (Kd.R_below AR.out hb); have n2 := Aside0.mk (kb_below KB.out hb); clear HB AR KB hb hc0 hc1; have HB := n0; have AR := n1; have KB := n2; clear n0 n1 n2)
          obtain ⟨e0, e1, e2⟩ := box3_cells ((kb_blk KB.out (blk_lt B28.out) (Nat.ne_of_gt N28.out)).trans B28.out)
          have MY := Aside0.mk (Kd.M_keep MX.out KB.out (fun k hk => hk))
          go_upto_region 42 with ((with_reducible refine gate_store (t := 49) (p := 236) rfl ?_); (refine store_event (t := 49) (p := 236) (v := .tmp 235) (w1 := w26.setCells g25 (j * 3 + 0) [.string X.f0, .slice A1 X.f1.length c1, .int .i64 X.f2]) rfl rfl rfl (exec_store rfl ?ad ?hx (ans_putA MY.out AR.out HX2.out).1) ?_; (case ad => first | (go_simp; done) | (go_simp; rfl)); (case hx => first | rfl | (go_simp; done) | (go_simp; rfl)); intro w27 hw; have hp := (ans_putA MY.out AR.out HX2.out).2; rw [HZ23.out, ← hw] at hp; clear hw; have n0 := Aside0.mk (below_put HB.out hp.2 G25.out); have n2 := Aside0.mk hp.1; clear HB KB AR MY hp e0 e1 e2; have HB := n0; have AR := n2; clear n0 n2))
          obtain ⟨hc0, hc1⟩ := box_cells (blk_below B23.out HB.out)
          refine start_ (n := 19) (S := fun w' => w'.cell? ⟨g23, 0, none⟩ = some (.int .i64 nq) ∧ w'.cell? ⟨g23, 1, none⟩ = some (.slice AU Q.length cU)) (ds := []) #[false, false, false, false, false, false, false, false, false, false, false, false, false, false, false, false, false, false, false] (by kernel_rfl) rfl rfl ⟨hc0, hc1⟩ (fun hHeld => ?_)
          refine pure_ (i := 0) (N := some 237) (v := ?_) (a' := ?_) #[true, false, false, false, false, false, false, false, false, false, false, false, false, false, false, false, false, false, false] rfl rfl (by kernel_rfl) (fun _ _ _ h => h) (Or.inl ⟨by rfl, ?_⟩) ?_ ?_
          rotate_left; (intro w'; go_simp; with_reducible rfl); rotate_left; (simp only [Act.put, List.setIfInBounds_toArray, List.set_cons_zero, List.set_cons_succ, i64_w, i32_w]; rfl)
          refine pure_ (i := 1) (N := some 238) (v := ?_) (a' := ?_) #[true, true, false, false, false, false, false, false, false, false, false, false, false, false, false, false, false, false, false] rfl rfl (by kernel_rfl) (fun _ _ _ h => h) (Or.inl ⟨by rfl, ?_⟩) ?_ ?_
          rotate_left; (intro w'; go_simp; with_reducible rfl); rotate_left; (simp only [Act.put, List.setIfInBounds_toArray, List.set_cons_zero, List.set_cons_succ, i64_w, i32_w]; rfl)
          refine pure_ (i := 2) (N := some 239) (v := ?_) (a' := ?_) #[true, true, true, false, false, false, false, false, false, false, false, false, false, false, false, false, false, false, false] rfl rfl (by kernel_rfl) (fun _ _ _ h => h) (Or.inl ⟨by rfl, ?_⟩) ?_ ?_
          rotate_left; (intro w'; go_simp; with_reducible rfl); rotate_left; (simp only [Act.put, List.setIfInBounds_toArray, List.set_cons_zero, List.set_cons_succ, i64_w, i32_w]; rfl)
          refine pure_ (i := 3) (N := some 240) (v := ?_) (a' := ?_) #[true, true, true, true, false, false, false, false, false, false, false, false, false, false, false, false, false, false, false] rfl rfl (by kernel_rfl) (fun _ _ _ h => h) (Or.inl ⟨by rfl, ?_⟩) ?_ ?_
          rotate_left; (intro w'; go_simp; with_reducible rfl); rotate_left; (simp only [Act.put, List.setIfInBounds_toArray, List.set_cons_zero, List.set_cons_succ, i64_w, i32_w]; rfl)
          refine take_ (i := 4) (N := some 241) (v := ?_) (a' := ?_) #[true, true, true, true, true, false, false, false, false, false, false, false, false, false, false, false, false, false, false] rfl rfl (by kernel_rfl) (fun _ _ _ h => h) (Or.inl ⟨by rfl, ?_⟩) hHeld ?_ ?_
          rotate_left; (rintro w' ⟨hA, hB⟩; go_simp; with_reducible rfl); rotate_left; (simp only [Act.put, List.setIfInBounds_toArray, List.set_cons_zero, List.set_cons_succ, i64_w, i32_w]; rfl)
          refine pure_ (i := 5) (N := some 242) (v := ?_) (a' := ?_) #[true, true, true, true, true, true, false, false, false, false, false, false, false, false, false, false, false, false, false] rfl rfl (by kernel_rfl) (fun _ _ _ h => h) (Or.inl ⟨by rfl, ?_⟩) ?_ ?_
          rotate_left; (intro w'; go_simp; with_reducible rfl); rotate_left; (simp only [Act.put, List.setIfInBounds_toArray, List.set_cons_zero, List.set_cons_succ, i64_w, i32_w]; rfl)
          clear hc0 hc1
          refine one_ (i := 6) (N := some 243) #[true, true, true, true, true, true, true, false, false, false, false, false, false, false, false, false, false, false, false] rfl rfl (by kernel_rfl) (by decide) (fun K hK => ?_)
          refine goes_ Try.func13 (by kernel_rfl) rfl #[.int .i64 r, .int .i64 rs.length, .int .i64 k, .agg #[.int .i64 nq, .slice AU Q.length cU], .slice (some ⟨g25, 0, none⟩) Q.length cA] (by rfl) rfl rfl (by (try simp only [List.map_toArray, List.map_cons, List.map_nil]); first | done | rfl) ?_
          (with_reducible refine (CHK.out _ zs _ _ _ nq true HZL.out (below_drew1 HB.out) (Kd.R_reads' (Kd.R_drew AR.out)).2.2 (by rw [HZL.out]; exact (Kd.R_reads' AR.out).2.1) HOK.out (by rw [HZS.out, HPP.out]; exact HST.out.yes nq Q (HQA.out nq HNN.out.1 (by have := HNN.out; omega)) HQI.out)).mono ?_)
          rintro e w28 ⟨rfl, hb⟩; have n0 := Aside0.mk (below_step (below_drew1 HB.out) hb); have n1 := Aside0.mk (Kd.R_below (Kd.R_drew AR.out) hb); clear HB AR; have HB := n0; have AR := n1; clear n0 n1; refine ⟨_, rfl, ?_⟩
          refine hK.out _ _ ⟨pw_cell_below hb hHeld.1, pw_cell_below hb hHeld.2⟩ (fun hHeld => ?_); clear hK K
          refine norm_ (a' := ?_) ?_ ?_; rotate_left; (show Act.put _ (some 243) _ = _; simp only [Act.put, List.setIfInBounds_toArray, List.set_cons_zero, List.set_cons_succ, i64_w, i32_w]; rfl)
          clear hb
          refine pure_ (i := 7) (N := some 244) (v := ?_) (a' := ?_) #[true, true, true, true, true, true, true, true, false, false, false, false, false, false, false, false, false, false, false] rfl rfl (by kernel_rfl) (fun _ _ _ h => h) (Or.inl ⟨by rfl, ?_⟩) ?_ ?_
          rotate_left; (intro w'; go_simp; with_reducible rfl); rotate_left; (simp only [Act.put, List.setIfInBounds_toArray, List.set_cons_zero, List.set_cons_succ, i64_w, i32_w]; rfl)
          refine pure_ (i := 8) (N := some 245) (v := ?_) (a' := ?_) #[true, true, true, true, true, true, true, true, true, false, false, false, false, false, false, false, false, false, false] rfl rfl (by kernel_rfl) (fun _ _ _ h => h) (Or.inl ⟨by rfl, ?_⟩) ?_ ?_
          rotate_left; (intro w'; go_simp; with_reducible rfl); rotate_left; (simp only [Act.put, List.setIfInBounds_toArray, List.set_cons_zero, List.set_cons_succ, i64_w, i32_w]; rfl)
          refine pure_ (i := 9) (N := some 246) (v := ?_) (a' := ?_) #[true, true, true, true, true, true, true, true, true, true, false, false, false, false, false, false, false, false, false] rfl rfl (by kernel_rfl) (fun _ _ _ h => h) (Or.inl ⟨by rfl, ?_⟩) ?_ ?_
          rotate_left; (intro w'; go_simp; with_reducible rfl); rotate_left; (simp only [Act.put, List.setIfInBounds_toArray, List.set_cons_zero, List.set_cons_succ, i64_w, i32_w]; rfl)
          refine pure_ (i := 10) (N := some 247) (v := ?_) (a' := ?_) #[true, true, true, true, true, true, true, true, true, true, true, false, false, false, false, false, false, false, false] rfl rfl (by kernel_rfl) (fun _ _ _ h => h) (Or.inl ⟨by rfl, ?_⟩) ?_ ?_
          rotate_left; (intro w'; go_simp; with_reducible rfl); rotate_left; (simp only [Act.put, List.setIfInBounds_toArray, List.set_cons_zero, List.set_cons_succ, i64_w, i32_w]; rfl)
          refine pure_ (i := 11) (N := some 248) (v := ?_) (a' := ?_) #[true, true, true, true, true, true, true, true, true, true, true, true, false, false, false, false, false, false, false] rfl rfl (by kernel_rfl) (fun _ _ _ h => h) (Or.inl ⟨by rfl, ?_⟩) ?_ ?_
          rotate_left; (intro w'; go_simp; with_reducible rfl); rotate_left; (simp only [Act.put, List.setIfInBounds_toArray, List.set_cons_zero, List.set_cons_succ, i64_w, i32_w]; rfl)
          refine take_ (i := 12) (N := some 249) (v := ?_) (a' := ?_) #[true, true, true, true, true, true, true, true, true, true, true, true, true, false, false, false, false, false, false] rfl rfl (by kernel_rfl) (fun _ _ _ h => h) (Or.inl ⟨by rfl, ?_⟩) hHeld ?_ ?_
          rotate_left; (rintro w' ⟨hA, hB⟩; go_simp; with_reducible rfl); rotate_left; (simp only [Act.put, List.setIfInBounds_toArray, List.set_cons_zero, List.set_cons_succ, i64_w, i32_w]; rfl)
          refine pure_ (i := 13) (N := some 250) (v := ?_) (a' := ?_) #[true, true, true, true, true, true, true, true, true, true, true, true, true, true, false, false, false, false, false] rfl rfl (by kernel_rfl) (fun _ _ _ h => h) (Or.inl ⟨by rfl, ?_⟩) ?_ ?_
          rotate_left; (intro w'; go_simp; with_reducible rfl); rotate_left; (simp only [Act.put, List.setIfInBounds_toArray, List.set_cons_zero, List.set_cons_succ, i64_w, i32_w]; rfl)
          have hca : Q.length ≤ cA := (Kd.R_reads' AR.out).2.1
          have hca1 : (1 : Int) ≤ (cA : Int) := by omega
          have hca2 : (1 : Int) ≤ (Q.length : Int) := by omega
          have hca3 : (Q.length : Int) ≤ (cA : Int) := by omega
          refine pure_ (i := 14) (N := some 251) (v := ?_) (a' := ?_) #[true, true, true, true, true, true, true, true, true, true, true, true, true, true, true, false, false, false, false] rfl rfl (by kernel_rfl) (fun _ _ _ h => h) (Or.inl ⟨by rfl, ?_⟩) ?_ ?_
          rotate_left; (intro w'; go_simp; with_reducible rfl); rotate_left; (simp only [Act.put, List.setIfInBounds_toArray, List.set_cons_zero, List.set_cons_succ, i64_w, i32_w]; rfl)
          have hD : Kd.C k49 w28 (if cA = 1 then some ⟨g25, 0, none⟩ else some ⟨g25, 3, none⟩) (zs.drop 1).length (zs.drop 1) := Kd.C_drop (m := 1) (c := cA) (Kd.R_reads' AR.out).2.2 (by rw [HZL.out]; exact hq1) (by rw [HZL.out]; exact hca)
          refine one_ (i := 15) (N := some 252) #[true, true, true, true, true, true, true, true, true, true, true, true, true, true, true, true, false, false, false] rfl rfl (by kernel_rfl) (by decide) (fun K hK => ?_)
          refine goes_ Try.func13 (by kernel_rfl) rfl #[.int .i64 r, .int .i64 rs.length, .int .i64 k, .agg #[.int .i64 nq, .slice AU Q.length cU], .slice (if cA = 1 then some ⟨g25, 0, none⟩ else some ⟨g25, 3, none⟩) (Q.length - 1) (cA - 1)] (by rfl) rfl rfl (by (try simp only [List.map_toArray, List.map_cons, List.map_nil]); first | done | rfl) ?_
          (with_reducible refine (CHK.out _ (zs.drop 1) _ (Q.length - 1) _ nq false (by rw [List.length_drop, HZL.out]) HB.out hD (by rw [List.length_drop, HZL.out]; omega) (fun x hx => HOK.out x (List.mem_of_mem_drop hx)) (by rw [HZS.out, HPP.out]; exact HST.out.less nq Q hq1)).mono ?_)
          rintro e w29 ⟨rfl, hb⟩; have n0 := Aside0.mk (below_step HB.out hb); clear HB AR hD; have HB := n0; clear n0; refine ⟨_, rfl, ?_⟩
          refine hK.out _ _ ⟨pw_cell_below hb hHeld.1, pw_cell_below hb hHeld.2⟩ (fun hHeld => ?_); clear hK K
          refine norm_ (a' := ?_) ?_ ?_; rotate_left; (show Act.put _ (some 252) _ = _; simp only [Act.put, List.setIfInBounds_toArray, List.set_cons_zero, List.set_cons_succ, i64_w, i32_w]; rfl)
          refine pure_ (i := 16) (N := some 253) (v := ?_) (a' := ?_) #[true, true, true, true, true, true, true, true, true, true, true, true, true, true, true, true, true, false, false] rfl rfl (by kernel_rfl) (fun _ _ _ h => h) (Or.inl ⟨by rfl, ?_⟩) ?_ ?_
          rotate_left; (intro w'; go_simp; with_reducible rfl); rotate_left; (simp only [Act.put, List.setIfInBounds_toArray, List.set_cons_zero, List.set_cons_succ, i64_w, i32_w]; rfl)
          refine pure_ (i := 17) (N := some 254) (v := ?_) (a' := ?_) #[true, true, true, true, true, true, true, true, true, true, true, true, true, true, true, true, true, true, false] rfl rfl (by kernel_rfl) (fun _ _ _ h => h) (Or.inl ⟨by rfl, ?_⟩) ?_ ?_
          rotate_left; (intro w'; go_simp; with_reducible rfl); rotate_left; (simp only [Act.put, List.setIfInBounds_toArray, List.set_cons_zero, List.set_cons_succ, i64_w, i32_w]; rfl)
          refine pure_ (i := 18) (N := some 12) (v := ?_) (a' := ?_) #[true, true, true, true, true, true, true, true, true, true, true, true, true, true, true, true, true, true, true] rfl rfl (by kernel_rfl) (fun _ _ _ h => h) (Or.inl ⟨by rfl, ?_⟩) ?_ ?_
          rotate_left; (intro w'; go_simp; with_reducible rfl); rotate_left; (simp only [Act.put, List.setIfInBounds_toArray, List.set_cons_zero, List.set_cons_succ, i64_w, i32_w]; rfl)
          refine done_ (by kernel_rfl) ?_
          go_wp2_with fail
          all_goals (go_ret; exact ⟨rfl, below_step FB.out HB.out⟩)
end Go.Proofs.Ytgolnkankkegdaa.Aw
