/- Whatever shard, path, question and answers: the program's Respond and Check are the document's, and they leave what they are given: the law's walk, by hand; no condition beyond the statement. -/
import Derived.Test.YtgolnkankkegdaaAu
namespace Go.Proofs.Ytgolnkankkegdaa.Av
open Go.RowKit Go.Proofs.YtgolnkankkegdaaW.PrintWords Go.Proofs.YtgolnkankkegdaaW.PrintLast Go.Proofs.YtgolnkankkegdaaW.PrintMore
open Go.Proofs.Ytgolnkankkegdaa.HAuditMoved Go.Proofs.Ytgolnkankkegdaa.Ap Go.Proofs.Ytgolnkankkegdaa.As Go.Proofs.Ytgolnkankkegdaa.Ac Go.Proofs.Ytgolnkankkegdaa.Ab Go.Proofs.Ytgolnkankkegdaa.Au
set_option linter.unusedVariables false
set_option linter.unusedSimpArgs false
theorem K_keep {w1 w' : World} (hb : Below w1.heap.size w1 w') {wr : World} {a b : Addr} {x y : Value} (h : Below wr.heap.size wr w1 ∧ w1.cell? a = some x ∧ w1.cell? b = some y) : Below wr.heap.size wr w' ∧ w'.cell? a = some x ∧ w'.cell? b = some y := ⟨below_step h.1 hb, pw_cell_below hb h.2.1, pw_cell_below hb h.2.2⟩
theorem Lend_r {w : World} {A : Option Addr} {c : Nat} {l : List Int} (hr : (Kd.C (Kd.int .i64) w A l.length l)) (hc : l.length ≤ c) (hl : l.length ≤ 17592186043904) : Calls Try.prog 7 #[.slice A l.length c] w fun e w' => ∃ B d, e = .returned (.slice B l.length d) ∧ RL w' w.heap.size (fun _ => True) (.slice B l.length d) l ∧ Below w.heap.size w w' :=
  (ossuarylaw0_LendInts.calls A c l l w hr hc (lend_eq l hl)).mono fun e w' ⟨v, h1, h2, h3⟩ => by
    obtain ⟨B, d, rfl⟩ := RL.slice h2
    exact ⟨B, d, h1, h2, h3⟩
theorem RL_set {w : World} {bs g : Nat} {v : Value} {xs : List Int} (h : RL w bs (fun _ => True) v xs) (hg : g < bs) (j : Nat) (u : Value) : RL (w.setCell ⟨g, j, none⟩ u) bs (fun _ => True) v xs := by
  obtain ⟨A, c, e, h⟩ := h
  exact ⟨A, c, e, Kd.R_mono (Kd.R_far (p := ⟨g, j, none⟩) (Kd.R_bound h) (fun k hk => by have := hk.2.1; show k ≠ g; omega) u) (fun _ _ => trivial)⟩
theorem bcell {W w1 : World} (hb : Below W.heap.size W w1) : (∀ b o, b < W.heap.size → w1.cell? ⟨b, o, none⟩ = W.cell? ⟨b, o, none⟩) ∧ (∀ b o, b < W.heap.size → w1.frozen? ⟨b, o, none⟩ = W.frozen? ⟨b, o, none⟩) :=
  ⟨fun b o h => hb.cell (p := ⟨b, o, none⟩) h, fun b o h => hb.frozen (p := ⟨b, o, none⟩) h⟩
theorem K_set {w1 wr : World} {g g' : Nat} {x y : Value} {i j k : Nat} (hg : wr.heap.size ≤ g') (hne : g ≠ g') (v : Value) (h : Below wr.heap.size wr w1 ∧ w1.cell? ⟨g, i, none⟩ = some x ∧ w1.cell? ⟨g, j, none⟩ = some y) : Below wr.heap.size wr (w1.setCell ⟨g', k, none⟩ v) ∧ (w1.setCell ⟨g', k, none⟩ v).cell? ⟨g, i, none⟩ = some x ∧ (w1.setCell ⟨g', k, none⟩ v).cell? ⟨g, j, none⟩ = some y :=
  ⟨below_set h.1 hg, (cell_far (p := ⟨g', k, none⟩) hne v).trans h.2.1, (cell_far (p := ⟨g', k, none⟩) hne v).trans h.2.2⟩
set_option maxHeartbeats 4000000 in
set_option maxRecDepth 100000 in
theorem audits_walk (s : ByteArray) (A1 A2 A6 : Option Addr) (c1 c2 c6 : Nat) (p l : List Int) (zs : List S49) (no root shards shard : Int) (w : World) (hp : (Kd.C (Kd.int .i64) w A1 p.length p)) (hp1 : p.length ≤ c1) (hp2 : p.length ≤ 17592186043904) (hl : (Kd.C (Kd.int .i64) w A2 l.length l)) (hl1 : l.length ≤ c2) (hl2 : l.length ≤ 17592186043904) (hz : (Kd.C k49 w A6 zs.length zs)) (hz1 : zs.length ≤ c6) (hz2 : zs.length < 2932031007402) (hz3 : ∀ x, x ∈ zs → AnsOk x) (hz4 : ∀ x, x ∈ zs → x.f1.length < 17592186044416) :
    Calls Try.prog 3 #[.string s, .slice A1 p.length c1, .agg #[.int .i64 no, .slice A2 l.length c2], .int .i64 root, .int .i64 shards, .int .i64 shard, .slice A6 zs.length c6] w fun e w' => e = .returned (.bool true) ∧ Below w.heap.size w w' := by
  have HP := Aside0.mk hp; have HL := Aside0.mk hl; have HZ := Aside0.mk hz; have HOK := Aside0.mk hz3
  clear hp hl hz hz3
  obtain ⟨z, cd, HR⟩ : ∃ z cd, Aside0 (respA s p no l = (z, cd)) := ⟨_, _, ⟨rfl⟩⟩
  obtain ⟨t, HT⟩ : ∃ t, Aside0 (auditA root shards shard no l zs = t) := ⟨_, ⟨rfl⟩⟩
  go_enter Try.func3, Try.ntmps3
  go_upto_region 2 with (first
    | ((with_reducible refine gate_dst (N := 9) rfl ?_); refine box_event rfl (N := 9) rfl (cs := #[.int .i64 no, .slice A2 l.length c2]) (t := 24) ?hr ?_; (case hr => first | (go_simp; done) | (go_simp; rfl)); intro g9 hg9 w1 hbox hb; have K9 := Aside0.mk hbox; have HB := Aside0.mk hb; clear hbox hb hg9)
    | (go_at_call 7; refine (Lend_k (Kd.C_below HP.out HB.out) hp1 hp2).mono ?_; rintro e w2 ⟨B1, d1, rfl, h1, hb⟩; have Y1 := Aside0.mk h1; have n0 := Aside0.mk (below_step HB.out hb); have n1 := Aside0.mk (blk_below K9.out hb); clear HB K9 h1 hb; have HB := n0; have K9 := n1; clear n0 n1))
  obtain ⟨hc0, hc1⟩ := box_cells K9.out
  have HNE := Aside0.mk (Nat.ne_of_lt (blk_lt K9.out))
  go_cut [16] (fun q wx => ∃ g16 B2 d2, q = .pointer (some ⟨g16, 0, none⟩) ∧ Aside0 (wx.heap[g16]? = some (.cells #[.int .i64 no, .slice B2 l.length d2] 24 (0, 0))) ∧ Aside0 (CL wx B2 d2 l) ∧ Aside0 (Below w2.heap.size w2 wx))
  case first =>
    go_region_held3 (fun w' => Below w2.heap.size w2 w' ∧ w'.cell? ⟨g9, 0, none⟩ = some (.int .i64 no) ∧ w'.cell? ⟨g9, 1, none⟩ = some (.slice A2 l.length c2))
      (first | exact K_keep (below_drew (Below.refl _ w2)) ⟨Below.refl _ _, hc0, hc1⟩ | exact K_keep hb (by assumption) | exact K_keep (below_alloc (Below.refl _ _) _) (by assumption) | exact K_keep (below_alloc (Below.refl _ _) _) (K_keep hb (K_keep (below_drew (Below.refl _ w2)) ⟨Below.refl _ _, hc0, hc1⟩)) | exact K_set (Nat.le_refl _) HNE.out _ (K_set (Nat.le_refl _) HNE.out _ (by assumption)) | (trace_state; fail))
      (first
        | (go_at_call 7; (with_reducible refine (Lend_r (Kd.C_below HL.out (below_step HB.out (And.left (by assumption)))) hl1 hl2).mono ?_); rintro e w3 ⟨B2, d2, rfl, h2, hb⟩; obtain ⟨hcl, hfl⟩ := bcell hb; have hzs := hb.size; (try simp at hzs); (try (have hzl := Nat.lt_of_succ_le hzs))))
    all_goals (go_wp2_with fail; go_meet; refine ⟨_, B2, d2, rfl, ⟨?_⟩, ⟨?_⟩, ⟨And.left (by assumption)⟩⟩)
    · exact blk_new _ _
    · exact CL.alloc (RL.room h2) _
    · exact blk_put (cs := #[.int .i64 no, .slice none 0 0]) (blk_put (cs := #[.int .i64 0, .slice none 0 0]) (blk_below (blk_drew (blk_new _ _)) hb) 0 _ rfl) 1 _ rfl
    · exact RL.room (RL_set (RL_set h2 (by simp) 0 _) (by simp) 1 _)
  case rest =>
    clear hc0 hc1 HNE
    obtain ⟨g16, B2, d2, rfl, B16, Y2, HB2⟩ := hcut
    have n0 := Aside0.mk (below_step HB.out HB2.out); have n1 := Aside0.mk (blk_below K9.out HB2.out); have n2 := Aside0.mk (CL.below Y1.out HB2.out); clear HB K9 Y1 HB2; have HB := n0; have K9 := n1; have Y1 := n2; clear n0 n1 n2
    go_upto_region 4 with (go_at_call 8; refine (Copy_k (Kd.C_below HZ.out HB.out) hz1 hz2 hz4).mono ?_; rintro e w5 ⟨B7, d7, rfl, h7, hd7, hb⟩; have X7 := Aside0.mk h7; have n0 := Aside0.mk (below_step HB.out hb); have n1 := Aside0.mk (blk_below K9.out hb); have n2 := Aside0.mk (CL.below Y1.out hb); have n3 := Aside0.mk (blk_below B16.out hb); have n4 := Aside0.mk (CL.below Y2.out hb); clear HB K9 Y1 B16 Y2 h7 hb; have FB := n0; have K9 := n1; have Y1 := n2; have B16 := n3; have Y2 := n4; clear n0 n1 n2 n3 n4)
    have HB := Aside0.mk (Below.refl w5.heap.size w5)
    have hu24 := Try.underlying24
    obtain ⟨hc0, hc1⟩ := box_cells K9.out
    obtain ⟨he0, he1⟩ := box_cells B16.out
    go_upto_region 6 with (first
      | (go_at_call 9; refine (Resp_k (CL.short Y1.out) (CL.cap Y1.out) (CL.short Y2.out) (CL.cap Y2.out) s no HR.out (by omega) (by omega)).mono ?_; rintro e w6 ⟨V, f, rfl, hs, hb⟩; have PS := Aside0.mk hs; have n0 := Aside0.mk (below_step HB.out hb); clear HB hs hb hc0 hc1 he0 he1; have HB := n0; clear n0; obtain ⟨hc0, hc1⟩ := box_cells (blk_below K9.out HB.out); obtain ⟨he0, he1⟩ := box_cells (blk_below B16.out HB.out))
      | (go_at_call 10; refine (RefR_k (Kd.C_below HP.out (below_step FB.out HB.out)) hp1 (Kd.C_below HL.out (below_step FB.out HB.out)) hl1 s no HR.out (by omega)).mono ?_; rintro e w7 ⟨V2, f2, rfl, h8, hf8, hb⟩; have Q8 := Aside0.mk h8; have n0 := Aside0.mk (below_step HB.out hb); have n1 := Aside0.mk (Kd.S_below PS.out hb); clear HB PS h8 hb hc0 hc1 he0 he1; have HB := n0; have PS := n1; clear n0 n1; obtain ⟨hc0, hc1⟩ := box_cells (blk_below K9.out HB.out); obtain ⟨he0, he1⟩ := box_cells (blk_below B16.out HB.out)))
    have HSM := Aside0.mk (resp_small HR.out)
    refine start_ (n := 25) (S := fun w' => (w'.cell? ⟨g16, 0, none⟩ = some (.int .i64 no) ∧ w'.cell? ⟨g16, 1, none⟩ = some (.slice B2 l.length d2)) ∧ w'.cell? ⟨g9, 0, none⟩ = some (.int .i64 no) ∧ w'.cell? ⟨g9, 1, none⟩ = some (.slice A2 l.length c2)) (ds := []) #[false, false, false, false, false, false, false, false, false, false, false, false, false, false, false, false, false, false, false, false, false, false, false, false, false] (by kernel_rfl) rfl rfl ⟨⟨he0, he1⟩, hc0, hc1⟩ (fun hHeld => ?_)
    clear hc0 hc1 he0 he1
    refine pure_ (i := 0) (N := some 46) (v := ?_) (a' := ?_) #[true, false, false, false, false, false, false, false, false, false, false, false, false, false, false, false, false, false, false, false, false, false, false, false, false] rfl rfl (by kernel_rfl) (fun _ _ _ h => h) (Or.inl ⟨by rfl, ?_⟩) ?_ ?_
    rotate_left; (intro w'; go_simp; with_reducible rfl); rotate_left; (simp only [Act.put, List.setIfInBounds_toArray, List.set_cons_zero, List.set_cons_succ, i64_w, i32_w]; rfl)
    refine pure_ (i := 1) (N := some 47) (v := ?_) (a' := ?_) #[true, true, false, false, false, false, false, false, false, false, false, false, false, false, false, false, false, false, false, false, false, false, false, false, false] rfl rfl (by kernel_rfl) (fun _ _ _ h => h) (Or.inl ⟨by rfl, ?_⟩) ?_ ?_
    rotate_left; (intro w'; go_simp; with_reducible rfl); rotate_left; (simp only [Act.put, List.setIfInBounds_toArray, List.set_cons_zero, List.set_cons_succ, i64_w, i32_w]; rfl)
    refine one_ (i := 2) (N := some 48) #[true, true, true, false, false, false, false, false, false, false, false, false, false, false, false, false, false, false, false, false, false, false, false, false, false] rfl rfl (by kernel_rfl) (by decide) (fun K hK => ?_)
    refine goes_ Try.func11 (by kernel_rfl) rfl #[.slice V z.length f, .slice V2 z.length f2] (by rfl) rfl rfl (by (try simp only [List.map_toArray, List.map_cons, List.map_nil]); first | done | rfl) ?_
    (with_reducible refine (SameA_k (Kd.S_reads' (Kd.S_drew PS.out)).2.2 (Kd.S_reads' PS.out).2.1 (Kd.C_drew Q8.out) hf8 (by have := HSM.out.1; omega) HSM.out.2).mono ?_)
    rintro e w8 ⟨rfl, hb⟩; have n0 := Aside0.mk (below_step (below_drew1 HB.out) hb); have n1 := Aside0.mk (Kd.S_below (Kd.S_drew PS.out) hb); clear HB PS; have HB := n0; have PS := n1; clear n0 n1; refine ⟨_, rfl, ?_⟩
    refine hK.out _ _ ⟨⟨pw_cell_below hb hHeld.1.1, pw_cell_below hb hHeld.1.2⟩, pw_cell_below hb hHeld.2.1, pw_cell_below hb hHeld.2.2⟩ (fun hHeld => ?_); clear hK K
    refine norm_ (a' := ?_) ?_ ?_; rotate_left; (show Act.put _ (some 48) _ = _; simp only [Act.put, List.setIfInBounds_toArray, List.set_cons_zero, List.set_cons_succ, i64_w, i32_w]; rfl)
    clear hb
    refine pure_ (i := 3) (N := some 49) (v := ?_) (a' := ?_) #[true, true, true, true, false, false, false, false, false, false, false, false, false, false, false, false, false, false, false, false, false, false, false, false, false] rfl rfl (by kernel_rfl) (fun _ _ _ h => h) (Or.inl ⟨by rfl, ?_⟩) ?_ ?_
    rotate_left; (intro w'; go_simp; with_reducible rfl); rotate_left; (simp only [Act.put, List.setIfInBounds_toArray, List.set_cons_zero, List.set_cons_succ, i64_w, i32_w]; rfl)
    refine pure_ (i := 4) (N := some 50) (v := ?_) (a' := ?_) #[true, true, true, true, true, false, false, false, false, false, false, false, false, false, false, false, false, false, false, false, false, false, false, false, false] rfl rfl (by kernel_rfl) (fun _ _ _ h => h) (Or.inl ⟨by rfl, ?_⟩) ?_ ?_
    rotate_left; (intro w'; go_simp; with_reducible rfl); rotate_left; (simp only [Act.put, List.setIfInBounds_toArray, List.set_cons_zero, List.set_cons_succ, i64_w, i32_w]; rfl)
    refine pure_ (i := 5) (N := some 51) (v := ?_) (a' := ?_) #[true, true, true, true, true, true, false, false, false, false, false, false, false, false, false, false, false, false, false, false, false, false, false, false, false] rfl rfl (by kernel_rfl) (fun _ _ _ h => h) (Or.inl ⟨by rfl, ?_⟩) ?_ ?_
    rotate_left; (intro w'; go_simp; with_reducible rfl); rotate_left; (simp only [Act.put, List.setIfInBounds_toArray, List.set_cons_zero, List.set_cons_succ, i64_w, i32_w]; rfl)
    refine pure_ (i := 7) (N := some 53) (v := ?_) (a' := ?_) #[true, true, true, true, true, true, false, true, false, false, false, false, false, false, false, false, false, false, false, false, false, false, false, false, false] rfl rfl (by kernel_rfl) (fun _ _ _ h => h) (Or.inl ⟨by rfl, ?_⟩) ?_ ?_
    rotate_left; (intro w'; go_simp; with_reducible rfl); rotate_left; (simp only [Act.put, List.setIfInBounds_toArray, List.set_cons_zero, List.set_cons_succ, i64_w, i32_w]; rfl)
    refine one_ (i := 6) (N := some 52) #[true, true, true, true, true, true, true, true, false, false, false, false, false, false, false, false, false, false, false, false, false, false, false, false, false] rfl rfl (by kernel_rfl) (by decide) (fun K hK => ?_)
    refine goes_ Try.func12 (by kernel_rfl) rfl #[.int .i64 cd] (by rfl) rfl rfl (by (try simp only [List.map_toArray, List.map_cons, List.map_nil]); first | done | rfl) ?_
    (with_reducible refine (Num_k cd _).mono ?_)
    rintro e w9 ⟨rfl, hb⟩; have n0 := Aside0.mk (below_step HB.out hb); have n1 := Aside0.mk (Kd.S_below PS.out hb); clear HB PS; have HB := n0; have PS := n1; clear n0 n1; refine ⟨_, rfl, ?_⟩
    refine hK.out _ _ ⟨⟨pw_cell_below hb hHeld.1.1, pw_cell_below hb hHeld.1.2⟩, pw_cell_below hb hHeld.2.1, pw_cell_below hb hHeld.2.2⟩ (fun hHeld => ?_); clear hK K
    refine norm_ (a' := ?_) ?_ ?_; rotate_left; (show Act.put _ (some 52) _ = _; simp only [Act.put, List.setIfInBounds_toArray, List.set_cons_zero, List.set_cons_succ, i64_w, i32_w]; rfl)
    clear hb
    refine pure_ (i := 8) (N := some 54) (v := ?_) (a' := ?_) #[true, true, true, true, true, true, true, true, true, false, false, false, false, false, false, false, false, false, false, false, false, false, false, false, false] rfl rfl (by kernel_rfl) (fun _ _ _ h => h) (Or.inl ⟨by rfl, ?_⟩) ?_ ?_
    rotate_left; (intro w'; go_simp; with_reducible rfl); rotate_left; (simp only [Act.put, List.setIfInBounds_toArray, List.set_cons_zero, List.set_cons_succ, i64_w, i32_w]; rfl)
    refine pure_ (i := 9) (N := some 55) (v := ?_) (a' := ?_) #[true, true, true, true, true, true, true, true, true, true, false, false, false, false, false, false, false, false, false, false, false, false, false, false, false] rfl rfl (by kernel_rfl) (fun _ _ _ h => h) (Or.inl ⟨by rfl, ?_⟩) ?_ ?_
    rotate_left; (intro w'; go_simp; with_reducible rfl); rotate_left; (simp only [Act.put, List.setIfInBounds_toArray, List.set_cons_zero, List.set_cons_succ, i64_w, i32_w]; rfl)
    refine pure_ (i := 10) (N := some 56) (v := ?_) (a' := ?_) #[true, true, true, true, true, true, true, true, true, true, true, false, false, false, false, false, false, false, false, false, false, false, false, false, false] rfl rfl (by kernel_rfl) (fun _ _ _ h => h) (Or.inl ⟨by rfl, ?_⟩) ?_ ?_
    rotate_left; (intro w'; go_simp; with_reducible rfl); rotate_left; (simp only [Act.put, List.setIfInBounds_toArray, List.set_cons_zero, List.set_cons_succ, i64_w, i32_w]; rfl)
    refine pure_ (i := 11) (N := some 57) (v := ?_) (a' := ?_) #[true, true, true, true, true, true, true, true, true, true, true, true, false, false, false, false, false, false, false, false, false, false, false, false, false] rfl rfl (by kernel_rfl) (fun _ _ _ h => h) (Or.inl ⟨by rfl, ?_⟩) ?_ ?_
    rotate_left; (intro w'; go_simp; with_reducible rfl); rotate_left; (simp only [Act.put, List.setIfInBounds_toArray, List.set_cons_zero, List.set_cons_succ, i64_w, i32_w]; rfl)
    refine pure_ (i := 12) (N := some 58) (v := ?_) (a' := ?_) #[true, true, true, true, true, true, true, true, true, true, true, true, true, false, false, false, false, false, false, false, false, false, false, false, false] rfl rfl (by kernel_rfl) (fun _ _ _ h => h) (Or.inl ⟨by rfl, ?_⟩) ?_ ?_
    rotate_left; (intro w'; go_simp; with_reducible rfl); rotate_left; (simp only [Act.put, List.setIfInBounds_toArray, List.set_cons_zero, List.set_cons_succ, i64_w, i32_w]; rfl)
    refine pure_ (i := 13) (N := some 59) (v := ?_) (a' := ?_) #[true, true, true, true, true, true, true, true, true, true, true, true, true, true, false, false, false, false, false, false, false, false, false, false, false] rfl rfl (by kernel_rfl) (fun _ _ _ h => h) (Or.inl ⟨by rfl, ?_⟩) ?_ ?_
    rotate_left; (intro w'; go_simp; with_reducible rfl); rotate_left; (simp only [Act.put, List.setIfInBounds_toArray, List.set_cons_zero, List.set_cons_succ, i64_w, i32_w]; rfl)
    refine take_ (i := 14) (N := some 60) (v := ?_) (a' := ?_) #[true, true, true, true, true, true, true, true, true, true, true, true, true, true, true, false, false, false, false, false, false, false, false, false, false] rfl rfl (by kernel_rfl) (fun _ _ _ h => h) (Or.inl ⟨by rfl, ?_⟩) hHeld ?_ ?_
    rotate_left; (rintro w' ⟨⟨hA, hB⟩, hC, hD⟩; go_simp; with_reducible rfl); rotate_left; (simp only [Act.put, List.setIfInBounds_toArray, List.set_cons_zero, List.set_cons_succ, i64_w, i32_w]; rfl)
    refine pure_ (i := 15) (N := some 61) (v := ?_) (a' := ?_) #[true, true, true, true, true, true, true, true, true, true, true, true, true, true, true, true, false, false, false, false, false, false, false, false, false] rfl rfl (by kernel_rfl) (fun _ _ _ h => h) (Or.inl ⟨by rfl, ?_⟩) ?_ ?_
    rotate_left; (intro w'; go_simp; with_reducible rfl); rotate_left; (simp only [Act.put, List.setIfInBounds_toArray, List.set_cons_zero, List.set_cons_succ, i64_w, i32_w]; rfl)
    refine pure_ (i := 17) (N := some 63) (v := ?_) (a' := ?_) #[true, true, true, true, true, true, true, true, true, true, true, true, true, true, true, true, false, true, false, false, false, false, false, false, false] rfl rfl (by kernel_rfl) (fun _ _ _ h => h) (Or.inl ⟨by rfl, ?_⟩) ?_ ?_
    rotate_left; (intro w'; go_simp; with_reducible rfl); rotate_left; (simp only [Act.put, List.setIfInBounds_toArray, List.set_cons_zero, List.set_cons_succ, i64_w, i32_w]; rfl)
    refine pure_ (i := 18) (N := some 64) (v := ?_) (a' := ?_) #[true, true, true, true, true, true, true, true, true, true, true, true, true, true, true, true, false, true, true, false, false, false, false, false, false] rfl rfl (by kernel_rfl) (fun _ _ _ h => h) (Or.inl ⟨by rfl, ?_⟩) ?_ ?_
    rotate_left; (intro w'; go_simp; with_reducible rfl); rotate_left; (simp only [Act.put, List.setIfInBounds_toArray, List.set_cons_zero, List.set_cons_succ, i64_w, i32_w]; rfl)
    refine pure_ (i := 19) (N := some 65) (v := ?_) (a' := ?_) #[true, true, true, true, true, true, true, true, true, true, true, true, true, true, true, true, false, true, true, true, false, false, false, false, false] rfl rfl (by kernel_rfl) (fun _ _ _ h => h) (Or.inl ⟨by rfl, ?_⟩) ?_ ?_
    rotate_left; (intro w'; go_simp; with_reducible rfl); rotate_left; (simp only [Act.put, List.setIfInBounds_toArray, List.set_cons_zero, List.set_cons_succ, i64_w, i32_w]; rfl)
    refine take_ (i := 20) (N := some 66) (v := ?_) (a' := ?_) #[true, true, true, true, true, true, true, true, true, true, true, true, true, true, true, true, false, true, true, true, true, false, false, false, false] rfl rfl (by kernel_rfl) (fun _ _ _ h => h) (Or.inl ⟨by rfl, ?_⟩) hHeld ?_ ?_
    rotate_left; (rintro w' ⟨⟨hA, hB⟩, hC, hD⟩; go_simp; with_reducible rfl); rotate_left; (simp only [Act.put, List.setIfInBounds_toArray, List.set_cons_zero, List.set_cons_succ, i64_w, i32_w]; rfl)
    refine pure_ (i := 21) (N := some 67) (v := ?_) (a' := ?_) #[true, true, true, true, true, true, true, true, true, true, true, true, true, true, true, true, false, true, true, true, true, true, false, false, false] rfl rfl (by kernel_rfl) (fun _ _ _ h => h) (Or.inl ⟨by rfl, ?_⟩) ?_ ?_
    rotate_left; (intro w'; go_simp; with_reducible rfl); rotate_left; (simp only [Act.put, List.setIfInBounds_toArray, List.set_cons_zero, List.set_cons_succ, i64_w, i32_w]; rfl)
    refine one_ (i := 16) (N := some 62) #[true, true, true, true, true, true, true, true, true, true, true, true, true, true, true, true, true, true, true, true, true, true, false, false, false] rfl rfl (by kernel_rfl) (by decide) (fun K hK => ?_)
    refine goes_ Try.func13 (by kernel_rfl) rfl #[.int .i64 root, .int .i64 shards, .int .i64 shard, .agg #[.int .i64 no, .slice B2 l.length d2], .slice B7 zs.length d7] (by rfl) rfl rfl (by (try simp only [List.map_toArray, List.map_cons, List.map_nil]); first | done | rfl) ?_
    (with_reducible refine (Chk_k (CL.short (CL.below Y2.out HB.out)) (CL.cap Y2.out) (Kd.C_below X7.out HB.out) hd7 HOK.out (by omega) root shards shard no HT.out).mono ?_)
    rintro e w10 ⟨rfl, hb⟩; have n0 := Aside0.mk (below_step HB.out hb); have n1 := Aside0.mk (Kd.S_below PS.out hb); clear HB PS; have HB := n0; have PS := n1; clear n0 n1; refine ⟨_, rfl, ?_⟩
    refine hK.out _ _ ⟨⟨pw_cell_below hb hHeld.1.1, pw_cell_below hb hHeld.1.2⟩, pw_cell_below hb hHeld.2.1, pw_cell_below hb hHeld.2.2⟩ (fun hHeld => ?_); clear hK K
    refine norm_ (a' := ?_) ?_ ?_; rotate_left; (show Act.put _ (some 62) _ = _; simp only [Act.put, List.setIfInBounds_toArray, List.set_cons_zero, List.set_cons_succ, i64_w, i32_w]; rfl)
    clear hb
    refine one_ (i := 22) (N := some 68) #[true, true, true, true, true, true, true, true, true, true, true, true, true, true, true, true, true, true, true, true, true, true, true, false, false] rfl rfl (by kernel_rfl) (by decide) (fun K hK => ?_)
    refine goes_ Try.func14 (by kernel_rfl) rfl #[.int .i64 root, .int .i64 shards, .int .i64 shard, .agg #[.int .i64 no, .slice A2 l.length c2], .slice A6 zs.length c6] (by rfl) rfl rfl (by (try simp only [List.map_toArray, List.map_cons, List.map_nil]); first | done | rfl) ?_
    (with_reducible refine (RefC_k (Kd.C_below HL.out (below_step FB.out HB.out)) hl1 (Kd.C_below HZ.out (below_step FB.out HB.out)) hz1 HOK.out root shards shard no HT.out).mono ?_)
    rintro e w11 ⟨rfl, hb⟩; have n0 := Aside0.mk (below_step HB.out hb); have n1 := Aside0.mk (Kd.S_below PS.out hb); clear HB PS; have HB := n0; have PS := n1; clear n0 n1; refine ⟨_, rfl, ?_⟩
    refine hK.out _ _ ⟨⟨pw_cell_below hb hHeld.1.1, pw_cell_below hb hHeld.1.2⟩, pw_cell_below hb hHeld.2.1, pw_cell_below hb hHeld.2.2⟩ (fun hHeld => ?_); clear hK K
    refine norm_ (a' := ?_) ?_ ?_; rotate_left; (show Act.put _ (some 68) _ = _; simp only [Act.put, List.setIfInBounds_toArray, List.set_cons_zero, List.set_cons_succ, i64_w, i32_w]; rfl)
    clear hb
    refine pure_ (i := 23) (N := some 69) (v := ?_) (a' := ?_) #[true, true, true, true, true, true, true, true, true, true, true, true, true, true, true, true, true, true, true, true, true, true, true, true, false] rfl rfl (by kernel_rfl) (fun _ _ _ h => h) (Or.inl ⟨by rfl, ?_⟩) ?_ ?_
    rotate_left; (intro w'; go_simp; with_reducible rfl); rotate_left; (simp only [Act.put, List.setIfInBounds_toArray, List.set_cons_zero, List.set_cons_succ, i64_w, i32_w]; rfl)
    refine pure_ (i := 24) (N := some 70) (v := ?_) (a' := ?_) #[true, true, true, true, true, true, true, true, true, true, true, true, true, true, true, true, true, true, true, true, true, true, true, true, true] rfl rfl (by kernel_rfl) (fun _ _ _ h => h) (Or.inl ⟨by rfl, ?_⟩) ?_ ?_
    rotate_left; (intro w'; go_simp; with_reducible rfl); rotate_left; (simp only [Act.put, List.setIfInBounds_toArray, List.set_cons_zero, List.set_cons_succ, i64_w, i32_w]; rfl)
    refine done_ (by kernel_rfl) ?_
    go_wp2_with (first
      | (go_at_call 15; refine (Spoil_k HB.out PS.out HSM.out.2 (by have := HSM.out.1; omega)).mono ?_; rintro e w12 ⟨rfl, hb⟩; clear HB PS; have HB := Aside0.mk hb; clear hb; obtain ⟨hc0, hc1⟩ := box_cells (blk_below K9.out HB.out); obtain ⟨he0, he1⟩ := box_cells (blk_below B16.out HB.out))
      | (go_at_call 16; with_reducible refine (Kept_k (CL.below Y1.out HB.out) (Kd.C_below HP.out (below_step FB.out HB.out)) hp1 (by omega)).mono ?_; rintro e w13 ⟨rfl, hb⟩; have n0 := Aside0.mk (below_step HB.out hb); clear HB hb hc0 hc1 he0 he1; have HB := n0; clear n0; obtain ⟨hc0, hc1⟩ := box_cells (blk_below K9.out HB.out); obtain ⟨he0, he1⟩ := box_cells (blk_below B16.out HB.out))
      | (go_at_call 16; with_reducible refine (Kept_k (CL.below Y2.out HB.out) (Kd.C_below HL.out (below_step FB.out HB.out)) hl1 (by omega)).mono ?_; rintro e w14 ⟨rfl, hb⟩; have n0 := Aside0.mk (below_step HB.out hb); clear HB hb hc0 hc1 he0 he1; have HB := n0; clear n0; obtain ⟨hc0, hc1⟩ := box_cells (blk_below K9.out HB.out); obtain ⟨he0, he1⟩ := box_cells (blk_below B16.out HB.out))
      | (go_at_call 11; refine (SameA_k (Kd.C_below X7.out HB.out) hd7 (Kd.C_below HZ.out (below_step FB.out HB.out)) hz1 (by omega) (fun x hx => (HOK.out x hx).2)).mono ?_; rintro e w15 ⟨rfl, hb⟩; have n0 := Aside0.mk (below_step HB.out hb); clear HB hb hc0 hc1 he0 he1; have HB := n0; clear n0; obtain ⟨hc0, hc1⟩ := box_cells (blk_below K9.out HB.out); obtain ⟨he0, he1⟩ := box_cells (blk_below B16.out HB.out))
      | (go_at_call 17; refine (Awake_k _).mono ?_; rintro e w16 ⟨rfl, hb⟩; have n0 := Aside0.mk (below_step HB.out hb); clear HB hb hc0 hc1 he0 he1; have HB := n0; clear n0; obtain ⟨hc0, hc1⟩ := box_cells (blk_below K9.out HB.out); obtain ⟨he0, he1⟩ := box_cells (blk_below B16.out HB.out)))
    all_goals (go_ret; exact ⟨rfl, below_step FB.out HB.out⟩)
end Go.Proofs.Ytgolnkankkegdaa.Av
