import Derived.Test.YtoloonnoobnafaaEs
import Derived.Outline
import Derived.IntWalk
namespace Go.Proofs.Ytoloonnoobnafaa.DiW
open Go.RowKit Go.Proofs.YtoloonnoobnafaaW.PrintWords Go.Proofs.YtoloonnoobnafaaW.PrintLast Go.Proofs.YtoloonnoobnafaaW.PrintMore
open Go.Proofs.Ytoloonnoobnafaa.HDisks Go.Proofs.Ytoloonnoobnafaa.Dk Go.Proofs.Ytoloonnoobnafaa.Dd Go.Proofs.Ytoloonnoobnafaa.Dp Go.Proofs.Ytoloonnoobnafaa.Dr Go.Proofs.Ytoloonnoobnafaa.Ds
set_option linter.unusedVariables false
set_option linter.unusedSimpArgs false
theorem Awake_k (w : World) : Calls Try.prog 29 #[] w fun e w' => e = .returned (.bool true) ∧ Below w.heap.size w w' := by
  obtain ⟨k, hk⟩ := ex_of_ev awake13
  exact ossuarylaw13_awake.calls k true w hk
theorem Num_k (x : Int) (w : World) : Calls Try.prog 12 #[.int .i64 x] w fun e w' => e = .returned (.int .i64 x) ∧ ∃ n, w' = w.drewN n :=
  (ossuarylaw0_Num.calls x x w rfl).mono fun _ _ h => ⟨h.1, h.2.out⟩
theorem Num_b (x : Int) (w : World) : Calls Try.prog 12 #[.int .i64 x] w fun e w' => e = .returned (.int .i64 x) ∧ Below w.heap.size w w' :=
  (Num_k x w).mono fun _ _ ⟨h, n, e⟩ => ⟨h, by rw [e]; exact pw_below_drewN (Below.refl _ _) n⟩
section
variable {P : Program} {ops : Array Oper} {rest : List Oper} {o : Oper} {a : Act} {Q : Exit → Act → World → Prop} {W : World}
/-- A whole variable is written over by what it holds. -/
theorem store_same (t : TypeId) (p : Tmp) (y : Operand) (g : Nat) (cs : Array Value) (hB : W.heap[g]? = some (.cells cs t (0, 0))) (hi : (P.info? t).map (·.size) = some cs.size) (h1 : cs.all (·.oneCell') = true)
    (hgd : o.guard = none) (hd : o.dst = none) (hop : o.op = .store t (.tmp p) y) (hx : a.eval (.tmp p) = .pointer (some ⟨g, 0, none⟩)) (hy : a.eval y = .agg cs) (h : wpList P ops Q rest a W) : wpList P ops Q (o :: rest) a W := by
  have e : W.setRow g cs = W := by
    have : W.heap.modify g (fun _ => Obj.cells cs t (0, 0)) = W.heap := by
      apply Array.ext_getElem?
      intro i
      rw [Array.getElem?_modify]
      by_cases h : g = i
      · subst h; rw [if_pos rfl, hB]; rfl
      · rw [if_neg h]
    have h2 := setRow_heap W g cs cs t (0, 0) hB
    have h3 : (W.setRow g cs).heap = W.heap := by
      apply Array.ext_getElem?
      intro i
      by_cases h : i = g
      · subst h; rw [h2, hB]
      · show (W.heap.modify g _)[i]? = _
        rw [Array.getElem?_modify, if_neg (Ne.symm h)]
    show { W with heap := (W.setRow g cs).heap } = W
    rw [h3]
  refine wpList_plain hgd fun K hK => wp_store_row t (.tmp p) y hop g _ hx hy t _ hB hi rfl h1 ?_
  rw [hd, e]
  exact hK _ _ h
end
theorem zero_built : Try.prog.built 25 [] = some #[.bool false, .slice none 0 0, .slice none 0 0] := by kernel_rfl
theorem hold12 {w0 w1 : World} {g15 g16 g14 g7 : Nat} {la lb : Bool} {p15 q15 p16 q16 p14 q14 p7 q7 : Value} (h : Below w0.heap.size w0 w1) (k15 : w0.heap[g15]? = some (.cells #[.bool la, p15, q15] 25 (0, 0))) (k16 : w0.heap[g16]? = some (.cells #[.bool la, p16, q16] 25 (0, 0))) (k14 : w0.heap[g14]? = some (.cells #[.bool lb, p14, q14] 25 (0, 0))) (k7 : w0.heap[g7]? = some (.cells #[.bool lb, p7, q7] 25 (0, 0))) :
    Below w0.heap.size w0 w1 ∧ w1.cell? ⟨g15, 0, none⟩ = some (.bool la) ∧ w1.cell? ⟨g15, 1, none⟩ = some p15 ∧ w1.cell? ⟨g15, 2, none⟩ = some q15 ∧ w1.cell? ⟨g16, 0, none⟩ = some (.bool la) ∧ w1.cell? ⟨g16, 1, none⟩ = some p16 ∧ w1.cell? ⟨g16, 2, none⟩ = some q16 ∧ w1.cell? ⟨g14, 0, none⟩ = some (.bool lb) ∧ w1.cell? ⟨g14, 1, none⟩ = some p14 ∧ w1.cell? ⟨g14, 2, none⟩ = some q14 ∧ w1.cell? ⟨g7, 0, none⟩ = some (.bool lb) ∧ w1.cell? ⟨g7, 1, none⟩ = some p7 ∧ w1.cell? ⟨g7, 2, none⟩ = some q7 :=
  ⟨h, (blk_cell (blk_below k15 h) 0).trans rfl, (blk_cell (blk_below k15 h) 1).trans rfl, (blk_cell (blk_below k15 h) 2).trans rfl, (blk_cell (blk_below k16 h) 0).trans rfl, (blk_cell (blk_below k16 h) 1).trans rfl, (blk_cell (blk_below k16 h) 2).trans rfl, (blk_cell (blk_below k14 h) 0).trans rfl, (blk_cell (blk_below k14 h) 1).trans rfl, (blk_cell (blk_below k14 h) 2).trans rfl, (blk_cell (blk_below k7 h) 0).trans rfl, (blk_cell (blk_below k7 h) 1).trans rfl, (blk_cell (blk_below k7 h) 2).trans rfl⟩
def LI (w0 : World) (g7 : Nat) (wr : World) : Prop := ∃ d l h, BP l h wr g7 d ∧ Bd d ∧ (g7 < l ∨ h ≤ g7) ∧ Below w0.heap.size w0 wr
set_option maxHeartbeats 4000000 in
set_option maxRecDepth 100000 in
theorem disks_walk (d : DS) (A1 A2 A : Option Addr) (c1 c2 n c : Nat) (ts : List S35) (fr : Int) (w : World) (h1 : Kd.C Kd.string w A1 d.ss.length d.ss) (h2 : d.ss.length ≤ c1) (h3 : Kd.C k62 w A2 d.cs.length d.cs) (h4 : d.cs.length ≤ c2) (hbd : Bd d) (hts : Kd.C k35 w A n ts) :
    Calls Try.prog 3 #[.agg #[.bool d.lost, .slice A1 d.ss.length c1, .slice A2 d.cs.length c2], .int .i64 fr, .slice A n c] w fun e w' => e = .returned (.bool true) ∧ Below w.heap.size w w' := by
  have HP := Aside0.mk (DP.param h1 h2 h3 h4)
  have HTS := Aside0.mk hts
  have HBD := Aside0.mk hbd
  clear h1 h2 h3 h4 hts hbd
  have FB := Aside0.mk (Below.refl w.heap.size w)
  go_enter Try.func3, Try.ntmps3
  go_upto_if 35 with (first
    | ((with_reducible refine gate_dst (N := 3) rfl ?_); refine box_event rfl (N := 3) rfl (cs := #[.bool d.lost, .slice A1 d.ss.length c1, .slice A2 d.cs.length c2]) (t := 25) ?hr ?_; (case hr => first | (go_simp; done) | (go_simp; rfl)); intro g3 hg3 w1 hbox hb; have B3 := Aside0.mk (show BP 0 w.heap.size w1 g3 d from ⟨_, _, hbox, HP.out.below hb⟩); clear hbox hg3; have n0 := Aside0.mk (below_step FB.out hb); clear FB; have FB := n0; clear n0; clear hb)
    | ((with_reducible refine gate_dst (N := 33) rfl ?_); refine load_bp 3 g3 d rfl rfl rfl B3.out ?_; intro v33 hv; have HV := Aside0.mk hv; clear hv)
    | ((with_reducible refine gate_dst (N := 7) rfl ?_); refine new_bp 7 _ v33 d HV.out rfl rfl rfl rfl rfl rfl rfl rfl ?_; intro g7 hg7 w2 hbx hb; have B7 := Aside0.mk hbx; have G7 := Aside0.mk (Nat.le_trans (below_size FB.out) hg7); have n0 := Aside0.mk (below_step FB.out hb); clear FB; have FB := n0; clear n0; clear hb hbx hg7 B3 HV))
  go_cut [11] (fun _ wx => Aside0 (LI w g7 wx))
  case first =>
    by_cases hfr : 0 < fr
    · obtain ⟨d2, en, ⟨k1, e1⟩, ⟨k2, e2⟩, hok⟩ := jNew fr
      have E1 := Aside0.mk e1; have E2 := Aside0.mk e2; have HK := Aside0.mk hok
      clear e1 e2 hok
      go_wp2_with (first
        | (go_at_call 9; (with_reducible refine (pNew k1 _ fr d2 en E1.out).mono ?_); rintro e w3 ⟨v8, rfl, hv, hb⟩; have V := Aside0.mk hv; have n0 := Aside0.mk (below_step FB.out hb); have n1 := Aside0.mk (B7.out.below hb); clear FB B7; have FB := n0; have B7 := n1; clear n0 n1; clear hb hv)
        | ((with_reducible refine gate_dst (N := 8) rfl ?_); refine new_br 8 _ v8 d2 V.out rfl rfl rfl rfl rfl rfl rfl rfl ?_; intro g8 hg8 w4 hbx hb; have B8 := Aside0.mk hbx; have n0 := Aside0.mk (below_step FB.out hb); have n1 := Aside0.mk (B7.out.below hb); clear FB B7; have FB := n0; have B7 := n1; clear n0 n1; clear hb hbx hg8 V)
        | (go_at_call 10; (with_reducible refine (rNew k2 _ fr d2 en E2.out).mono ?_); rintro e w5 ⟨v10, rfl, hv, hb⟩; have V := Aside0.mk hv; have L10 := Aside0.mk B7.out.lt; have n0 := Aside0.mk (below_step FB.out hb); have n1 := Aside0.mk (B7.out.below hb); have n2 := Aside0.mk (B8.out.below hb); clear FB B7 B8; have FB := n0; have B7 := n1; have B8 := n2; clear n0 n1 n2; clear hb hv)
        | ((with_reducible refine gate_dst (N := 10) rfl ?_); refine new_br 10 _ v10 d2 V.out rfl rfl rfl rfl rfl rfl rfl rfl ?_; intro g10 hg10 w6 hbx hb; have B10 := Aside0.mk hbx; have n0 := Aside0.mk (below_step FB.out hb); have n1 := Aside0.mk (B7.out.below hb); have n2 := Aside0.mk (B8.out.below hb); clear FB B7 B8; have FB := n0; have B7 := n1; have B8 := n2; clear n0 n1 n2; clear hb hbx hg10 V)
        | ((with_reducible refine gate_dst (N := 46) rfl ?_); refine load_br 8 g8 d2 rfl rfl rfl B8.out ?_; intro v46 hv; have V := Aside0.mk hv; clear hv)
        | ((with_reducible refine gate_dst (N := 47) rfl ?_); refine load_br 10 g10 d2 rfl rfl rfl B10.out ?_; intro v47 hv; have U := Aside0.mk hv; clear hv)
        | (go_at_call 11; (with_reducible refine (pSame V.out.dp U.out.dp HK.out.bd).mono ?_); rintro e w7 ⟨rfl, hb⟩; have n0 := Aside0.mk (below_step FB.out hb); have n1 := Aside0.mk (B7.out.below hb); have n2 := Aside0.mk (B10.out.below hb); clear FB B7 B10; have FB := n0; have B7 := n1; have B10 := n2; clear n0 n1 n2; clear hb V U B8)
        | (go_at_call 12; (with_reducible refine (Num_b en _).mono ?_); rintro e w8 ⟨rfl, hb⟩; have n0 := Aside0.mk (below_step FB.out hb); have n1 := Aside0.mk (B7.out.below hb); have n2 := Aside0.mk (B10.out.below hb); clear FB B7 B10; have FB := n0; have B7 := n1; have B10 := n2; clear n0 n1 n2; clear hb)
        | ((with_reducible refine gate_dst (N := 56) rfl ?_); refine load_br 10 g10 d2 rfl rfl rfl B10.out ?_; intro v56 hv; have V := Aside0.mk hv; clear hv)
        | ((with_reducible refine gate_store (t := 25) (p := 7) rfl ?_); refine store_br 7 _ g7 v56 d d2 V.out (.inl L10.out) B7.out rfl rfl rfl rfl rfl ?_; intro w9 hbx hag hbel; have n0 := Aside0.mk (hbel w FB.out G7.out); have n1 := Aside0.mk hbx.bp; clear FB B7 hbx hag hbel B10 V; have FB := n0; have B7 := n1; clear n0 n1))
      go_meet
      exact ⟨⟨d2, _, _, B7.out, HK.out.bd, .inl L10.out, FB.out⟩⟩
    · go_wp2_with fail
      go_meet
      exact ⟨⟨d, 0, w.heap.size, B7.out, HBD.out, .inr G7.out, FB.out⟩⟩
  case rest =>
    have HL := hcut
    clear hcut HP HBD B7 FB
    go_wp2_with fail
    go_loopw [12] (fun i wr => ∃ j : Nat, j ≤ 40 ∧ i = .int .i64 j ∧ Aside0 (LI w g7 wr)) (fun i _ => 40 - (intOf i).toNat)
    case atStart => exact ⟨0, by omega, rfl, HL⟩
    case round =>
      obtain ⟨j, hj, rfl, HL⟩ := hrel
      by_cases hc : j < n ∧ j < 40
      · obtain ⟨q1, q2⟩ := hc
        obtain ⟨d7, l7, h7, hB7, hBd, hg7, hFB⟩ := HL.out
        obtain ⟨ad, rfl, k0, k1, k2, k3, k4⟩ := at_T35 (Kd.C_below HTS.out hFB) (j : Int) (by omega) (by omega)
        have hB7h := hB7.hi
        have B7 := Aside0.mk hB7; have HBD := Aside0.mk hBd; have N7 := Aside0.mk hg7; have FB := Aside0.mk hFB
        clear hB7 hBd hg7 hFB HL
        rw [Int.toNat_natCast] at k0 k1 k2 k3 k4
        generalize rd_T35 ts (j : Int) = t at k0 k1 k2 k3 k4
        obtain ⟨tk, tat, ttx, tpl, tby⟩ := t
        dsimp only at k0 k1 k2 k3 k4
        have L7 := Aside0.mk (show h7 ≤ wr.heap.size from hB7h)
        go_upto_block 2 with (first
          | ((with_reducible refine gate_dst (N := 13) rfl ?_); refine new_box 13 35 (.agg #[.int .i64 0, .int .i64 0, .string ⟨#[]⟩, .int .i64 0, .int .i64 0]) 5 _ #[.int .i64 tk, .int .i64 tat, .string ttx, .int .i64 tpl, .int .i64 tby] rfl rfl rfl rfl rfl rfl (by kernel_rfl) rfl rfl rfl rfl (by simp [Value.oneCell']) ?_; intro g13 hg13 w11 hbx hb; have K13 := Aside0.mk hbx; have L13 := Aside0.mk hg13; have W13 := Aside0.mk hb.size; have n0 := Aside0.mk (below_step FB.out hb); have n1 := Aside0.mk (B7.out.below hb); clear FB B7; have FB := n0; have B7 := n1; clear n0 n1; clear hb hbx hg13 k0 k1 k2 k3 k4)
          | ((with_reducible refine gate_dst (N := 71) rfl ?_); refine load_bp 7 g7 d7 rfl rfl rfl B7.out ?_; intro v71 hv; have V := Aside0.mk hv; clear hv)
          | (go_at_call 13; (with_reducible refine (pCopy V.out HBD.out).mono ?_); rintro e w12 ⟨v14, rfl, hv, hb⟩; have L12 := Aside0.mk (And.intro (blk_lt K13.out) (And.intro B7.out.lt hb.size)); clear V; have V := Aside0.mk hv; have n0 := Aside0.mk (below_step FB.out hb); have n1 := Aside0.mk (B7.out.below hb); have n2 := Aside0.mk (blk_below K13.out hb); clear FB B7 K13; have FB := n0; have B7 := n1; have K13 := n2; clear n0 n1 n2; clear hb hv)
          | ((with_reducible refine gate_dst (N := 14) rfl ?_); refine new_br 14 _ v14 d7 V.out rfl rfl rfl rfl rfl rfl rfl rfl ?_; intro g14 hg14 w14 hbx hb; have B14 := Aside0.mk hbx; have L14 := Aside0.mk hg14; have W14x := Aside0.mk hb.size; have n0 := Aside0.mk (below_step FB.out hb); have n1 := Aside0.mk (B7.out.below hb); have n2 := Aside0.mk (blk_below K13.out hb); clear FB B7 K13; have FB := n0; have B7 := n1; have K13 := n2; clear n0 n1 n2; clear hb hbx hg14 V)
          | ((with_reducible refine gate_dst (N := 73) rfl ?_); refine build_zero 25 #[.bool false, .slice none 0 0, .slice none 0 0] rfl rfl zero_built ?_)
          | ((with_reducible refine gate_dst (N := 74) rfl ?_); refine build_zero 25 #[.bool false, .slice none 0 0, .slice none 0 0] rfl rfl zero_built ?_)
          | ((with_reducible refine gate_dst (N := 15) rfl ?_); refine box_event rfl (N := 15) rfl (cs := #[.bool false, .slice none 0 0, .slice none 0 0]) (t := 25) ?hr ?_; (case hr => first | (go_simp; done) | (go_simp; rfl)); intro g15 hg15 w15 hbox hb; have K15 := Aside0.mk hbox; have L15 := Aside0.mk (And.intro (show _ ≤ g15 from Nat.le_of_eq hg15.symm) B14.out.bp.lt); have W15 := Aside0.mk hb.size; have n0 := Aside0.mk (below_step FB.out hb); have n1 := Aside0.mk (B7.out.below hb); have n2 := Aside0.mk (blk_below K13.out hb); have n3 := Aside0.mk (B14.out.below hb); clear FB B7 K13 B14; have FB := n0; have B7 := n1; have K13 := n2; have B14 := n3; clear n0 n1 n2 n3; clear hb hbox hg15)
          | ((with_reducible refine gate_dst (N := 16) rfl ?_); refine box_event rfl (N := 16) rfl (cs := #[.bool false, .slice none 0 0, .slice none 0 0]) (t := 25) ?hr ?_; (case hr => first | (go_simp; done) | (go_simp; rfl)); intro g16 hg16 w16 hbox hb; have K16 := Aside0.mk hbox; have L16 := Aside0.mk (And.intro (show _ ≤ g16 from Nat.le_of_eq hg16.symm) (blk_lt K15.out)); have W16 := Aside0.mk (And.intro hb.size W14x.out); have n0 := Aside0.mk (below_step FB.out hb); have n1 := Aside0.mk (B7.out.below hb); have n2 := Aside0.mk (blk_below K13.out hb); have n3 := Aside0.mk (B14.out.below hb); have n4 := Aside0.mk (blk_below K15.out hb); clear FB B7 K13 B14 K15; have FB := n0; have B7 := n1; have K13 := n2; have B14 := n3; have K15 := n4; clear n0 n1 n2 n3 n4; clear hb hbox hg16; have c130 := blk_cell K13.out 0; have c131 := blk_cell K13.out 1; have c132 := blk_cell K13.out 2; have c133 := blk_cell K13.out 3; have c134 := blk_cell K13.out 4)
          | ((with_reducible refine gate_store (t := 25) (p := 15) rfl ?_); refine store_same 25 15 _ g15 _ K15.out (by kernel_rfl) (by simp [Value.oneCell']) rfl rfl rfl rfl rfl ?_)
          | ((with_reducible refine gate_store (t := 25) (p := 16) rfl ?_); refine store_same 25 16 _ g16 _ K16.out (by kernel_rfl) (by simp [Value.oneCell']) rfl rfl rfl rfl rfl ?_))
        have M15 := Aside0.mk (blk_lt K15.out); have M16 := Aside0.mk (blk_lt K16.out)
        have a1 := L7.out; have a2 := L13.out; have a3 := L12.out; have a4 := L14.out; have a5 := L15.out; have a6 := L16.out; have a7 := B7.out.lt; have a8 := FB.out.size; have a9 := G7.out; have b0 := W13.out; have b1 := W15.out; have b2 := W16.out
        have O15 := Aside0.mk (show w.heap.size ≤ g15 ∧ h7 ≤ g15 ∧ g7 ≠ g15 ∧ g13 ≠ g15 ∧ w12.heap.size ≤ g15 ∧ g14 ≠ g15 ∧ g16 ≠ g15 by omega)
        have O16 := Aside0.mk (show w.heap.size ≤ g16 ∧ h7 ≤ g16 ∧ g7 ≠ g16 ∧ g13 ≠ g16 ∧ w12.heap.size ≤ g16 ∧ g14 ≠ g16 ∧ g15 ≠ g16 by omega)
        clear a1 a2 a3 a4 a5 a6 a7 a8 a9 b0 b1 b2
        go_cut [17, 18, 19, 20] (fun e17 f18 s19 u20 wx => ∃ (en : Int) (tx : ByteArray) (da : DS) (la ha lb hb : Nat), e17 = .int .i64 en ∧ f18 = .int .i64 en ∧ s19 = .string tx ∧ u20 = .string tx ∧ Aside0 (BR la ha wx g15 da ∧ BR lb hb wx g16 da ∧ Okd da ∧ w16.heap.size ≤ la ∧ ha ≤ lb ∧ g16 < lb ∧ BP l7 h7 wx g7 d7 ∧ BR w11.heap.size w12.heap.size wx g14 d7 ∧ wx.heap[g13]? = some (.cells #[.int .i64 tk, .int .i64 tat, .string ttx, .int .i64 tpl, .int .i64 tby] 35 (0, 0)) ∧ Below w.heap.size w wx))
        case first =>
          by_cases t0 : tk = 0
          · subst t0
            as_aux_lemma =>
              obtain ⟨tx, en, e1, ⟨k2, e2⟩⟩ := jRead d7 HBD.out tat
              have E1 := Aside0.mk e1; have E2 := Aside0.mk e2; clear e1 e2
              go_wp2_with (first
                | ((with_reducible refine gate_dst (N := 93) rfl ?_); refine load_br 14 g14 d7 rfl rfl rfl B14.out ?_; intro v14' hv; have V := Aside0.mk hv.dp; clear hv)
                | (go_at_call 14; (with_reducible refine (pRead V.out tat tx en E1.out).mono ?_); rintro e w20 ⟨rfl, hb⟩; have n0 := Aside0.mk (below_step FB.out hb); have n1 := Aside0.mk (B7.out.below hb); have n2 := Aside0.mk (blk_below K13.out hb); have n3 := Aside0.mk (B14.out.below hb); have n4 := Aside0.mk (blk_below K15.out hb); have n5 := Aside0.mk (blk_below K16.out hb); clear FB B7 K13 B14 K15 K16; have FB := n0; have B7 := n1; have K13 := n2; have B14 := n3; have K15 := n4; have K16 := n5; clear n0 n1 n2 n3 n4 n5; have SZ := Aside0.mk hb.size; clear hb V)
                | (go_at_call 12; (with_reducible refine (Num_b en _).mono ?_); rintro e w23 ⟨rfl, hb⟩; have n0 := Aside0.mk (below_step FB.out hb); have n1 := Aside0.mk (B7.out.below hb); have n2 := Aside0.mk (blk_below K13.out hb); have n3 := Aside0.mk (B14.out.below hb); have n4 := Aside0.mk (blk_below K15.out hb); have n5 := Aside0.mk (blk_below K16.out hb); clear FB B7 K13 B14 K15 K16; have FB := n0; have B7 := n1; have K13 := n2; have B14 := n3; have K15 := n4; have K16 := n5; clear n0 n1 n2 n3 n4 n5; have SZ2 := Aside0.mk (Nat.le_trans SZ.out hb.size); clear SZ hb; have SZ := SZ2; clear SZ2; have c130 := blk_cell K13.out 0; have c131 := blk_cell K13.out 1; have c132 := blk_cell K13.out 2; have c133 := blk_cell K13.out 3; have c134 := blk_cell K13.out 4)
                | ((with_reducible refine gate_dst (N := 103) rfl ?_); refine load_bp 7 g7 d7 rfl rfl rfl B7.out ?_; intro v7' hv; have V := Aside0.mk hv; clear hv)
                | (go_at_call 15; (with_reducible refine (rRead k2 V.out tat tx en E2.out).mono ?_); rintro e w24 ⟨rfl, hb⟩; have n0 := Aside0.mk (below_step FB.out hb); have n1 := Aside0.mk (B7.out.below hb); have n2 := Aside0.mk (blk_below K13.out hb); have n3 := Aside0.mk (B14.out.below hb); have n4 := Aside0.mk (blk_below K15.out hb); have n5 := Aside0.mk (blk_below K16.out hb); clear FB B7 K13 B14 K15 K16; have FB := n0; have B7 := n1; have K13 := n2; have B14 := n3; have K15 := n4; have K16 := n5; clear n0 n1 n2 n3 n4 n5; have SZ2 := Aside0.mk (Nat.le_trans SZ.out hb.size); clear SZ hb V; have SZ := SZ2; clear SZ2))
              go_meet
              exact ⟨en, tx, ⟨false, [], []⟩, w16.heap.size, w16.heap.size, w16.heap.size, w16.heap.size, rfl, rfl, rfl, rfl, ⟨⟨_, _, K15.out, DR.zero _ _ _ SZ.out⟩, ⟨_, _, K16.out, DR.zero _ _ _ SZ.out⟩, Okd.nil _, Nat.le_refl _, Nat.le_refl _, M16.out, B7.out, B14.out, K13.out, FB.out⟩⟩
          · have b0 : (tk == 0) = false := beq_eq_false_iff_ne.mpr t0
            by_cases t1 : tk = 1
            · subst t1
              as_aux_lemma =>
                obtain ⟨da, en, e1, ⟨k2, e2⟩, hok⟩ := jWrite d7 HBD.out tat ttx
                have HK := Aside0.mk hok
                have E1 := Aside0.mk e1; have E2 := Aside0.mk e2; clear e1 e2 hok
                go_wp2_with (first
                  | ((with_reducible refine gate_dst (N := 112) rfl ?_); refine load_br 14 g14 d7 rfl rfl rfl B14.out ?_; intro v14' hv; have V := Aside0.mk hv.dp; clear hv)
                  | (go_at_call 16; (with_reducible refine (pWrite V.out tat ttx da en E1.out).mono ?_); rintro e w20 ⟨va, rfl, hv, hb⟩; clear V; have V := Aside0.mk hv; have n0 := Aside0.mk (below_step FB.out hb); have n1 := Aside0.mk (B7.out.below hb); have n2 := Aside0.mk (blk_below K13.out hb); have n3 := Aside0.mk (B14.out.below hb); have n4 := Aside0.mk (blk_below K15.out hb); have n5 := Aside0.mk (blk_below K16.out hb); clear FB B7 K13 B14 K15 K16; have FB := n0; have B7 := n1; have K13 := n2; have B14 := n3; have K15 := n4; have K16 := n5; clear n0 n1 n2 n3 n4 n5; clear hb hv)
                  | ((with_reducible refine gate_dst (N := 23) rfl ?_); refine new_br 23 _ va da V.out rfl rfl rfl rfl rfl rfl rfl rfl ?_; intro gx hgx w21 hbx hb; have BX := Aside0.mk hbx; have n0 := Aside0.mk (below_step FB.out hb); have n1 := Aside0.mk (B7.out.below hb); have n2 := Aside0.mk (blk_below K13.out hb); have n3 := Aside0.mk (B14.out.below hb); have n4 := Aside0.mk (blk_below K15.out hb); have n5 := Aside0.mk (blk_below K16.out hb); clear FB B7 K13 B14 K15 K16; have FB := n0; have B7 := n1; have K13 := n2; have B14 := n3; have K15 := n4; have K16 := n5; clear n0 n1 n2 n3 n4 n5; clear hb hbx hgx V)
                  | ((with_reducible refine gate_dst (N := 120) rfl ?_); refine load_br 23 gx da rfl rfl rfl BX.out ?_; intro vx hv; have V := Aside0.mk hv; clear hv)
                  | ((with_reducible refine gate_store (t := 25) (p := 15) rfl ?_); refine store_br 15 _ g15 vx ⟨false, [], []⟩ da V.out (.inl M15.out) (show BP 0 0 _ g15 ⟨false, [], []⟩ from ⟨_, _, K15.out, DP.zero _⟩) rfl rfl rfl rfl rfl ?_; intro w22 hbx hag hbel; have n0 := Aside0.mk (hbel w FB.out O15.out.1); have n1 := Aside0.mk (B7.out.move (hag _ _ (.inr O15.out.2.1)) (Ag.blk hag O15.out.2.2.1)); have n2 := Aside0.mk ((Ag.blk hag O15.out.2.2.2.1).trans K13.out); have n3 := Aside0.mk (B14.out.move (hag _ _ (.inr O15.out.2.2.2.2.1)) (Ag.blk hag O15.out.2.2.2.2.2.1)); have n4 := Aside0.mk ((Ag.blk hag O15.out.2.2.2.2.2.2).trans K16.out); have n5 := Aside0.mk hbx; clear FB B7 K13 B14 K16 K15 BX V hbx hag hbel; have FB := n0; have B7 := n1; have K13 := n2; have B14 := n3; have K16 := n4; have B15 := n5; clear n0 n1 n2 n3 n4 n5)
                  | (go_at_call 12; (with_reducible refine (Num_b en _).mono ?_); rintro e w23 ⟨rfl, hb⟩; have n0 := Aside0.mk (below_step FB.out hb); have n1 := Aside0.mk (B7.out.below hb); have n2 := Aside0.mk (blk_below K13.out hb); have n3 := Aside0.mk (B14.out.below hb); have n4 := Aside0.mk (B15.out.below hb); have n5 := Aside0.mk (blk_below K16.out hb); clear FB B7 K13 B14 B15 K16; have FB := n0; have B7 := n1; have K13 := n2; have B14 := n3; have B15 := n4; have K16 := n5; clear n0 n1 n2 n3 n4 n5; clear hb; have c130 := blk_cell K13.out 0; have c131 := blk_cell K13.out 1; have c132 := blk_cell K13.out 2; have c133 := blk_cell K13.out 3; have c134 := blk_cell K13.out 4)
                  | ((with_reducible refine gate_dst (N := 124) rfl ?_); refine load_bp 7 g7 d7 rfl rfl rfl B7.out ?_; intro v7' hv; have V := Aside0.mk hv; clear hv)
                  | (go_at_call 17; (with_reducible refine (rWrite k2 V.out tat ttx da en E2.out).mono ?_); rintro e w24 ⟨vb, rfl, hv, hb⟩; clear V; have V := Aside0.mk hv; have LB := Aside0.mk (And.intro B15.out.bp.hi (blk_lt K16.out)); have n0 := Aside0.mk (below_step FB.out hb); have n1 := Aside0.mk (B7.out.below hb); have n2 := Aside0.mk (blk_below K13.out hb); have n3 := Aside0.mk (B14.out.below hb); have n4 := Aside0.mk (B15.out.below hb); have n5 := Aside0.mk (blk_below K16.out hb); clear FB B7 K13 B14 B15 K16; have FB := n0; have B7 := n1; have K13 := n2; have B14 := n3; have B15 := n4; have K16 := n5; clear n0 n1 n2 n3 n4 n5; clear hb hv)
                  | ((with_reducible refine gate_store (t := 25) (p := 16) rfl ?_); refine store_br 16 _ g16 vb ⟨false, [], []⟩ da V.out (.inl LB.out.2) (show BP 0 0 _ g16 ⟨false, [], []⟩ from ⟨_, _, K16.out, DP.zero _⟩) rfl rfl rfl rfl rfl ?_; intro w25 hbx hag hbel; have n0 := Aside0.mk (hbel w FB.out O16.out.1); have n1 := Aside0.mk (B7.out.move (hag _ _ (.inr O16.out.2.1)) (Ag.blk hag O16.out.2.2.1)); have n2 := Aside0.mk ((Ag.blk hag O16.out.2.2.2.1).trans K13.out); have n3 := Aside0.mk (B14.out.move (hag _ _ (.inr O16.out.2.2.2.2.1)) (Ag.blk hag O16.out.2.2.2.2.2.1)); have n4 := Aside0.mk (B15.out.move (hag _ _ (.inl M16.out)) (Ag.blk hag O16.out.2.2.2.2.2.2)); have n5 := Aside0.mk hbx; clear FB B7 K13 B14 K16 B15 V hbx hag hbel; have FB := n0; have B7 := n1; have K13 := n2; have B14 := n3; have B15 := n4; have B16 := n5; clear n0 n1 n2 n3 n4 n5))
                go_meet
                exact ⟨en, ⟨#[]⟩, da, _, _, _, _, rfl, rfl, rfl, rfl, ⟨B15.out, B16.out, HK.out, Nat.le_refl _, LB.out.1, LB.out.2, B7.out, B14.out, K13.out, FB.out⟩⟩
            · have b1 : (tk == 1) = false := beq_eq_false_iff_ne.mpr t1
              by_cases t2 : tk = 2
              · subst t2
                as_aux_lemma =>
                  obtain ⟨da, en, ⟨k1, e1⟩, ⟨k2, e2⟩, hok⟩ := jFlush d7 HBD.out
                  have HK := Aside0.mk hok
                  have E1 := Aside0.mk e1; have E2 := Aside0.mk e2; clear e1 e2 hok
                  go_wp2_with (first
                    | ((with_reducible refine gate_dst (N := 135) rfl ?_); refine load_br 14 g14 d7 rfl rfl rfl B14.out ?_; intro v14' hv; have V := Aside0.mk hv.dp; clear hv)
                    | (go_at_call 18; (with_reducible refine (pFlush k1 V.out da en E1.out).mono ?_); rintro e w20 ⟨va, rfl, hv, hb⟩; clear V; have V := Aside0.mk hv; have n0 := Aside0.mk (below_step FB.out hb); have n1 := Aside0.mk (B7.out.below hb); have n2 := Aside0.mk (blk_below K13.out hb); have n3 := Aside0.mk (B14.out.below hb); have n4 := Aside0.mk (blk_below K15.out hb); have n5 := Aside0.mk (blk_below K16.out hb); clear FB B7 K13 B14 K15 K16; have FB := n0; have B7 := n1; have K13 := n2; have B14 := n3; have K15 := n4; have K16 := n5; clear n0 n1 n2 n3 n4 n5; clear hb hv)
                    | ((with_reducible refine gate_dst (N := 25) rfl ?_); refine new_br 25 _ va da V.out rfl rfl rfl rfl rfl rfl rfl rfl ?_; intro gx hgx w21 hbx hb; have BX := Aside0.mk hbx; have n0 := Aside0.mk (below_step FB.out hb); have n1 := Aside0.mk (B7.out.below hb); have n2 := Aside0.mk (blk_below K13.out hb); have n3 := Aside0.mk (B14.out.below hb); have n4 := Aside0.mk (blk_below K15.out hb); have n5 := Aside0.mk (blk_below K16.out hb); clear FB B7 K13 B14 K15 K16; have FB := n0; have B7 := n1; have K13 := n2; have B14 := n3; have K15 := n4; have K16 := n5; clear n0 n1 n2 n3 n4 n5; clear hb hbx hgx V)
                    | ((with_reducible refine gate_dst (N := 139) rfl ?_); refine load_br 25 gx da rfl rfl rfl BX.out ?_; intro vx hv; have V := Aside0.mk hv; clear hv)
                    | ((with_reducible refine gate_store (t := 25) (p := 15) rfl ?_); refine store_br 15 _ g15 vx ⟨false, [], []⟩ da V.out (.inl M15.out) (show BP 0 0 _ g15 ⟨false, [], []⟩ from ⟨_, _, K15.out, DP.zero _⟩) rfl rfl rfl rfl rfl ?_; intro w22 hbx hag hbel; have n0 := Aside0.mk (hbel w FB.out O15.out.1); have n1 := Aside0.mk (B7.out.move (hag _ _ (.inr O15.out.2.1)) (Ag.blk hag O15.out.2.2.1)); have n2 := Aside0.mk ((Ag.blk hag O15.out.2.2.2.1).trans K13.out); have n3 := Aside0.mk (B14.out.move (hag _ _ (.inr O15.out.2.2.2.2.1)) (Ag.blk hag O15.out.2.2.2.2.2.1)); have n4 := Aside0.mk ((Ag.blk hag O15.out.2.2.2.2.2.2).trans K16.out); have n5 := Aside0.mk hbx; clear FB B7 K13 B14 K16 K15 BX V hbx hag hbel; have FB := n0; have B7 := n1; have K13 := n2; have B14 := n3; have K16 := n4; have B15 := n5; clear n0 n1 n2 n3 n4 n5)
                    | (go_at_call 12; (with_reducible refine (Num_b en _).mono ?_); rintro e w23 ⟨rfl, hb⟩; have n0 := Aside0.mk (below_step FB.out hb); have n1 := Aside0.mk (B7.out.below hb); have n2 := Aside0.mk (blk_below K13.out hb); have n3 := Aside0.mk (B14.out.below hb); have n4 := Aside0.mk (B15.out.below hb); have n5 := Aside0.mk (blk_below K16.out hb); clear FB B7 K13 B14 B15 K16; have FB := n0; have B7 := n1; have K13 := n2; have B14 := n3; have B15 := n4; have K16 := n5; clear n0 n1 n2 n3 n4 n5; clear hb; have c130 := blk_cell K13.out 0; have c131 := blk_cell K13.out 1; have c132 := blk_cell K13.out 2; have c133 := blk_cell K13.out 3; have c134 := blk_cell K13.out 4)
                    | ((with_reducible refine gate_dst (N := 143) rfl ?_); refine load_bp 7 g7 d7 rfl rfl rfl B7.out ?_; intro v7' hv; have V := Aside0.mk hv; clear hv)
                    | (go_at_call 19; (with_reducible refine (rFlush k2 V.out da en E2.out).mono ?_); rintro e w24 ⟨vb, rfl, hv, hb⟩; clear V; have V := Aside0.mk hv; have LB := Aside0.mk (And.intro B15.out.bp.hi (blk_lt K16.out)); have n0 := Aside0.mk (below_step FB.out hb); have n1 := Aside0.mk (B7.out.below hb); have n2 := Aside0.mk (blk_below K13.out hb); have n3 := Aside0.mk (B14.out.below hb); have n4 := Aside0.mk (B15.out.below hb); have n5 := Aside0.mk (blk_below K16.out hb); clear FB B7 K13 B14 B15 K16; have FB := n0; have B7 := n1; have K13 := n2; have B14 := n3; have B15 := n4; have K16 := n5; clear n0 n1 n2 n3 n4 n5; clear hb hv)
                    | ((with_reducible refine gate_store (t := 25) (p := 16) rfl ?_); refine store_br 16 _ g16 vb ⟨false, [], []⟩ da V.out (.inl LB.out.2) (show BP 0 0 _ g16 ⟨false, [], []⟩ from ⟨_, _, K16.out, DP.zero _⟩) rfl rfl rfl rfl rfl ?_; intro w25 hbx hag hbel; have n0 := Aside0.mk (hbel w FB.out O16.out.1); have n1 := Aside0.mk (B7.out.move (hag _ _ (.inr O16.out.2.1)) (Ag.blk hag O16.out.2.2.1)); have n2 := Aside0.mk ((Ag.blk hag O16.out.2.2.2.1).trans K13.out); have n3 := Aside0.mk (B14.out.move (hag _ _ (.inr O16.out.2.2.2.2.1)) (Ag.blk hag O16.out.2.2.2.2.2.1)); have n4 := Aside0.mk (B15.out.move (hag _ _ (.inl M16.out)) (Ag.blk hag O16.out.2.2.2.2.2.2)); have n5 := Aside0.mk hbx; clear FB B7 K13 B14 K16 B15 V hbx hag hbel; have FB := n0; have B7 := n1; have K13 := n2; have B14 := n3; have B15 := n4; have B16 := n5; clear n0 n1 n2 n3 n4 n5))
                  go_meet
                  exact ⟨en, ⟨#[]⟩, da, _, _, _, _, rfl, rfl, rfl, rfl, ⟨B15.out, B16.out, HK.out, Nat.le_refl _, LB.out.1, LB.out.2, B7.out, B14.out, K13.out, FB.out⟩⟩
              · have b2 : (tk == 2) = false := beq_eq_false_iff_ne.mpr t2
                by_cases t3 : tk = 3
                · subst t3
                  as_aux_lemma =>
                    obtain ⟨da, en, ⟨k1, e1⟩, ⟨k2, e2⟩, hok⟩ := jCrash d7 HBD.out tby
                    have HK := Aside0.mk hok
                    have E1 := Aside0.mk e1; have E2 := Aside0.mk e2; clear e1 e2 hok
                    go_wp2_with (first
                      | ((with_reducible refine gate_dst (N := 150) rfl ?_); refine load_br 14 g14 d7 rfl rfl rfl B14.out ?_; intro v14' hv; have V := Aside0.mk hv.dp; clear hv)
                      | (go_at_call 20; (with_reducible refine (pCrash k1 V.out tby da en E1.out).mono ?_); rintro e w20 ⟨va, rfl, hv, hb⟩; clear V; have V := Aside0.mk hv; have n0 := Aside0.mk (below_step FB.out hb); have n1 := Aside0.mk (B7.out.below hb); have n2 := Aside0.mk (blk_below K13.out hb); have n3 := Aside0.mk (B14.out.below hb); have n4 := Aside0.mk (blk_below K15.out hb); have n5 := Aside0.mk (blk_below K16.out hb); clear FB B7 K13 B14 K15 K16; have FB := n0; have B7 := n1; have K13 := n2; have B14 := n3; have K15 := n4; have K16 := n5; clear n0 n1 n2 n3 n4 n5; clear hb hv)
                      | ((with_reducible refine gate_dst (N := 27) rfl ?_); refine new_br 27 _ va da V.out rfl rfl rfl rfl rfl rfl rfl rfl ?_; intro gx hgx w21 hbx hb; have BX := Aside0.mk hbx; have n0 := Aside0.mk (below_step FB.out hb); have n1 := Aside0.mk (B7.out.below hb); have n2 := Aside0.mk (blk_below K13.out hb); have n3 := Aside0.mk (B14.out.below hb); have n4 := Aside0.mk (blk_below K15.out hb); have n5 := Aside0.mk (blk_below K16.out hb); clear FB B7 K13 B14 K15 K16; have FB := n0; have B7 := n1; have K13 := n2; have B14 := n3; have K15 := n4; have K16 := n5; clear n0 n1 n2 n3 n4 n5; clear hb hbx hgx V)
                      | ((with_reducible refine gate_dst (N := 156) rfl ?_); refine load_br 27 gx da rfl rfl rfl BX.out ?_; intro vx hv; have V := Aside0.mk hv; clear hv)
                      | ((with_reducible refine gate_store (t := 25) (p := 15) rfl ?_); refine store_br 15 _ g15 vx ⟨false, [], []⟩ da V.out (.inl M15.out) (show BP 0 0 _ g15 ⟨false, [], []⟩ from ⟨_, _, K15.out, DP.zero _⟩) rfl rfl rfl rfl rfl ?_; intro w22 hbx hag hbel; have n0 := Aside0.mk (hbel w FB.out O15.out.1); have n1 := Aside0.mk (B7.out.move (hag _ _ (.inr O15.out.2.1)) (Ag.blk hag O15.out.2.2.1)); have n2 := Aside0.mk ((Ag.blk hag O15.out.2.2.2.1).trans K13.out); have n3 := Aside0.mk (B14.out.move (hag _ _ (.inr O15.out.2.2.2.2.1)) (Ag.blk hag O15.out.2.2.2.2.2.1)); have n4 := Aside0.mk ((Ag.blk hag O15.out.2.2.2.2.2.2).trans K16.out); have n5 := Aside0.mk hbx; clear FB B7 K13 B14 K16 K15 BX V hbx hag hbel; have FB := n0; have B7 := n1; have K13 := n2; have B14 := n3; have K16 := n4; have B15 := n5; clear n0 n1 n2 n3 n4 n5)
                      | (go_at_call 12; (with_reducible refine (Num_b en _).mono ?_); rintro e w23 ⟨rfl, hb⟩; have n0 := Aside0.mk (below_step FB.out hb); have n1 := Aside0.mk (B7.out.below hb); have n2 := Aside0.mk (blk_below K13.out hb); have n3 := Aside0.mk (B14.out.below hb); have n4 := Aside0.mk (B15.out.below hb); have n5 := Aside0.mk (blk_below K16.out hb); clear FB B7 K13 B14 B15 K16; have FB := n0; have B7 := n1; have K13 := n2; have B14 := n3; have B15 := n4; have K16 := n5; clear n0 n1 n2 n3 n4 n5; clear hb; have c130 := blk_cell K13.out 0; have c131 := blk_cell K13.out 1; have c132 := blk_cell K13.out 2; have c133 := blk_cell K13.out 3; have c134 := blk_cell K13.out 4)
                      | ((with_reducible refine gate_dst (N := 160) rfl ?_); refine load_bp 7 g7 d7 rfl rfl rfl B7.out ?_; intro v7' hv; have V := Aside0.mk hv; clear hv)
                      | (go_at_call 21; (with_reducible refine (rCrash k2 V.out tby da en E2.out).mono ?_); rintro e w24 ⟨vb, rfl, hv, hb⟩; clear V; have V := Aside0.mk hv; have LB := Aside0.mk (And.intro B15.out.bp.hi (blk_lt K16.out)); have n0 := Aside0.mk (below_step FB.out hb); have n1 := Aside0.mk (B7.out.below hb); have n2 := Aside0.mk (blk_below K13.out hb); have n3 := Aside0.mk (B14.out.below hb); have n4 := Aside0.mk (B15.out.below hb); have n5 := Aside0.mk (blk_below K16.out hb); clear FB B7 K13 B14 B15 K16; have FB := n0; have B7 := n1; have K13 := n2; have B14 := n3; have B15 := n4; have K16 := n5; clear n0 n1 n2 n3 n4 n5; clear hb hv)
                      | ((with_reducible refine gate_store (t := 25) (p := 16) rfl ?_); refine store_br 16 _ g16 vb ⟨false, [], []⟩ da V.out (.inl LB.out.2) (show BP 0 0 _ g16 ⟨false, [], []⟩ from ⟨_, _, K16.out, DP.zero _⟩) rfl rfl rfl rfl rfl ?_; intro w25 hbx hag hbel; have n0 := Aside0.mk (hbel w FB.out O16.out.1); have n1 := Aside0.mk (B7.out.move (hag _ _ (.inr O16.out.2.1)) (Ag.blk hag O16.out.2.2.1)); have n2 := Aside0.mk ((Ag.blk hag O16.out.2.2.2.1).trans K13.out); have n3 := Aside0.mk (B14.out.move (hag _ _ (.inr O16.out.2.2.2.2.1)) (Ag.blk hag O16.out.2.2.2.2.2.1)); have n4 := Aside0.mk (B15.out.move (hag _ _ (.inl M16.out)) (Ag.blk hag O16.out.2.2.2.2.2.2)); have n5 := Aside0.mk hbx; clear FB B7 K13 B14 K16 B15 V hbx hag hbel; have FB := n0; have B7 := n1; have K13 := n2; have B14 := n3; have B15 := n4; have B16 := n5; clear n0 n1 n2 n3 n4 n5))
                    go_meet
                    exact ⟨en, ⟨#[]⟩, da, _, _, _, _, rfl, rfl, rfl, rfl, ⟨B15.out, B16.out, HK.out, Nat.le_refl _, LB.out.1, LB.out.2, B7.out, B14.out, K13.out, FB.out⟩⟩
                · have b3 : (tk == 3) = false := beq_eq_false_iff_ne.mpr t3
                  by_cases t4 : tk = 4
                  · subst t4
                    as_aux_lemma =>
                      obtain ⟨da, en, e1, ⟨k2, e2⟩, hok⟩ := jRot d7 HBD.out tat tpl tby
                      have HK := Aside0.mk hok
                      have E1 := Aside0.mk e1; have E2 := Aside0.mk e2; clear e1 e2 hok
                      go_wp2_with (first
                        | ((with_reducible refine gate_dst (N := 169) rfl ?_); refine load_br 14 g14 d7 rfl rfl rfl B14.out ?_; intro v14' hv; have V := Aside0.mk hv.dp; clear hv)
                        | (go_at_call 22; (with_reducible refine (pRot V.out tat tpl tby da en E1.out).mono ?_); rintro e w20 ⟨va, rfl, hv, hb⟩; clear V; have V := Aside0.mk hv; have n0 := Aside0.mk (below_step FB.out hb); have n1 := Aside0.mk (B7.out.below hb); have n2 := Aside0.mk (blk_below K13.out hb); have n3 := Aside0.mk (B14.out.below hb); have n4 := Aside0.mk (blk_below K15.out hb); have n5 := Aside0.mk (blk_below K16.out hb); clear FB B7 K13 B14 K15 K16; have FB := n0; have B7 := n1; have K13 := n2; have B14 := n3; have K15 := n4; have K16 := n5; clear n0 n1 n2 n3 n4 n5; clear hb hv)
                        | ((with_reducible refine gate_dst (N := 29) rfl ?_); refine new_br 29 _ va da V.out rfl rfl rfl rfl rfl rfl rfl rfl ?_; intro gx hgx w21 hbx hb; have BX := Aside0.mk hbx; have n0 := Aside0.mk (below_step FB.out hb); have n1 := Aside0.mk (B7.out.below hb); have n2 := Aside0.mk (blk_below K13.out hb); have n3 := Aside0.mk (B14.out.below hb); have n4 := Aside0.mk (blk_below K15.out hb); have n5 := Aside0.mk (blk_below K16.out hb); clear FB B7 K13 B14 K15 K16; have FB := n0; have B7 := n1; have K13 := n2; have B14 := n3; have K15 := n4; have K16 := n5; clear n0 n1 n2 n3 n4 n5; clear hb hbx hgx V)
                        | ((with_reducible refine gate_dst (N := 179) rfl ?_); refine load_br 29 gx da rfl rfl rfl BX.out ?_; intro vx hv; have V := Aside0.mk hv; clear hv)
                        | ((with_reducible refine gate_store (t := 25) (p := 15) rfl ?_); refine store_br 15 _ g15 vx ⟨false, [], []⟩ da V.out (.inl M15.out) (show BP 0 0 _ g15 ⟨false, [], []⟩ from ⟨_, _, K15.out, DP.zero _⟩) rfl rfl rfl rfl rfl ?_; intro w22 hbx hag hbel; have n0 := Aside0.mk (hbel w FB.out O15.out.1); have n1 := Aside0.mk (B7.out.move (hag _ _ (.inr O15.out.2.1)) (Ag.blk hag O15.out.2.2.1)); have n2 := Aside0.mk ((Ag.blk hag O15.out.2.2.2.1).trans K13.out); have n3 := Aside0.mk (B14.out.move (hag _ _ (.inr O15.out.2.2.2.2.1)) (Ag.blk hag O15.out.2.2.2.2.2.1)); have n4 := Aside0.mk ((Ag.blk hag O15.out.2.2.2.2.2.2).trans K16.out); have n5 := Aside0.mk hbx; clear FB B7 K13 B14 K16 K15 BX V hbx hag hbel; have FB := n0; have B7 := n1; have K13 := n2; have B14 := n3; have K16 := n4; have B15 := n5; clear n0 n1 n2 n3 n4 n5)
                        | (go_at_call 12; (with_reducible refine (Num_b en _).mono ?_); rintro e w23 ⟨rfl, hb⟩; have n0 := Aside0.mk (below_step FB.out hb); have n1 := Aside0.mk (B7.out.below hb); have n2 := Aside0.mk (blk_below K13.out hb); have n3 := Aside0.mk (B14.out.below hb); have n4 := Aside0.mk (B15.out.below hb); have n5 := Aside0.mk (blk_below K16.out hb); clear FB B7 K13 B14 B15 K16; have FB := n0; have B7 := n1; have K13 := n2; have B14 := n3; have B15 := n4; have K16 := n5; clear n0 n1 n2 n3 n4 n5; clear hb; have c130 := blk_cell K13.out 0; have c131 := blk_cell K13.out 1; have c132 := blk_cell K13.out 2; have c133 := blk_cell K13.out 3; have c134 := blk_cell K13.out 4)
                        | ((with_reducible refine gate_dst (N := 183) rfl ?_); refine load_bp 7 g7 d7 rfl rfl rfl B7.out ?_; intro v7' hv; have V := Aside0.mk hv; clear hv)
                        | (go_at_call 23; (with_reducible refine (rRot k2 V.out tat tpl tby da en E2.out).mono ?_); rintro e w24 ⟨vb, rfl, hv, hb⟩; clear V; have V := Aside0.mk hv; have LB := Aside0.mk (And.intro B15.out.bp.hi (blk_lt K16.out)); have n0 := Aside0.mk (below_step FB.out hb); have n1 := Aside0.mk (B7.out.below hb); have n2 := Aside0.mk (blk_below K13.out hb); have n3 := Aside0.mk (B14.out.below hb); have n4 := Aside0.mk (B15.out.below hb); have n5 := Aside0.mk (blk_below K16.out hb); clear FB B7 K13 B14 B15 K16; have FB := n0; have B7 := n1; have K13 := n2; have B14 := n3; have B15 := n4; have K16 := n5; clear n0 n1 n2 n3 n4 n5; clear hb hv)
                        | ((with_reducible refine gate_store (t := 25) (p := 16) rfl ?_); refine store_br 16 _ g16 vb ⟨false, [], []⟩ da V.out (.inl LB.out.2) (show BP 0 0 _ g16 ⟨false, [], []⟩ from ⟨_, _, K16.out, DP.zero _⟩) rfl rfl rfl rfl rfl ?_; intro w25 hbx hag hbel; have n0 := Aside0.mk (hbel w FB.out O16.out.1); have n1 := Aside0.mk (B7.out.move (hag _ _ (.inr O16.out.2.1)) (Ag.blk hag O16.out.2.2.1)); have n2 := Aside0.mk ((Ag.blk hag O16.out.2.2.2.1).trans K13.out); have n3 := Aside0.mk (B14.out.move (hag _ _ (.inr O16.out.2.2.2.2.1)) (Ag.blk hag O16.out.2.2.2.2.2.1)); have n4 := Aside0.mk (B15.out.move (hag _ _ (.inl M16.out)) (Ag.blk hag O16.out.2.2.2.2.2.2)); have n5 := Aside0.mk hbx; clear FB B7 K13 B14 K16 B15 V hbx hag hbel; have FB := n0; have B7 := n1; have K13 := n2; have B14 := n3; have B15 := n4; have B16 := n5; clear n0 n1 n2 n3 n4 n5))
                      go_meet
                      exact ⟨en, ⟨#[]⟩, da, _, _, _, _, rfl, rfl, rfl, rfl, ⟨B15.out, B16.out, HK.out, Nat.le_refl _, LB.out.1, LB.out.2, B7.out, B14.out, K13.out, FB.out⟩⟩
                  · have b4 : (tk == 4) = false := beq_eq_false_iff_ne.mpr t4
                    as_aux_lemma =>
                      obtain ⟨da, en, e1, ⟨k2, e2⟩, hok⟩ := jLose d7 HBD.out
                      have HK := Aside0.mk hok
                      have E1 := Aside0.mk e1; have E2 := Aside0.mk e2; clear e1 e2 hok
                      go_wp2_with (first
                        | ((with_reducible refine gate_dst (N := 78) rfl ?_); refine load_br 14 g14 d7 rfl rfl rfl B14.out ?_; intro v14' hv; have V := Aside0.mk hv.dp; clear hv)
                        | (go_at_call 24; (with_reducible refine (pLose V.out da en E1.out).mono ?_); rintro e w20 ⟨va, rfl, hv, hb⟩; clear V; have V := Aside0.mk hv; have n0 := Aside0.mk (below_step FB.out hb); have n1 := Aside0.mk (B7.out.below hb); have n2 := Aside0.mk (blk_below K13.out hb); have n3 := Aside0.mk (B14.out.below hb); have n4 := Aside0.mk (blk_below K15.out hb); have n5 := Aside0.mk (blk_below K16.out hb); clear FB B7 K13 B14 K15 K16; have FB := n0; have B7 := n1; have K13 := n2; have B14 := n3; have K15 := n4; have K16 := n5; clear n0 n1 n2 n3 n4 n5; clear hb hv)
                        | ((with_reducible refine gate_dst (N := 31) rfl ?_); refine new_br 31 _ va da V.out rfl rfl rfl rfl rfl rfl rfl rfl ?_; intro gx hgx w21 hbx hb; have BX := Aside0.mk hbx; have n0 := Aside0.mk (below_step FB.out hb); have n1 := Aside0.mk (B7.out.below hb); have n2 := Aside0.mk (blk_below K13.out hb); have n3 := Aside0.mk (B14.out.below hb); have n4 := Aside0.mk (blk_below K15.out hb); have n5 := Aside0.mk (blk_below K16.out hb); clear FB B7 K13 B14 K15 K16; have FB := n0; have B7 := n1; have K13 := n2; have B14 := n3; have K15 := n4; have K16 := n5; clear n0 n1 n2 n3 n4 n5; clear hb hbx hgx V)
                        | ((with_reducible refine gate_dst (N := 82) rfl ?_); refine load_br 31 gx da rfl rfl rfl BX.out ?_; intro vx hv; have V := Aside0.mk hv; clear hv)
                        | ((with_reducible refine gate_store (t := 25) (p := 15) rfl ?_); refine store_br 15 _ g15 vx ⟨false, [], []⟩ da V.out (.inl M15.out) (show BP 0 0 _ g15 ⟨false, [], []⟩ from ⟨_, _, K15.out, DP.zero _⟩) rfl rfl rfl rfl rfl ?_; intro w22 hbx hag hbel; have n0 := Aside0.mk (hbel w FB.out O15.out.1); have n1 := Aside0.mk (B7.out.move (hag _ _ (.inr O15.out.2.1)) (Ag.blk hag O15.out.2.2.1)); have n2 := Aside0.mk ((Ag.blk hag O15.out.2.2.2.1).trans K13.out); have n3 := Aside0.mk (B14.out.move (hag _ _ (.inr O15.out.2.2.2.2.1)) (Ag.blk hag O15.out.2.2.2.2.2.1)); have n4 := Aside0.mk ((Ag.blk hag O15.out.2.2.2.2.2.2).trans K16.out); have n5 := Aside0.mk hbx; clear FB B7 K13 B14 K16 K15 BX V hbx hag hbel; have FB := n0; have B7 := n1; have K13 := n2; have B14 := n3; have K16 := n4; have B15 := n5; clear n0 n1 n2 n3 n4 n5)
                        | (go_at_call 12; (with_reducible refine (Num_b en _).mono ?_); rintro e w23 ⟨rfl, hb⟩; have n0 := Aside0.mk (below_step FB.out hb); have n1 := Aside0.mk (B7.out.below hb); have n2 := Aside0.mk (blk_below K13.out hb); have n3 := Aside0.mk (B14.out.below hb); have n4 := Aside0.mk (B15.out.below hb); have n5 := Aside0.mk (blk_below K16.out hb); clear FB B7 K13 B14 B15 K16; have FB := n0; have B7 := n1; have K13 := n2; have B14 := n3; have B15 := n4; have K16 := n5; clear n0 n1 n2 n3 n4 n5; clear hb; have c130 := blk_cell K13.out 0; have c131 := blk_cell K13.out 1; have c132 := blk_cell K13.out 2; have c133 := blk_cell K13.out 3; have c134 := blk_cell K13.out 4)
                        | ((with_reducible refine gate_dst (N := 86) rfl ?_); refine load_bp 7 g7 d7 rfl rfl rfl B7.out ?_; intro v7' hv; have V := Aside0.mk hv; clear hv)
                        | (go_at_call 25; (with_reducible refine (rLose k2 V.out da en E2.out).mono ?_); rintro e w24 ⟨vb, rfl, hv, hb⟩; clear V; have V := Aside0.mk hv; have LB := Aside0.mk (And.intro B15.out.bp.hi (blk_lt K16.out)); have n0 := Aside0.mk (below_step FB.out hb); have n1 := Aside0.mk (B7.out.below hb); have n2 := Aside0.mk (blk_below K13.out hb); have n3 := Aside0.mk (B14.out.below hb); have n4 := Aside0.mk (B15.out.below hb); have n5 := Aside0.mk (blk_below K16.out hb); clear FB B7 K13 B14 B15 K16; have FB := n0; have B7 := n1; have K13 := n2; have B14 := n3; have B15 := n4; have K16 := n5; clear n0 n1 n2 n3 n4 n5; clear hb hv)
                        | ((with_reducible refine gate_store (t := 25) (p := 16) rfl ?_); refine store_br 16 _ g16 vb ⟨false, [], []⟩ da V.out (.inl LB.out.2) (show BP 0 0 _ g16 ⟨false, [], []⟩ from ⟨_, _, K16.out, DP.zero _⟩) rfl rfl rfl rfl rfl ?_; intro w25 hbx hag hbel; have n0 := Aside0.mk (hbel w FB.out O16.out.1); have n1 := Aside0.mk (B7.out.move (hag _ _ (.inr O16.out.2.1)) (Ag.blk hag O16.out.2.2.1)); have n2 := Aside0.mk ((Ag.blk hag O16.out.2.2.2.1).trans K13.out); have n3 := Aside0.mk (B14.out.move (hag _ _ (.inr O16.out.2.2.2.2.1)) (Ag.blk hag O16.out.2.2.2.2.2.1)); have n4 := Aside0.mk (B15.out.move (hag _ _ (.inl M16.out)) (Ag.blk hag O16.out.2.2.2.2.2.2)); have n5 := Aside0.mk hbx; clear FB B7 K13 B14 K16 B15 V hbx hag hbel; have FB := n0; have B7 := n1; have K13 := n2; have B14 := n3; have B15 := n4; have B16 := n5; clear n0 n1 n2 n3 n4 n5))
                      go_meet
                      exact ⟨en, ⟨#[]⟩, da, _, _, _, _, rfl, rfl, rfl, rfl, ⟨B15.out, B16.out, HK.out, Nat.le_refl _, LB.out.1, LB.out.2, B7.out, B14.out, K13.out, FB.out⟩⟩
        case rest =>
          clear c130 c131 c132 c133 c134
          obtain ⟨en, tx, da, la, ha, lb, hi, rfl, rfl, rfl, rfl, H⟩ := hcut
          obtain ⟨⟨p15, q15, k15, v15⟩, ⟨p16, q16, k16, v16⟩, hok, o1, o2, o3, ⟨p7, q7, k7, v7⟩, ⟨p14, q14, k14, v14'⟩, hk13, hfb⟩ := H.out
          have N15 := Aside0.mk k15; have N16 := Aside0.mk k16; have N7k := Aside0.mk k7; have N14 := Aside0.mk k14; have V15 := Aside0.mk v15; have V16 := Aside0.mk v16; have V7 := Aside0.mk v7; have V14 := Aside0.mk v14'; have OK := Aside0.mk hok; have O1 := Aside0.mk o1; have O2 := Aside0.mk o2; have O3 := Aside0.mk o3; have N13 := Aside0.mk hk13; have NFB := Aside0.mk hfb
          obtain ⟨rm, hm1, km, hm2⟩ := jMay d7 HBD.out
          have M1 := Aside0.mk hm1; have M2 := Aside0.mk hm2
          clear k15 k16 k7 k14 v15 v16 v7 v14' hok o1 o2 o3 hk13 hfb H hm1 hm2
          go_upto_region 46 with fail
          go_cut [219] (fun v wx => v = .bool false ∧ Aside0 (Below wc.heap.size wc wx))
          case first =>
            as_aux_lemma =>
              go_region_held3 (fun w' => Below wc.heap.size wc w' ∧ w'.cell? ⟨g15, 0, none⟩ = some (.bool da.lost) ∧ w'.cell? ⟨g15, 1, none⟩ = some p15 ∧ w'.cell? ⟨g15, 2, none⟩ = some q15 ∧ w'.cell? ⟨g16, 0, none⟩ = some (.bool da.lost) ∧ w'.cell? ⟨g16, 1, none⟩ = some p16 ∧ w'.cell? ⟨g16, 2, none⟩ = some q16 ∧ w'.cell? ⟨g14, 0, none⟩ = some (.bool d7.lost) ∧ w'.cell? ⟨g14, 1, none⟩ = some p14 ∧ w'.cell? ⟨g14, 2, none⟩ = some q14 ∧ w'.cell? ⟨g7, 0, none⟩ = some (.bool d7.lost) ∧ w'.cell? ⟨g7, 1, none⟩ = some p7 ∧ w'.cell? ⟨g7, 2, none⟩ = some q7)
                (first | exact hold12 (below_drew (Below.refl _ wc)) N15.out N16.out N14.out N7k.out | exact hold12 (below_step (And.left (by assumption)) hb) N15.out N16.out N14.out N7k.out)
                (first
                  | (go_at_call 11; (with_reducible refine (pSame (V15.out.dp.below (And.left (by assumption))) (V16.out.dp.below (And.left (by assumption))) OK.out.bd).mono ?_); rintro e w20 ⟨rfl, hb⟩)
                  | (go_at_call 11; (with_reducible refine (pSame (V14.out.dp.below (And.left (by assumption))) (V7.out.below (And.left (by assumption))) HBD.out).mono ?_); rintro e w20 ⟨rfl, hb⟩)
                  | (go_at_call 26; (with_reducible refine (pMay (V14.out.dp.below (And.left (by assumption))) rm M1.out).mono ?_); rintro e w20 ⟨rfl, hb⟩)
                  | (go_at_call 27; (with_reducible refine (rMay km (V7.out.below (And.left (by assumption))) rm M2.out).mono ?_); rintro e w20 ⟨rfl, hb⟩))
              all_goals (go_wp2_with fail; go_meet; exact ⟨by simp, ⟨And.left (by assumption)⟩⟩)
          case rest =>
            as_aux_lemma =>
              obtain ⟨rfl, HX⟩ := hcut
              have B15 := Aside0.mk (BR.below ⟨_, _, N15.out, V15.out⟩ HX.out); have B16 := Aside0.mk (BR.below ⟨_, _, N16.out, V16.out⟩ HX.out); have B7x := Aside0.mk (BP.below ⟨_, _, N7k.out, V7.out⟩ HX.out); have K13x := Aside0.mk (blk_below N13.out HX.out); have FBx := Aside0.mk (below_step NFB.out HX.out)
              have a1 := L7.out; have a2 := L13.out; have a3 := L12.out; have a4 := L14.out; have a5 := L15.out; have a6 := L16.out; have a8 := FB.out.size; have a9 := G7.out; have b0 := W13.out; have b1 := W15.out; have b2 := W16.out; have b3 := M15.out; have b4 := M16.out; have b5 := O15.out; have b6 := O1.out; have b7 := O2.out; have b8 := O3.out; have b9 := B16.out.bp.hi; have c1 := B7x.out.hi; have c2 := blk_lt K13x.out; have c3 := B7x.out.lt; have c4 := HX.out.size; have c5 := blk_lt N16.out; have c6 := blk_lt K13.out; have c7 := B7.out.lt
              have OO := Aside0.mk (show w.heap.size ≤ la ∧ g16 + 1 ≤ la ∧ g16 + 1 ≤ wc.heap.size ∧ h7 ≤ la ∧ h7 ≤ wc.heap.size ∧ g7 + 1 ≤ la ∧ g7 + 1 ≤ wc.heap.size ∧ g13 + 1 ≤ la ∧ g13 + 1 ≤ wc.heap.size ∧ g7 < lb ∧ ha ≤ lb ∧ hi ≤ wc.heap.size ∧ w.heap.size ≤ g7 by omega)
              clear a1 a2 a3 a4 a5 a6 a8 a9 b0 b1 b2 b3 b4 b5 b6 b7 b8 b9 c1 c2 c3 c4 c5 c6 c7
              by_cases t0 : tk = 0
              · subst t0
                go_wp2_with (first
                  | ((with_reducible refine gate_dst (N := 220) rfl ?_); refine load_br 15 g15 da rfl rfl rfl B15.out ?_; intro vs hv; have V := Aside0.mk hv; clear hv)
                  | (go_at_call 28; (with_reducible refine (pSpoil FBx.out OO.out.1 V.out OK.out).mono ?_); rintro e w21 ⟨rfl, hb, hag⟩; have n0 := Aside0.mk hb; have n1 := Aside0.mk (B16.out.move (hag lb hi (.inr OO.out.2.2.2.2.2.2.2.2.2.2.1) OO.out.2.2.2.2.2.2.2.2.2.2.2.1) ((hag g16 (g16+1) (.inl OO.out.2.1) OO.out.2.2.1).block _ (Nat.le_refl _) (Nat.lt_succ_self _))); have n2 := Aside0.mk (B7x.out.move (hag l7 h7 (.inl OO.out.2.2.2.1) OO.out.2.2.2.2.1) ((hag g7 (g7+1) (.inl OO.out.2.2.2.2.2.1) OO.out.2.2.2.2.2.2.1).block _ (Nat.le_refl _) (Nat.lt_succ_self _))); have n3 := Aside0.mk (((hag g13 (g13+1) (.inl OO.out.2.2.2.2.2.2.2.1) OO.out.2.2.2.2.2.2.2.2.1).block _ (Nat.le_refl _) (Nat.lt_succ_self _)).trans K13x.out); clear FBx B16 B7x K13x B15 V hb hag; have FBx := n0; have B16 := n1; have B7x := n2; have K13x := n3; clear n0 n1 n2 n3; have c130 := blk_cell K13x.out 0))
                exact ⟨⟨j + 1, by omega, by go_num, ⟨⟨d7, l7, h7, B7x.out, HBD.out, N7.out, FBx.out⟩⟩⟩, by simp [intOf]; omega⟩
              · have b0 : (tk == 0) = false := beq_eq_false_iff_ne.mpr t0
                by_cases e0 : en = 0
                · subst e0
                  go_wp2_with (first
                    | ((with_reducible refine gate_dst (N := 220) rfl ?_); refine load_br 15 g15 da rfl rfl rfl B15.out ?_; intro vs hv; have V := Aside0.mk hv; clear hv)
                    | (go_at_call 28; (with_reducible refine (pSpoil FBx.out OO.out.1 V.out OK.out).mono ?_); rintro e w21 ⟨rfl, hb, hag⟩; have n0 := Aside0.mk hb; have n1 := Aside0.mk (B16.out.move (hag lb hi (.inr OO.out.2.2.2.2.2.2.2.2.2.2.1) OO.out.2.2.2.2.2.2.2.2.2.2.2.1) ((hag g16 (g16+1) (.inl OO.out.2.1) OO.out.2.2.1).block _ (Nat.le_refl _) (Nat.lt_succ_self _))); have n2 := Aside0.mk (B7x.out.move (hag l7 h7 (.inl OO.out.2.2.2.1) OO.out.2.2.2.2.1) ((hag g7 (g7+1) (.inl OO.out.2.2.2.2.2.1) OO.out.2.2.2.2.2.2.1).block _ (Nat.le_refl _) (Nat.lt_succ_self _))); have n3 := Aside0.mk (((hag g13 (g13+1) (.inl OO.out.2.2.2.2.2.2.2.1) OO.out.2.2.2.2.2.2.2.2.1).block _ (Nat.le_refl _) (Nat.lt_succ_self _)).trans K13x.out); clear FBx B16 B7x K13x B15 V hb hag; have FBx := n0; have B16 := n1; have B7x := n2; have K13x := n3; clear n0 n1 n2 n3; have c130 := blk_cell K13x.out 0)
                    | ((with_reducible refine gate_dst (N := 229) rfl ?_); refine load_br 16 g16 da rfl rfl rfl B16.out ?_; intro vs hv; have V := Aside0.mk hv; clear hv)
                    | ((with_reducible refine gate_store (t := 25) (p := 7) rfl ?_); refine store_br 7 _ g7 vs d7 da V.out (.inl OO.out.2.2.2.2.2.2.2.2.2.1) B7x.out rfl rfl rfl rfl rfl ?_; intro w22 hbx hag hbel; have B7y := Aside0.mk hbx; have FBy := Aside0.mk (hbel w FBx.out OO.out.2.2.2.2.2.2.2.2.2.2.2.2); clear hbx hag hbel))
                  exact ⟨⟨j + 1, by omega, by go_num, ⟨⟨da, lb, hi, B7y.out.bp, OK.out.bd, .inl OO.out.2.2.2.2.2.2.2.2.2.1, FBy.out⟩⟩⟩, by simp [intOf]; omega⟩
                · have b1 : (en == 0) = false := beq_eq_false_iff_ne.mpr e0
                  go_wp2_with (first
                    | ((with_reducible refine gate_dst (N := 220) rfl ?_); refine load_br 15 g15 da rfl rfl rfl B15.out ?_; intro vs hv; have V := Aside0.mk hv; clear hv)
                    | (go_at_call 28; (with_reducible refine (pSpoil FBx.out OO.out.1 V.out OK.out).mono ?_); rintro e w21 ⟨rfl, hb, hag⟩; have n0 := Aside0.mk hb; have n1 := Aside0.mk (B16.out.move (hag lb hi (.inr OO.out.2.2.2.2.2.2.2.2.2.2.1) OO.out.2.2.2.2.2.2.2.2.2.2.2.1) ((hag g16 (g16+1) (.inl OO.out.2.1) OO.out.2.2.1).block _ (Nat.le_refl _) (Nat.lt_succ_self _))); have n2 := Aside0.mk (B7x.out.move (hag l7 h7 (.inl OO.out.2.2.2.1) OO.out.2.2.2.2.1) ((hag g7 (g7+1) (.inl OO.out.2.2.2.2.2.1) OO.out.2.2.2.2.2.2.1).block _ (Nat.le_refl _) (Nat.lt_succ_self _))); have n3 := Aside0.mk (((hag g13 (g13+1) (.inl OO.out.2.2.2.2.2.2.2.1) OO.out.2.2.2.2.2.2.2.2.1).block _ (Nat.le_refl _) (Nat.lt_succ_self _)).trans K13x.out); clear FBx B16 B7x K13x B15 V hb hag; have FBx := n0; have B16 := n1; have B7x := n2; have K13x := n3; clear n0 n1 n2 n3; have c130 := blk_cell K13x.out 0))
                  exact ⟨⟨j + 1, by omega, by go_num, ⟨⟨d7, l7, h7, B7x.out, HBD.out, N7.out, FBx.out⟩⟩⟩, by simp [intOf]; omega⟩
      · have hx : ¬ j < n ∨ (j < n ∧ ¬ j < 40) := by omega
        rcases hx with q1 | ⟨q1, q2⟩
        all_goals
          have FB := Aside0.mk HL.out.choose_spec.choose_spec.choose_spec.2.2.2
          go_wp2_with (go_at_call 29; refine (Awake_k _).mono ?_; rintro e w9 ⟨rfl, hb⟩; have n0 := Aside0.mk (below_step FB.out hb); clear FB; have FB := n0; clear n0; clear hb)
          go_ret
          exact ⟨rfl, FB.out⟩
end Go.Proofs.Ytoloonnoobnafaa.DiW
