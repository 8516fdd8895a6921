/- Behind a crash each sector is what lasted or one of what was written there since; the law's walk, by hand: no condition beyond the statement. -/
import Derived.Test.YtoloonnoobnafaaDkC
import Derived.IntWalk
namespace Go.Proofs.Ytoloonnoobnafaa.CrW
open Go.RowKit Go.Proofs.YtoloonnoobnafaaW.PrintWords Go.Proofs.YtoloonnoobnafaaW.PrintLast Go.Proofs.YtoloonnoobnafaaW.PrintMore
open Go.Proofs.Ytoloonnoobnafaa.HDiskGone Go.Proofs.Ytoloonnoobnafaa.Dk Go.Proofs.Ytoloonnoobnafaa.Dp Go.Proofs.Ytoloonnoobnafaa.DkC
set_option linter.unusedVariables false
set_option linter.unusedSimpArgs false
def mayA (f : Nat → Bool) : Array Value := ((List.range 768).map fun i => Value.bool (f i)).toArray
theorem may_zero : Try.prog.built 59 [] = some (mayA fun _ => false) := by kernel_rfl
theorem may_info : (Try.prog.info? 59).map (fun i => (i.zero, i.size)) = some (some (.agg (mayA fun _ => false)), 768) := by kernel_rfl
theorem may_size (f : Nat → Bool) : (mayA f).size = 768 := by simp [mayA]
theorem may_one (f : Nat → Bool) : (mayA f).all (·.oneCell') = true := by simp [mayA, Value.oneCell']
def oldA (l : List Int) : Array Value := (l.map (Value.int .u8)).toArray
def LS (w0 : World) (g7 g9 g10 j : Nat) (wr : World) : Prop := ∃ s c old may, CI j s c old may ∧ Bx wr g7 ⟨false, s, c⟩ ∧ wr.heap[g9]? = some (.cells (oldA old) 5 (0, 0)) ∧ wr.heap[g10]? = some (.cells (mayA may) 59 (0, 0)) ∧ Below w0.heap.size w0 wr
theorem mod3 (x : Int) : ∃ k : Nat, k < 3 ∧ wrap64 ((IntKind.u64.wrap x).tmod 3) = (k : Int) := by
  have h0 : 0 ≤ IntKind.u64.wrap x := by
    have e : IntKind.u64.wrap x = x % 18446744073709551616 := rfl
    rw [e]; omega
  generalize IntKind.u64.wrap x = y at h0
  rw [Int.tmod_eq_emod_of_nonneg h0]
  obtain ⟨k, hk⟩ := Int.eq_ofNat_of_zero_le (show 0 ≤ y % 3 by omega)
  refine ⟨k, by omega, ?_⟩
  rw [hk]; unfold wrap64; omega
theorem S_keep {w1 w' : World} (hb : Below w1.heap.size w1 w') {wr : World} {g : Nat} {a b c : Value} (h : Below wr.heap.size wr w1 ∧ w1.cell? ⟨g, 0, none⟩ = some a ∧ w1.cell? ⟨g, 1, none⟩ = some b ∧ w1.cell? ⟨g, 2, none⟩ = some c) :
    Below wr.heap.size wr w' ∧ w'.cell? ⟨g, 0, none⟩ = some a ∧ w'.cell? ⟨g, 1, none⟩ = some b ∧ w'.cell? ⟨g, 2, none⟩ = some c := ⟨below_step h.1 hb, pw_cell_below hb h.2.1, pw_cell_below hb h.2.2.1, pw_cell_below hb h.2.2.2⟩
theorem S_set {wr w1 : World} {g : Nat} {a b c : Value} (h : Below wr.heap.size wr w1 ∧ w1.cell? ⟨g, 0, none⟩ = some a ∧ w1.cell? ⟨g, 1, none⟩ = some b ∧ w1.cell? ⟨g, 2, none⟩ = some c) {g' : Nat} (hg : wr.heap.size ≤ g') (hne : g ≠ g') (j : Nat) (v : Value) :
    Below wr.heap.size wr (w1.setCell ⟨g', j, none⟩ v) ∧ (w1.setCell ⟨g', j, none⟩ v).cell? ⟨g, 0, none⟩ = some a ∧ (w1.setCell ⟨g', j, none⟩ v).cell? ⟨g, 1, none⟩ = some b ∧ (w1.setCell ⟨g', j, none⟩ v).cell? ⟨g, 2, none⟩ = some c :=
  ⟨below_set h.1 hg, (cell_far (p := ⟨g', j, none⟩) hne v).trans h.2.1, (cell_far (p := ⟨g', j, none⟩) hne v).trans h.2.2.1, (cell_far (p := ⟨g', j, none⟩) hne v).trans h.2.2.2⟩
theorem S_set3 {wr w1 : World} {g g' : Nat} {a b c : Value} (hle : wr.heap.size ≤ g') (hlt : g < wr.heap.size) (h : Below wr.heap.size wr w1 ∧ w1.cell? ⟨g, 0, none⟩ = some a ∧ w1.cell? ⟨g, 1, none⟩ = some b ∧ w1.cell? ⟨g, 2, none⟩ = some c) {x y z : Value} :
    Below wr.heap.size wr (((w1.setCell ⟨g', 0, none⟩ x).setCell ⟨g', 1, none⟩ y).setCell ⟨g', 2, none⟩ z) ∧ (((w1.setCell ⟨g', 0, none⟩ x).setCell ⟨g', 1, none⟩ y).setCell ⟨g', 2, none⟩ z).cell? ⟨g, 0, none⟩ = some a ∧
      (((w1.setCell ⟨g', 0, none⟩ x).setCell ⟨g', 1, none⟩ y).setCell ⟨g', 2, none⟩ z).cell? ⟨g, 1, none⟩ = some b ∧ (((w1.setCell ⟨g', 0, none⟩ x).setCell ⟨g', 1, none⟩ y).setCell ⟨g', 2, none⟩ z).cell? ⟨g, 2, none⟩ = some c :=
  S_set (S_set (S_set h hle (by omega) _ _) hle (by omega) _ _) hle (by omega) _ _
theorem S_re {wr W : World} {o o' : Obj} {g : Nat} {a b c : Value} (hle : wr.heap.size ≤ W.heap.size) (hlt : g < wr.heap.size) (h : Below wr.heap.size wr (W.alloc o) ∧ (W.alloc o).cell? ⟨g, 0, none⟩ = some a ∧ (W.alloc o).cell? ⟨g, 1, none⟩ = some b ∧ (W.alloc o).cell? ⟨g, 2, none⟩ = some c) :
    Below wr.heap.size wr (W.alloc o') ∧ (W.alloc o').cell? ⟨g, 0, none⟩ = some a ∧ (W.alloc o').cell? ⟨g, 1, none⟩ = some b ∧ (W.alloc o').cell? ⟨g, 2, none⟩ = some c := by
  have hk : ∀ k, k < W.heap.size → ∀ x, (W.alloc x).heap[k]? = W.heap[k]? := fun k hk x => Below.heap_alloc W x k hk
  have hc : ∀ j, (W.alloc o').cell? ⟨g, j, none⟩ = (W.alloc o).cell? ⟨g, j, none⟩ := fun j => by
    simp only [World.cell?, hk g (by omega)]
  have hs : ∀ x, (W.alloc x).heap.size = W.heap.size + 1 := fun x => by simp
  exact ⟨⟨h.1.os, h.1.tape, h.1.output, by rw [hs]; omega, fun k hkl => by rw [hk k (by omega), ← hk k (by omega) o]; exact h.1.block k hkl⟩, (hc 0).trans h.2.1, (hc 1).trans h.2.2.1, (hc 2).trans h.2.2.2⟩
theorem fin {w : World} {g : Nat} {x y z p q : Value} {d : DS} {b : Bool} (hv : DV w (.agg #[.bool b, p, q]) d) (hb : w.heap[g]? = some (.cells #[x, y, z] 25 (0, 0))) : Bx (((w.setCell ⟨g, 0, none⟩ (.bool b)).setCell ⟨g, 1, none⟩ p).setCell ⟨g, 2, none⟩ q) g d := by
  have e : b = d.lost := by
    obtain ⟨_, _, e, _⟩ := hv
    injection e with e
    have := congrArg (fun a : Array Value => a[0]?) e
    simpa using this
  subst e
  have h1 : ∀ {w1 : World} {v : Value} {cs : Array Value}, DV w1 v d → w1.heap[g]? = some (.cells cs 25 (0, 0)) → ∀ j u, DV (w1.setCell ⟨g, j, none⟩ u) v d := fun h hg j u => h.but hg (by decide) (fun k hk _ => Below.heap_setCell _ ⟨g, j, none⟩ u k hk)
  have b1 := blk_put (cs' := #[.bool d.lost, y, z]) hb 0 (.bool d.lost) rfl
  have b2 := blk_put (cs' := #[.bool d.lost, p, z]) b1 1 p rfl
  exact ⟨p, q, blk_put (cs' := #[.bool d.lost, p, q]) b2 2 q rfl, h1 (h1 (h1 hv hb _ _) b1 _ _) b2 _ _⟩
theorem fin0 {w : World} {p q : Value} {d : DS} {b : Bool} (hv : DV w (.agg #[.bool b, p, q]) d) : Bx (w.alloc (.cells #[.bool b, p, q] 25)) w.heap.size d := by
  have e : b = d.lost := by
    obtain ⟨_, _, e, _⟩ := hv
    injection e with e
    have := congrArg (fun a : Array Value => a[0]?) e
    simpa using this
  subst e
  exact ⟨p, q, blk_new _ _, hv.below (below_alloc (Below.refl _ _) _)⟩
def LO (w0 : World) (g7 g9 g10 : Nat) (s : List ByteArray) (m : Nat) (wr : World) : Prop := ∃ os : List Int, os.length = 3 ∧ (∀ x, x ∈ os → 0 ≤ x ∧ x < 256) ∧ (∀ q, q < m → s.getD q ⟨#[]⟩ = fullS (os.getD q 0)) ∧ Bx wr g7 ⟨false, s, []⟩ ∧ wr.heap[g9]? = some (.cells (oldA os) 5 (0, 0)) ∧ wr.heap[g10]? = some (.cells (mayA fun _ => false) 59 (0, 0)) ∧ Below w0.heap.size w0 wr
theorem old_cell {w : World} {g : Nat} {os : List Int} (h : w.heap[g]? = some (.cells (oldA os) 5 (0, 0))) (i : Nat) (hi : i < os.length) : w.cell? ⟨g, i, none⟩ = some (.int .u8 (os.getD i 0)) := by
  rw [blk_cell h i]
  unfold oldA
  rw [List.getElem?_toArray, List.getElem?_map, List.getElem?_eq_getElem hi, List.getD_eq_getElem?_getD, List.getElem?_eq_getElem hi]; rfl
theorem old_put {w : World} {g : Nat} {os : List Int} (h : w.heap[g]? = some (.cells (oldA os) 5 (0, 0))) (i : Nat) (b : Int) : (w.setCell ⟨g, i, none⟩ (.int .u8 b)).heap[g]? = some (.cells (oldA (os.set i b)) 5 (0, 0)) := by
  refine blk_put h i _ ?_
  unfold oldA
  rw [List.setIfInBounds_toArray, List.map_set]
def T1 (w0 : World) (g7 g9 g10 : Nat) (s : List ByteArray) (c : List S62) (old : List Int) (may : Nat → Bool) (wr : World) : Prop := Bx wr g7 ⟨false, s, c⟩ ∧ wr.heap[g9]? = some (.cells (oldA old) 5 (0, 0)) ∧ wr.heap[g10]? = some (.cells (mayA may) 59 (0, 0)) ∧ Below w0.heap.size w0 wr
theorem T1.below {w0 wr w1 : World} {g7 g9 g10 : Nat} {s : List ByteArray} {c : List S62} {old : List Int} {may : Nat → Bool} (h : T1 w0 g7 g9 g10 s c old may wr) (hb : Below wr.heap.size wr w1) : T1 w0 g7 g9 g10 s c old may w1 := ⟨h.1.below hb, blk_below h.2.1 hb, blk_below h.2.2.1 hb, below_step h.2.2.2 hb⟩
theorem C_keep {w1 w' : World} (hb : Below w1.heap.size w1 w') {wr : World} {a b : Addr} {x y : Value} (h : Below wr.heap.size wr w1 ∧ w1.cell? a = some x ∧ w1.cell? b = some y) : Below wr.heap.size wr w' ∧ w'.cell? a = some x ∧ w'.cell? b = some y := ⟨below_step h.1 hb, pw_cell_below hb h.2.1, pw_cell_below hb h.2.2⟩
theorem Num_b (x : Int) (w : World) : Calls Try.prog 12 #[.int .i64 x] w fun e w' => e = .returned (.int .i64 x) ∧ Below w.heap.size w w' :=
  (Num_k x w).mono fun _ _ ⟨h, n, e⟩ => ⟨h, by rw [e]; exact pw_below_drewN (Below.refl _ _) n⟩
theorem u8_in (x : Int) (h0 : 0 ≤ x) (h1 : x < 256) : IntKind.u8.wrap x = x := by
  have e : IntKind.u8.wrap x = x % 256 := rfl
  rw [e]; omega
theorem unw {c : Bool} {A B : Prop} (h : c = false) (hb : B) : if c = true then A else B := by
  rw [if_neg (by rw [h]; decide)]; exact hb
theorem may_get (f : Nat → Bool) (i : Nat) (h : i < 768) : (mayA f)[i]? = some (.bool (f i)) := by
  unfold mayA
  rw [List.getElem?_toArray, List.getElem?_map, List.getElem?_range h]; rfl
theorem may_cell {w : World} {g : Nat} {f : Nat → Bool} (h : w.heap[g]? = some (.cells (mayA f) 59 (0, 0))) (i : Nat) (hi : i < 768) : w.cell? ⟨g, i, none⟩ = some (.bool (f i)) := (blk_cell h i).trans (may_get f i hi)
theorem may_put {w : World} {g : Nat} {f : Nat → Bool} (h : w.heap[g]? = some (.cells (mayA f) 59 (0, 0))) (i : Nat) : (w.setCell ⟨g, i, none⟩ (.bool true)).heap[g]? = some (.cells (mayA (fun x => if x = i then true else f x)) 59 (0, 0)) := by
  refine blk_put h i _ ?_
  apply Array.ext_getElem?
  intro m
  rw [Array.getElem?_setIfInBounds]
  by_cases hm : m < 768
  · rw [may_get _ m hm, may_get _ m hm]
    by_cases e : i = m
    · subst e; rw [if_pos rfl, if_pos (by rw [may_size]; exact hm), if_pos rfl]
    · rw [if_neg e, if_neg (Ne.symm e)]
  · rw [Array.getElem?_eq_none (by rw [may_size]; omega), Array.getElem?_eq_none (by rw [may_size]; omega)]
    by_cases e : i = m
    · rw [if_pos e, if_neg (by rw [may_size]; omega)]
    · rw [if_neg e]
theorem bcell {W w1 : World} (hb : Below W.heap.size W w1) : (∀ b o, b < W.heap.size → w1.cell? ⟨b, o, none⟩ = W.cell? ⟨b, o, none⟩) ∧ (∀ b o, b < W.heap.size → w1.frozen? ⟨b, o, none⟩ = W.frozen? ⟨b, o, none⟩) :=
  ⟨fun b o h => hb.cell (p := ⟨b, o, none⟩) h, fun b o h => hb.frozen (p := ⟨b, o, none⟩) h⟩
set_option maxHeartbeats 4000000 in
set_option maxRecDepth 100000 in
theorem crashes_walk (A : Option Addr) (n c : Nat) (l : List Int) (fl kp : Int) (w : World) (hr : (Kd.int .i64).C w A n l) :
    Calls Try.prog 5 #[.slice A n c, .int .i64 fl, .int .i64 kp] w fun e w' => e = .returned (.bool true) ∧ Below w.heap.size w w' := by
  have HB := Aside0.mk (Below.refl w.heap.size w)
  have HR := Aside0.mk hr
  clear hr
  go_enter Try.func5, Try.ntmps5
  go_upto_block 0 with (first
    | (go_at_call 29; refine (Awake_k _).mono ?_; rintro e w1 ⟨rfl, hb⟩; have n0 := Aside0.mk (below_step HB.out hb); clear HB hb; have HB := n0; clear n0)
    | (go_at_call 9; refine (New_k 3 (by decide) (by decide) _).mono ?_; rintro e w2 ⟨v2, rfl, hv, hb⟩; have HV := Aside0.mk hv; have n0 := Aside0.mk (below_step HB.out hb); clear HB hb hv; have HB := n0; clear n0)
    | ((with_reducible refine gate_dst (N := 7) rfl ?_); refine new_disk 7 _ v2 _ HV.out rfl rfl rfl rfl rfl rfl rfl rfl ?_; intro g7 hg7 w3 hbx hb; have B7 := Aside0.mk hbx; have n0 := Aside0.mk (below_step HB.out hb); have G7 := Aside0.mk (Nat.le_trans (below_size HB.out) hg7); clear HB hb hbx hg7 HV; have HB := n0; clear n0)
    | (go_at_call 12; refine (Num_k _ _).mono ?_; rintro e w' ⟨rfl, nd, rfl⟩)
    | ((with_reducible refine gate_dst (N := 42) rfl ?_); refine new_row 42 5 3 (oldA [0, 0, 0]) rfl rfl ?hr ?_; (case hr => first | (go_simp; done) | (go_simp; rfl)); intro g9 hg9 w4 hbx hb; (repeat replace hb := sq_un hb); have n1 := Aside0.mk (Bx.below B7.out hb); have B9 := Aside0.mk hbx; have n0 := Aside0.mk (below_step HB.out hb); have G9 := Aside0.mk (Nat.le_trans (below_size HB.out) hg9); have N79 := Aside0.mk (show g7 < g9 from Nat.lt_of_lt_of_le (blk_lt B7.out.choose_spec.choose_spec.1) hg9); clear HB hb hbx hg9 B7; have HB := n0; have B7 := n1; clear n0 n1)
    | ((with_reducible refine gate_dst (N := 43) rfl ?_); refine build_zero 59 (mayA fun _ => false) rfl rfl may_zero ?_)
    | ((with_reducible refine gate_dst (N := 10) rfl ?_); refine new_box 10 59 (.agg (mayA fun _ => false)) 768 _ (mayA fun _ => false) rfl rfl rfl rfl rfl rfl may_info (may_size _) rfl rfl (may_size _) (may_one _) ?_; intro g10 hg10 w5 hbx hb; (repeat replace hb := sq_un hb); have n1 := Aside0.mk (Bx.below B7.out hb); have n2 := Aside0.mk (blk_below B9.out hb); have n0 := Aside0.mk (below_step HB.out hb); have B10 := Aside0.mk hbx; have G10 := Aside0.mk (Nat.le_trans (below_size HB.out) hg10); have N910 := Aside0.mk (show g9 < g10 from Nat.lt_of_lt_of_le (blk_lt B9.out) hg10); clear HB hb hbx hg10 B7 B9; have HB := n0; have B7 := n1; have B9 := n2; clear n0 n1 n2))
  have HL : Aside0 (LS w g7 g9 g10 0 w5) := ⟨⟨_, _, _, _, CI.start, B7.out, B9.out, B10.out, HB.out⟩⟩
  clear B7 B9 B10 HB
  go_cut [11] (fun i wx => ∃ j : Nat, j ≤ 16 ∧ i = .int .i64 j ∧ Aside0 (LS w g7 g9 g10 j wx))
  case first =>
   go_wp2_with fail
   go_loopw [11] (fun i wr => ∃ j : Nat, j ≤ 16 ∧ i = .int .i64 j ∧ Aside0 (LS w g7 g9 g10 j wr)) (fun i _ => 16 - (intOf i).toNat)
   case atStart => exact ⟨0, by omega, rfl, HL⟩
   case round =>
    obtain ⟨j, hj, rfl, HL⟩ := hrel
    by_cases hc : j < n ∧ j < 16
    · obtain ⟨h1, h2⟩ := hc
      obtain ⟨s, cc, old, may, hCI, hB7, hB9, hB10, hBw⟩ := HL.out
      have HCI := Aside0.mk hCI; have B7 := Aside0.mk hB7; have B9 := Aside0.mk hB9; have B10 := Aside0.mk hB10; have HB := Aside0.mk hBw
      obtain ⟨ad, rfl, hcell⟩ := Kd.at_int (Kd.C_below HR.out hBw) (j : Int) (by omega) (by omega)
      clear hCI hB7 hB9 hB10 hBw HL
      generalize rd l (j : Int) = x at hcell
      rw [Int.toNat_natCast] at hcell
      go_wp2_with fail
      obtain ⟨k, hk3, hk⟩ : ∃ k : Nat, k < 3 ∧ wrap64 ((IntKind.u64.wrap x).tmod 3) = (k : Int) := mod3 x
      rw [hk]
      clear hk hcell
      obtain ⟨p, q, hblk, hdv⟩ := B7.out
      have HBLK := Aside0.mk hblk; have HDV := Aside0.mk hdv
      clear hblk hdv
      have hu25 := Try.underlying25
      have HLT := Aside0.mk (blk_lt HBLK.out)
      have hc0 : wr.cell? ⟨g7, 0, none⟩ = some (.bool false) := (blk_cell HBLK.out 0).trans rfl
      have hc1 : wr.cell? ⟨g7, 1, none⟩ = some p := (blk_cell HBLK.out 1).trans rfl
      have hc2 : wr.cell? ⟨g7, 2, none⟩ = some q := (blk_cell HBLK.out 2).trans rfl
      have e1 : IntKind.i64.wrap (1 + (j : Int)) = 1 + (j : Int) := IntWalk.i64_in _ (by omega)
      have e2 : IntKind.u8.wrap (1 + (j : Int)) = 1 + (j : Int) := u8_in _ (by omega) (by omega)
      have H7 : Aside0 (Valid s cc) := ⟨HCI.out.valid hj⟩
      have HC : Aside0 (s.length = 3 ∧ cc.length ≤ j) := ⟨HCI.out.1, HCI.out.2.1⟩
      obtain ⟨c2, HC2⟩ : ∃ c2, Aside0 (c2 = cc ++ [⟨(k : Int), fullS (1 + (j : Int))⟩]) := ⟨_, ⟨rfl⟩⟩
      go_cut [13, 14] (fun p13 v14 wx => ∃ g13 : Nat, p13 = .pointer (some ⟨g13, 0, none⟩) ∧ v14 = .int .i64 0 ∧ Aside0 (Bx wx g13 ⟨false, s, c2⟩) ∧ Aside0 (Below wr.heap.size wr wx))
      case first =>
        go_region_held3 (fun w' => Below wr.heap.size wr w' ∧ w'.cell? ⟨g7, 0, none⟩ = some (.bool false) ∧ w'.cell? ⟨g7, 1, none⟩ = some p ∧ w'.cell? ⟨g7, 2, none⟩ = some q)
          (first | exact S_keep (below_drew (Below.refl _ wr)) ⟨Below.refl _ _, hc0, hc1, hc2⟩ | exact S_keep hb7 (by assumption) | exact S_keep hb (by assumption) | exact S_keep (below_alloc (Below.refl _ _) _) (by assumption) | exact S_re (by omega) HLT.out (by assumption) | exact S_set3 (by omega) HLT.out (by assumption))
          (first
            | (go_at_call 30; refine (Full_k (1 + (j : Int)) (by omega) (by omega) _).mono ?_; rintro e w6 ⟨rfl, hb⟩; obtain ⟨hcl, hfl⟩ := bcell hb; have hz := hb.size; (try simp at hz); (try (have hzl := Nat.lt_of_succ_le hz)))
            | (go_at_call 16; refine (Write_k (HDV.out.below (And.left (by assumption))) H7.out (k : Int) _ (by omega) (by rw [HC.out.1]; omega) (full_size _) (by have := HC.out.2; omega)).mono ?_; rintro e w7 ⟨v7, rfl, hv7, hb7⟩; rw [← HC2.out] at hv7; obtain ⟨A7, a7, B7', b7, rfl, _⟩ := hv7.reads; obtain ⟨hcl7, hfl7⟩ := bcell hb7; have hz7 := hb7.size; (try simp at hz7)))
        all_goals (go_wp2_with fail; go_meet; refine ⟨_, rfl, rfl, ⟨?_⟩, ⟨And.left (by assumption)⟩⟩; first | with_reducible exact fin0 hv7 | with_reducible exact fin hv7 (blk_below (blk_new _ _) hb7) | with_reducible exact fin hv7 (blk_below (blk_below (blk_drew (blk_new _ _)) hb) hb7))
      case rest =>
        obtain ⟨g13, rfl, rfl, B13, hbw⟩ := hcut
        have n1 := Aside0.mk (Bx.below B7.out hbw.out); have n2 := Aside0.mk (blk_below B9.out hbw.out); have n3 := Aside0.mk (blk_below B10.out hbw.out); have n0 := Aside0.mk (below_step HB.out hbw.out)
        clear B7 B9 B10 HB hbw HDV HBLK hc0 hc1 hc2
        have B7 := n1; have B9 := n2; have B10 := n3; have HB := n0; clear n0 n1 n2 n3
        go_upto_region 17 with (first
          | (go_at_call 12; refine (Num_k _ _).mono ?_; rintro e w' ⟨rfl, nd, rfl⟩; have n0 := Aside0.mk (pw_below_drewN HB.out nd); clear HB; have HB := n0; clear n0)
          | ((with_reducible refine gate_dst (N := 74) rfl ?_); refine load_box 13 g13 _ rfl rfl rfl B13.out ?_; intro v74 hv; have HV := Aside0.mk hv; clear hv)
          | ((with_reducible refine gate_store (t := 25) (p := 7) rfl ?_); refine store_disk 7 _ g7 v74 _ _ HV.out (by exact B7.out) rfl rfl rfl rfl rfl ?_; intro w8 hbx hsz hk hbel; have n1 := Aside0.mk hbx; have n2 := Aside0.mk ((hk g9 (Nat.ne_of_gt N79.out)).trans B9.out); have n3 := Aside0.mk ((hk g10 (Nat.ne_of_gt (Nat.lt_trans N79.out N910.out))).trans B10.out); have n0 := Aside0.mk (hbel w HB.out G7.out); clear hbx hsz hk hbel B7 B9 B10 HB HV B13; have B7 := n1; have B9 := n2; have B10 := n3; have HB := n0; clear n0 n1 n2 n3; have hcm := may_cell B10.out (k * 256 + (1 + j)) (by omega); have hfm := blk_frozen B10.out (k * 256 + (1 + j)))
          | ((with_reducible refine gate_store (t := 4) (p := 79) rfl ?_); refine store_event (t := 4) (p := 79) (v := _) (w1 := w8.setCell ⟨g10, k * 256 + (1 + j), none⟩ (.bool true)) rfl rfl rfl ?hr ?_; (case hr => first | (go_simp; done) | (go_simp; rfl)); intro w9 hw9; subst hw9; have n1 := Aside0.mk (Bx.but B7.out B10.out (by decide) (Nat.ne_of_lt (Nat.lt_trans N79.out N910.out)) (fun k' hk _ => Below.heap_setCell w8 ⟨g10, k * 256 + (1 + j), none⟩ (.bool true) k' hk)); have n2 := Aside0.mk (blk_far B9.out (p := ⟨g10, k * 256 + (1 + j), none⟩) (Nat.ne_of_lt N910.out) (.bool true)); have n3 := Aside0.mk (may_put B10.out (k * 256 + (1 + j))); have n0 := Aside0.mk (below_set (j := k * 256 + (1 + j)) (v := .bool true) HB.out G10.out); clear B7 B9 B10 HB hcm hfm; have B7 := n1; have B9 := n2; have B10 := n3; have HB := n0; clear n0 n1 n2 n3; generalize w8.setCell ⟨g10, k * 256 + (1 + j), none⟩ (.bool true) = w9 at *))
        cases hfl : ((j : Int) == Go.bits .and .i64 fl 15)
        · go_wp2_with fail
          refine ⟨⟨j + 1, by omega, by go_num, ⟨⟨s, c2, old, _, ?_, B7.out, B9.out, B10.out, HB.out⟩⟩⟩, by simp [intOf]; omega⟩
          rw [HC2.out]; exact HCI.out.write h2 k hk3
        · obtain ⟨s2, HS2⟩ : ∃ s2, Aside0 (s2 = settleS (fun _ => true) 0 c2 s) := ⟨_, ⟨rfl⟩⟩
          have HN := Aside0.mk (show CI (j + 1) s c2 old (fun x => if x = k * 256 + (1 + j) then true else may x) by rw [HC2.out]; exact HCI.out.write h2 k hk3)
          have HVD := Aside0.mk (HN.out.valid (by omega))
          have HVN := Aside0.mk (show Valid s2 [] by rw [HS2.out]; exact settle_valid HVD.out _)
          have HF := Aside0.mk (show ∀ q : Nat, q < 3 → ∃ b : Int, 0 ≤ b ∧ b < 256 ∧ peekS s2 [] (q : Int) = fullS b ∧ s2.getD q ⟨#[]⟩ = fullS b from fun q hq => by
            obtain ⟨b, b0, b1, b2, _⟩ := HN.out.settled (fun _ => true) q hq
            rw [HS2.out]; exact ⟨b, b0, b1, by rw [peek_nil]; exact b2, b2⟩)
          have HL2 := Aside0.mk (show s2.length = 3 by rw [HS2.out, settle_len]; exact HN.out.1)
          clear HCI HC2
          go_wp2_with (first
            | (go_at_call 12; refine (Num_k _ _).mono ?_; rintro e w' ⟨rfl, nd, rfl⟩; have n0 := Aside0.mk (pw_below_drewN HB.out nd); clear HB; have HB := n0; clear n0)
            | ((with_reducible refine gate_dst (N := 85) rfl ?_); refine load_box 7 g7 _ rfl rfl rfl B7.out ?_; intro v85 hv; have HV := Aside0.mk hv; clear hv)
            | (go_at_call 18; refine (Flush_k HV.out HVD.out).mono ?_; rintro e w10 ⟨v18, rfl, hv, hb⟩; rw [← HS2.out] at hv; have HV := Aside0.mk hv; have n1 := Aside0.mk (B7.out.below hb); have n2 := Aside0.mk (blk_below B9.out hb); have n3 := Aside0.mk (blk_below B10.out hb); have n0 := Aside0.mk (below_step HB.out hb); clear B7 B9 B10 HB hb hv; have B7 := n1; have B9 := n2; have B10 := n3; have HB := n0; clear n0 n1 n2 n3)
            | ((with_reducible refine gate_dst (N := 15) rfl ?_); refine new_disk 15 _ v18 _ HV.out rfl rfl rfl rfl rfl rfl rfl rfl ?_; intro g15 hg15 w11 hbx hb; have B15 := Aside0.mk hbx; have n1 := Aside0.mk (B7.out.below hb); have n2 := Aside0.mk (blk_below B9.out hb); have n3 := Aside0.mk (blk_below B10.out hb); have n0 := Aside0.mk (below_step HB.out hb); clear B7 B9 B10 HB hb hbx hg15 HV; have B7 := n1; have B9 := n2; have B10 := n3; have HB := n0; clear n0 n1 n2 n3)
            | ((with_reducible refine gate_dst (N := 92) rfl ?_); refine load_box 15 g15 _ rfl rfl rfl B15.out ?_; intro v92 hv; have HV := Aside0.mk hv; clear hv)
            | ((with_reducible refine gate_store (t := 25) (p := 7) rfl ?_); refine store_disk 7 _ g7 v92 _ _ HV.out (by exact B7.out) rfl rfl rfl rfl rfl ?_; intro w12 hbx hsz hk hbel; have n1 := Aside0.mk hbx; have n2 := Aside0.mk ((hk g9 (Nat.ne_of_gt N79.out)).trans B9.out); have n3 := Aside0.mk ((hk g10 (Nat.ne_of_gt (Nat.lt_trans N79.out N910.out))).trans B10.out); have n0 := Aside0.mk (hbel w HB.out G7.out); clear hbx hsz hk hbel B7 B9 B10 HB HV B15; have B7 := n1; have B9 := n2; have B10 := n3; have HB := n0; clear n0 n1 n2 n3)
            | ((with_reducible refine gate_dst (N := 93) rfl ?_); refine build_zero 59 (mayA fun _ => false) rfl rfl may_zero ?_)
            | ((with_reducible refine gate_store (t := 59) (p := 10) rfl ?_); refine store_whole 59 10 _ g10 _ (mayA fun _ => false) B10.out (by rw [may_size]; kernel_rfl) (by rw [may_size, may_size]) (may_one _) rfl rfl rfl rfl rfl ?_; intro w13 hbx hsz hk hbel; have n1 := Aside0.mk (B7.out.but B10.out (by decide) (Nat.ne_of_lt (Nat.lt_trans N79.out N910.out)) (fun k' hk' _ => hk k' hk')); have n2 := Aside0.mk ((hk g9 (Nat.ne_of_lt N910.out)).trans B9.out); have n3 := Aside0.mk hbx; have n0 := Aside0.mk (hbel w HB.out G10.out); clear hbx hsz hk hbel B7 B9 B10 HB; have B7 := n1; have B9 := n2; have B10 := n3; have HB := n0; clear n0 n1 n2 n3))
          obtain ⟨HO0, HO1⟩ : Aside0 (old.length = 3) ∧ Aside0 (∀ x, x ∈ old → 0 ≤ x ∧ x < 256) := ⟨⟨HN.out.2.2.1⟩, ⟨HN.out.2.2.2.1⟩⟩
          have HM := Aside0.mk (show LO w g7 g9 g10 s2 0 w13 from ⟨old, HO0.out, HO1.out, fun q hq => absurd hq (by omega), B7.out, B9.out, B10.out, HB.out⟩)
          clear B7 B9 B10 HB
          go_loopw [17] (fun i wq => ∃ m : Nat, m ≤ 3 ∧ i = .int .i64 m ∧ Aside0 (LO w g7 g9 g10 s2 m wq)) (fun i _ => 3 - (intOf i).toNat)
          case atStart => exact ⟨0, by omega, rfl, HM⟩
          case round =>
            obtain ⟨m, hm, rfl, HM⟩ := hrel
            obtain ⟨os, ho1, ho2, ho3, hB7, hB9, hB10, hBw⟩ := HM.out
            have HO := Aside0.mk (And.intro ho1 (And.intro ho2 ho3)); have B7 := Aside0.mk hB7; have B9 := Aside0.mk hB9; have B10 := Aside0.mk hB10; have HB := Aside0.mk hBw
            clear ho1 ho2 ho3 hB7 hB9 hB10 hBw HM
            by_cases hlt : m < 3
            · obtain ⟨b, b0, b1, hpk, hgd⟩ := HF.out m hlt
              obtain ⟨t, ht, hsz, hfi⟩ : ∃ t : ByteArray, Aside0 (fullS b = t) ∧ ((t.size : Int) != 64) = false ∧ ∀ h : 0 < t.size, ((t[0]'h).toNat : Int) = b := ⟨_, ⟨rfl⟩, by rw [full_size]; decide, (full_first b b0 b1).2⟩
              have HPK := Aside0.mk (hpk.trans ht.out)
              have HGD := Aside0.mk hgd
              have hs0 : 0 < t.size := by rw [← ht.out, full_size]; decide
              have hf0 := hfi hs0
              clear hpk hgd hfi
              go_wp2_with (first
                | ((with_reducible refine gate_dst (N := 99) rfl ?_); refine load_box 7 g7 _ rfl rfl rfl B7.out ?_; intro v99 hv; have HV := Aside0.mk hv; clear hv)
                | (go_at_call 14; refine (Read_k HV.out HVN.out (m : Int) (by omega) (by rw [HL2.out]; omega)).mono ?_; rintro e w14 ⟨rfl, hb⟩; rw [HPK.out]; have n1 := Aside0.mk (B7.out.below hb); have n2 := Aside0.mk (blk_below B9.out hb); have n3 := Aside0.mk (blk_below B10.out hb); have n0 := Aside0.mk (below_step HB.out hb); clear B7 B9 B10 HB hb HV; have B7 := n1; have B9 := n2; have B10 := n3; have HB := n0; clear n0 n1 n2 n3; have hco := old_cell B9.out m (by rw [HO.out.1]; omega); have hfo := blk_frozen B9.out m)
                | ((with_reducible refine gate_store (t := 5) (p := 111) rfl ?_); refine store_event (t := 5) (p := 111) (v := _) (w1 := w14.setCell ⟨g9, m, none⟩ (.int .u8 b)) rfl rfl rfl ?hr ?_; (case hr => first | (go_simp; done) | (go_simp; rfl)); intro w15 hw15; subst hw15; have n1 := Aside0.mk (B7.out.but B9.out (by decide) (Nat.ne_of_lt N79.out) (fun k' hk _ => Below.heap_setCell w14 ⟨g9, m, none⟩ (.int .u8 b) k' hk)); have n2 := Aside0.mk (old_put B9.out m b); have n3 := Aside0.mk (blk_far B10.out (p := ⟨g9, m, none⟩) (Nat.ne_of_gt N910.out) (.int .u8 b)); have n0 := Aside0.mk (below_set (j := m) (v := .int .u8 b) HB.out G9.out); clear B7 B9 B10 HB hco hfo; have B7 := n1; have B9 := n2; have B10 := n3; have HB := n0; clear n0 n1 n2 n3; generalize w14.setCell ⟨g9, m, none⟩ (.int .u8 b) = w15 at *))
              refine ⟨⟨m + 1, by omega, by go_num, ⟨⟨os.set m b, by rw [List.length_set]; exact HO.out.1, set_range HO.out.2.1 m b b0 b1, ?_, B7.out, B9.out, B10.out, HB.out⟩⟩⟩, by simp [intOf]; omega⟩
              intro q hq
              by_cases e : q = m
              · subst e; rw [List.getD_eq_getElem?_getD (l := os.set q b), List.getElem?_set_self (by rw [HO.out.1]; omega)]; exact HGD.out
              · rw [List.getD_eq_getElem?_getD (l := os.set m b), List.getElem?_set_ne (Ne.symm e), ← List.getD_eq_getElem?_getD]; exact HO.out.2.2 q (by omega)
            · go_wp2_with fail
              obtain rfl : m = 3 := by omega
              exact ⟨⟨j + 1, by omega, by go_num, ⟨⟨s2, [], os, _, CI.flushed HL2.out HO.out.1 HO.out.2.1 HO.out.2.2, B7.out, B9.out, B10.out, HB.out⟩⟩⟩, by simp [intOf]; omega⟩
    · have hx : ¬ j < n ∨ (j < n ∧ ¬ j < 16) := by omega
      rcases hx with h1 | ⟨h1, h2⟩
      all_goals (go_wp2_with fail; go_meet; exact ⟨j, hj, rfl, HL⟩)
  case rest =>
    obtain ⟨j, hj, rfl, HL⟩ := hcut
    clear HR
    obtain ⟨s, cc, old, may, hCI, hT⟩ := HL.out
    have HCI := Aside0.mk hCI; have HT := Aside0.mk (show T1 w g7 g9 g10 s cc old may wc from hT)
    have HVD := Aside0.mk (hCI.valid hj)
    have HS72 := Aside0.mk (show (settleS (fun _ => true) 0 cc s).length ≤ 72 by rw [settle_len, hCI.1]; decide)
    have HC := Aside0.mk (Below.refl wc.heap.size wc)
    clear hCI hT HL
    go_wp2_with (first
      | (go_at_call 12; refine (Num_k _ _).mono ?_; rintro e w' ⟨rfl, nd, rfl⟩)
      | ((with_reducible refine gate_dst (N := 113) rfl ?_); refine load_box 7 g7 _ rfl rfl rfl (HT.out.1.below HC.out) ?_; intro v0 hv; have HV := Aside0.mk hv; clear hv)
      | (go_at_call 20; (with_reducible refine (CrashNone_k HV.out HVD.out).mono ?_); rintro e w20 ⟨v20, rfl, hv, hb⟩; have n0 := Aside0.mk (below_step HC.out hb); clear HC hb HV; have HV := Aside0.mk hv; have HC := n0; clear n0 hv)
      | ((with_reducible refine gate_dst (N := 20) rfl ?_); refine new_disk 20 _ v20 _ HV.out rfl rfl rfl rfl rfl rfl rfl rfl ?_; intro g20 hg20 w21 hbx hb; have n1 := Aside0.mk (HT.out.below (below_step HC.out hb)); have B20 := Aside0.mk hbx; clear HT HC HV hb hbx hg20; have HT := n1; have HC := Aside0.mk (Below.refl w21.heap.size w21); clear n1)
      | ((with_reducible refine gate_dst (N := 118) rfl ?_); refine load_box 7 g7 _ rfl rfl rfl (HT.out.1.below HC.out) ?_; intro v0 hv; have HV := Aside0.mk hv; clear hv)
      | (go_at_call 20; (with_reducible refine (CrashAll_k HV.out HVD.out).mono ?_); rintro e w22 ⟨v22, rfl, hv, hb⟩; have n0 := Aside0.mk (below_step HC.out hb); clear HC hb HV; have HV := Aside0.mk hv; have HC := n0; clear n0 hv)
      | ((with_reducible refine gate_dst (N := 22) rfl ?_); refine new_disk 22 _ v22 _ HV.out rfl rfl rfl rfl rfl rfl rfl rfl ?_; intro g22 hg22 w23 hbx hb; have hb2 := below_step HC.out hb; have n1 := Aside0.mk (HT.out.below hb2); have n2 := Aside0.mk (B20.out.below hb2); have B22 := Aside0.mk hbx; clear HT HC HV hb hb2 hbx hg22 B20; have HT := n1; have B20 := n2; have HC := Aside0.mk (Below.refl w23.heap.size w23); clear n1 n2)
      | ((with_reducible refine gate_dst (N := 123) rfl ?_); refine load_box 7 g7 _ rfl rfl rfl (HT.out.1.below HC.out) ?_; intro v0 hv; have HV := Aside0.mk hv; clear hv)
      | (go_at_call 18; (with_reducible refine (Flush_k HV.out HVD.out).mono ?_); rintro e w24 ⟨v24, rfl, hv, hb⟩; have n0 := Aside0.mk (below_step HC.out hb); clear HC hb HV; have HV := Aside0.mk hv; have HC := n0; clear n0 hv)
      | ((with_reducible refine gate_dst (N := 24) rfl ?_); refine new_disk 24 _ v24 _ HV.out rfl rfl rfl rfl rfl rfl rfl rfl ?_; intro g24 hg24 w25 hbx hb; have hb2 := below_step HC.out hb; have n1 := Aside0.mk (HT.out.below hb2); have n2 := Aside0.mk (B20.out.below hb2); have n3 := Aside0.mk (B22.out.below hb2); have B24 := Aside0.mk hbx; clear HT HC HV hb hb2 hbx hg24 B20 B22; have HT := n1; have B20 := n2; have B22 := n3; have HC := Aside0.mk (Below.refl w25.heap.size w25); clear n1 n2 n3)
      | ((with_reducible refine gate_dst (N := 128) rfl ?_); refine load_box 7 g7 _ rfl rfl rfl (HT.out.1.below HC.out) ?_; intro v0 hv; have HV := Aside0.mk hv; clear hv)
      | (go_at_call 20; (with_reducible refine (Crash_k HV.out HVD.out kp).mono ?_); rintro e w26 ⟨v26, rfl, hv, hb⟩; have n0 := Aside0.mk (below_step HC.out hb); clear HC hb HV; have HV := Aside0.mk hv; have HC := n0; clear n0 hv)
      | ((with_reducible refine gate_dst (N := 26) rfl ?_); refine new_disk 26 _ v26 _ HV.out rfl rfl rfl rfl rfl rfl rfl rfl ?_; intro g26 hg26 w27 hbx hb; have hb2 := below_step HC.out hb; have n1 := Aside0.mk (HT.out.below hb2); have n2 := Aside0.mk (B20.out.below hb2); have n3 := Aside0.mk (B22.out.below hb2); have n4 := Aside0.mk (B24.out.below hb2); have B26 := Aside0.mk hbx; clear HT HC HV hb hb2 hbx hg26 B20 B22 B24; have HT := n1; have B20 := n2; have B22 := n3; have B24 := n4; have HC := Aside0.mk (Below.refl w27.heap.size w27); clear n1 n2 n3 n4)
      | ((with_reducible refine gate_dst (N := 152) rfl ?_); (try (refine gate_guard (by rfl) ?_; dsimp only)); refine load_box 22 g22 _ rfl rfl rfl (B22.out.below (pw_below_drewN (Below.refl _ _) _)) ?_; intro v152 hv; have HV := Aside0.mk hv; clear hv)
      | ((with_reducible refine gate_dst (N := 153) rfl ?_); (try (refine gate_guard (by rfl) ?_; dsimp only)); refine load_box 24 g24 _ rfl rfl rfl (B24.out.below (pw_below_drewN (Below.refl _ _) _)) ?_; intro v153 hv; have HU := Aside0.mk hv; clear hv)
      | (go_at_call 11; (with_reducible refine (Same_k HV.out HU.out HS72.out).mono ?_); rintro e w28 ⟨rfl, hb⟩; (repeat replace hb := sq_un hb); clear HC HV HU; have HC := Aside0.mk hb; clear hb))
    go_loopw [28] (fun i wq => ∃ m : Nat, m ≤ 3 ∧ i = .int .i64 m ∧ Aside0 (Below w27.heap.size w27 wq)) (fun i _ => 3 - (intOf i).toNat)
    case atStart => exact ⟨0, by omega, rfl, HC⟩
    case round =>
      obtain ⟨m, hm, rfl, HC⟩ := hrel
      by_cases hlt : m < 3
      · obtain ⟨b, b0, b1, hb2, hb3⟩ := HCI.out.settled (lastsB kp) m hlt
        obtain ⟨b, rfl⟩ := Int.eq_ofNat_of_zero_le b0
        obtain ⟨o, ho⟩ : ∃ o, old.getD m 0 = o := ⟨_, rfl⟩
        have hor := HCI.out.2.2.2.1 _ (getD_mem (show m < old.length by rw [HCI.out.2.2.1]; exact hlt))
        have hos := HCI.out.2.2.2.2.1 m hlt
        rw [ho] at hor hos hb3
        obtain ⟨t1, ht1⟩ : ∃ t : ByteArray, Aside0 (fullS o = t) := ⟨_, ⟨rfl⟩⟩
        obtain ⟨t, ht, hsz, hs0, hf0⟩ : ∃ t : ByteArray, Aside0 (fullS (b : Int) = t) ∧ ((t.size : Int) != 64) = false ∧ ∃ h : 0 < t.size, ((t[0]'h).toNat : Int) = b := ⟨_, ⟨rfl⟩, by rw [full_size]; decide, (full_first (b : Int) b0 b1).1, (full_first (b : Int) b0 b1).2 _⟩
        have HP1 := Aside0.mk ((peek_nil s m).trans (hos.trans ht1.out))
        have HP2 := Aside0.mk ((peek_nil (settleS (lastsB kp) 0 cc s) m).trans (hb2.trans ht.out))
        have HV1 := Aside0.mk (show Valid s [] from by have := settle_valid HVD.out (fun _ => false); rwa [settle_none _ (fun _ => rfl)] at this)
        have HV2 := Aside0.mk (settle_valid HVD.out (lastsB kp))
        have HL1 := Aside0.mk HCI.out.1
        have HL2 := Aside0.mk (show (settleS (lastsB kp) 0 cc s).length = 3 by rw [settle_len]; exact HCI.out.1)
        have HO := Aside0.mk ho; have HOR := Aside0.mk hor; have HB3 := Aside0.mk hb3
        clear hor hos hb2 hb3 ho b0
        have hbn : b < 256 := by omega
        go_wp2_with (first
          | ((with_reducible refine gate_dst (N := 162) rfl ?_); refine load_box 20 g20 _ rfl rfl rfl (B20.out.below HC.out) ?_; intro v0 hv; have HV := Aside0.mk hv; clear hv)
          | (go_at_call 14; (with_reducible refine (Read_e HV.out HV1.out (m : Int) (by omega) (by rw [HL1.out]; omega) t1 HP1.out).mono ?_); rintro e w30 ⟨rfl, hb⟩; have n0 := Aside0.mk (below_step HC.out hb); clear HC hb HV; have HC := n0; clear n0)
          | ((with_reducible refine gate_dst (N := 168) rfl ?_); refine load_box 26 g26 _ rfl rfl rfl (B26.out.below HC.out) ?_; intro v1 hv; have HV := Aside0.mk hv; clear hv)
          | (go_at_call 14; (with_reducible refine (Read_e HV.out HV2.out (m : Int) (by omega) (by rw [HL2.out]; omega) t HP2.out).mono ?_); rintro e w31 ⟨rfl, hb⟩; have n0 := Aside0.mk (below_step HC.out hb); clear HC hb HV; have HC := n0; clear n0))
        have hc9 := old_cell (blk_below HT.out.2.1 HC.out) m (by rw [HCI.out.2.2.1]; exact hlt)
        have hc10 := may_cell (blk_below HT.out.2.2.1 HC.out) (m * 256 + b) (by omega)
        rw [HO.out] at hc9
        have hm0 : (0 : Int) ≤ (m : Int) := by omega
        have hm3 : (m : Int) < 3 := by omega
        have hb0' : (0 : Int) ≤ (b : Int) := by omega
        have hb6' : (b : Int) < 256 := by omega
        cases hbo : ((b : Int) != o)
        · refine start_ (n := 47) (S := (fun w' => Below w27.heap.size w27 w' ∧ w'.cell? ⟨g9, m, none⟩ = some (.int .u8 o) ∧ w'.cell? ⟨g10, m * 256 + b, none⟩ = some (.bool (may (m * 256 + b))))) (ds := []) #[false, false, false, false, false, false, false, false, false, false, false, false, false, false, false, false, false, false, false, false, false, false, false, false, false, false, false, false, false, false, false, false, false, false, false, false, false, false, false, false, false, false, false, false, false, false, false] (by kernel_rfl) rfl rfl (C_keep (below_drew (Below.refl _ w31)) ⟨HC.out, hc9, hc10⟩) (fun hHeld => ?_)
          generalize w31.drew = w31d at hHeld ⊢
          refine pure_ (i := 0) (N := some 173) (v := ?_) (a' := ?_) #[true, false, false, false, false, false, false, false, false, false, false, false, false, false, false, false, false, false, false, false, false, false, false, false, false, false, false, false, false, false, false, false, false, false, false, false, false, false, false, false, false, false, false, false, false, false, false] rfl rfl (by kernel_rfl) (fun _ _ _ h => h) (Or.inl ⟨by rfl, ?_⟩) ?_ ?_
          rotate_left; (intro w'; go_simp; with_reducible rfl); rotate_left; (simp only [Act.put, List.setIfInBounds_toArray, List.set_cons_zero, List.set_cons_succ, i64_w, i32_w]; rfl)
          refine one_ (i := 1) (N := some 174) #[true, true, false, false, false, false, false, false, false, false, false, false, false, false, false, false, false, false, false, false, false, false, false, false, false, false, false, false, false, false, false, false, false, false, false, false, false, false, false, false, false, false, false, false, false, false, false] rfl rfl (by kernel_rfl) (by decide) (fun K hK => ?_)
          refine goes_ Try.func12 (by kernel_rfl) rfl #[.int .i64 0] (by rfl) rfl rfl (by (try simp only [List.map_toArray, List.map_cons, List.map_nil]); first | done | rfl) ?_
          (with_reducible refine (Num_b 0 _).mono ?_)
          rintro e w32 ⟨rfl, hb⟩; refine ⟨_, rfl, ?_⟩; refine hK.out _ _ (C_keep hb hHeld) (fun hHeld => ?_); clear hK K
          refine norm_ (a' := ?_) ?_ ?_; rotate_left; (show Act.put _ (some 174) _ = _; simp only [Act.put, List.setIfInBounds_toArray, List.set_cons_zero, List.set_cons_succ, i64_w, i32_w]; rfl)
          refine pure_ (i := 2) (N := some 175) (v := ?_) (a' := ?_) #[true, true, true, false, false, false, false, false, false, false, false, false, false, false, false, false, false, false, false, false, false, false, false, false, false, false, false, false, false, false, false, false, false, false, false, false, false, false, false, false, false, false, false, false, false, false, false] rfl rfl (by kernel_rfl) (fun _ _ _ h => h) (Or.inl ⟨by rfl, ?_⟩) ?_ ?_
          rotate_left; (intro w'; go_simp; with_reducible rfl); rotate_left; (simp only [Act.put, List.setIfInBounds_toArray, List.set_cons_zero, List.set_cons_succ, i64_w, i32_w]; rfl)
          refine pure_ (i := 3) (N := some 176) (v := ?_) (a' := ?_) #[true, true, true, true, false, false, false, false, false, false, false, false, false, false, false, false, false, false, false, false, false, false, false, false, false, false, false, false, false, false, false, false, false, false, false, false, false, false, false, false, false, false, false, false, false, false, false] rfl rfl (by kernel_rfl) (fun _ _ _ h => h) (Or.inl ⟨by rfl, ?_⟩) ?_ ?_
          rotate_left; (intro w'; go_simp; with_reducible rfl); rotate_left; (simp only [Act.put, List.setIfInBounds_toArray, List.set_cons_zero, List.set_cons_succ, i64_w, i32_w]; rfl)
          refine pure_ (i := 4) (N := some 177) (v := ?_) (a' := ?_) #[true, true, true, true, true, false, false, false, false, false, false, false, false, false, false, false, false, false, false, false, false, false, false, false, false, false, false, false, false, false, false, false, false, false, false, false, false, false, false, false, false, false, false, false, false, false, false] rfl rfl (by kernel_rfl) (fun _ _ _ h => h) (Or.inl ⟨by rfl, ?_⟩) ?_ ?_
          rotate_left; (intro w'; go_simp; with_reducible rfl); rotate_left; (simp only [Act.put, List.setIfInBounds_toArray, List.set_cons_zero, List.set_cons_succ, i64_w, i32_w]; rfl)
          refine one_ (i := 5) (N := some 178) #[true, true, true, true, true, true, false, false, false, false, false, false, false, false, false, false, false, false, false, false, false, false, false, false, false, false, false, false, false, false, false, false, false, false, false, false, false, false, false, false, false, false, false, false, false, false, false] rfl rfl (by kernel_rfl) (by decide) (fun K hK => ?_)
          refine goes_ Try.func12 (by kernel_rfl) rfl #[.int .i64 0] (by rfl) rfl rfl (by (try simp only [List.map_toArray, List.map_cons, List.map_nil]); first | done | rfl) ?_
          (with_reducible refine (Num_b 0 _).mono ?_)
          rintro e w32 ⟨rfl, hb⟩; refine ⟨_, rfl, ?_⟩; refine hK.out _ _ (C_keep hb hHeld) (fun hHeld => ?_); clear hK K
          refine norm_ (a' := ?_) ?_ ?_; rotate_left; (show Act.put _ (some 178) _ = _; simp only [Act.put, List.setIfInBounds_toArray, List.set_cons_zero, List.set_cons_succ, i64_w, i32_w]; rfl)
          refine pure_ (i := 6) (N := some 179) (v := ?_) (a' := ?_) #[true, true, true, true, true, true, true, false, false, false, false, false, false, false, false, false, false, false, false, false, false, false, false, false, false, false, false, false, false, false, false, false, false, false, false, false, false, false, false, false, false, false, false, false, false, false, false] rfl rfl (by kernel_rfl) (fun _ _ _ h => h) (Or.inl ⟨by rfl, ?_⟩) ?_ ?_
          rotate_left; (intro w'; go_simp; with_reducible rfl); rotate_left; (simp only [Act.put, List.setIfInBounds_toArray, List.set_cons_zero, List.set_cons_succ, i64_w, i32_w]; rfl)
          refine pure_ (i := 7) (N := some 180) (v := ?_) (a' := ?_) #[true, true, true, true, true, true, true, true, false, false, false, false, false, false, false, false, false, false, false, false, false, false, false, false, false, false, false, false, false, false, false, false, false, false, false, false, false, false, false, false, false, false, false, false, false, false, false] rfl rfl (by kernel_rfl) (fun _ _ _ h => h) (Or.inl ⟨by rfl, ?_⟩) ?_ ?_
          rotate_left; (intro w'; go_simp; with_reducible rfl); rotate_left; (simp only [Act.put, List.setIfInBounds_toArray, List.set_cons_zero, List.set_cons_succ, i64_w, i32_w]; rfl)
          refine pure_ (i := 8) (N := some 181) (v := ?_) (a' := ?_) #[true, true, true, true, true, true, true, true, true, false, false, false, false, false, false, false, false, false, false, false, false, false, false, false, false, false, false, false, false, false, false, false, false, false, false, false, false, false, false, false, false, false, false, false, false, false, false] rfl rfl (by kernel_rfl) (fun _ _ _ h => h) (Or.inl ⟨by rfl, ?_⟩) ?_ ?_
          rotate_left; (intro w'; go_simp; with_reducible rfl); rotate_left; (simp only [Act.put, List.setIfInBounds_toArray, List.set_cons_zero, List.set_cons_succ, i64_w, i32_w]; rfl)
          refine pure_ (i := 9) (N := some 182) (v := ?_) (a' := ?_) #[true, true, true, true, true, true, true, true, true, true, false, false, false, false, false, false, false, false, false, false, false, false, false, false, false, false, false, false, false, false, false, false, false, false, false, false, false, false, false, false, false, false, false, false, false, false, false] rfl rfl (by kernel_rfl) (fun _ _ _ h => h) (Or.inl ⟨by rfl, ?_⟩) ?_ ?_
          rotate_left; (intro w'; go_simp; with_reducible rfl); rotate_left; (simp only [Act.put, List.setIfInBounds_toArray, List.set_cons_zero, List.set_cons_succ, i64_w, i32_w]; rfl)
          refine pure_ (i := 10) (N := some 183) (v := ?_) (a' := ?_) #[true, true, true, true, true, true, true, true, true, true, true, false, false, false, false, false, false, false, false, false, false, false, false, false, false, false, false, false, false, false, false, false, false, false, false, false, false, false, false, false, false, false, false, false, false, false, false] rfl rfl (by kernel_rfl) (fun _ _ _ h => h) (Or.inl ⟨by rfl, ?_⟩) ?_ ?_
          rotate_left; (intro w'; go_simp; with_reducible rfl); rotate_left; (simp only [Act.put, List.setIfInBounds_toArray, List.set_cons_zero, List.set_cons_succ, i64_w, i32_w]; rfl)
          refine pure_ (i := 11) (N := some 184) (v := ?_) (a' := ?_) #[true, true, true, true, true, true, true, true, true, true, true, true, false, false, false, false, false, false, false, false, false, false, false, false, false, false, false, false, false, false, false, false, false, false, false, false, false, false, false, false, false, false, false, false, false, false, false] rfl rfl (by kernel_rfl) (fun _ _ _ h => h) (Or.inl ⟨by rfl, ?_⟩) ?_ ?_
          rotate_left; (intro w'; go_simp; with_reducible rfl); rotate_left; (simp only [Act.put, List.setIfInBounds_toArray, List.set_cons_zero, List.set_cons_succ, i64_w, i32_w]; rfl)
          refine pure_ (i := 12) (N := some 185) (v := ?_) (a' := ?_) #[true, true, true, true, true, true, true, true, true, true, true, true, true, false, false, false, false, false, false, false, false, false, false, false, false, false, false, false, false, false, false, false, false, false, false, false, false, false, false, false, false, false, false, false, false, false, false] rfl rfl (by kernel_rfl) (fun _ _ _ h => h) (Or.inl ⟨by rfl, ?_⟩) ?_ ?_
          rotate_left; (intro w'; go_simp; with_reducible rfl); rotate_left; (simp only [Act.put, List.setIfInBounds_toArray, List.set_cons_zero, List.set_cons_succ, i64_w, i32_w]; rfl)
          refine take_ (i := 13) (N := some 186) (v := ?_) (a' := ?_) #[true, true, true, true, true, true, true, true, true, true, true, true, true, true, false, false, false, false, false, false, false, false, false, false, false, false, false, false, false, false, false, false, false, false, false, false, false, false, false, false, false, false, false, false, false, false, false] rfl rfl (by kernel_rfl) (fun _ _ _ h => h) (Or.inl ⟨by rfl, ?_⟩) hHeld ?_ ?_
          rotate_left; (rintro w' ⟨s0, s1, s2⟩; go_simp; with_reducible rfl); rotate_left; (simp only [Act.put, List.setIfInBounds_toArray, List.set_cons_zero, List.set_cons_succ, i64_w, i32_w]; rfl)
          refine one_ (i := 14) (N := some 187) #[true, true, true, true, true, true, true, true, true, true, true, true, true, true, true, false, false, false, false, false, false, false, false, false, false, false, false, false, false, false, false, false, false, false, false, false, false, false, false, false, false, false, false, false, false, false, false] rfl rfl (by kernel_rfl) (by decide) (fun K hK => ?_)
          refine goes_ Try.func30 (by kernel_rfl) rfl #[.int .u8 o] (by rfl) rfl rfl (by (try simp only [List.map_toArray, List.map_cons, List.map_nil]); first | done | rfl) ?_
          (with_reducible refine (Full_e o HOR.out.1 HOR.out.2 t1 ht1.out _).mono ?_)
          rintro e w33 ⟨rfl, hb⟩; refine ⟨_, rfl, ?_⟩; refine hK.out _ _ (C_keep hb hHeld) (fun hHeld => ?_); clear hK K
          refine norm_ (a' := ?_) ?_ ?_; rotate_left; (show Act.put _ (some 187) _ = _; simp only [Act.put, List.setIfInBounds_toArray, List.set_cons_zero, List.set_cons_succ, i64_w, i32_w]; rfl)
          refine pure_ (i := 15) (N := some 188) (v := ?_) (a' := ?_) #[true, true, true, true, true, true, true, true, true, true, true, true, true, true, true, true, false, false, false, false, false, false, false, false, false, false, false, false, false, false, false, false, false, false, false, false, false, false, false, false, false, false, false, false, false, false, false] rfl rfl (by kernel_rfl) (fun _ _ _ h => h) (Or.inl ⟨by rfl, ?_⟩) ?_ ?_
          rotate_left; (intro w'; go_simp; with_reducible rfl); rotate_left; (simp only [Act.put, List.setIfInBounds_toArray, List.set_cons_zero, List.set_cons_succ, i64_w, i32_w]; rfl)
          refine pure_ (i := 16) (N := some 189) (v := ?_) (a' := ?_) #[true, true, true, true, true, true, true, true, true, true, true, true, true, true, true, true, true, false, false, false, false, false, false, false, false, false, false, false, false, false, false, false, false, false, false, false, false, false, false, false, false, false, false, false, false, false, false] rfl rfl (by kernel_rfl) (fun _ _ _ h => h) (Or.inl ⟨by rfl, ?_⟩) ?_ ?_
          rotate_left; (intro w'; go_simp; with_reducible rfl); rotate_left; (simp only [Act.put, List.setIfInBounds_toArray, List.set_cons_zero, List.set_cons_succ, i64_w, i32_w]; rfl)
          refine pure_ (i := 17) (N := some 190) (v := ?_) (a' := ?_) #[true, true, true, true, true, true, true, true, true, true, true, true, true, true, true, true, true, true, false, false, false, false, false, false, false, false, false, false, false, false, false, false, false, false, false, false, false, false, false, false, false, false, false, false, false, false, false] rfl rfl (by kernel_rfl) (fun _ _ _ h => h) (Or.inl ⟨by rfl, ?_⟩) ?_ ?_
          rotate_left; (intro w'; go_simp; with_reducible rfl); rotate_left; (simp only [Act.put, List.setIfInBounds_toArray, List.set_cons_zero, List.set_cons_succ, i64_w, i32_w]; rfl)
          refine pure_ (i := 18) (N := some 191) (v := ?_) (a' := ?_) #[true, true, true, true, true, true, true, true, true, true, true, true, true, true, true, true, true, true, true, false, false, false, false, false, false, false, false, false, false, false, false, false, false, false, false, false, false, false, false, false, false, false, false, false, false, false, false] rfl rfl (by kernel_rfl) (fun _ _ _ h => h) (Or.inl ⟨by rfl, ?_⟩) ?_ ?_
          rotate_left; (intro w'; go_simp; with_reducible rfl); rotate_left; (simp only [Act.put, List.setIfInBounds_toArray, List.set_cons_zero, List.set_cons_succ, i64_w, i32_w]; rfl)
          refine pure_ (i := 19) (N := some 192) (v := ?_) (a' := ?_) #[true, true, true, true, true, true, true, true, true, true, true, true, true, true, true, true, true, true, true, true, false, false, false, false, false, false, false, false, false, false, false, false, false, false, false, false, false, false, false, false, false, false, false, false, false, false, false] rfl rfl (by kernel_rfl) (fun _ _ _ h => h) (Or.inl ⟨by rfl, ?_⟩) ?_ ?_
          rotate_left; (intro w'; go_simp; with_reducible rfl); rotate_left; (simp only [Act.put, List.setIfInBounds_toArray, List.set_cons_zero, List.set_cons_succ, i64_w, i32_w]; rfl)
          refine pure_ (i := 20) (N := some 193) (v := ?_) (a' := ?_) #[true, true, true, true, true, true, true, true, true, true, true, true, true, true, true, true, true, true, true, true, true, false, false, false, false, false, false, false, false, false, false, false, false, false, false, false, false, false, false, false, false, false, false, false, false, false, false] rfl rfl (by kernel_rfl) (fun _ _ _ h => h) (Or.inl ⟨by rfl, ?_⟩) ?_ ?_
          rotate_left; (intro w'; go_simp; with_reducible rfl); rotate_left; (simp only [Act.put, List.setIfInBounds_toArray, List.set_cons_zero, List.set_cons_succ, i64_w, i32_w]; rfl)
          refine pure_ (i := 21) (N := some 194) (v := ?_) (a' := ?_) #[true, true, true, true, true, true, true, true, true, true, true, true, true, true, true, true, true, true, true, true, true, true, false, false, false, false, false, false, false, false, false, false, false, false, false, false, false, false, false, false, false, false, false, false, false, false, false] rfl rfl (by kernel_rfl) (fun _ _ _ h => h) (Or.inl ⟨by rfl, ?_⟩) ?_ ?_
          rotate_left; (intro w'; go_simp; with_reducible rfl); rotate_left; (simp only [Act.put, List.setIfInBounds_toArray, List.set_cons_zero, List.set_cons_succ, i64_w, i32_w]; rfl)
          refine pure_ (i := 22) (N := some 195) (v := ?_) (a' := ?_) #[true, true, true, true, true, true, true, true, true, true, true, true, true, true, true, true, true, true, true, true, true, true, true, false, false, false, false, false, false, false, false, false, false, false, false, false, false, false, false, false, false, false, false, false, false, false, false] rfl rfl (by kernel_rfl) (fun _ _ _ h => h) (Or.inl ⟨by rfl, ?_⟩) ?_ ?_
          rotate_left; (intro w'; go_simp; with_reducible rfl); rotate_left; (simp only [Act.put, List.setIfInBounds_toArray, List.set_cons_zero, List.set_cons_succ, i64_w, i32_w]; rfl)
          refine pure_ (i := 23) (N := some 196) (v := ?_) (a' := ?_) #[true, true, true, true, true, true, true, true, true, true, true, true, true, true, true, true, true, true, true, true, true, true, true, true, false, false, false, false, false, false, false, false, false, false, false, false, false, false, false, false, false, false, false, false, false, false, false] rfl rfl (by kernel_rfl) (fun _ _ _ h => h) (Or.inl ⟨by rfl, ?_⟩) ?_ ?_
          rotate_left; (intro w'; go_simp; with_reducible rfl); rotate_left; (simp only [Act.put, List.setIfInBounds_toArray, List.set_cons_zero, List.set_cons_succ, i64_w, i32_w]; rfl)
          refine pure_ (i := 24) (N := some 197) (v := ?_) (a' := ?_) #[true, true, true, true, true, true, true, true, true, true, true, true, true, true, true, true, true, true, true, true, true, true, true, true, true, false, false, false, false, false, false, false, false, false, false, false, false, false, false, false, false, false, false, false, false, false, false] rfl rfl (by kernel_rfl) (fun _ _ _ h => h) (Or.inl ⟨by rfl, ?_⟩) ?_ ?_
          rotate_left; (intro w'; go_simp; with_reducible rfl); rotate_left; (simp only [Act.put, List.setIfInBounds_toArray, List.set_cons_zero, List.set_cons_succ, i64_w, i32_w]; rfl)
          refine one_ (i := 25) (N := some 198) #[true, true, true, true, true, true, true, true, true, true, true, true, true, true, true, true, true, true, true, true, true, true, true, true, true, true, false, false, false, false, false, false, false, false, false, false, false, false, false, false, false, false, false, false, false, false, false] rfl rfl (by kernel_rfl) (by decide) (fun K hK => ?_)
          refine event_step (v := .int .u8 (b : Int)) (w1 := w33) (by rfl) (by first | (go_simp; done) | (go_simp; rfl)) ?_; refine hK.out _ _ hHeld (fun hHeld => ?_); clear hK K
          refine norm_ (a' := ?_) ?_ ?_; rotate_left; (show Act.put _ (some 198) _ = _; simp only [Act.put, List.setIfInBounds_toArray, List.set_cons_zero, List.set_cons_succ, i64_w, i32_w]; rfl)
          refine one_ (i := 26) (N := some 199) #[true, true, true, true, true, true, true, true, true, true, true, true, true, true, true, true, true, true, true, true, true, true, true, true, true, true, true, false, false, false, false, false, false, false, false, false, false, false, false, false, false, false, false, false, false, false, false] rfl rfl (by kernel_rfl) (by decide) (fun K hK => ?_)
          refine goes_ Try.func30 (by kernel_rfl) rfl #[.int .u8 (b : Int)] (by rfl) rfl rfl (by (try simp only [List.map_toArray, List.map_cons, List.map_nil]); first | done | rfl) ?_
          (with_reducible refine (Full_e (b : Int) hb0' hb6' t ht.out _).mono ?_)
          rintro e w34 ⟨rfl, hb⟩; refine ⟨_, rfl, ?_⟩; refine hK.out _ _ (C_keep hb hHeld) (fun hHeld => ?_); clear hK K
          refine norm_ (a' := ?_) ?_ ?_; rotate_left; (show Act.put _ (some 199) _ = _; simp only [Act.put, List.setIfInBounds_toArray, List.set_cons_zero, List.set_cons_succ, i64_w, i32_w]; rfl)
          refine pure_ (i := 27) (N := some 200) (v := ?_) (a' := ?_) #[true, true, true, true, true, true, true, true, true, true, true, true, true, true, true, true, true, true, true, true, true, true, true, true, true, true, true, true, false, false, false, false, false, false, false, false, false, false, false, false, false, false, false, false, false, false, false] rfl rfl (by kernel_rfl) (fun _ _ _ h => h) (Or.inl ⟨by rfl, ?_⟩) ?_ ?_
          rotate_left; (intro w'; go_simp; with_reducible rfl); rotate_left; (simp only [Act.put, List.setIfInBounds_toArray, List.set_cons_zero, List.set_cons_succ, i64_w, i32_w]; rfl)
          refine pure_ (i := 28) (N := some 201) (v := ?_) (a' := ?_) #[true, true, true, true, true, true, true, true, true, true, true, true, true, true, true, true, true, true, true, true, true, true, true, true, true, true, true, true, true, false, false, false, false, false, false, false, false, false, false, false, false, false, false, false, false, false, false] rfl rfl (by kernel_rfl) (fun _ _ _ h => h) (Or.inl ⟨by rfl, ?_⟩) ?_ ?_
          rotate_left; (intro w'; go_simp; with_reducible rfl); rotate_left; (simp only [Act.put, List.setIfInBounds_toArray, List.set_cons_zero, List.set_cons_succ, i64_w, i32_w]; rfl)
          refine pure_ (i := 29) (N := some 202) (v := ?_) (a' := ?_) #[true, true, true, true, true, true, true, true, true, true, true, true, true, true, true, true, true, true, true, true, true, true, true, true, true, true, true, true, true, true, false, false, false, false, false, false, false, false, false, false, false, false, false, false, false, false, false] rfl rfl (by kernel_rfl) (fun _ _ _ h => h) (Or.inl ⟨by rfl, ?_⟩) ?_ ?_
          rotate_left; (intro w'; go_simp; with_reducible rfl); rotate_left; (simp only [Act.put, List.setIfInBounds_toArray, List.set_cons_zero, List.set_cons_succ, i64_w, i32_w]; rfl)
          refine pure_ (i := 30) (N := some 203) (v := ?_) (a' := ?_) #[true, true, true, true, true, true, true, true, true, true, true, true, true, true, true, true, true, true, true, true, true, true, true, true, true, true, true, true, true, true, true, false, false, false, false, false, false, false, false, false, false, false, false, false, false, false, false] rfl rfl (by kernel_rfl) (fun _ _ _ h => h) (Or.inl ⟨by rfl, ?_⟩) ?_ ?_
          rotate_left; (intro w'; go_simp; with_reducible rfl); rotate_left; (simp only [Act.put, List.setIfInBounds_toArray, List.set_cons_zero, List.set_cons_succ, i64_w, i32_w]; rfl)
          refine pure_ (i := 32) (N := some 205) (v := ?_) (a' := ?_) #[true, true, true, true, true, true, true, true, true, true, true, true, true, true, true, true, true, true, true, true, true, true, true, true, true, true, true, true, true, true, true, false, true, false, false, false, false, false, false, false, false, false, false, false, false, false, false] rfl rfl (by kernel_rfl) (fun _ _ _ h => h) (Or.inl ⟨by rfl, ?_⟩) ?_ ?_
          rotate_left; (intro w'; go_simp; with_reducible rfl); rotate_left; (simp only [Act.put, List.setIfInBounds_toArray, List.set_cons_zero, List.set_cons_succ, i64_w, i32_w]; rfl)
          refine pure_ (i := 33) (N := some 206) (v := ?_) (a' := ?_) #[true, true, true, true, true, true, true, true, true, true, true, true, true, true, true, true, true, true, true, true, true, true, true, true, true, true, true, true, true, true, true, false, true, true, false, false, false, false, false, false, false, false, false, false, false, false, false] rfl rfl (by kernel_rfl) (fun _ _ _ h => h) (Or.inl ⟨by rfl, ?_⟩) ?_ ?_
          rotate_left; (intro w'; go_simp; with_reducible rfl); rotate_left; (simp only [Act.put, List.setIfInBounds_toArray, List.set_cons_zero, List.set_cons_succ, i64_w, i32_w]; rfl)
          refine pure_ (i := 34) (N := some 207) (v := ?_) (a' := ?_) #[true, true, true, true, true, true, true, true, true, true, true, true, true, true, true, true, true, true, true, true, true, true, true, true, true, true, true, true, true, true, true, false, true, true, true, false, false, false, false, false, false, false, false, false, false, false, false] rfl rfl (by kernel_rfl) (fun _ _ _ h => h) (Or.inl ⟨by rfl, ?_⟩) ?_ ?_
          rotate_left; (intro w'; go_simp; with_reducible rfl); rotate_left; (simp only [Act.put, List.setIfInBounds_toArray, List.set_cons_zero, List.set_cons_succ, i64_w, i32_w]; rfl)
          refine take_ (i := 35) (N := some 208) (v := ?_) (a' := ?_) #[true, true, true, true, true, true, true, true, true, true, true, true, true, true, true, true, true, true, true, true, true, true, true, true, true, true, true, true, true, true, true, false, true, true, true, true, false, false, false, false, false, false, false, false, false, false, false] rfl rfl (by kernel_rfl) (fun _ _ _ h => h) (Or.inl ⟨by rfl, ?_⟩) hHeld ?_ ?_
          rotate_left; (rintro w' ⟨s0, s1, s2⟩; go_simp; with_reducible rfl); rotate_left; (simp only [Act.put, List.setIfInBounds_toArray, List.set_cons_zero, List.set_cons_succ, i64_w, i32_w]; rfl)
          refine one_ (i := 31) (N := some 204) #[true, true, true, true, true, true, true, true, true, true, true, true, true, true, true, true, true, true, true, true, true, true, true, true, true, true, true, true, true, true, true, true, true, true, true, true, false, false, false, false, false, false, false, false, false, false, false] rfl rfl (by kernel_rfl) (by decide) (fun K hK => ?_)
          refine event_step (v := .int .u8 (b : Int)) (w1 := w34) (by rfl) (by first | (go_simp; done) | (go_simp; rfl)) ?_; refine hK.out _ _ hHeld (fun hHeld => ?_); clear hK K
          refine norm_ (a' := ?_) ?_ ?_; rotate_left; (show Act.put _ (some 204) _ = _; simp only [Act.put, List.setIfInBounds_toArray, List.set_cons_zero, List.set_cons_succ, i64_w, i32_w]; rfl)
          refine pure_ (i := 36) (N := some 209) (v := ?_) (a' := ?_) #[true, true, true, true, true, true, true, true, true, true, true, true, true, true, true, true, true, true, true, true, true, true, true, true, true, true, true, true, true, true, true, true, true, true, true, true, true, false, false, false, false, false, false, false, false, false, false] rfl rfl (by kernel_rfl) (fun _ _ _ h => h) (Or.inl ⟨by rfl, ?_⟩) ?_ ?_
          rotate_left; (intro w'; go_simp; with_reducible rfl); rotate_left; (simp only [Act.put, List.setIfInBounds_toArray, List.set_cons_zero, List.set_cons_succ, i64_w, i32_w]; rfl)
          refine pure_ (i := 37) (N := some 210) (v := ?_) (a' := ?_) #[true, true, true, true, true, true, true, true, true, true, true, true, true, true, true, true, true, true, true, true, true, true, true, true, true, true, true, true, true, true, true, true, true, true, true, true, true, true, false, false, false, false, false, false, false, false, false] rfl rfl (by kernel_rfl) (fun _ _ _ h => h) (Or.inl ⟨by rfl, ?_⟩) ?_ ?_
          rotate_left; (intro w'; go_simp; with_reducible rfl); rotate_left; (simp only [Act.put, List.setIfInBounds_toArray, List.set_cons_zero, List.set_cons_succ, i64_w, i32_w]; rfl)
          refine pure_ (i := 38) (N := some 211) (v := undef) (a' := ?_) #[true, true, true, true, true, true, true, true, true, true, true, true, true, true, true, true, true, true, true, true, true, true, true, true, true, true, true, true, true, true, true, true, true, true, true, true, true, true, true, false, false, false, false, false, false, false, false] rfl rfl (by kernel_rfl) (fun _ _ _ h => h) (Or.inr ⟨by rfl, rfl⟩) ?_ ?_
          rotate_left; (simp only [Act.put, List.setIfInBounds_toArray, List.set_cons_zero, List.set_cons_succ, i64_w, i32_w]; rfl)
          refine pure_ (i := 39) (N := some 212) (v := undef) (a' := ?_) #[true, true, true, true, true, true, true, true, true, true, true, true, true, true, true, true, true, true, true, true, true, true, true, true, true, true, true, true, true, true, true, true, true, true, true, true, true, true, true, true, false, false, false, false, false, false, false] rfl rfl (by kernel_rfl) (fun _ _ _ h => h) (Or.inr ⟨by rfl, rfl⟩) ?_ ?_
          rotate_left; (simp only [Act.put, List.setIfInBounds_toArray, List.set_cons_zero, List.set_cons_succ, i64_w, i32_w]; rfl)
          refine pure_ (i := 41) (N := some 214) (v := undef) (a' := ?_) #[true, true, true, true, true, true, true, true, true, true, true, true, true, true, true, true, true, true, true, true, true, true, true, true, true, true, true, true, true, true, true, true, true, true, true, true, true, true, true, true, false, true, false, false, false, false, false] rfl rfl (by kernel_rfl) (fun _ _ _ h => h) (Or.inr ⟨by rfl, rfl⟩) ?_ ?_
          rotate_left; (simp only [Act.put, List.setIfInBounds_toArray, List.set_cons_zero, List.set_cons_succ, i64_w, i32_w]; rfl)
          refine one_ (i := 40) (N := some 213) #[true, true, true, true, true, true, true, true, true, true, true, true, true, true, true, true, true, true, true, true, true, true, true, true, true, true, true, true, true, true, true, true, true, true, true, true, true, true, true, true, true, true, false, false, false, false, false] rfl rfl (by kernel_rfl) (by decide) (fun K hK => ?_)
          refine unw (by rfl) ?_; refine hK.out _ _ hHeld (fun hHeld => ?_); clear hK K
          refine norm_ (a' := ?_) ?_ ?_; rotate_left; (show Act.put _ (some 213) _ = _; simp only [Act.put, List.setIfInBounds_toArray, List.set_cons_zero, List.set_cons_succ, i64_w, i32_w]; rfl)
          refine pure_ (i := 42) (N := some 215) (v := undef) (a' := ?_) #[true, true, true, true, true, true, true, true, true, true, true, true, true, true, true, true, true, true, true, true, true, true, true, true, true, true, true, true, true, true, true, true, true, true, true, true, true, true, true, true, true, true, true, false, false, false, false] rfl rfl (by kernel_rfl) (fun _ _ _ h => h) (Or.inr ⟨by rfl, rfl⟩) ?_ ?_
          rotate_left; (simp only [Act.put, List.setIfInBounds_toArray, List.set_cons_zero, List.set_cons_succ, i64_w, i32_w]; rfl)
          refine take_ (i := 43) (N := some 216) (v := undef) (a' := ?_) #[true, true, true, true, true, true, true, true, true, true, true, true, true, true, true, true, true, true, true, true, true, true, true, true, true, true, true, true, true, true, true, true, true, true, true, true, true, true, true, true, true, true, true, true, false, false, false] rfl rfl (by kernel_rfl) (fun _ _ _ h => h) (Or.inr ⟨by rfl, rfl⟩) hHeld ?_ ?_
          rotate_left; (simp only [Act.put, List.setIfInBounds_toArray, List.set_cons_zero, List.set_cons_succ, i64_w, i32_w]; rfl)
          refine pure_ (i := 44) (N := some 217) (v := undef) (a' := ?_) #[true, true, true, true, true, true, true, true, true, true, true, true, true, true, true, true, true, true, true, true, true, true, true, true, true, true, true, true, true, true, true, true, true, true, true, true, true, true, true, true, true, true, true, true, true, false, false] rfl rfl (by kernel_rfl) (fun _ _ _ h => h) (Or.inr ⟨by rfl, rfl⟩) ?_ ?_
          rotate_left; (simp only [Act.put, List.setIfInBounds_toArray, List.set_cons_zero, List.set_cons_succ, i64_w, i32_w]; rfl)
          refine pure_ (i := 45) (N := some 218) (v := ?_) (a' := ?_) #[true, true, true, true, true, true, true, true, true, true, true, true, true, true, true, true, true, true, true, true, true, true, true, true, true, true, true, true, true, true, true, true, true, true, true, true, true, true, true, true, true, true, true, true, true, true, false] rfl rfl (by kernel_rfl) (fun _ _ _ h => h) (Or.inl ⟨by rfl, ?_⟩) ?_ ?_
          rotate_left; (intro w'; go_simp; with_reducible rfl); rotate_left; (simp only [Act.put, List.setIfInBounds_toArray, List.set_cons_zero, List.set_cons_succ, i64_w, i32_w]; rfl)
          refine pure_ (i := 46) (N := some 219) (v := ?_) (a' := ?_) #[true, true, true, true, true, true, true, true, true, true, true, true, true, true, true, true, true, true, true, true, true, true, true, true, true, true, true, true, true, true, true, true, true, true, true, true, true, true, true, true, true, true, true, true, true, true, true] rfl rfl (by kernel_rfl) (fun _ _ _ h => h) (Or.inl ⟨by rfl, ?_⟩) ?_ ?_
          rotate_left; (intro w'; go_simp; with_reducible rfl); rotate_left; (simp only [Act.put, List.setIfInBounds_toArray, List.set_cons_zero, List.set_cons_succ, i64_w, i32_w]; rfl)
          refine done_ (by kernel_rfl) ?_
          go_wp2_with fail
          exact ⟨⟨m + 1, by omega, by go_num, ⟨hHeld.1⟩⟩, by simp [intOf]; omega⟩
        · have hmt : may (m * 256 + b) = true := HB3.out.resolve_left (fun e => by rw [e] at hbo; simp at hbo)
          rw [hmt] at hc10
          (first | (go_region_held3 (fun w' => Below w27.heap.size w27 w' ∧ w'.cell? ⟨g9, m, none⟩ = some (.int .u8 o) ∧ w'.cell? ⟨g10, m * 256 + b, none⟩ = some (.bool true))
            (first | assumption | exact C_keep hb (by assumption) | exact C_keep (below_drew (Below.refl _ w31)) ⟨HC.out, hc9, hc10⟩)
            (first
              | (go_at_call 12; refine (Num_b _ _).mono ?_; rintro e w32 ⟨rfl, hb⟩)
              | (go_at_call 30; (with_reducible refine (Full_e o HOR.out.1 HOR.out.2 t1 ht1.out _).mono ?_); rintro e w33 ⟨rfl, hb⟩)
              | (go_at_call 30; (with_reducible refine (Full_e (b : Int) hb0' hb6' t ht.out _).mono ?_); rintro e w34 ⟨rfl, hb⟩))) | fail)
          all_goals (go_wp2_with fail; exact ⟨⟨m + 1, by omega, by go_num, ⟨And.left (by assumption)⟩⟩, by simp [intOf]; omega⟩)
      · go_wp2_with fail
        go_ret
        exact ⟨rfl, below_step HT.out.2.2.2 HC.out⟩
theorem walk (a0 : Option Addr) (len0 cap0 : Nat) (z0 : List Int) (a1 a2 : Int) (w : World) (w0 : (a0 = none ∧ len0 = 0 ∧ cap0 = 0 ∧ z0 = []) ∨ ∃ x, a0 = some x ∧ len0 ≤ cap0 ∧ cap0 ≤ maxLen ∧ z0.length = cap0 ∧ (∀ i, i < z0.length → w.cell? (x.add i) = some (.int .i64 (z0.getD i 0))) ∧ ∀ n ∈ z0, (Lit.int .i64 n).wf = true) (y0 : len0 * 8 ≤ 140737488351232) (w1 : (Lit.int .i64 a1).wf = true) (w2 : (Lit.int .i64 a2).wf = true) :
    Calls Try.prog 5 #[.slice a0 len0 cap0, .int .i64 a1, .int .i64 a2] w fun e w' => e = .returned (.bool true) ∧ Below w.heap.size w w' := by
  obtain ⟨l0, rfl, hr0, hm0, hw0, hc0⟩ := ReadsInt.ofRowC w0
  exact crashes_walk _ _ _ l0 a1 a2 w (Kd.C_of_reads (d := (0 : Int)) (h1 := fun _ => rfl) hr0)
end Go.Proofs.Ytoloonnoobnafaa.CrW
