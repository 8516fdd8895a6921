/- Words for the walk of AuditTrue: boxes and stores of whole blocks, contracts whose answers are letters; no condition beyond each theorem's own. -/
import Derived.Test.YtgolnkankkegdaaAc
import Derived.Deep.WholeRow
namespace Go.Proofs.Ytgolnkankkegdaa.Ab
open Go.RowKit Go.Proofs.YtgolnkankkegdaaW.PrintWords Go.Proofs.YtgolnkankkegdaaW.PrintLast Go.Proofs.YtgolnkankkegdaaW.PrintMore
open Go.Proofs.Ytgolnkankkegdaa.HAuditMoved Go.Proofs.Ytgolnkankkegdaa.Ap Go.Proofs.Ytgolnkankkegdaa.Ac
set_option linter.unusedVariables false
theorem longS6 {c a : Nat} (h : c ≤ 6) (ha : a < c) : longS c a ≤ 3 := by
  by_cases h4 : c ≤ 4
  · have := longS_le c c a rfl; omega
  · have e6 : halfS 6 = 4 := by decide
    have e5 : halfS 5 = 4 := by decide
    have e : halfS c = 4 := by
      obtain rfl | rfl : c = 5 ∨ c = 6 := by omega
      · exact e5
      · exact e6
    by_cases g : a < 4
    · rw [longS_left (by omega) (by rw [e]; exact g), e, longS4 a g]; omega
    · rw [longS_right (by omega) (by rw [e]; exact g), e]
      have := longS_le (c - 4) (c - 4) (a - 4) rfl; omega
def rsL (l : List Int) : List Int := (l.take 6).map fun x => x % 4294967296 / 4
theorem own_root {s : ByteArray} (hs : s.size = 32) : (rootA (leavesL s.data.toList)).1 = rootS (leavesL s.data.toList) := by
  rw [rootA_ok (leaves_seals s) (by rw [leaves4 hs]; omega) (by rw [leaves4 hs]; omega)]
theorem sits_of {l : List Int} {s : ByteArray} {own : Int} {k : Nat} {R : List Int} (hs : s.size = 32) (ho : own = (rootA (leavesL s.data.toList)).1) (hR : R = (rsL l).set k own) (hk : k < (rsL l).length) : Sits s R k := by
  rw [own_root hs] at ho
  have hr := rootS_range (leaves_seals s) (by rw [leaves4 hs]; omega)
  have hl : (rsL l).length ≤ 6 := by unfold rsL; rw [List.length_map, List.length_take]; omega
  have hlen : R.length = (rsL l).length := by rw [hR, List.length_set]
  refine ⟨hs, ?_, by omega, by omega, ?_, ?_⟩
  · intro x hx
    rw [hR] at hx
    rcases List.mem_or_eq_of_mem_set hx with h | rfl
    · obtain ⟨y, _, rfl⟩ := List.mem_map.1 h; omega
    · rw [ho]; exact hr
  · subst hR; rw [List.getElem_set_self, ho]
  · rw [pathS_length _ R k rfl]; exact longS6 (by omega) (by omega)
theorem sits_root {s : ByteArray} {R : List Int} {k : Nat} (h : Sits s R k) : (rootA R).1 = rootS R := by
  have := h.few; have := h.lt
  rw [rootA_ok h.seals (by omega) (by omega)]
theorem sits_path {s : ByteArray} {R : List Int} {k : Nat} (h : Sits s R k) : (pathA R (k : Int)).1 = pathS R k := by
  have := h.few
  rw [pathA_ok h.seals (by omega) h.lt]
theorem ans_at {s : ByteArray} {R : List Int} {k : Nat} {n : Int} {Q : List Int} {zs : List S49} {X : S49} {j : Nat} (h : Sits s R k) (hz : zs = Q.map (ansOf s (pathS R k) n)) (hj : j < Q.length) (hq : ∀ x, x ∈ Q → 0 ≤ x ∧ x < 4) (hX : X = zs.getD j ⟨⟨#[]⟩, [], 0⟩) :
    X = ansOf s (pathS R k) n Q[j] ∧ X.f0.size = 8 ∧ 2 ≤ X.f1.length ∧ AnsOk X := by
  have e : X = ansOf s (pathS R k) n Q[j] := by
    rw [hX, hz, List.getD_eq_getElem?_getD, List.getElem?_map, List.getElem?_eq_getElem hj]; rfl
  have hm := hq _ (List.getElem_mem hj)
  generalize Q[j] = y at *
  obtain ⟨a, rfl⟩ : ∃ a : Nat, y = (a : Int) := ⟨y.toNat, by omega⟩
  refine ⟨e, ?_, ?_, ?_⟩
  · rw [e]; exact block_size s h.size a (by omega)
  · rw [e]; unfold ansOf
    simp only [Int.toNat_natCast, List.length_append]
    rw [pathS_length _ (leavesL s.data.toList) a rfl, leaves4 h.size, longS4 a (by omega)]; omega
  · rw [e]; exact ans_ok s h.size _ h.long n a (by omega)
def qL (l : List Int) (b : Int) : List Int := if l.length < 1 then [b % 4] else (l.take 8).map fun x => x % 4
theorem qL_len (l : List Int) (b : Int) : 1 ≤ (qL l b).length ∧ (qL l b).length ≤ 8 := by
  unfold qL
  split
  · simp
  · rw [List.length_map, List.length_take]; omega
theorem qL_in (l : List Int) (b : Int) : ∀ x, x ∈ qL l b → 0 ≤ x ∧ x < 4 := by
  intro x hx
  unfold qL at hx
  split at hx
  · rw [List.mem_singleton.1 hx]; omega
  · obtain ⟨y, _, rfl⟩ := List.mem_map.1 hx; omega
theorem qL_ask {l : List Int} {b n : Int} (h0 : 0 ≤ n) (h1 : n < 2147483647) : askL n (qL l b) = true := by
  have := qL_len l b
  unfold askL
  rw [decide_eq_true ⟨h0, h1⟩, decide_eq_true (show 1 ≤ (qL l b).length ∧ (qL l b).length ≤ 64 by omega), Bool.true_and, Bool.true_and, List.all_eq_true]
  exact fun x hx => decide_eq_true (qL_in l b x hx)
theorem S_alloc {w : World} {a b c : Addr} {x y z : Value} (o : Obj) (h : w.cell? a = some x ∧ w.cell? b = some y ∧ w.cell? c = some z) : (w.alloc o).cell? a = some x ∧ (w.alloc o).cell? b = some y ∧ (w.alloc o).cell? c = some z :=
  ⟨pw_cell_below (below_alloc (Below.refl _ _) o) h.1, pw_cell_below (below_alloc (Below.refl _ _) o) h.2.1, pw_cell_below (below_alloc (Below.refl _ _) o) h.2.2⟩
theorem take_snoc {f : Int → Int} {l : List Int} {j : Nat} (h : j < l.length) : (l.take (j + 1)).map f = (l.take j).map f ++ [f (rd l (j : Int))] := by
  rw [List.take_add_one, List.map_append, List.getElem?_eq_getElem h]
  congr 1
  show [f l[j]] = [f (l.getD (j : Int).toNat 0)]
  rw [Int.toNat_natCast, List.getD_eq_getElem?_getD, List.getElem?_eq_getElem h]; rfl
theorem box_cells {w : World} {g t : Nat} {x y : Value} (h : w.heap[g]? = some (.cells #[x, y] t (0, 0))) : w.cell? ⟨g, 0, none⟩ = some x ∧ w.cell? ⟨g, 1, none⟩ = some y := ⟨(blk_cell h 0).trans rfl, (blk_cell h 1).trans rfl⟩
theorem box3_cells {w : World} {g t : Nat} {x y z : Value} (h : w.heap[g]? = some (.cells #[x, y, z] t (0, 0))) : w.cell? ⟨g, 0, none⟩ = some x ∧ w.cell? ⟨g, 1, none⟩ = some y ∧ w.cell? ⟨g, 2, none⟩ = some z := ⟨(blk_cell h 0).trans rfl, (blk_cell h 1).trans rfl, (blk_cell h 2).trans rfl⟩
section
variable {P : Program} {ops : Array Oper} {rest : List Oper} {o o2 : Oper} {a : Act} {Q : Exit → Act → World → Prop} {W : World}
/-- A new variable and its first value, at once. -/
theorem new_box (N : Tmp) (t : TypeId) (z : Value) (n : Nat) (y : Operand) (cs : Array Value) (hgd : o.guard = none) (hd : o.dst = some N) (ho : o.op = .alloc t) (hgd2 : o2.guard = none) (hd2 : o2.dst = none) (ho2 : o2.op = .store t (.tmp N) y)
    (hinfo : (P.info? t).map (fun i => (i.zero, i.size)) = some (some z, n)) (hzn : z.cells.size = n)
    (hN : (a.put (some N) (.pointer (some ⟨W.heap.size, 0, none⟩))).eval (.tmp N) = .pointer (some ⟨W.heap.size, 0, none⟩))
    (hy : (a.put (some N) (.pointer (some ⟨W.heap.size, 0, none⟩))).eval y = .agg cs) (hcs : cs.size = n) (h1 : cs.all (·.oneCell') = true)
    (h : ∀ g, W.heap.size ≤ g → ∀ w1, w1.heap[g]? = some (.cells cs t (0, 0)) → Below W.heap.size W w1 → wpList P ops Q rest (a.put (some N) (.pointer (some ⟨g, 0, none⟩))) w1) : wpList P ops Q (o :: o2 :: rest) a W := by
  obtain ⟨hz, hi⟩ := zero_of_info hinfo
  have hrun : (execOp a.eval o).run P W = .ok (.value (.pointer (some ⟨W.heap.size, 0, none⟩))) (W.alloc (.cells z.cells t)) := by
    simp [execOp, ho, Instr.alloc, newVar, newRow, Sem.run_bind, hz]
  refine Kd.event_run hgd hrun ?_
  rw [hd]
  refine wpList_plain hgd2 fun K hK => ?_
  unfold Oper.wp
  have hs : (execOp (a.put (some N) (.pointer (some ⟨W.heap.size, 0, none⟩))).eval o2).run P (W.alloc (.cells z.cells t)) = .ok .skip (W.alloc (.cells cs t)) := by
    simp only [execOp, ho2, hN, hy]
    simp [run_storeAt_new (P := P) W t z.cells cs (by rw [hi, hcs]) (by rw [hzn, hcs]) h1]
  rw [hs]
  show K (Act.put _ o2.dst undef) _
  rw [hd2]
  exact hK _ _ (h _ (Nat.le_refl _) _ (blk_new W _) (below_alloc (Below.refl _ _) _))
end
section
variable {P : Program} {ops : Array Oper} {rest : List Oper} {o : Oper} {a : Act} {Q : Exit → Act → World → Prop} {W : World}
/-- A number is stored into a row of numbers of the call's own. -/
theorem store_int {w0 : World} (base : Nat) (t : TypeId) (p x : Operand) {g n cap o' : Nat} (i : Nat) (xs : List Int) (u : Int)
    (hgd : o.guard = none) (hN : o.dst = none) (ho : o.op = .store t p x) (haddr : a.eval p = .pointer (some ⟨g, o', none⟩)) (hoff : o' = i) (hx : a.eval x = .int .i64 u) (ht : (P.info? t).map (·.size) = some 1)
    (HO : (Kd.R (Kd.int .i64) 3 W base (fun _ => True) (.slice (some ⟨g, 0, none⟩) n cap) xs)) (hi : i < n) (HB : Below base w0 W)
    (h : ∀ w1, (Kd.R (Kd.int .i64) 3 w1 base (fun _ => True) (.slice (some ⟨g, 0, none⟩) n cap) (xs.set i u)) → Below base w0 w1 → W.grownBy w1 (some g) → wpList P ops Q rest a w1) : wpList P ops Q (o :: rest) a W := by
  obtain ⟨c, hcl, hM, hcc, _⟩ := Kd.R_elem HO 0 (i : Int) (by omega) (by omega)
  obtain ⟨y, rfl⟩ : ∃ y, c = [y] := by
    match c, hcl with
    | [y], _ => exact ⟨y, rfl⟩
  refine Kd.R_store (Kd.int .i64) (w0 := w0) base hN hgd t p x ho 3 (i : Int) 0 xs u (.int .i64 u) [.int .i64 u] [y] (fun _ => True) (fun _ => False) haddr ?_ hx rfl ht ?_ HO (by omega) (by omega) rfl hcc (by show 0 + 1 ≤ 1; omega) rfl (fun _ hk => hk.elim) HB ?_
  · rw [Int.toNat_natCast, hoff]; show i = i * 1 + 0; omega
  · intro q hq; rw [List.mem_singleton.1 hq]; rfl
  · rw [Int.toNat_natCast]; exact h
end
theorem Text_e (b : Int) (h0 : 0 ≤ b) (h1 : b < 256) (w : World) : Calls Try.prog 18 #[.int .u8 b] w fun e w' => ∃ s, e = .returned (.string s) ∧ Aside0 (s = textS b) ∧ Aside0 (s.size = 32) ∧ Below w.heap.size w w' :=
  (Text_k b h0 h1 w).mono fun _ _ ⟨h, hb⟩ => ⟨_, h, ⟨rfl⟩, ⟨text_size _⟩, hb⟩
theorem Root_e {w : World} {v : Value} {l : List Int} {base : Nat} (hv : (Kd.R (Kd.int .i64) 3 w base (fun _ => True) v l)) (hl : l.length ≤ 17592186044416) : Calls Try.prog 19 #[v] w fun e w' => ∃ r f, e = .returned (.tuple #[.int .i64 r, .int .i64 f]) ∧ Aside0 (r = (rootA l).1) ∧ Below w.heap.size w w' :=
  (Root_k hv hl).mono fun _ _ ⟨h, hb⟩ => ⟨_, _, h, ⟨rfl⟩, hb⟩
theorem Path_e {w : World} {v : Value} {l : List Int} {base : Nat} (hv : (Kd.R (Kd.int .i64) 3 w base (fun _ => True) v l)) (hl : l.length ≤ 17592186044416) (a : Int) : Calls Try.prog 21 #[v, .int .i64 a] w fun e w' => ∃ v1 p f, e = .returned (.tuple #[v1, .int .i64 f]) ∧ Aside0 (p = (pathA l a).1) ∧ (Kd.R (Kd.int .i64) 3 w' w.heap.size (fun _ => True) v1 p) ∧ Below w.heap.size w w' :=
  (Path_k hv hl a).mono fun _ _ ⟨v1, h, h2, hb⟩ => ⟨v1, _, _, h, ⟨rfl⟩, h2, hb⟩
/-- The bytes turned, back to a text, in any world that has that block still. -/
theorem back_any {P : Program} (W0 W : World) (src e dst : TypeId) (s : ByteArray) (i : Nat) (v : Int) (h : i < s.size) (hs : P.underlying src = some (.slice e)) (he : P.underlying e = some (.int .u8)) (hd : P.underlying dst = some .string)
    (hW : W.heap[W0.heap.size]? = ((Lib.bytesWorld W0 e s).setCell ⟨W0.heap.size, i, none⟩ (.int .u8 v)).heap[W0.heap.size]?) (c : Nat) :
    (convert src dst (.slice (some ⟨W0.heap.size, 0, none⟩) s.size c)).run P W = .ok (.string (strOfNums ((bytesOf s).set i v))) W :=
  run_convert_bytes_arg W src e hs he W0.heap.size 0 s.size c _ (by rw [List.length_set, bytesOf_length]) (fun j hj => (World.cell?_of_block (a := ⟨W0.heap.size, 0 + j, none⟩) hW).trans (bytes_set_cells W0 e s i v h 0 j hj)) dst hd
theorem bytes_step (W0 : World) (e : TypeId) (s : ByteArray) (i : Nat) (v : Value) : Below W0.heap.size W0 ((Lib.bytesWorld W0 e s).setCell ⟨W0.heap.size, i, none⟩ v) :=
  (bytes_below (Below.refl _ _) (Nat.le_refl _) e s).setCell (Nat.le_refl _) v
theorem bytes_in (W0 : World) (e : TypeId) (s : ByteArray) (i : Nat) (v : Value) : W0.heap.size < ((Lib.bytesWorld W0 e s).setCell ⟨W0.heap.size, i, none⟩ v).heap.size := by
  have h1 := Lib.bytesWorld_size W0 e s
  have h2 : ((Lib.bytesWorld W0 e s).setCell ⟨W0.heap.size, i, none⟩ v).heap.size = (Lib.bytesWorld W0 e s).heap.size := by simp [World.setCell]
  omega
theorem turned_facts (s : ByteArray) (i : Nat) (by_ : Int) (h8 : s.size = 8) (hi : i < 8) {v : Int} (hv : v = Go.bits .xor .u8 (bt s (i : Int)) (wrap64 (1 + Go.bits .and .i64 (by_ / 8) 127) % 256)) :
    (strOfNums ((bytesOf s).set i v)).size = 8 ∧ ofL (strOfNums ((bytesOf s).set i v)).data.toList ≠ ofL s.data.toList := by
  subst hv
  rw [and_mask (by_ / 8) 7 (by omega) 127 128 rfl rfl]
  refine ⟨by rw [strOfNums_size, List.length_set, bytesOf_length]; exact h8, ?_⟩
  refine turned_seal s i _ (by omega) ?_ ?_ <;> rw [w64 (by omega) (by omega)] <;> omega
theorem kb_grown {w0 W w1 : World} {g : Nat} (h : KeepBut w0 W g none) (hg : W.grownBy w1 (some g)) : KeepBut w0 w1 g none :=
  ⟨Nat.le_trans h.1 hg.size, fun i hi hne hr => (hg.block i (Nat.lt_of_lt_of_le hi h.1) (fun e => hne (by injection e))).trans (h.2 i hi hne hr)⟩
theorem kb_below {w0 W w1 : World} {g : Nat} (h : KeepBut w0 W g none) (hb : Below W.heap.size W w1) : KeepBut w0 w1 g none :=
  ⟨Nat.le_trans h.1 hb.size, fun i hi hne hr => (hb.block i (Nat.lt_of_lt_of_le hi h.1)).trans (h.2 i hi hne hr)⟩
theorem kb_blk {w0 W : World} {g k : Nat} (h : KeepBut w0 W g none) (hk : k < w0.heap.size) (hne : k ≠ g) : W.heap[k]? = w0.heap[k]? := h.2 k hk hne (by simp)
theorem below_put {w0 W w1 : World} {g : Nat} (h : Below w0.heap.size w0 W) (hg : W.grownBy w1 (some g)) (hle : w0.heap.size ≤ g) : Below w0.heap.size w0 w1 :=
  Below.grown h hg h.size (fun k e => by injection e with e; omega)
theorem exec_store {P : Program} {o : Oper} {a : Act} {W w1 : World} {t : TypeId} {p x : Operand} {ad u : Value} (ho : o.op = .store t p x) (hp : a.eval p = ad) (hx : a.eval x = u) (hrun : (Instr.storeAt t ad u).run P W = .ok () w1) : (execOp a.eval o).run P W = .ok .skip w1 := by
  unfold execOp
  simp only [ho, hp, hx, Sem.run_bind, Sem.run_pure, Result.andThen_ok, hrun]
/-- Element j of the answers: the cells from q on are written, X' stands there then. -/
theorem ans_seg {P : Program} {W : World} {base g n cap : Nat} {zs : List S49} {j q : Nat} {X X' : S49} {seg : List Value} (t : TypeId) (u : Value)
    (HO : Kd.R k49 49 W base (fun _ => True) (.slice (some ⟨g, 0, none⟩) n cap) zs) (hX : zs[j]? = some X) (hq : q + seg.length ≤ 3) (h1 : ∀ u ∈ seg, u.oneCell' = true) (hu : u.cells.toList = seg) (ht : (P.info? t).map (·.size) = some seg.length)
    (hM : ∀ v1, k49.M W base (fun k => k ≠ g) X [.string X.f0, v1, .int .i64 X.f2] → k49.M W base (fun k => k ≠ g) X' ([.string X.f0, v1, .int .i64 X.f2].take q ++ seg ++ [.string X.f0, v1, .int .i64 X.f2].drop (q + seg.length))) :
    (Instr.storeAt t (.pointer (some ⟨g, j * 3 + q, none⟩)) u).run P W = .ok () (W.setCells g (j * 3 + q) seg) ∧ Kd.R k49 49 (W.setCells g (j * 3 + q) seg) base (fun _ => True) (.slice (some ⟨g, 0, none⟩) n cap) (zs.set j X') ∧ W.grownBy (W.setCells g (j * 3 + q) seg) (some g) := by
  have hl := (List.getElem?_eq_some_iff.1 hX).1
  have hn : n = zs.length := (Kd.R_reads' HO).1
  obtain ⟨c, hcl, hMc, hcc, _⟩ := Kd.R_elem HO z49 (j : Int) (by omega) (by omega)
  rw [Int.toNat_natCast, List.getD_eq_getElem?_getD, hX] at hMc
  rw [Int.toNat_natCast] at hcc
  have hMc' : k49.M W base (fun k => k ≠ g) X c := k49.M_mono (fun k hk => hk.2) hMc
  obtain ⟨v1, rfl, _⟩ := k49_openM hMc'
  obtain ⟨r1, r2⟩ := Kd.R_seg HO (j : Int) (by omega) (by omega) (j := q) (seg := seg) (x' := X') (okp := fun k => k ≠ g) hcl (by rw [Int.toNat_natCast]; exact hcc) hq (hM v1 hMc') (fun k hk => ⟨trivial, hk⟩)
  rw [Int.toNat_natCast] at r1 r2
  refine ⟨?_, r1, r2⟩
  obtain ⟨_, inner, hown, hr⟩ := HO
  rcases hown.2 with ⟨hv, _⟩ | ⟨g', cap', cur, hv, hb, hh, hnc, hcm, hcs, _⟩
  · cases hv
  injection hv with ha _ hc
  injection ha with ha
  injection ha with hg'
  subst hg'; subst hc
  refine run_store_run t u seg hh hu ht ?_ h1
  have h2 : j * 3 + 3 ≤ zs.length * 3 := by rw [← Nat.succ_mul]; exact Nat.mul_le_mul_right _ hl
  have h3 : zs.length * 3 ≤ cap * 3 := Nat.mul_le_mul_right _ hnc
  have h4 : cur.size = cap * 3 := hcs
  omega
theorem ans_put0 {W : World} {base g n cap : Nat} {zs : List S49} {j : Nat} {X : S49} (T : ByteArray) (HO : Kd.R k49 49 W base (fun _ => True) (.slice (some ⟨g, 0, none⟩) n cap) zs) (hX : zs[j]? = some X) :
    (Instr.storeAt 9 (.pointer (some ⟨g, j * 3 + 0, none⟩)) (.string T)).run Try.prog W = .ok () (W.setCells g (j * 3 + 0) [.string T]) ∧ Kd.R k49 49 (W.setCells g (j * 3 + 0) [.string T]) base (fun _ => True) (.slice (some ⟨g, 0, none⟩) n cap) (zs.set j ⟨T, X.f1, X.f2⟩) ∧ W.grownBy (W.setCells g (j * 3 + 0) [.string T]) (some g) :=
  ans_seg (X' := ⟨T, X.f1, X.f2⟩) 9 (.string T) HO hX (by show 0 + 1 ≤ 3; omega) (fun u hu => by rw [List.mem_singleton.1 hu]; rfl) rfl (by kernel_rfl) (fun v1 h => by
    obtain ⟨v2, e, h2⟩ := k49_openM h
    injection e with _ e; injection e with e _; subst e
    exact k49_mkM W base _ ⟨T, X.f1, X.f2⟩ h2)
theorem ans_put2 {W : World} {base g n cap : Nat} {zs : List S49} {j : Nat} {X : S49} (v : Int) (HO : Kd.R k49 49 W base (fun _ => True) (.slice (some ⟨g, 0, none⟩) n cap) zs) (hX : zs[j]? = some X) :
    (Instr.storeAt 3 (.pointer (some ⟨g, j * 3 + 2, none⟩)) (.int .i64 v)).run Try.prog W = .ok () (W.setCells g (j * 3 + 2) [.int .i64 v]) ∧ Kd.R k49 49 (W.setCells g (j * 3 + 2) [.int .i64 v]) base (fun _ => True) (.slice (some ⟨g, 0, none⟩) n cap) (zs.set j ⟨X.f0, X.f1, v⟩) ∧ W.grownBy (W.setCells g (j * 3 + 2) [.int .i64 v]) (some g) :=
  ans_seg (X' := ⟨X.f0, X.f1, v⟩) 3 (.int .i64 v) HO hX (by show 2 + 1 ≤ 3; omega) (fun u hu => by rw [List.mem_singleton.1 hu]; rfl) rfl (by kernel_rfl) (fun v1 h => by
    obtain ⟨v2, e, h2⟩ := k49_openM h
    injection e with _ e; injection e with e _; subst e
    exact k49_mkM W base _ ⟨X.f0, X.f1, v⟩ h2)
theorem ans_putA {W : World} {base g n cap : Nat} {zs : List S49} {j : Nat} {X Y : S49} {v1 : Value} (hY : k49.M W base (fun k => k ≠ g) Y [.string Y.f0, v1, .int .i64 Y.f2]) (HO : Kd.R k49 49 W base (fun _ => True) (.slice (some ⟨g, 0, none⟩) n cap) zs) (hX : zs[j]? = some X) :
    (Instr.storeAt 49 (.pointer (some ⟨g, j * 3 + 0, none⟩)) (.agg #[.string Y.f0, v1, .int .i64 Y.f2])).run Try.prog W = .ok () (W.setCells g (j * 3 + 0) [.string Y.f0, v1, .int .i64 Y.f2]) ∧ Kd.R k49 49 (W.setCells g (j * 3 + 0) [.string Y.f0, v1, .int .i64 Y.f2]) base (fun _ => True) (.slice (some ⟨g, 0, none⟩) n cap) (zs.set j Y) ∧ W.grownBy (W.setCells g (j * 3 + 0) [.string Y.f0, v1, .int .i64 Y.f2]) (some g) :=
  ans_seg (X' := Y) 49 (.agg #[.string Y.f0, v1, .int .i64 Y.f2]) HO hX (by show 0 + 3 ≤ 3; omega) (k49.K_one (k49.K_of_M hY)) rfl (by kernel_rfl) (fun _ _ => hY)
end Go.Proofs.Ytgolnkankkegdaa.Ab
