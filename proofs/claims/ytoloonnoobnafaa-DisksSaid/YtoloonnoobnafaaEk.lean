/- Words for walks over disks: a variable's block, loads and stores of whole blocks, a disk that a value holds; no condition beyond each theorem's own. -/
import Derived.Test.YtoloonnoobnafaaHDisksx9
import Derived.Deep.WholeRow
namespace Go.Proofs.Ytoloonnoobnafaa.Dk
open Go.RowKit Go.Proofs.YtoloonnoobnafaaW.PrintWords Go.Proofs.YtoloonnoobnafaaW.PrintLast Go.Proofs.YtoloonnoobnafaaW.PrintMore
open Go.Proofs.Ytoloonnoobnafaa.HDisks
set_option linter.unusedVariables false
section
variable {P : Program} {ops : Array Oper} {rest : List Oper} {o o2 : Oper} {a : Act} {Q : Exit → Act → World → Prop} {W : World}
/-- A new variable and its first value, at once. -/
theorem new_box (N : Tmp) (t : TypeId) (z : Value) (n : Nat) (y : Operand) (cs : Array Value) (hgd : o.guard = none) (hd : o.dst = some N) (ho : o.op = .alloc t) (hgd2 : o2.guard = none) (hd2 : o2.dst = none) (ho2 : o2.op = .store t (.tmp N) y)
    (hinfo : (P.info? t).map (fun i => (i.zero, i.size)) = some (some z, n)) (hzn : z.cells.size = n)
    (hN : (a.put (some N) (.pointer (some ⟨W.heap.size, 0, none⟩))).eval (.tmp N) = .pointer (some ⟨W.heap.size, 0, none⟩))
    (hy : (a.put (some N) (.pointer (some ⟨W.heap.size, 0, none⟩))).eval y = .agg cs) (hcs : cs.size = n) (h1 : cs.all (·.oneCell') = true)
    (h : ∀ g, W.heap.size ≤ g → ∀ w1, w1.heap[g]? = some (.cells cs t (0, 0)) → Below W.heap.size W w1 → wpList P ops Q rest (a.put (some N) (.pointer (some ⟨g, 0, none⟩))) w1) : wpList P ops Q (o :: o2 :: rest) a W := by
  obtain ⟨hz, hi⟩ := zero_of_info hinfo
  have hrun : (execOp a.eval o).run P W = .ok (.value (.pointer (some ⟨W.heap.size, 0, none⟩))) (W.alloc (.cells z.cells t)) := by
    simp [execOp, ho, Instr.alloc, newVar, newRow, Sem.run_bind, hz]
  refine Kd.event_run hgd hrun ?_
  rw [hd]
  refine wpList_plain hgd2 fun K hK => ?_
  unfold Oper.wp
  have hs : (execOp (a.put (some N) (.pointer (some ⟨W.heap.size, 0, none⟩))).eval o2).run P (W.alloc (.cells z.cells t)) = .ok .skip (W.alloc (.cells cs t)) := by
    simp only [execOp, ho2, hN, hy]
    simp [run_storeAt_new (P := P) W t z.cells cs (by rw [hi, hcs]) (by rw [hzn, hcs]) h1]
  rw [hs]
  show K (Act.put _ o2.dst undef) _
  rw [hd2]
  exact hK _ _ (h _ (Nat.le_refl _) _ (blk_new W _) (below_alloc (Below.refl _ _) _))
end
/-- What a disk is. -/
structure DS where
  lost : Bool
  ss : List ByteArray
  cs : List S62
/-- A value that holds a disk, by rows that the call made. -/
def DV (w : World) (v : Value) (d : DS) : Prop := ∃ p q, v = .agg #[.bool d.lost, p, q] ∧ Kd.R Kd.string 9 w 0 (fun _ => True) p d.ss ∧ Kd.R k62 62 w 0 (fun _ => True) q d.cs
/-- A variable that holds a disk. -/
def Bx (w : World) (g : Nat) (d : DS) : Prop := ∃ p q, w.heap[g]? = some (.cells #[.bool d.lost, p, q] 25 (0, 0)) ∧ DV w (.agg #[.bool d.lost, p, q]) d
theorem DV.below {w w1 : World} {v : Value} {d : DS} (h : DV w v d) (hb : Below w.heap.size w w1) : DV w1 v d := by
  obtain ⟨p, q, e, h1, h2⟩ := h
  exact ⟨p, q, e, Kd.R_below h1 hb, Kd.R_below h2 hb⟩
theorem Bx.below {w w1 : World} {g : Nat} {d : DS} (h : Bx w g d) (hb : Below w.heap.size w w1) : Bx w1 g d := by
  obtain ⟨p, q, e, h1⟩ := h
  exact ⟨p, q, blk_below e hb, h1.below hb⟩
/-- One block of another type is written over. -/
theorem DV.but {w w1 : World} {v : Value} {d : DS} (h : DV w v d) {g t : Nat} {cs : Array Value} (hg : w.heap[g]? = some (.cells cs t (0, 0))) (ht : t ≠ 9 ∧ t ≠ 62) (hm : ∀ k, k ≠ g → k < w.heap.size → w1.heap[k]? = w.heap[k]?) : DV w1 v d := by
  obtain ⟨p, q, e, h1, h2⟩ := h
  refine ⟨p, q, e, Kd.R_mono (Kd.R_step (Kd.R_types h1 hg ?_) (fun k hk hl => hm k hk.2 hl)) (fun _ _ => trivial), Kd.R_mono (Kd.R_step (Kd.R_types h2 hg ?_) (fun k hk hl => hm k hk.2 hl)) (fun _ _ => trivial)⟩
  · intro q hq
    have : q = 9 := by simpa [Kd.string, Kd.scalar] using hq
    omega
  · intro q hq
    have : q = 62 := by simpa [k62, Kd.iso, Kd.pair, Kd.int, Kd.string, Kd.scalar] using hq
    omega
theorem Bx.but {w w1 : World} {g' : Nat} {d : DS} (h : Bx w g' d) {g t : Nat} {cs : Array Value} (hg : w.heap[g]? = some (.cells cs t (0, 0))) (ht : t ≠ 9 ∧ t ≠ 62) (hne : g' ≠ g) (hm : ∀ k, k ≠ g → k < w.heap.size → w1.heap[k]? = w.heap[k]?) : Bx w1 g' d := by
  obtain ⟨p, q, e, h1⟩ := h
  exact ⟨p, q, (hm g' hne (blk_lt e)).trans e, h1.but hg ht hm⟩
theorem DV.reads {w : World} {v : Value} {d : DS} (h : DV w v d) : ∃ A a B b, v = .agg #[.bool d.lost, .slice A d.ss.length a, .slice B d.cs.length b] ∧ Kd.C Kd.string w A d.ss.length d.ss ∧ d.ss.length ≤ a ∧ Kd.C k62 w B d.cs.length d.cs ∧ d.cs.length ≤ b := by
  obtain ⟨p, q, rfl, h1, h2⟩ := h
  obtain ⟨A, a, rfl, l1, c1⟩ := Kd.R_reads h1
  obtain ⟨B, b, rfl, l2, c2⟩ := Kd.R_reads h2
  exact ⟨A, a, B, b, rfl, c1, l1, c2, l2⟩
theorem DV.one {w : World} {v : Value} {d : DS} (h : DV w v d) : ∃ cs : Array Value, v = .agg cs ∧ cs.size = 3 ∧ cs.all (·.oneCell') = true := by
  obtain ⟨A, a, B, b, rfl, _⟩ := h.reads
  exact ⟨_, rfl, rfl, by simp [Value.oneCell']⟩
theorem of_made {w w' : World} {e : Ending} {d : DS} {c : Int} (h : ∃ v1_ v2_ : Value, e = .returned (.tuple #[.agg #[.bool d.lost, v1_, v2_], .int .i64 c]) ∧ Kd.R Kd.string 9 w' w.heap.size (fun _ => True) v1_ d.ss ∧ Kd.R k62 62 w' w.heap.size (fun _ => True) v2_ d.cs ∧ Below w.heap.size w w') :
    ∃ v2, e = .returned (.tuple #[v2, .int .i64 c]) ∧ DV w' v2 d ∧ Below w.heap.size w w' := by
  obtain ⟨p, q, rfl, h1, h2, hb⟩ := h
  exact ⟨_, rfl, ⟨p, q, rfl, Kd.R_lower h1 (Nat.zero_le _), Kd.R_lower h2 (Nat.zero_le _)⟩, hb⟩
theorem New_c (k : Nat) (w : World) (x1 : Int) (d2 : DS) (c : Int) (hf : disk_New.f k x1 = some (d2.lost, d2.ss, d2.cs, c)) :
    Calls Try.prog 9 #[.int .i64 x1] w fun e w' => ∃ v2, e = .returned (.tuple #[v2, .int .i64 c]) ∧ DV w' v2 d2 ∧ Below w.heap.size w w' :=
  (disk_New.calls k x1 _ _ _ _ w hf).mono (fun _ _ => of_made)
theorem Write_c {w : World} {v : Value} {d : DS} (hv : DV w v d) (x1 : Int) (x2 : ByteArray) (d2 : DS) (c : Int) (hf : disk_Write.f d.lost d.ss d.cs x1 x2 = some (d2.lost, d2.ss, d2.cs, c)) :
    Calls Try.prog 16 #[v, .int .i64 x1, .string x2] w fun e w' => ∃ v2, e = .returned (.tuple #[v2, .int .i64 c]) ∧ DV w' v2 d2 ∧ Below w.heap.size w w' := by
  obtain ⟨A, a, B, b, rfl, h1, h2, h3, h4⟩ := hv.reads
  exact (disk_Write.calls _ A a _ B b _ x1 x2 _ _ _ _ w h1 h2 h3 h4 hf).mono (fun _ _ => of_made)
theorem Flush_c (k : Nat) {w : World} {v : Value} {d : DS} (hv : DV w v d)  (d2 : DS) (c : Int) (hf : disk_Flush.f k d.lost d.ss d.cs  = some (d2.lost, d2.ss, d2.cs, c)) :
    Calls Try.prog 18 #[v] w fun e w' => ∃ v2, e = .returned (.tuple #[v2, .int .i64 c]) ∧ DV w' v2 d2 ∧ Below w.heap.size w w' := by
  obtain ⟨A, a, B, b, rfl, h1, h2, h3, h4⟩ := hv.reads
  exact (disk_Flush.calls k _ A a _ B b _  _ _ _ _ w h1 h2 h3 h4 hf).mono (fun _ _ => of_made)
theorem Crash_c (k : Nat) {w : World} {v : Value} {d : DS} (hv : DV w v d) (x1 : Int) (d2 : DS) (c : Int) (hf : disk_Crash.f k d.lost d.ss d.cs x1 = some (d2.lost, d2.ss, d2.cs, c)) :
    Calls Try.prog 20 #[v, .int .i64 x1] w fun e w' => ∃ v2, e = .returned (.tuple #[v2, .int .i64 c]) ∧ DV w' v2 d2 ∧ Below w.heap.size w w' := by
  obtain ⟨A, a, B, b, rfl, h1, h2, h3, h4⟩ := hv.reads
  exact (disk_Crash.calls k _ A a _ B b _ x1 _ _ _ _ w h1 h2 h3 h4 hf).mono (fun _ _ => of_made)
theorem Rot_c {w : World} {v : Value} {d : DS} (hv : DV w v d) (x1 x2 x3 : Int) (d2 : DS) (c : Int) (hf : disk_Rot.f d.lost d.ss d.cs x1 x2 x3 = some (d2.lost, d2.ss, d2.cs, c)) :
    Calls Try.prog 22 #[v, .int .i64 x1, .int .i64 x2, .int .i64 x3] w fun e w' => ∃ v2, e = .returned (.tuple #[v2, .int .i64 c]) ∧ DV w' v2 d2 ∧ Below w.heap.size w w' := by
  obtain ⟨A, a, B, b, rfl, h1, h2, h3, h4⟩ := hv.reads
  exact (disk_Rot.calls _ A a _ B b _ x1 x2 x3 _ _ _ _ w h1 h2 h3 h4 hf).mono (fun _ _ => of_made)
theorem Lose_c {w : World} {v : Value} {d : DS} (hv : DV w v d)  (d2 : DS) (c : Int) (hf : disk_Lose.f d.lost d.ss d.cs  = some (d2.lost, d2.ss, d2.cs, c)) :
    Calls Try.prog 24 #[v] w fun e w' => ∃ v2, e = .returned (.tuple #[v2, .int .i64 c]) ∧ DV w' v2 d2 ∧ Below w.heap.size w w' := by
  obtain ⟨A, a, B, b, rfl, h1, h2, h3, h4⟩ := hv.reads
  exact (disk_Lose.calls _ A a _ B b _  _ _ _ _ w h1 h2 h3 h4 hf).mono (fun _ _ => of_made)
theorem Read_c {w : World} {v : Value} {d : DS} (hv : DV w v d) (x1 : Int) (s : ByteArray) (c : Int) (hf : disk_Read.f d.lost d.ss d.cs x1 = some (s, c)) :
    Calls Try.prog 14 #[v, .int .i64 x1] w fun e w' => e = .returned (.tuple #[.string s, .int .i64 c]) ∧ Below w.heap.size w w' := by
  obtain ⟨A, a, B, b, rfl, h1, h2, h3, h4⟩ := hv.reads
  exact disk_Read.calls _ A a _ B b _ x1 s c w h1 h2 h3 h4 hf
theorem May_c {w : World} {v : Value} {d : DS} (hv : DV w v d) (r : Bool) (hf : disk_May.f d.lost d.ss d.cs = some r) :
    Calls Try.prog 26 #[v] w fun e w' => e = .returned (.bool r) ∧ Below w.heap.size w w' := by
  obtain ⟨A, a, B, b, rfl, h1, h2, h3, h4⟩ := hv.reads
  exact disk_May.calls _ A a _ B b _ r w h1 h2 h3 h4 hf
theorem Same_c (k : Nat) {w : World} {v u : Value} {d d2 : DS} (hv : DV w v d) (hu : DV w u d2) (r : Bool) (hf : ossuarylaw0_SameDisk.f k d.lost d.ss d.cs d2.lost d2.ss d2.cs = some r) :
    Calls Try.prog 11 #[v, u] w fun e w' => e = .returned (.bool r) ∧ Below w.heap.size w w' := by
  obtain ⟨A, a, B, b, rfl, h1, h2, h3, h4⟩ := hv.reads
  obtain ⟨A', a', B', b', rfl, h5, h6, h7, h8⟩ := hu.reads
  exact ossuarylaw0_SameDisk.calls k _ A a _ B b _ _ A' a' _ B' b' _ r w h1 h2 h3 h4 h5 h6 h7 h8 hf
section
variable {P : Program} {ops : Array Oper} {rest : List Oper} {o o2 : Oper} {a : Act} {Q : Exit → Act → World → Prop} {W : World}
/-- A whole variable is loaded. -/
theorem load_box (p : Tmp) (g : Nat) (d : DS) (hgd : o.guard = none) (ho : o.op = .load 25 (.tmp p)) (hx : a.eval (.tmp p) = .pointer (some ⟨g, 0, none⟩)) (hB : Bx W g d)
    (h : ∀ v, DV W v d → wpList Try.prog ops Q rest (a.put o.dst v) W) : wpList Try.prog ops Q (o :: rest) a W := by
  obtain ⟨p, q, e, hv⟩ := hB
  exact wpList_load_row hgd 25 _ ho g hx 25 _ (0, 0) _ e Try.underlying25 rfl (by kernel_rfl) (h _ hv)
/-- A new variable that holds a disk. -/
theorem new_disk (N : Tmp) (y : Operand) (v : Value) (d : DS) (hv : DV W v d) (hgd : o.guard = none) (hd : o.dst = some N) (ho : o.op = .alloc 25) (hgd2 : o2.guard = none) (hd2 : o2.dst = none) (ho2 : o2.op = .store 25 (.tmp N) y)
    (hN : (a.put (some N) (.pointer (some ⟨W.heap.size, 0, none⟩))).eval (.tmp N) = .pointer (some ⟨W.heap.size, 0, none⟩))
    (hy : (a.put (some N) (.pointer (some ⟨W.heap.size, 0, none⟩))).eval y = v)
    (h : ∀ g, W.heap.size ≤ g → ∀ w1, Bx w1 g d → Below W.heap.size W w1 → wpList Try.prog ops Q rest (a.put (some N) (.pointer (some ⟨g, 0, none⟩))) w1) : wpList Try.prog ops Q (o :: o2 :: rest) a W := by
  have hv0 := hv
  obtain ⟨p, q, rfl, _⟩ := hv
  obtain ⟨cs, e, h1, h2⟩ := hv0.one
  injection e with e
  subst e
  exact new_box N 25 (.agg #[.bool false, .slice none 0 0, .slice none 0 0]) 3 y _ hgd hd ho hgd2 hd2 ho2 (by kernel_rfl) rfl hN hy h1 h2 (fun g hg w1 hb hbw => h g hg w1 ⟨p, q, hb, hv0.below hbw⟩ hbw)
/-- A variable is written over. -/
theorem store_disk (p : Tmp) (y : Operand) (g : Nat) (v : Value) (d0 d : DS) (hv : DV W v d) (hB : Bx W g d0) (hgd : o.guard = none) (hd : o.dst = none) (ho : o.op = .store 25 (.tmp p) y)
    (hx : a.eval (.tmp p) = .pointer (some ⟨g, 0, none⟩)) (hy : a.eval y = v)
    (h : ∀ w1, Bx w1 g d → w1.heap.size = W.heap.size → (∀ k, k ≠ g → w1.heap[k]? = W.heap[k]?) → (∀ w0, Below w0.heap.size w0 W → w0.heap.size ≤ g → Below w0.heap.size w0 w1) → wpList Try.prog ops Q rest a w1) : wpList Try.prog ops Q (o :: rest) a W := by
  have hv0 := hv
  obtain ⟨p', q', rfl, _⟩ := hv
  obtain ⟨cs, e, h1, h2⟩ := hv0.one
  injection e with e
  subst e
  obtain ⟨p0, q0, hg, _⟩ := hB
  have hk : ∀ k, k ≠ g → (W.setRow g #[.bool d.lost, p', q']).heap[k]? = W.heap[k]? := fun k hk => by
    show (W.heap.modify g _)[k]? = _
    rw [Array.getElem?_modify, if_neg (Ne.symm hk)]
  have hs : (W.setRow g #[.bool d.lost, p', q']).heap.size = W.heap.size := by
    show (W.heap.modify g _).size = _
    rw [Array.size_modify]
  refine wpList_plain hgd fun K hK => wp_store_row 25 (.tmp p) y ho g _ hx hy 25 _ hg (by kernel_rfl) h1.symm h2 ?_
  rw [hd]
  refine hK _ _ (h _ ⟨p', q', setRow_heap W g _ _ _ _ hg, hv0.but hg (by decide) (fun k hk' _ => hk k hk')⟩ hs hk (fun w0 hb hl => ⟨hb.os, hb.tape, hb.output, by rw [hs]; exact hb.size, fun k hkl => ?_⟩))
  rw [hk k (by omega)]
  exact hb.block k hkl
end
section
variable {P : Program} {ops : Array Oper} {rest : List Oper} {o : Oper} {a : Act} {Q : Exit → Act → World → Prop} {W : World}
/-- A row that is laid out at once. -/
theorem new_row (N : Tmp) (e n : Nat) (cs : Array Value) (hgd : o.guard = none) (hd : o.dst = some N)
    (hrun : (execOp a.eval o).run P W = .ok (.value (.slice (some ⟨W.heap.size, 0, none⟩) n n)) (W.alloc (.cells cs e)))
    (h : ∀ g, W.heap.size ≤ g → ∀ w1, w1.heap[g]? = some (.cells cs e (0, 0)) → Below W.heap.size W w1 → wpList P ops Q rest (a.put (some N) (.slice (some ⟨g, 0, none⟩) n n)) w1) : wpList P ops Q (o :: rest) a W := by
  refine Kd.event_run hgd hrun ?_
  rw [hd]
  exact h _ (Nat.le_refl _) _ (blk_new W _) (below_alloc (Below.refl _ _) _)
/-- A value of a type, built of nothing. -/
theorem build_zero (t : TypeId) (z : Array Value) (hgd : o.guard = none) (ho : o.op = .build t #[]) (hb : P.built t [] = some z) (h : wpList P ops Q rest (a.put o.dst (.agg z)) W) : wpList P ops Q (o :: rest) a W := by
  have e : ((#[] : Array (Nat × Operand)).map fun (i, x) => (i, a.eval x)).toList = [] := by simp
  refine wpList_build hgd t #[] ho ?_ ?_
  · rw [e, hb]; rfl
  · rw [e, hb]; exact h
end
section
variable {P : Program} {ops : Array Oper} {rest : List Oper} {o : Oper} {a : Act} {Q : Exit → Act → World → Prop} {W : World}
/-- A whole variable is written over. -/
theorem store_whole (t : TypeId) (p : Tmp) (y : Operand) (g : Nat) (old cs : Array Value) (hB : W.heap[g]? = some (.cells old t (0, 0))) (hi : (P.info? t).map (·.size) = some cs.size) (ho : old.size = cs.size) (h1 : cs.all (·.oneCell') = true)
    (hgd : o.guard = none) (hd : o.dst = none) (hop : o.op = .store t (.tmp p) y) (hx : a.eval (.tmp p) = .pointer (some ⟨g, 0, none⟩)) (hy : a.eval y = .agg cs)
    (h : ∀ w1, w1.heap[g]? = some (.cells cs t (0, 0)) → w1.heap.size = W.heap.size → (∀ k, k ≠ g → w1.heap[k]? = W.heap[k]?) → (∀ w0, Below w0.heap.size w0 W → w0.heap.size ≤ g → Below w0.heap.size w0 w1) → wpList P ops Q rest a w1) : wpList P ops Q (o :: rest) a W := by
  have hk : ∀ k, k ≠ g → (W.setRow g cs).heap[k]? = W.heap[k]? := fun k hk => by
    show (W.heap.modify g _)[k]? = _
    rw [Array.getElem?_modify, if_neg (Ne.symm hk)]
  have hs : (W.setRow g cs).heap.size = W.heap.size := by
    show (W.heap.modify g _).size = _
    rw [Array.size_modify]
  refine wpList_plain hgd fun K hK => wp_store_row t (.tmp p) y hop g _ hx hy t _ hB hi ho h1 ?_
  rw [hd]
  refine hK _ _ (h _ (setRow_heap W g _ _ _ _ hB) hs hk (fun w0 hb hl => ⟨hb.os, hb.tape, hb.output, by rw [hs]; exact hb.size, fun k hkl => ?_⟩))
  rw [hk k (by omega)]
  exact hb.block k hkl
end
end Go.Proofs.Ytoloonnoobnafaa.Dk
