/- Contracts for the calls over disks, the program's and the reference's, by where rows lie; no condition beyond each theorem's own. -/
import Derived.Test.YtoloonnoobnafaaEr
namespace Go.Proofs.Ytoloonnoobnafaa.Ds
open Go.RowKit Go.Proofs.YtoloonnoobnafaaW.PrintWords Go.Proofs.YtoloonnoobnafaaW.PrintLast Go.Proofs.YtoloonnoobnafaaW.PrintMore
open Go.Proofs.Ytoloonnoobnafaa.HDisks Go.Proofs.Ytoloonnoobnafaa.Dk Go.Proofs.Ytoloonnoobnafaa.Dd Go.Proofs.Ytoloonnoobnafaa.Dp Go.Proofs.Ytoloonnoobnafaa.Dr
set_option linter.unusedVariables false
/-- A disk whose rows are the call's own, from block lo on, below hi. -/
def DR (lo hi : Nat) (w : World) (v : Value) (d : DS) : Prop := hi ≤ w.heap.size ∧ ∃ p q, v = .agg #[.bool d.lost, p, q] ∧ Kd.R Kd.string 9 w lo (fun k => lo ≤ k ∧ k < hi) p d.ss ∧ Kd.R k62 62 w lo (fun k => lo ≤ k ∧ k < hi) q d.cs
theorem DR.move {lo hi : Nat} {w w1 : World} {v : Value} {d : DS} (h : DR lo hi w v d) (ha : Ag lo hi w w1) : DR lo hi w1 v d := by
  obtain ⟨h0, p, q, e, h1, h2⟩ := h
  exact ⟨Nat.le_trans h0 ha.size, p, q, e, Kd.R_move h1 (fun k hk => ha.block k hk.1 hk.2), Kd.R_move h2 (fun k hk => ha.block k hk.1 hk.2)⟩
theorem DR.dp {lo hi : Nat} {w : World} {v : Value} {d : DS} (h : DR lo hi w v d) : DP lo hi w v d := by
  refine ⟨h.1, fun w1 ha => ?_⟩
  obtain ⟨_, p, q, rfl, h1, h2⟩ := h.move ha
  obtain ⟨A, a, rfl, l1, c1⟩ := Kd.R_reads h1
  obtain ⟨B, b, rfl, l2, c2⟩ := Kd.R_reads h2
  exact ⟨A, a, B, b, rfl, c1, l1, c2, l2⟩
theorem DR.zero (lo hi : Nat) (w : World) (h : hi ≤ w.heap.size) : DR lo hi w (.agg #[.bool false, .slice none 0 0, .slice none 0 0]) ⟨false, [], []⟩ := ⟨h, _, _, rfl, Kd.R_nil _ _ _ _ _, Kd.R_nil _ _ _ _ _⟩
theorem DR.below {lo hi : Nat} {w w1 : World} {v : Value} {d : DS} (h : DR lo hi w v d) (hb : Below w.heap.size w w1) : DR lo hi w1 v d := h.move (Ag.of_below hb h.1)
/-- A variable that holds such a disk. -/
def BR (lo hi : Nat) (w : World) (g : Nat) (d : DS) : Prop := ∃ p q, w.heap[g]? = some (.cells #[.bool d.lost, p, q] 25 (0, 0)) ∧ DR lo hi w (.agg #[.bool d.lost, p, q]) d
theorem BR.bp {lo hi : Nat} {w : World} {g : Nat} {d : DS} (h : BR lo hi w g d) : BP lo hi w g d := by
  obtain ⟨p, q, h1, h2⟩ := h
  exact ⟨p, q, h1, h2.dp⟩
theorem BR.move {lo hi : Nat} {w w1 : World} {g : Nat} {d : DS} (h : BR lo hi w g d) (ha : Ag lo hi w w1) (hg : w1.heap[g]? = w.heap[g]?) : BR lo hi w1 g d := by
  obtain ⟨p, q, h1, h2⟩ := h
  exact ⟨p, q, hg.trans h1, h2.move ha⟩
theorem BR.below {lo hi : Nat} {w w1 : World} {g : Nat} {d : DS} (h : BR lo hi w g d) (hb : Below w.heap.size w w1) : BR lo hi w1 g d := by
  obtain ⟨p, q, h1, h2⟩ := h
  exact ⟨p, q, blk_below h1 hb, h2.below hb⟩
theorem DR.form {lo hi : Nat} {w : World} {v : Value} {d : DS} (h : DR lo hi w v d) : ∃ p q, v = .agg #[.bool d.lost, p, q] := by
  obtain ⟨_, p, q, e, _⟩ := h
  exact ⟨p, q, e⟩
theorem of_call {w w' : World} {e : Ending} {d : DS} {c : Int} (h : ∃ v1_ v2_ : Value, e = .returned (.tuple #[.agg #[.bool d.lost, v1_, v2_], .int .i64 c]) ∧ Kd.R Kd.string 9 w' w.heap.size (fun _ => True) v1_ d.ss ∧ Kd.R k62 62 w' w.heap.size (fun _ => True) v2_ d.cs ∧ Below w.heap.size w w') :
    ∃ v2, e = .returned (.tuple #[v2, .int .i64 c]) ∧ DR w.heap.size w'.heap.size w' v2 d ∧ Below w.heap.size w w' := by
  obtain ⟨p, q, rfl, h1, h2, hb⟩ := h
  exact ⟨_, rfl, ⟨Nat.le_refl _, p, q, rfl, Kd.R_mono (Kd.R_bound h1) (fun k hk => ⟨hk.2.1, hk.2.2.1⟩), Kd.R_mono (Kd.R_bound h2) (fun k hk => ⟨hk.2.1, hk.2.2.1⟩)⟩, hb⟩
section
variable {P : Program} {ops : Array Oper} {rest : List Oper} {o o2 : Oper} {a : Act} {Q : Exit → Act → World → Prop} {W : World}
theorem load_br {lo hi : Nat} (p : Tmp) (g : Nat) (d : DS) (hgd : o.guard = none) (ho : o.op = .load 25 (.tmp p)) (hx : a.eval (.tmp p) = .pointer (some ⟨g, 0, none⟩)) (hB : BR lo hi W g d)
    (h : ∀ v, DR lo hi W v d → wpList Try.prog ops Q rest (a.put o.dst v) W) : wpList Try.prog ops Q (o :: rest) a W := by
  obtain ⟨p, q, e, hv⟩ := hB
  exact wpList_load_row hgd 25 _ ho g hx 25 _ (0, 0) _ e Try.underlying25 rfl (by kernel_rfl) (h _ hv)
theorem new_br {lo hi : Nat} (N : Tmp) (y : Operand) (v : Value) (d : DS) (hv : DR lo hi W v d) (hgd : o.guard = none) (hd : o.dst = some N) (ho : o.op = .alloc 25) (hgd2 : o2.guard = none) (hd2 : o2.dst = none) (ho2 : o2.op = .store 25 (.tmp N) y)
    (hN : (a.put (some N) (.pointer (some ⟨W.heap.size, 0, none⟩))).eval (.tmp N) = .pointer (some ⟨W.heap.size, 0, none⟩))
    (hy : (a.put (some N) (.pointer (some ⟨W.heap.size, 0, none⟩))).eval y = v)
    (h : ∀ g, W.heap.size ≤ g → ∀ w1, BR lo hi w1 g d → Below W.heap.size W w1 → wpList Try.prog ops Q rest (a.put (some N) (.pointer (some ⟨g, 0, none⟩))) w1) : wpList Try.prog ops Q (o :: o2 :: rest) a W := by
  obtain ⟨p, q, rfl⟩ := hv.form
  obtain ⟨cs, e, h1, h2⟩ := hv.dp.here.one
  injection e with e
  subst e
  exact new_box N 25 (.agg #[.bool false, .slice none 0 0, .slice none 0 0]) 3 y _ hgd hd ho hgd2 hd2 ho2 (by kernel_rfl) rfl hN hy h1 h2 (fun g hg w1 hb hbw => h g hg w1 ⟨p, q, hb, hv.below hbw⟩ hbw)
theorem store_br {lo hi lo0 hi0 : Nat} (p : Tmp) (y : Operand) (g : Nat) (v : Value) (d0 d : DS) (hv : DR lo hi W v d) (hg0 : g < lo ∨ hi ≤ g) (hB : BP lo0 hi0 W g d0) (hgd : o.guard = none) (hd : o.dst = none) (ho : o.op = .store 25 (.tmp p) y)
    (hx : a.eval (.tmp p) = .pointer (some ⟨g, 0, none⟩)) (hy : a.eval y = v)
    (h : ∀ w1, BR lo hi w1 g d → (∀ l m, g < l ∨ m ≤ g → Ag l m W w1) → (∀ w0, Below w0.heap.size w0 W → w0.heap.size ≤ g → Below w0.heap.size w0 w1) → wpList Try.prog ops Q rest a w1) : wpList Try.prog ops Q (o :: rest) a W := by
  obtain ⟨p', q', rfl⟩ := hv.form
  obtain ⟨cs, e, h1, h2⟩ := hv.dp.here.one
  injection e with e
  subst e
  obtain ⟨p0, q0, hg, _⟩ := hB
  refine store_whole 25 p y g _ _ hg (by kernel_rfl) h1.symm h2 hgd hd ho hx hy (fun w1 hb hs hk hbel => ?_)
  have hw := hbel { W with heap := #[] } ⟨rfl, rfl, rfl, Nat.zero_le _, fun k hk => absurd hk (Nat.not_lt_zero _)⟩ (Nat.zero_le _)
  have hag : ∀ l m, g < l ∨ m ≤ g → Ag l m W w1 := fun l m hlm => ⟨hw.os, hw.tape, hw.output, Nat.le_of_eq hs.symm, fun k a b => hk k (by omega)⟩
  exact h w1 ⟨p', q', hb, hv.move (hag lo hi hg0)⟩ hag hbel
end
theorem pWrite {lo hi : Nat} {w : World} {v : Value} {d : DS} (hv : DP lo hi w v d) (x1 : Int) (x2 : ByteArray) (d2 : DS) (c : Int) (hf : disk_Write.f d.lost d.ss d.cs x1 x2 = some (d2.lost, d2.ss, d2.cs, c)) :
    Calls Try.prog 16 #[v, .int .i64 x1, .string x2] w fun e w' => ∃ v2, e = .returned (.tuple #[v2, .int .i64 c]) ∧ DR w.heap.size w'.heap.size w' v2 d2 ∧ Below w.heap.size w w' := by
  obtain ⟨A, a, B, b, rfl, h1, h2, h3, h4⟩ := hv.here
  exact (disk_Write.calls _ A a _ B b _ x1 x2 _ _ _ _ w h1 h2 h3 h4 hf).mono (fun _ _ => of_call)
theorem rWrite (k : Nat) {lo hi : Nat} {w : World} {v : Value} {d : DS} (hv : DP lo hi w v d) (x1 : Int) (x2 : ByteArray) (d2 : DS) (c : Int) (hf : ossuaryref13_Write.f k d.lost d.ss d.cs x1 x2 = some (d2.lost, d2.ss, d2.cs, c)) :
    Calls Try.prog 17 #[v, .int .i64 x1, .string x2] w fun e w' => ∃ v2, e = .returned (.tuple #[v2, .int .i64 c]) ∧ DR w.heap.size w'.heap.size w' v2 d2 ∧ Below w.heap.size w w' := by
  obtain ⟨A, a, B, b, rfl, h1, h2, h3, h4⟩ := hv.here
  exact (ossuaryref13_Write.calls k _ A a _ B b _ x1 x2 _ _ _ _ w h1 h2 h3 h4 hf).mono (fun _ _ => of_call)
theorem pFlush (k : Nat) {lo hi : Nat} {w : World} {v : Value} {d : DS} (hv : DP lo hi w v d)  (d2 : DS) (c : Int) (hf : disk_Flush.f k d.lost d.ss d.cs  = some (d2.lost, d2.ss, d2.cs, c)) :
    Calls Try.prog 18 #[v] w fun e w' => ∃ v2, e = .returned (.tuple #[v2, .int .i64 c]) ∧ DR w.heap.size w'.heap.size w' v2 d2 ∧ Below w.heap.size w w' := by
  obtain ⟨A, a, B, b, rfl, h1, h2, h3, h4⟩ := hv.here
  exact (disk_Flush.calls k _ A a _ B b _  _ _ _ _ w h1 h2 h3 h4 hf).mono (fun _ _ => of_call)
theorem rFlush (k : Nat) {lo hi : Nat} {w : World} {v : Value} {d : DS} (hv : DP lo hi w v d)  (d2 : DS) (c : Int) (hf : ossuaryref13_Flush.f k d.lost d.ss d.cs  = some (d2.lost, d2.ss, d2.cs, c)) :
    Calls Try.prog 19 #[v] w fun e w' => ∃ v2, e = .returned (.tuple #[v2, .int .i64 c]) ∧ DR w.heap.size w'.heap.size w' v2 d2 ∧ Below w.heap.size w w' := by
  obtain ⟨A, a, B, b, rfl, h1, h2, h3, h4⟩ := hv.here
  exact (ossuaryref13_Flush.calls k _ A a _ B b _  _ _ _ _ w h1 h2 h3 h4 hf).mono (fun _ _ => of_call)
theorem pCrash (k : Nat) {lo hi : Nat} {w : World} {v : Value} {d : DS} (hv : DP lo hi w v d) (x1 : Int) (d2 : DS) (c : Int) (hf : disk_Crash.f k d.lost d.ss d.cs x1 = some (d2.lost, d2.ss, d2.cs, c)) :
    Calls Try.prog 20 #[v, .int .i64 x1] w fun e w' => ∃ v2, e = .returned (.tuple #[v2, .int .i64 c]) ∧ DR w.heap.size w'.heap.size w' v2 d2 ∧ Below w.heap.size w w' := by
  obtain ⟨A, a, B, b, rfl, h1, h2, h3, h4⟩ := hv.here
  exact (disk_Crash.calls k _ A a _ B b _ x1 _ _ _ _ w h1 h2 h3 h4 hf).mono (fun _ _ => of_call)
theorem rCrash (k : Nat) {lo hi : Nat} {w : World} {v : Value} {d : DS} (hv : DP lo hi w v d) (x1 : Int) (d2 : DS) (c : Int) (hf : ossuaryref13_Crash.f k d.lost d.ss d.cs x1 = some (d2.lost, d2.ss, d2.cs, c)) :
    Calls Try.prog 21 #[v, .int .i64 x1] w fun e w' => ∃ v2, e = .returned (.tuple #[v2, .int .i64 c]) ∧ DR w.heap.size w'.heap.size w' v2 d2 ∧ Below w.heap.size w w' := by
  obtain ⟨A, a, B, b, rfl, h1, h2, h3, h4⟩ := hv.here
  exact (ossuaryref13_Crash.calls k _ A a _ B b _ x1 _ _ _ _ w h1 h2 h3 h4 hf).mono (fun _ _ => of_call)
theorem pRot {lo hi : Nat} {w : World} {v : Value} {d : DS} (hv : DP lo hi w v d) (x1 x2 x3 : Int) (d2 : DS) (c : Int) (hf : disk_Rot.f d.lost d.ss d.cs x1 x2 x3 = some (d2.lost, d2.ss, d2.cs, c)) :
    Calls Try.prog 22 #[v, .int .i64 x1, .int .i64 x2, .int .i64 x3] w fun e w' => ∃ v2, e = .returned (.tuple #[v2, .int .i64 c]) ∧ DR w.heap.size w'.heap.size w' v2 d2 ∧ Below w.heap.size w w' := by
  obtain ⟨A, a, B, b, rfl, h1, h2, h3, h4⟩ := hv.here
  exact (disk_Rot.calls _ A a _ B b _ x1 x2 x3 _ _ _ _ w h1 h2 h3 h4 hf).mono (fun _ _ => of_call)
theorem rRot (k : Nat) {lo hi : Nat} {w : World} {v : Value} {d : DS} (hv : DP lo hi w v d) (x1 x2 x3 : Int) (d2 : DS) (c : Int) (hf : ossuaryref13_Rot.f k d.lost d.ss d.cs x1 x2 x3 = some (d2.lost, d2.ss, d2.cs, c)) :
    Calls Try.prog 23 #[v, .int .i64 x1, .int .i64 x2, .int .i64 x3] w fun e w' => ∃ v2, e = .returned (.tuple #[v2, .int .i64 c]) ∧ DR w.heap.size w'.heap.size w' v2 d2 ∧ Below w.heap.size w w' := by
  obtain ⟨A, a, B, b, rfl, h1, h2, h3, h4⟩ := hv.here
  exact (ossuaryref13_Rot.calls k _ A a _ B b _ x1 x2 x3 _ _ _ _ w h1 h2 h3 h4 hf).mono (fun _ _ => of_call)
theorem pLose {lo hi : Nat} {w : World} {v : Value} {d : DS} (hv : DP lo hi w v d)  (d2 : DS) (c : Int) (hf : disk_Lose.f d.lost d.ss d.cs  = some (d2.lost, d2.ss, d2.cs, c)) :
    Calls Try.prog 24 #[v] w fun e w' => ∃ v2, e = .returned (.tuple #[v2, .int .i64 c]) ∧ DR w.heap.size w'.heap.size w' v2 d2 ∧ Below w.heap.size w w' := by
  obtain ⟨A, a, B, b, rfl, h1, h2, h3, h4⟩ := hv.here
  exact (disk_Lose.calls _ A a _ B b _  _ _ _ _ w h1 h2 h3 h4 hf).mono (fun _ _ => of_call)
theorem rLose (k : Nat) {lo hi : Nat} {w : World} {v : Value} {d : DS} (hv : DP lo hi w v d)  (d2 : DS) (c : Int) (hf : ossuaryref13_Lose.f k d.lost d.ss d.cs  = some (d2.lost, d2.ss, d2.cs, c)) :
    Calls Try.prog 25 #[v] w fun e w' => ∃ v2, e = .returned (.tuple #[v2, .int .i64 c]) ∧ DR w.heap.size w'.heap.size w' v2 d2 ∧ Below w.heap.size w w' := by
  obtain ⟨A, a, B, b, rfl, h1, h2, h3, h4⟩ := hv.here
  exact (ossuaryref13_Lose.calls k _ A a _ B b _  _ _ _ _ w h1 h2 h3 h4 hf).mono (fun _ _ => of_call)
theorem pNew (k : Nat) (w : World) (x1 : Int) (d2 : DS) (c : Int) (hf : disk_New.f k x1 = some (d2.lost, d2.ss, d2.cs, c)) :
    Calls Try.prog 9 #[.int .i64 x1] w fun e w' => ∃ v2, e = .returned (.tuple #[v2, .int .i64 c]) ∧ DR w.heap.size w'.heap.size w' v2 d2 ∧ Below w.heap.size w w' :=
  (disk_New.calls k x1 _ _ _ _ w hf).mono (fun _ _ => of_call)
theorem rNew (k : Nat) (w : World) (x1 : Int) (d2 : DS) (c : Int) (hf : ossuaryref13_NewDisk.f k x1 = some (d2.lost, d2.ss, d2.cs, c)) :
    Calls Try.prog 10 #[.int .i64 x1] w fun e w' => ∃ v2, e = .returned (.tuple #[v2, .int .i64 c]) ∧ DR w.heap.size w'.heap.size w' v2 d2 ∧ Below w.heap.size w w' :=
  (ossuaryref13_NewDisk.calls k x1 _ _ _ _ w hf).mono (fun _ _ => of_call)
theorem pRead {lo hi : Nat} {w : World} {v : Value} {d : DS} (hv : DP lo hi w v d) (x1 : Int) (t : ByteArray) (c : Int) (hf : disk_Read.f d.lost d.ss d.cs x1 = some (t, c)) :
    Calls Try.prog 14 #[v, .int .i64 x1] w fun e w' => e = .returned (.tuple #[.string t, .int .i64 c]) ∧ Below w.heap.size w w' := by
  obtain ⟨A, a, B, b, rfl, h1, h2, h3, h4⟩ := hv.here
  exact disk_Read.calls _ A a _ B b _ x1 t c w h1 h2 h3 h4 hf
theorem rRead (k : Nat) {lo hi : Nat} {w : World} {v : Value} {d : DS} (hv : DP lo hi w v d) (x1 : Int) (t : ByteArray) (c : Int) (hf : ossuaryref13_Read.f k d.lost d.ss d.cs x1 = some (t, c)) :
    Calls Try.prog 15 #[v, .int .i64 x1] w fun e w' => e = .returned (.tuple #[.string t, .int .i64 c]) ∧ Below w.heap.size w w' := by
  obtain ⟨A, a, B, b, rfl, h1, h2, h3, h4⟩ := hv.here
  exact ossuaryref13_Read.calls k _ A a _ B b _ x1 t c w h1 h2 h3 h4 hf
theorem pMay {lo hi : Nat} {w : World} {v : Value} {d : DS} (hv : DP lo hi w v d) (r : Bool) (hf : disk_May.f d.lost d.ss d.cs = some r) :
    Calls Try.prog 26 #[v] w fun e w' => e = .returned (.bool r) ∧ Below w.heap.size w w' := by
  obtain ⟨A, a, B, b, rfl, h1, h2, h3, h4⟩ := hv.here
  exact disk_May.calls _ A a _ B b _ r w h1 h2 h3 h4 hf
theorem rMay (k : Nat) {lo hi : Nat} {w : World} {v : Value} {d : DS} (hv : DP lo hi w v d) (r : Bool) (hf : ossuaryref13_DiskMay.f k d.lost d.ss d.cs = some r) :
    Calls Try.prog 27 #[v] w fun e w' => e = .returned (.bool r) ∧ Below w.heap.size w w' := by
  obtain ⟨A, a, B, b, rfl, h1, h2, h3, h4⟩ := hv.here
  exact ossuaryref13_DiskMay.calls k _ A a _ B b _ r w h1 h2 h3 h4 hf
theorem pSame {lo hi lo' hi' : Nat} {w : World} {v u : Value} {d : DS} (hv : DP lo hi w v d) (hu : DP lo' hi' w u d) (hb : Bd d) : Calls Try.prog 11 #[v, u] w fun e w' => e = .returned (.bool true) ∧ Below w.heap.size w w' := by
  obtain ⟨k, hk⟩ := at_some (sameAll_ev d.lost d.ss d.cs (by have := hb.1; omega) (by have := hb.2; omega))
  obtain ⟨A, a, B, b, rfl, h1, h2, h3, h4⟩ := hv.here
  obtain ⟨A', a', B', b', rfl, h5, h6, h7, h8⟩ := hu.here
  exact ossuarylaw0_SameDisk.calls k _ A a _ B b _ _ A' a' _ B' b' _ true w h1 h2 h3 h4 h5 h6 h7 h8 hk
theorem pCopy {lo hi : Nat} {w : World} {v : Value} {d : DS} (hv : DP lo hi w v d) (hb : Bd d) : Calls Try.prog 13 #[v] w fun e w' => ∃ v2, e = .returned v2 ∧ DR w.heap.size w'.heap.size w' v2 d ∧ Below w.heap.size w w' := by
  obtain ⟨A, a, B, b, rfl, h1, h2, h3, h4⟩ := hv.here
  refine (ossuarylaw0_CopyDisk.calls _ A a _ B b _ d.lost d.ss d.cs w h1 h2 h3 h4 (lawCopy_eq _ _ _ (by have := hb.1; omega) (by have := hb.2; omega))).mono ?_
  rintro e w' ⟨p, q, rfl, r1, r2, hb⟩
  exact ⟨_, rfl, ⟨Nat.le_refl _, p, q, rfl, Kd.R_mono (Kd.R_bound r1) (fun k hk => ⟨hk.2.1, hk.2.2.1⟩), Kd.R_mono (Kd.R_bound r2) (fun k hk => ⟨hk.2.1, hk.2.2.1⟩)⟩, hb⟩
theorem pSpoil {lo hi : Nat} {w0 w : World} {v : Value} {d : DS} (hB : Below w0.heap.size w0 w) (hle : w0.heap.size ≤ lo) (hv : DR lo hi w v d) (hok : Okd d) :
    Calls Try.prog 28 #[v] w fun e w' => e = .returned (.tuple #[]) ∧ Below w0.heap.size w0 w' ∧ ∀ l m, (m ≤ lo ∨ hi ≤ l) → m ≤ w.heap.size → Ag l m w w' := by
  obtain ⟨h0, p, q, rfl, h1, h2⟩ := hv
  obtain ⟨⟨r1, r2⟩, he⟩ := spoil_ev d.lost d.ss d.cs (by have := hok.bd.1; omega) (by have := hok.bd.2; omega) (fun s hs => by have := hok.2.2 s hs; omega)
  obtain ⟨k, hk⟩ := at_some he
  refine (ossuarylaw0_SpoilDisk.calls k d.lost _ p d.ss _ q d.cs r1 r2 w0 w hB (Kd.R_lower h1 hle) (Kd.R_lower h2 hle) hk).mono ?_
  rintro e w' ⟨rfl, _, _, hb, hk⟩
  refine ⟨rfl, hb, fun l m hlm hm => ⟨hb.os.trans hB.os.symm, hb.tape.trans hB.tape.symm, hb.output.trans hB.output.symm, hk.1, fun i hi1 hi2 => hk.2 i (by omega) (fun hS => by rcases hS with h | h <;> omega)⟩⟩
end Go.Proofs.Ytoloonnoobnafaa.Ds
