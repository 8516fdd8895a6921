/- Words for walks over disks whose rows lie in known places: what may be written without touching them; no condition beyond each theorem's own. -/
import Derived.Test.YtoloonnoobnafaaEk
namespace Go.Proofs.Ytoloonnoobnafaa.Dd
open Go.RowKit Go.Proofs.YtoloonnoobnafaaW.PrintWords Go.Proofs.YtoloonnoobnafaaW.PrintLast Go.Proofs.YtoloonnoobnafaaW.PrintMore
open Go.Proofs.Ytoloonnoobnafaa.HDisks Go.Proofs.Ytoloonnoobnafaa.Dk
set_option linter.unusedVariables false
/-- The blocks from lo on, below hi, are as they were. -/
structure Ag (lo hi : Nat) (w w1 : World) : Prop where
  os : w1.os = w.os
  tape : w1.tape = w.tape
  output : w1.output = w.output
  size : w.heap.size ≤ w1.heap.size
  block : ∀ k, lo ≤ k → k < hi → w1.heap[k]? = w.heap[k]?
theorem Ag.refl (lo hi : Nat) (w : World) : Ag lo hi w w := ⟨rfl, rfl, rfl, Nat.le_refl _, fun _ _ _ => rfl⟩
theorem Ag.trans {lo hi : Nat} {w w1 w2 : World} (h : Ag lo hi w w1) (k : Ag lo hi w1 w2) : Ag lo hi w w2 :=
  ⟨k.os.trans h.os, k.tape.trans h.tape, k.output.trans h.output, Nat.le_trans h.size k.size, fun i a b => (k.block i a b).trans (h.block i a b)⟩
theorem Ag.less {lo hi lo' hi' : Nat} {w w1 : World} (h : Ag lo hi w w1) (hl : lo ≤ lo') (hh : hi' ≤ hi) : Ag lo' hi' w w1 := ⟨h.os, h.tape, h.output, h.size, fun k a b => h.block k (Nat.le_trans hl a) (Nat.lt_of_lt_of_le b hh)⟩
theorem Ag.of_below {lo hi : Nat} {w w1 : World} (h : Below w.heap.size w w1) (hh : hi ≤ w.heap.size) : Ag lo hi w w1 := ⟨h.os, h.tape, h.output, h.size, fun k _ b => h.block k (Nat.lt_of_lt_of_le b hh)⟩
theorem Ag.below {hi : Nat} {w w1 : World} (h : Ag 0 hi w w1) : Below hi w w1 := ⟨h.os, h.tape, h.output, h.size, fun k b => h.block k (Nat.zero_le _) b⟩
/-- What a disk's value reads as. -/
def DC (w : World) (v : Value) (d : DS) : Prop := ∃ A a B b, v = .agg #[.bool d.lost, .slice A d.ss.length a, .slice B d.cs.length b] ∧ Kd.C Kd.string w A d.ss.length d.ss ∧ d.ss.length ≤ a ∧ Kd.C k62 w B d.cs.length d.cs ∧ d.cs.length ≤ b
/-- A value that holds a disk whose rows lie from block lo on, below hi. -/
def DP (lo hi : Nat) (w : World) (v : Value) (d : DS) : Prop := hi ≤ w.heap.size ∧ ∀ w1, Ag lo hi w w1 → DC w1 v d
theorem DP.here {lo hi : Nat} {w : World} {v : Value} {d : DS} (h : DP lo hi w v d) : DC w v d := h.2 w (Ag.refl _ _ _)
theorem DP.move {lo hi : Nat} {w w1 : World} {v : Value} {d : DS} (h : DP lo hi w v d) (ha : Ag lo hi w w1) : DP lo hi w1 v d := ⟨Nat.le_trans h.1 ha.size, fun w2 hb => h.2 w2 (ha.trans hb)⟩
theorem DP.below {lo hi : Nat} {w w1 : World} {v : Value} {d : DS} (h : DP lo hi w v d) (hb : Below w.heap.size w w1) : DP lo hi w1 v d := h.move (Ag.of_below hb h.1)
theorem DC.one {w : World} {v : Value} {d : DS} (h : DC w v d) : ∃ cs : Array Value, v = .agg cs ∧ cs.size = 3 ∧ cs.all (·.oneCell') = true := by
  obtain ⟨A, a, B, b, rfl, _⟩ := h
  exact ⟨_, rfl, rfl, by simp [Value.oneCell']⟩
theorem DC.form {w : World} {v : Value} {d : DS} (h : DC w v d) : ∃ p q, v = .agg #[.bool d.lost, p, q] := by
  obtain ⟨A, a, B, b, rfl, _⟩ := h
  exact ⟨_, _, rfl⟩
/-- A parameter's rows lie below all that the call makes. -/
theorem DP.param {w : World} {A B : Option Addr} {a b : Nat} {d : DS} (h1 : Kd.C Kd.string w A d.ss.length d.ss) (h2 : d.ss.length ≤ a) (h3 : Kd.C k62 w B d.cs.length d.cs) (h4 : d.cs.length ≤ b) :
    DP 0 w.heap.size w (.agg #[.bool d.lost, .slice A d.ss.length a, .slice B d.cs.length b]) d :=
  ⟨Nat.le_refl _, fun w1 ha => ⟨A, a, B, b, rfl, Kd.C_below h1 ha.below, h2, Kd.C_below h3 ha.below, h4⟩⟩
/-- Rows that a call made. -/
theorem DP.made {lo : Nat} {w : World} {p q : Value} {d : DS} {ok ok' : Nat → Prop} (h1 : Kd.R Kd.string 9 w lo ok p d.ss) (h2 : Kd.R k62 62 w lo ok' q d.cs) : DP lo w.heap.size w (.agg #[.bool d.lost, p, q]) d := by
  refine ⟨Nat.le_refl _, fun w1 ha => ?_⟩
  have r1 := Kd.R_move (Kd.R_bound h1) (fun k hk => ha.block k hk.2.1 hk.2.2.1)
  have r2 := Kd.R_move (Kd.R_bound h2) (fun k hk => ha.block k hk.2.1 hk.2.2.1)
  obtain ⟨A, a, rfl, l1, c1⟩ := Kd.R_reads r1
  obtain ⟨B, b, rfl, l2, c2⟩ := Kd.R_reads r2
  exact ⟨A, a, B, b, rfl, c1, l1, c2, l2⟩
/-- A disk of no rows. -/
theorem DP.zero (w : World) : DP 0 0 w (.agg #[.bool false, .slice none 0 0, .slice none 0 0]) ⟨false, [], []⟩ :=
  ⟨Nat.zero_le _, fun w1 _ => ⟨none, 0, none, 0, rfl, Kd.C_nil _ _, Nat.le_refl _, Kd.C_nil _ _, Nat.le_refl _⟩⟩
/-- A variable that holds a disk. -/
def BP (lo hi : Nat) (w : World) (g : Nat) (d : DS) : Prop := ∃ p q, w.heap[g]? = some (.cells #[.bool d.lost, p, q] 25 (0, 0)) ∧ DP lo hi w (.agg #[.bool d.lost, p, q]) d
theorem BP.move {lo hi : Nat} {w w1 : World} {g : Nat} {d : DS} (h : BP lo hi w g d) (ha : Ag lo hi w w1) (hg : w1.heap[g]? = w.heap[g]?) : BP lo hi w1 g d := by
  obtain ⟨p, q, h1, h2⟩ := h
  exact ⟨p, q, hg.trans h1, h2.move ha⟩
theorem BP.below {lo hi : Nat} {w w1 : World} {g : Nat} {d : DS} (h : BP lo hi w g d) (hb : Below w.heap.size w w1) : BP lo hi w1 g d := by
  obtain ⟨p, q, h1, h2⟩ := h
  exact ⟨p, q, blk_below h1 hb, h2.below hb⟩
theorem BP.lt {lo hi : Nat} {w : World} {g : Nat} {d : DS} (h : BP lo hi w g d) : g < w.heap.size := by
  obtain ⟨p, q, h1, h2⟩ := h
  exact blk_lt h1
theorem BP.hi {lo hi : Nat} {w : World} {g : Nat} {d : DS} (h : BP lo hi w g d) : hi ≤ w.heap.size := by
  obtain ⟨p, q, _, h2⟩ := h
  exact h2.1
theorem Ag.blk {w w1 : World} {g k : Nat} (hag : ∀ l m, g < l ∨ m ≤ g → Ag l m w w1) (h : k ≠ g) : w1.heap[k]? = w.heap[k]? := (hag k (k + 1) (by omega)).block k (Nat.le_refl _) (Nat.lt_succ_self _)
section
variable {P : Program} {ops : Array Oper} {rest : List Oper} {o o2 : Oper} {a : Act} {Q : Exit → Act → World → Prop} {W : World}
theorem load_bp {lo hi : Nat} (p : Tmp) (g : Nat) (d : DS) (hgd : o.guard = none) (ho : o.op = .load 25 (.tmp p)) (hx : a.eval (.tmp p) = .pointer (some ⟨g, 0, none⟩)) (hB : BP lo hi W g d)
    (h : ∀ v, DP lo hi W v d → wpList Try.prog ops Q rest (a.put o.dst v) W) : wpList Try.prog ops Q (o :: rest) a W := by
  obtain ⟨p, q, e, hv⟩ := hB
  exact wpList_load_row hgd 25 _ ho g hx 25 _ (0, 0) _ e Try.underlying25 rfl (by kernel_rfl) (h _ hv)
theorem new_bp {lo hi : Nat} (N : Tmp) (y : Operand) (v : Value) (d : DS) (hv : DP lo hi W v d) (hgd : o.guard = none) (hd : o.dst = some N) (ho : o.op = .alloc 25) (hgd2 : o2.guard = none) (hd2 : o2.dst = none) (ho2 : o2.op = .store 25 (.tmp N) y)
    (hN : (a.put (some N) (.pointer (some ⟨W.heap.size, 0, none⟩))).eval (.tmp N) = .pointer (some ⟨W.heap.size, 0, none⟩))
    (hy : (a.put (some N) (.pointer (some ⟨W.heap.size, 0, none⟩))).eval y = v)
    (h : ∀ g, W.heap.size ≤ g → ∀ w1, BP lo hi w1 g d → Below W.heap.size W w1 → wpList Try.prog ops Q rest (a.put (some N) (.pointer (some ⟨g, 0, none⟩))) w1) : wpList Try.prog ops Q (o :: o2 :: rest) a W := by
  obtain ⟨p, q, rfl⟩ := hv.here.form
  obtain ⟨cs, e, h1, h2⟩ := hv.here.one
  injection e with e
  subst e
  exact new_box N 25 (.agg #[.bool false, .slice none 0 0, .slice none 0 0]) 3 y _ hgd hd ho hgd2 hd2 ho2 (by kernel_rfl) rfl hN hy h1 h2 (fun g hg w1 hb hbw => h g hg w1 ⟨p, q, hb, hv.below hbw⟩ hbw)
/-- A variable is written over: nothing else is. -/
theorem store_bp {lo hi lo0 hi0 : Nat} (p : Tmp) (y : Operand) (g : Nat) (v : Value) (d0 d : DS) (hv : DP lo hi W v d) (hg0 : g < lo ∨ hi ≤ g) (hB : BP lo0 hi0 W g d0) (hgd : o.guard = none) (hd : o.dst = none) (ho : o.op = .store 25 (.tmp p) y)
    (hx : a.eval (.tmp p) = .pointer (some ⟨g, 0, none⟩)) (hy : a.eval y = v)
    (h : ∀ w1, BP lo hi w1 g d → (∀ l m, g < l ∨ m ≤ g → Ag l m W w1) → (∀ k, k ≠ g → w1.heap[k]? = W.heap[k]?) → wpList Try.prog ops Q rest a w1) : wpList Try.prog ops Q (o :: rest) a W := by
  obtain ⟨p', q', rfl⟩ := hv.here.form
  obtain ⟨cs, e, h1, h2⟩ := hv.here.one
  injection e with e
  subst e
  obtain ⟨p0, q0, hg, _⟩ := hB
  have hk : ∀ k, k ≠ g → (W.setRow g #[.bool d.lost, p', q']).heap[k]? = W.heap[k]? := fun k hk => by
    show (W.heap.modify g _)[k]? = _
    rw [Array.getElem?_modify, if_neg (Ne.symm hk)]
  have hs : (W.setRow g #[.bool d.lost, p', q']).heap.size = W.heap.size := by
    show (W.heap.modify g _).size = _
    rw [Array.size_modify]
  have hag : ∀ l m, g < l ∨ m ≤ g → Ag l m W (W.setRow g #[.bool d.lost, p', q']) := fun l m hlm => ⟨rfl, rfl, rfl, Nat.le_of_eq hs.symm, fun k a b => hk k (by omega)⟩
  refine wpList_plain hgd fun K hK => wp_store_row 25 (.tmp p) y ho g _ hx hy 25 _ hg (by kernel_rfl) h1.symm h2 ?_
  rw [hd]
  exact hK _ _ (h _ ⟨p', q', setRow_heap W g _ _ _ _ hg, hv.move (hag lo hi hg0)⟩ hag hk)
end
end Go.Proofs.Ytoloonnoobnafaa.Dd
