/- The seal of a text behind another one is the first one's, and the second one's times Base as often as the first one has bytes, modulo Prime: no condition beyond the statement. -/
import Derived.Test.YtfjkehpcgiolhaaPSealPartsx1
namespace Go.Proofs.Ytfjkehpcgiolhaa.Pure
open Go.RowKit Go.Proofs.Ytfjkehpcgiolhaa.PSealParts Go.Proofs.YtfjkehpcgiolhaaW.PrintWords Go.Proofs.YtfjkehpcgiolhaaW.PrintLast


set_option linter.unusedVariables false
set_option linter.unusedSimpArgs false
theorem wf64 {x : Int} (h : (Lit.int .i64 x).wf = true) : -9223372036854775808 ≤ x ∧ x ≤ 9223372036854775807 := by
  simp only [Lit.wf, Bool.and_eq_true, decide_eq_true_eq] at h
  have e1 : IntKind.i64.min = -9223372036854775808 := by decide
  have e2 : IntKind.i64.max = 9223372036854775807 := by decide
  omega
theorem w64 {x : Int} (h0 : -9223372036854775808 ≤ x) (h1 : x ≤ 9223372036854775807) : wrap64 x = x := by
  unfold wrap64; omega
theorem tm {x : Int} (m : Int) (h0 : 0 ≤ x) : Int.tmod x m = x % m := Int.tmod_eq_emod_of_nonneg h0
theorem data_len (s : ByteArray) : s.data.toList.length = s.size := by rw [Array.length_toList]; rfl
theorem bt_get (s : ByteArray) (n : Nat) (h : n < s.data.toList.length) : bt s (n : Int) = ((s.data.toList[n]'h).toNat : Int) := by
  have h' : n < s.size := by rw [data_len] at h; exact h
  unfold bt
  rw [dif_pos (show (n : Int).toNat < s.size from by simpa using h')]
  simp [ByteArray.getElem_eq_getElem_data]
/-- enough rounds -/
theorem ex_of_ev {α : Type} {g : Nat → Option α} {r : α} (h : Ev g r) : ∃ k, g k = some r := h.rounds
theorem ev_ge {α : Type} {g : Nat → Option α} {r : α} (K : Nat) (h : ∀ k, K ≤ k → g k = some r) : Ev g r := ⟨K, h⟩
theorem ev_const {α : Type} {g : Option α} {r : α} (h : g = some r) : Ev (fun _ => g) r := ⟨0, fun _ _ => h⟩
theorem ev_pos {α : Type} {c : Prop} [Decidable c] {f g : Nat → Option α} {r : α} (h : c) (hf : Ev f r) : Ev (fun k => if c then f k else g k) r := by
  simp only [if_pos h]; exact hf
theorem ev_neg {α : Type} {c : Prop} [Decidable c] {f g : Nat → Option α} {r : α} (h : ¬ c) (hg : Ev g r) : Ev (fun k => if c then f k else g k) r := by
  simp only [if_neg h]; exact hg

/-- the seal of a list of bytes -/
def ofL : List UInt8 → Int
  | [] => 0
  | b :: bs => (ofL bs + (b.toNat : Int) + 1) * 65537 % 2147483647
theorem ofL_range : ∀ l, 0 ≤ ofL l ∧ ofL l < 2147483647
  | [] => by simp [ofL]
  | b :: bs => by unfold ofL; omega
theorem of_step {x b : Int} (h0 : 0 ≤ x) (h1 : x < 2147483647) (b0 : 0 ≤ b) (b1 : b ≤ 255) :
    Int.tmod (wrap64 ((wrap64 ((wrap64 (x + (wrap64 b))) + 1)) * 65537)) 2147483647 = (x + b + 1) * 65537 % 2147483647 := by
  rw [w64 (x := b) (by omega) (by omega), w64 (x := x + b) (by omega) (by omega), w64 (x := x + b + 1) (by omega) (by omega), w64 (x := (x + b + 1) * 65537) (by omega) (by omega)]
  exact tm _ (by omega)
theorem seal_Of_loop (s : ByteArray) (hs : s.size ≤ 140737488351232) : ∀ (n k : Nat), n ≤ s.data.toList.length → n < k →
    seal_Of.l0 k s (ofL (s.data.toList.drop n)) ((n : Int) - 1) = some (ofL s.data.toList) := by
  intro n
  have hl := data_len s
  induction n with
  | zero =>
    intro k _ hk
    obtain ⟨k, rfl⟩ : ∃ m, k = m + 1 := ⟨k - 1, by omega⟩
    simp only [seal_Of.l0]
    rw [if_neg (by omega), List.drop_zero]
  | succ n ih =>
    intro k hn hk
    obtain ⟨k, rfl⟩ : ∃ m, k = m + 1 := ⟨k - 1, by omega⟩
    have hr := ofL_range (s.data.toList.drop (n + 1))
    have hb := bt_range s (n : Int)
    rw [show (((n + 1 : Nat) : Int) - 1) = (n : Int) from by omega]
    simp only [seal_Of.l0]
    rw [if_pos (by omega), if_pos (by omega), if_pos (by omega), of_step hr.1 hr.2 hb.1 hb.2, w64 (x := (n : Int) - 1) (by omega) (by omega), bt_get s n (by omega)]
    have := ih k (by omega) (by omega)
    rw [List.drop_eq_getElem_cons (by omega)] at this
    exact this
theorem seal_Of_at (s : ByteArray) (hs : s.size ≤ 140737488351232) (k : Nat) (hk : s.size < k) : seal_Of.f k s = some (ofL s.data.toList) := by
  have hl := data_len s
  have := seal_Of_loop s hs s.data.toList.length k (by omega) (by omega)
  rw [List.drop_length] at this
  unfold seal_Of.f
  rw [w64 (by omega) (by omega), ← hl]
  exact this
theorem seal_Of_ev (s : ByteArray) (hs : s.size ≤ 140737488351232) : Ev (fun k => seal_Of.f k s) (ofL s.data.toList) :=
  ev_ge (s.size + 1) (fun k hk => seal_Of_at s hs k (by omega))
/-- the seal of two seals -/
def pairS (a b : Int) : Int := (911 + a % 2147483647 * 65537 + b % 2147483647 * 65537 * 65537) % 2147483647
theorem pairS_range (a b : Int) : 0 ≤ pairS a b ∧ pairS a b < 2147483647 := by unfold pairS; omega
theorem tm_neg {a : Int} (h : a < 0) : Int.tmod a 2147483647 = -((-a) % 2147483647) := by
  have := Int.neg_tmod (a := -a) (b := 2147483647)
  rw [Int.neg_neg] at this
  rw [this, tm _ (by omega)]
theorem seal_taken_eq (a : Int) : seal_taken.f a = some (a % 2147483647) := by
  unfold seal_taken.f
  by_cases h : 0 ≤ a
  · rw [tm _ h, if_neg (by omega)]
  · rw [tm_neg (by omega)]
    by_cases g : -((-a) % 2147483647) < 0
    · rw [if_pos g, w64 (by omega) (by omega)]
      congr 1; omega
    · rw [if_neg g]
      congr 1; omega
theorem seal_Pair_eq (a b : Int) : seal_Pair.f a b = some (pairS a b) := by
  unfold seal_Pair.f
  rw [seal_taken_eq, seal_taken_eq]
  simp only [Option.bind_some]
  congr 1
  have ha : 0 ≤ a % 2147483647 ∧ a % 2147483647 < 2147483647 := by omega
  have hb : 0 ≤ b % 2147483647 ∧ b % 2147483647 < 2147483647 := by omega
  rw [w64 (x := b % 2147483647 * 65537) (by omega) (by omega), tm (x := b % 2147483647 * 65537) _ (by omega)]
  have hc : 0 ≤ b % 2147483647 * 65537 % 2147483647 ∧ b % 2147483647 * 65537 % 2147483647 < 2147483647 := by omega
  rw [w64 (x := b % 2147483647 * 65537 % 2147483647 + a % 2147483647) (by omega) (by omega), w64 (x := (b % 2147483647 * 65537 % 2147483647 + a % 2147483647) * 65537) (by omega) (by omega), w64 (x := (b % 2147483647 * 65537 % 2147483647 + a % 2147483647) * 65537 + 911) (by omega) (by omega), tm _ (by omega)]
  unfold pairS
  omega

theorem awake9 : Ev (fun k => ossuarylaw9_awake.f k) true :=
  Ev.of (k := 10) ossuarylaw9_awake.mono (by decide +kernel)

/-- times Base, so often -/
def mulB : Nat → Int → Int
  | 0, x => x
  | n + 1, x => mulB n (x * 65537 % 2147483647)
theorem mulB_range : ∀ (n : Nat) (x : Int), 0 ≤ x → x < 2147483647 → 0 ≤ mulB n x ∧ mulB n x < 2147483647
  | 0, x, h0, h1 => ⟨h0, h1⟩
  | n + 1, x, h0, h1 => mulB_range n _ (by omega) (by omega)
theorem mulB_last : ∀ (n : Nat) (x : Int), mulB (n + 1) x = mulB n x * 65537 % 2147483647
  | 0, x => rfl
  | n + 1, x => by
    show mulB (n + 1) (x * 65537 % 2147483647) = _
    rw [mulB_last n]; rfl
theorem ofL_append (t : List UInt8) : ∀ l : List UInt8, ofL (l ++ t) = (ofL l + mulB l.length (ofL t)) % 2147483647
  | [] => by have := ofL_range t; simp only [List.nil_append, ofL, List.length_nil, mulB]; omega
  | b :: bs => by
    have ih := ofL_append t bs
    rw [List.cons_append, List.length_cons, mulB_last]
    simp only [ofL]
    rw [ih]
    have h1 := mulB_range bs.length (ofL t) (ofL_range t).1 (ofL_range t).2
    generalize mulB bs.length (ofL t) = m at *
    have h2 := ofL_range bs
    generalize ofL bs = o at *
    have h3 : (b.toNat : Int) ≤ 255 := by have := b.toNat_lt; omega
    generalize (b.toNat : Int) = c at *
    omega
theorem parts_loop (s t : ByteArray) (hs : s.size ≤ 2000) (ht : t.size ≤ 2000) : ∀ (d : Nat) (i : Nat) (x : Int), i + d = s.size → 0 ≤ x → x < 2147483647 → mulB d x = mulB s.size (ofL t.data.toList) →
    Ev (fun k => ossuarylaw9_SealParts.l0 k s t x (i : Int)) true := by
  intro d
  induction d with
  | zero =>
    intro i x hi h0 h1 hm
    refine Ev.step (f := fun k => (seal_Of.f k (s ++ t)).bind fun t112 => ((seal_Of.f k s).bind fun t113 => (some (t112 == (Int.tmod (wrap64 (t113 + x)) 2147483647))))) (fun k => by simp only [ossuarylaw9_SealParts.l0]; rw [if_neg (by omega), if_pos (by omega)]) ?_
    refine Ev.bind (seal_Of_ev (s ++ t) (by rw [ByteArray.size_append]; omega)) (Ev.bind (seal_Of_ev s (by omega)) ?_)
    have hr := ofL_range s.data.toList
    rw [w64 (by omega) (by omega), tm _ (by omega)]
    have e : (s ++ t).data.toList = s.data.toList ++ t.data.toList := by simp
    have hl := data_len s
    rw [e, ofL_append, hl, ← hm]
    simp only [mulB, beq_self_eq_true]
    exact Ev.now true
  | succ d ih =>
    intro i x hi h0 h1 hm
    refine Ev.step (f := fun k => ossuarylaw9_SealParts.l0 k s t (x * 65537 % 2147483647) ((i + 1 : Nat) : Int)) (fun k => ?_) (ih (i + 1) _ (by omega) (by omega) (by omega) (by rw [← hm]; rfl))
    simp only [ossuarylaw9_SealParts.l0]
    rw [if_pos (by omega), w64 (x := x * 65537) (by omega) (by omega), tm _ (by omega), w64 (x := (i : Int) + 1) (by omega) (by omega)]
    rfl
theorem SealParts : ossuarylaw9_SealParts.Pure := by
  intro s t hs ht
  apply ex_of_ev
  unfold ossuarylaw9_SealParts.f
  refine Ev.bind awake9 ?_
  simp only [if_true]
  have done : Ev (fun k => ossuarylaw9_SealParts.j0 k s t true) true :=
    Ev.step (f := fun _ => some true) (fun k => by simp only [ossuarylaw9_SealParts.j0, if_true]) (Ev.now true)
  by_cases h1 : (s.size : Int) > 2000
  · simp only [if_pos h1]; exact done
  · simp only [if_neg h1]
    by_cases h2 : (t.size : Int) > 2000
    · rw [decide_eq_true h2]; exact done
    · rw [decide_eq_false h2]
      refine Ev.step (f := fun k => (seal_Of.f k t).bind fun u => (if u < 0 then (ossuarylaw9_SealParts.j1 k s t u true) else (ossuarylaw9_SealParts.j1 k s t u (decide (u ≥ 2147483647))))) (fun k => by simp only [ossuarylaw9_SealParts.j0]; rfl) ?_
      refine Ev.bind (seal_Of_ev t ht) ?_
      have hr := ofL_range t.data.toList
      refine ev_neg (by omega) ?_
      rw [decide_eq_false (by omega)]
      refine Ev.step (f := fun k => ossuarylaw9_SealParts.l0 k s t (ofL t.data.toList) 0) (fun k => by simp only [ossuarylaw9_SealParts.j1]; rfl) ?_
      exact parts_loop s t (by omega) (by omega) s.size 0 _ (by omega) hr.1 hr.2 rfl

end Go.Proofs.Ytfjkehpcgiolhaa.Pure
