/- A pair is linear in both of its numbers, modulo Prime: no condition beyond the statement. -/
import Derived.Test.YtfjkehpcgiolhaaPSealPairsx1
namespace Go.Proofs.Ytfjkehpcgiolhaa.Pure
open Go.RowKit Go.Proofs.Ytfjkehpcgiolhaa.PSealPairs Go.Proofs.YtfjkehpcgiolhaaW.PrintWords Go.Proofs.YtfjkehpcgiolhaaW.PrintLast


set_option linter.unusedVariables false
set_option linter.unusedSimpArgs false
theorem wf64 {x : Int} (h : (Lit.int .i64 x).wf = true) : -9223372036854775808 ≤ x ∧ x ≤ 9223372036854775807 := by
  simp only [Lit.wf, Bool.and_eq_true, decide_eq_true_eq] at h
  have e1 : IntKind.i64.min = -9223372036854775808 := by decide
  have e2 : IntKind.i64.max = 9223372036854775807 := by decide
  omega
theorem w64 {x : Int} (h0 : -9223372036854775808 ≤ x) (h1 : x ≤ 9223372036854775807) : wrap64 x = x := by
  unfold wrap64; omega
theorem tm {x : Int} (m : Int) (h0 : 0 ≤ x) : Int.tmod x m = x % m := Int.tmod_eq_emod_of_nonneg h0
theorem data_len (s : ByteArray) : s.data.toList.length = s.size := by rw [Array.length_toList]; rfl
theorem bt_get (s : ByteArray) (n : Nat) (h : n < s.data.toList.length) : bt s (n : Int) = ((s.data.toList[n]'h).toNat : Int) := by
  have h' : n < s.size := by rw [data_len] at h; exact h
  unfold bt
  rw [dif_pos (show (n : Int).toNat < s.size from by simpa using h')]
  simp [ByteArray.getElem_eq_getElem_data]
/-- enough rounds -/
theorem ex_of_ev {α : Type} {g : Nat → Option α} {r : α} (h : Ev g r) : ∃ k, g k = some r := h.rounds
theorem ev_ge {α : Type} {g : Nat → Option α} {r : α} (K : Nat) (h : ∀ k, K ≤ k → g k = some r) : Ev g r := ⟨K, h⟩
theorem ev_const {α : Type} {g : Option α} {r : α} (h : g = some r) : Ev (fun _ => g) r := ⟨0, fun _ _ => h⟩

/-- the seal of a list of bytes -/
def ofL : List UInt8 → Int
  | [] => 0
  | b :: bs => (ofL bs + (b.toNat : Int) + 1) * 65537 % 2147483647
theorem ofL_range : ∀ l, 0 ≤ ofL l ∧ ofL l < 2147483647
  | [] => by simp [ofL]
  | b :: bs => by unfold ofL; omega
theorem of_step {x b : Int} (h0 : 0 ≤ x) (h1 : x < 2147483647) (b0 : 0 ≤ b) (b1 : b ≤ 255) :
    Int.tmod (wrap64 ((wrap64 ((wrap64 (x + (wrap64 b))) + 1)) * 65537)) 2147483647 = (x + b + 1) * 65537 % 2147483647 := by
  rw [w64 (x := b) (by omega) (by omega), w64 (x := x + b) (by omega) (by omega), w64 (x := x + b + 1) (by omega) (by omega), w64 (x := (x + b + 1) * 65537) (by omega) (by omega)]
  exact tm _ (by omega)
theorem seal_Of_loop (s : ByteArray) (hs : s.size ≤ 140737488351232) : ∀ (n k : Nat), n ≤ s.data.toList.length → n < k →
    seal_Of.l0 k s (ofL (s.data.toList.drop n)) ((n : Int) - 1) = some (ofL s.data.toList) := by
  intro n
  have hl := data_len s
  induction n with
  | zero =>
    intro k _ hk
    obtain ⟨k, rfl⟩ : ∃ m, k = m + 1 := ⟨k - 1, by omega⟩
    simp only [seal_Of.l0]
    rw [if_neg (by omega), List.drop_zero]
  | succ n ih =>
    intro k hn hk
    obtain ⟨k, rfl⟩ : ∃ m, k = m + 1 := ⟨k - 1, by omega⟩
    have hr := ofL_range (s.data.toList.drop (n + 1))
    have hb := bt_range s (n : Int)
    rw [show (((n + 1 : Nat) : Int) - 1) = (n : Int) from by omega]
    simp only [seal_Of.l0]
    rw [if_pos (by omega), if_pos (by omega), if_pos (by omega), of_step hr.1 hr.2 hb.1 hb.2, w64 (x := (n : Int) - 1) (by omega) (by omega), bt_get s n (by omega)]
    have := ih k (by omega) (by omega)
    rw [List.drop_eq_getElem_cons (by omega)] at this
    exact this
theorem seal_Of_at (s : ByteArray) (hs : s.size ≤ 140737488351232) (k : Nat) (hk : s.size < k) : seal_Of.f k s = some (ofL s.data.toList) := by
  have hl := data_len s
  have := seal_Of_loop s hs s.data.toList.length k (by omega) (by omega)
  rw [List.drop_length] at this
  unfold seal_Of.f
  rw [w64 (by omega) (by omega), ← hl]
  exact this
theorem seal_Of_ev (s : ByteArray) (hs : s.size ≤ 140737488351232) : Ev (fun k => seal_Of.f k s) (ofL s.data.toList) :=
  ev_ge (s.size + 1) (fun k hk => seal_Of_at s hs k (by omega))
/-- the seal of two seals -/
def pairS (a b : Int) : Int := (911 + a % 2147483647 * 65537 + b % 2147483647 * 65537 * 65537) % 2147483647
theorem pairS_range (a b : Int) : 0 ≤ pairS a b ∧ pairS a b < 2147483647 := by unfold pairS; omega
theorem tm_neg {a : Int} (h : a < 0) : Int.tmod a 2147483647 = -((-a) % 2147483647) := by
  have := Int.neg_tmod (a := -a) (b := 2147483647)
  rw [Int.neg_neg] at this
  rw [this, tm _ (by omega)]
theorem seal_taken_eq (a : Int) : seal_taken.f a = some (a % 2147483647) := by
  unfold seal_taken.f
  by_cases h : 0 ≤ a
  · rw [tm _ h, if_neg (by omega)]
  · rw [tm_neg (by omega)]
    by_cases g : -((-a) % 2147483647) < 0
    · rw [if_pos g, w64 (by omega) (by omega)]
      congr 1; omega
    · rw [if_neg g]
      congr 1; omega
theorem seal_Pair_eq (a b : Int) : seal_Pair.f a b = some (pairS a b) := by
  unfold seal_Pair.f
  rw [seal_taken_eq, seal_taken_eq]
  simp only [Option.bind_some]
  congr 1
  have ha : 0 ≤ a % 2147483647 ∧ a % 2147483647 < 2147483647 := by omega
  have hb : 0 ≤ b % 2147483647 ∧ b % 2147483647 < 2147483647 := by omega
  rw [w64 (x := b % 2147483647 * 65537) (by omega) (by omega), tm (x := b % 2147483647 * 65537) _ (by omega)]
  have hc : 0 ≤ b % 2147483647 * 65537 % 2147483647 ∧ b % 2147483647 * 65537 % 2147483647 < 2147483647 := by omega
  rw [w64 (x := b % 2147483647 * 65537 % 2147483647 + a % 2147483647) (by omega) (by omega), w64 (x := (b % 2147483647 * 65537 % 2147483647 + a % 2147483647) * 65537) (by omega) (by omega), w64 (x := (b % 2147483647 * 65537 % 2147483647 + a % 2147483647) * 65537 + 911) (by omega) (by omega), tm _ (by omega)]
  unfold pairS
  omega

theorem awake9 : Ev (fun k => ossuarylaw9_awake.f k) true :=
  Ev.of (k := 10) ossuarylaw9_awake.mono (by decide +kernel)

theorem pair_first {x y z : Int} (hx : 0 ≤ x) (hx1 : x < 1073741824) (hy : 0 ≤ y) (hy1 : y < 1073741824) (hz : 0 ≤ z) (hz1 : z < 1073741824) :
    (pairS ((x + z) % 2147483647) y - pairS x y + 2147483647) % 2147483647 = z * 65537 % 2147483647 := by
  have e : (x + z) % 2147483647 = x + z := by omega
  rw [e]
  unfold pairS
  rw [show (x + z) % 2147483647 = x + z from by omega, show x % 2147483647 = x from by omega]
  omega
theorem pair_second {x y z : Int} (hx : 0 ≤ x) (hx1 : x < 1073741824) (hy : 0 ≤ y) (hy1 : y < 1073741824) (hz : 0 ≤ z) (hz1 : z < 1073741824) :
    (pairS x ((y + z) % 2147483647) - pairS x y + 2147483647) % 2147483647 = z * 65537 % 2147483647 * 65537 % 2147483647 := by
  have e : (y + z) % 2147483647 = y + z := by omega
  rw [e]
  unfold pairS
  rw [show (y + z) % 2147483647 = y + z from by omega, show y % 2147483647 = y from by omega]
  omega
theorem SealPairs : ossuarylaw9_SealPairs.Pure := by
  intro a b d ha hb hd
  apply ex_of_ev
  unfold ossuarylaw9_SealPairs.f
  refine Ev.bind awake9 ?_
  simp only [if_true]
  have hx : 0 ≤ a % 4294967296 / 4 ∧ a % 4294967296 / 4 < 1073741824 := by omega
  have hy : 0 ≤ b % 4294967296 / 4 ∧ b % 4294967296 / 4 < 1073741824 := by omega
  have hz : 0 ≤ d % 4294967296 / 4 ∧ d % 4294967296 / 4 < 1073741824 := by omega
  generalize a % 4294967296 / 4 = x at hx
  generalize b % 4294967296 / 4 = y at hy
  generalize d % 4294967296 / 4 = z at hz
  simp only [seal_Pair_eq, Option.bind_some]
  have h0 := pairS_range x y
  have h1 := pairS_range ((x + z) % 2147483647) y
  have h2 := pairS_range x ((y + z) % 2147483647)
  have e1 := pair_first hx.1 hx.2 hy.1 hy.2 hz.1 hz.2
  have e2 := pair_second hx.1 hx.2 hy.1 hy.2 hz.1 hz.2
  generalize pairS x y = p at *
  generalize pairS ((x + z) % 2147483647) y = q at *
  generalize pairS x ((y + z) % 2147483647) = r at *
  rw [w64 (x := q - p) (by omega) (by omega), w64 (x := q - p + 2147483647) (by omega) (by omega), tm (x := q - p + 2147483647) _ (by omega), if_pos e1]
  rw [w64 (x := r - p) (by omega) (by omega), w64 (x := r - p + 2147483647) (by omega) (by omega), tm (x := r - p + 2147483647) _ (by omega), e2]
  simp only [beq_self_eq_true]
  exact Ev.now true

end Go.Proofs.Ytfjkehpcgiolhaa.Pure
