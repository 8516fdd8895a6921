/- A leaf that is another one turns the root, whichever leaf it is: no condition beyond the statement. -/
import Derived.Test.YtfjkehpcgiolhabHTreeTurnedx2
namespace Go.Proofs.Ytfjkehpcgiolhab.Pure
open Go.RowKit Go.Proofs.Ytfjkehpcgiolhab.HTreeTurned Go.Proofs.YtfjkehpcgiolhabW.PrintWords Go.Proofs.YtfjkehpcgiolhabW.PrintLast


set_option linter.unusedVariables false
set_option linter.unusedSimpArgs false
theorem wf64 {x : Int} (h : (Lit.int .i64 x).wf = true) : -9223372036854775808 ≤ x ∧ x ≤ 9223372036854775807 := by
  simp only [Lit.wf, Bool.and_eq_true, decide_eq_true_eq] at h
  have e1 : IntKind.i64.min = -9223372036854775808 := by decide
  have e2 : IntKind.i64.max = 9223372036854775807 := by decide
  omega
theorem w64 {x : Int} (h0 : -9223372036854775808 ≤ x) (h1 : x ≤ 9223372036854775807) : wrap64 x = x := by
  unfold wrap64; omega
theorem tm {x : Int} (m : Int) (h0 : 0 ≤ x) : Int.tmod x m = x % m := Int.tmod_eq_emod_of_nonneg h0
theorem data_len (s : ByteArray) : s.data.toList.length = s.size := by rw [Array.length_toList]; rfl
theorem bt_get (s : ByteArray) (n : Nat) (h : n < s.data.toList.length) : bt s (n : Int) = ((s.data.toList[n]'h).toNat : Int) := by
  have h' : n < s.size := by rw [data_len] at h; exact h
  unfold bt
  rw [dif_pos (show (n : Int).toNat < s.size from by simpa using h')]
  simp [ByteArray.getElem_eq_getElem_data]
/-- enough rounds -/
theorem ex_of_ev {α : Type} {g : Nat → Option α} {r : α} (h : Ev g r) : ∃ k, g k = some r := h.rounds
theorem ev_ge {α : Type} {g : Nat → Option α} {r : α} (K : Nat) (h : ∀ k, K ≤ k → g k = some r) : Ev g r := ⟨K, h⟩
theorem ev_const {α : Type} {g : Option α} {r : α} (h : g = some r) : Ev (fun _ => g) r := ⟨0, fun _ _ => h⟩
theorem ev_pos {α : Type} {c : Prop} [Decidable c] {f g : Nat → Option α} {r : α} (h : c) (hf : Ev f r) : Ev (fun k => if c then f k else g k) r := by
  simp only [if_pos h]; exact hf
theorem ev_neg {α : Type} {c : Prop} [Decidable c] {f g : Nat → Option α} {r : α} (h : ¬ c) (hg : Ev g r) : Ev (fun k => if c then f k else g k) r := by
  simp only [if_neg h]; exact hg

/-- the seal of a list of bytes -/
def ofL : List UInt8 → Int
  | [] => 0
  | b :: bs => (ofL bs + (b.toNat : Int) + 1) * 65537 % 2147483647
theorem ofL_range : ∀ l, 0 ≤ ofL l ∧ ofL l < 2147483647
  | [] => by simp [ofL]
  | b :: bs => by unfold ofL; omega
theorem of_step {x b : Int} (h0 : 0 ≤ x) (h1 : x < 2147483647) (b0 : 0 ≤ b) (b1 : b ≤ 255) :
    Int.tmod (wrap64 ((wrap64 ((wrap64 (x + (wrap64 b))) + 1)) * 65537)) 2147483647 = (x + b + 1) * 65537 % 2147483647 := by
  rw [w64 (x := b) (by omega) (by omega), w64 (x := x + b) (by omega) (by omega), w64 (x := x + b + 1) (by omega) (by omega), w64 (x := (x + b + 1) * 65537) (by omega) (by omega)]
  exact tm _ (by omega)
theorem seal_Of_loop (s : ByteArray) (hs : s.size ≤ 140737488351232) : ∀ (n k : Nat), n ≤ s.data.toList.length → n < k →
    seal_Of.l0 k s (ofL (s.data.toList.drop n)) ((n : Int) - 1) = some (ofL s.data.toList) := by
  intro n
  have hl := data_len s
  induction n with
  | zero =>
    intro k _ hk
    obtain ⟨k, rfl⟩ : ∃ m, k = m + 1 := ⟨k - 1, by omega⟩
    simp only [seal_Of.l0]
    rw [if_neg (by omega), List.drop_zero]
  | succ n ih =>
    intro k hn hk
    obtain ⟨k, rfl⟩ : ∃ m, k = m + 1 := ⟨k - 1, by omega⟩
    have hr := ofL_range (s.data.toList.drop (n + 1))
    have hb := bt_range s (n : Int)
    rw [show (((n + 1 : Nat) : Int) - 1) = (n : Int) from by omega]
    simp only [seal_Of.l0]
    rw [if_pos (by omega), if_pos (by omega), if_pos (by omega), of_step hr.1 hr.2 hb.1 hb.2, w64 (x := (n : Int) - 1) (by omega) (by omega), bt_get s n (by omega)]
    have := ih k (by omega) (by omega)
    rw [List.drop_eq_getElem_cons (by omega)] at this
    exact this
theorem seal_Of_at (s : ByteArray) (hs : s.size ≤ 140737488351232) (k : Nat) (hk : s.size < k) : seal_Of.f k s = some (ofL s.data.toList) := by
  have hl := data_len s
  have := seal_Of_loop s hs s.data.toList.length k (by omega) (by omega)
  rw [List.drop_length] at this
  unfold seal_Of.f
  rw [w64 (by omega) (by omega), ← hl]
  exact this
theorem seal_Of_ev (s : ByteArray) (hs : s.size ≤ 140737488351232) : Ev (fun k => seal_Of.f k s) (ofL s.data.toList) :=
  ev_ge (s.size + 1) (fun k hk => seal_Of_at s hs k (by omega))
/-- the seal of two seals -/
def pairS (a b : Int) : Int := (911 + a % 2147483647 * 65537 + b % 2147483647 * 65537 * 65537) % 2147483647
theorem pairS_range (a b : Int) : 0 ≤ pairS a b ∧ pairS a b < 2147483647 := by unfold pairS; omega
theorem tm_neg {a : Int} (h : a < 0) : Int.tmod a 2147483647 = -((-a) % 2147483647) := by
  have := Int.neg_tmod (a := -a) (b := 2147483647)
  rw [Int.neg_neg] at this
  rw [this, tm _ (by omega)]
theorem seal_taken_eq (a : Int) : seal_taken.f a = some (a % 2147483647) := by
  unfold seal_taken.f
  by_cases h : 0 ≤ a
  · rw [tm _ h, if_neg (by omega)]
  · rw [tm_neg (by omega)]
    by_cases g : -((-a) % 2147483647) < 0
    · rw [if_pos g, w64 (by omega) (by omega)]
      congr 1; omega
    · rw [if_neg g]
      congr 1; omega
theorem seal_Pair_eq (a b : Int) : seal_Pair.f a b = some (pairS a b) := by
  unfold seal_Pair.f
  rw [seal_taken_eq, seal_taken_eq]
  simp only [Option.bind_some]
  congr 1
  have ha : 0 ≤ a % 2147483647 ∧ a % 2147483647 < 2147483647 := by omega
  have hb : 0 ≤ b % 2147483647 ∧ b % 2147483647 < 2147483647 := by omega
  rw [w64 (x := b % 2147483647 * 65537) (by omega) (by omega), tm (x := b % 2147483647 * 65537) _ (by omega)]
  have hc : 0 ≤ b % 2147483647 * 65537 % 2147483647 ∧ b % 2147483647 * 65537 % 2147483647 < 2147483647 := by omega
  rw [w64 (x := b % 2147483647 * 65537 % 2147483647 + a % 2147483647) (by omega) (by omega), w64 (x := (b % 2147483647 * 65537 % 2147483647 + a % 2147483647) * 65537) (by omega) (by omega), w64 (x := (b % 2147483647 * 65537 % 2147483647 + a % 2147483647) * 65537 + 911) (by omega) (by omega), tm _ (by omega)]
  unfold pairS
  omega

theorem pairS_left {a a' b : Int} (h : pairS a b = pairS a' b) (h0 : 0 ≤ a) (h1 : a < 2147483647) (h2 : 0 ≤ a') (h3 : a' < 2147483647) : a = a' := by
  unfold pairS at h; omega
theorem pairS_right {a b b' : Int} (h : pairS a b = pairS a b') (h0 : 0 ≤ b) (h1 : b < 2147483647) (h2 : 0 ≤ b') (h3 : b' < 2147483647) : b = b' := by
  unfold pairS at h; omega
/-- the greatest power of 2 below a number -/
def halfGo : Nat → Nat → Nat → Nat
  | 0, h, _ => h
  | f + 1, h, c => if 2 * h < c then halfGo f (2 * h) c else h
def halfS (c : Nat) : Nat := halfGo c 1 c
theorem halfGo_range : ∀ (f h c : Nat), 1 ≤ h → h < c → 1 ≤ halfGo f h c ∧ halfGo f h c < c
  | 0, h, c, h0, h1 => ⟨h0, h1⟩
  | f + 1, h, c, h0, h1 => by
    unfold halfGo
    split
    · exact halfGo_range f (2 * h) c (by omega) (by assumption)
    · exact ⟨h0, h1⟩
theorem halfS_range {c : Nat} (h : 2 ≤ c) : 1 ≤ halfS c ∧ halfS c < c := halfGo_range c 1 c (by omega) (by omega)
theorem rd_nat (l : List Int) (i : Nat) (h : i < l.length) : rd l (i : Int) = l[i] := by
  simp [rd, List.getD_eq_getElem?_getD, List.getElem?_eq_getElem h]
theorem tree_Half_loop (c : Nat) (hc : c ≤ 1099511627776) : ∀ (f h k : Nat), 1 ≤ h → h ≤ c → c < h + f + 1 → f < k → tree_Half.l0 k (c : Int) (h : Int) = some ((halfGo f h c : Nat) : Int) := by
  intro f
  induction f with
  | zero =>
    intro h k h0 h1 h2 hk
    obtain ⟨k, rfl⟩ : ∃ m, k = m + 1 := ⟨k - 1, by omega⟩
    simp only [tree_Half.l0, halfGo]
    rw [w64 (by omega) (by omega), if_neg (by omega)]
  | succ f ih =>
    intro h k h0 h1 h2 hk
    obtain ⟨k, rfl⟩ : ∃ m, k = m + 1 := ⟨k - 1, by omega⟩
    simp only [tree_Half.l0, halfGo]
    rw [w64 (x := 2 * (h : Int)) (by omega) (by omega)]
    by_cases g : 2 * h < c
    · rw [if_pos (by omega), if_pos g, w64 (x := (h : Int) * 2) (by omega) (by omega), show ((h : Int) * 2) = ((2 * h : Nat) : Int) from by omega]
      exact ih (2 * h) k (by omega) (by omega) (by omega) (by omega)
    · rw [if_neg (by omega), if_neg g]
theorem tree_Half_ev (c : Nat) (h1 : 1 ≤ c) (hc : c ≤ 1099511627776) : Ev (fun k => tree_Half.f k (c : Int)) ((halfS c : Nat) : Int) :=
  ev_ge (c + 1) (fun k hk => tree_Half_loop c hc c 1 k (by omega) (by omega) (by omega) (by omega))
/-- the root of leaves -/
def rootS (l : List Int) : Int :=
  if h : 2 ≤ l.length then pairS (rootS (l.take (halfS l.length))) (rootS (l.drop (halfS l.length))) else l.headD 0
  termination_by l.length
  decreasing_by
    all_goals (have := halfS_range h; simp only [List.length_take, List.length_drop]; omega)
theorem rootS_one (x : Int) : rootS [x] = x := by rw [rootS]; simp
theorem rootS_two {l : List Int} (h : 2 ≤ l.length) : rootS l = pairS (rootS (l.take (halfS l.length))) (rootS (l.drop (halfS l.length))) := by
  rw [rootS, dif_pos h]
/-- all are seals -/
def Seals01 (l : List Int) : Prop := ∀ x, x ∈ l → 0 ≤ x ∧ x < 2147483647
theorem Seals01.take {l : List Int} (h : Seals01 l) (n : Nat) : Seals01 (l.take n) := fun x hx => h x (List.mem_of_mem_take hx)
theorem Seals01.drop {l : List Int} (h : Seals01 l) (n : Nat) : Seals01 (l.drop n) := fun x hx => h x (List.mem_of_mem_drop hx)
theorem rootS_range {l : List Int} (h : Seals01 l) (hl : 1 ≤ l.length) : 0 ≤ rootS l ∧ rootS l < 2147483647 := by
  by_cases h2 : 2 ≤ l.length
  · rw [rootS_two h2]; exact pairS_range _ _
  · obtain ⟨x, rfl⟩ : ∃ x, l = [x] := List.length_eq_one_iff.mp (by omega)
    rw [rootS_one]; exact h x (by simp)
theorem tree_Of_ev : ∀ (n : Nat) (l : List Int), l.length = n → 1 ≤ n → n ≤ 1099511627776 → Ev (fun k => tree_Of.f k l) (rootS l) := by
  intro n
  induction n using Nat.strongRecOn with
  | _ n ih =>
    intro l hl h1 h2
    by_cases e : n = 1
    · obtain ⟨x, rfl⟩ : ∃ x, l = [x] := List.length_eq_one_iff.mp (by omega)
      refine Ev.step (f := fun _ => some x) (fun k => ?_) (by rw [rootS_one]; exact Ev.now x)
      simp only [tree_Of.f]
      simp [rd]
    · have hr := halfS_range (c := l.length) (by omega)
      refine Ev.step (f := fun k => (tree_Half.f k (l.length : Int)).bind fun t => (if 0 ≤ t then (if t ≤ (l.length : Int) then ((tree_Of.f k (l.take (t : Int).toNat)).bind fun a => ((tree_Of.f k (l.drop (t : Int).toNat)).bind fun b => ((seal_Pair.f a b).bind fun t130 => (some t130)))) else (none)) else (none))) (fun k => ?_) ?_
      · simp only [tree_Of.f]; rw [if_neg (by omega)]
      · refine Ev.bind (tree_Half_ev l.length (by omega) (by omega)) ?_
        refine ev_pos (by omega) (ev_pos (by omega) ?_)
        rw [Int.toNat_natCast]
        refine Ev.bind (ih (halfS l.length) (by omega) _ (by rw [List.length_take]; omega) (by omega) (by omega)) ?_
        refine Ev.bind (ih (l.length - halfS l.length) (by omega) _ (by rw [List.length_drop]) (by omega) (by omega)) ?_
        simp only [seal_Pair_eq, Option.bind_some]
        rw [rootS_two (l := l) (by omega)]
        exact Ev.now _
theorem seal_Is_eq (x : Int) : seal_Is.f x = some (decide (0 ≤ x ∧ x < 2147483647)) := by
  unfold seal_Is.f
  by_cases h : x ≥ 0
  · rw [if_pos h]; congr 1; rw [decide_eq_decide]; omega
  · rw [if_neg h]; congr 1; symm; rw [decide_eq_false_iff_not]; omega
/-- all are seals, as a Bool -/
def allB (l : List Int) : Bool := l.all fun x => decide (0 ≤ x ∧ x < 2147483647)
theorem allB_iff (l : List Int) : allB l = true ↔ Seals01 l := by
  unfold allB Seals01; simp [List.all_eq_true]
theorem seal_All_loop (l : List Int) (hl : l.length ≤ 17592186044416) : ∀ (d i : Nat), i + d = l.length → Ev (fun k => seal_All.l0 k l (l.length : Int) (i : Int)) (allB (l.drop i)) := by
  intro d
  induction d with
  | zero =>
    intro i hi
    refine Ev.step (f := fun _ => some true) (fun k => ?_) ?_
    · simp only [seal_All.l0]; rw [if_neg (by omega)]
    · rw [List.drop_of_length_le (by omega)]; exact Ev.now true
  | succ d ih =>
    intro i hi
    have hlt : i < l.length := by omega
    refine Ev.step (f := fun k => if decide (0 ≤ l[i] ∧ l[i] < 2147483647) = true then seal_All.l0 k l (l.length : Int) ((i + 1 : Nat) : Int) else some false) (fun k => ?_) ?_
    · simp only [seal_All.l0]
      rw [if_pos (by omega), if_pos (by omega), if_pos (by omega), rd_nat l i hlt, seal_Is_eq, w64 (by omega) (by omega)]
      rfl
    · rw [List.drop_eq_getElem_cons hlt]
      by_cases g : 0 ≤ l[i] ∧ l[i] < 2147483647
      · simp only [g, and_self, decide_true, if_true, allB, List.all_cons, Bool.true_and]
        exact ih (i + 1) (by omega)
      · simp only [decide_eq_false g, allB, List.all_cons, Bool.false_and]
        exact Ev.now false
theorem seal_All_ev (l : List Int) (hl : l.length ≤ 17592186044416) : Ev (fun k => seal_All.f k l) (allB l) := by
  have := seal_All_loop l hl l.length 0 (by omega)
  rw [List.drop_zero] at this
  exact this
/-- may leaves be? -/
def mayB (l : List Int) : Bool := decide (1 ≤ l.length ∧ l.length ≤ 64) && allB l
theorem tree_May_ev (l : List Int) (hl : l.length ≤ 17592186044416) : Ev (fun k => tree_May.f k l) (mayB l) := by
  unfold mayB
  by_cases h1 : 1 ≤ l.length
  · by_cases h2 : l.length ≤ 64
    · rw [decide_eq_true ⟨h1, h2⟩, Bool.true_and]
      refine Ev.congr (f := fun k => (seal_All.f k l).bind fun t => some t) (fun k => ?_) (Ev.bind (seal_All_ev l hl) (Ev.now _))
      unfold tree_May.f; rw [if_pos (by omega), if_pos (by omega)]
    · rw [decide_eq_false (by omega), Bool.false_and]
      refine Ev.congr (f := fun k => some false) (fun k => ?_) (Ev.now _)
      unfold tree_May.f; rw [if_pos (by omega), if_neg (by omega)]
  · rw [decide_eq_false (by omega), Bool.false_and]
    refine Ev.congr (f := fun k => some false) (fun k => ?_) (Ev.now _)
    unfold tree_May.f; rw [if_neg (by omega)]
/-- Root's answer -/
def rootA (l : List Int) : Int × Int := if mayB l = true then (rootS l, 0) else (0, 1000)
theorem tree_Root_ev (l : List Int) (hl : l.length ≤ 17592186044416) : Ev (fun k => tree_Root.f k l) (rootA l) := by
  refine Ev.congr (f := fun k => (tree_May.f k l).bind fun t => (if t = true then ((tree_Of.f k l).bind fun u => (some (u, 0))) else (some (0, 1000)))) (fun k => rfl) (Ev.bind (tree_May_ev l hl) ?_)
  unfold rootA
  by_cases h : mayB l = true
  · simp only [if_pos h]
    have h' := h
    unfold mayB at h'
    rw [Bool.and_eq_true, decide_eq_true_eq] at h'
    exact Ev.bind (tree_Of_ev l.length l rfl h'.1.1 (by omega)) (Ev.now _)
  · simp only [if_neg h]; exact Ev.now _
theorem rootA_ok {l : List Int} (h : Seals01 l) (h1 : 1 ≤ l.length) (h2 : l.length ≤ 64) : rootA l = (rootS l, 0) := by
  unfold rootA mayB; rw [decide_eq_true ⟨h1, h2⟩, (allB_iff l).mpr h]; rfl

theorem u64w (x : Int) : IntKind.u64.wrap x = x % 18446744073709551616 := by simp [IntKind.wrap, IntKind.bits, IntKind.signed]
theorem i64w (x : Int) : IntKind.i64.wrap x = (x + 9223372036854775808) % 18446744073709551616 - 9223372036854775808 := by
  simp [IntKind.wrap, IntKind.bits, IntKind.signed]
  split <;> omega
/-- x & (2^i - 1), whatever x -/
theorem and_mask (x : Int) (i : Nat) (hi : i ≤ 62) (m p : Int) (hm : m = ((2 ^ i - 1 : Nat) : Int)) (hp : p = ((2 ^ i : Nat) : Int)) : Go.bits .and .i64 x m = x % p := by
  subst hm hp
  have h2 : 2 ^ i ≤ 2 ^ 62 := Nat.pow_le_pow_right (by decide) hi
  have hpos : 0 < 2 ^ i := Nat.two_pow_pos i
  have e1 : (2 ^ i - 1) % 2 ^ 64 = 2 ^ i - 1 := Nat.mod_eq_of_lt (by omega)
  have hd : 2 ^ i ∣ 2 ^ 64 := Nat.pow_dvd_pow 2 (by omega)
  have e0 : Go.bits .and .i64 x ((2 ^ i - 1 : Nat) : Int) = IntKind.i64.wrap (((BitVec.ofInt 64 x &&& BitVec.ofInt 64 ((2 ^ i - 1 : Nat) : Int)).toNat : Nat) : Int) := rfl
  rw [e0, BitVec.ofInt_natCast, BitVec.toNat_and, BitVec.toNat_ofNat]
  rw [e1, Nat.and_two_pow_sub_one_eq_mod]
  have e2 : (BitVec.ofInt 64 x).toNat = (x % 18446744073709551616).toNat := by
    rw [BitVec.toNat_ofInt]; rfl
  rw [e2]
  have e3 : (((x % 18446744073709551616).toNat % 2 ^ i : Nat) : Int) = x % ((2 ^ i : Nat) : Int) := by
    rw [Int.natCast_emod, Int.toNat_of_nonneg (by omega)]
    have hd' : ((2 ^ i : Nat) : Int) ∣ (18446744073709551616 : Int) := Int.natCast_dvd_natCast (n := 18446744073709551616).mpr hd
    exact Int.emod_emod_of_dvd x hd'
  rw [e3]
  have h3 : 0 ≤ x % ((2 ^ i : Nat) : Int) := Int.emod_nonneg x (by omega)
  have h4 : x % ((2 ^ i : Nat) : Int) < ((2 ^ i : Nat) : Int) := Int.emod_lt_of_pos x (by omega)
  generalize x % ((2 ^ i : Nat) : Int) = y at *
  rw [i64w]; omega
/-- uint(a) % uint(n), as a place -/
def umod (a : Int) (n : Nat) : Nat := ((a % 18446744073709551616) % (n : Int)).toNat
theorem umod_lt (a : Int) (n : Nat) (h : 1 ≤ n) : umod a n < n := by
  unfold umod
  have h1 : 0 ≤ (a % 18446744073709551616) % (n : Int) := Int.emod_nonneg _ (by omega)
  have h2 : (a % 18446744073709551616) % (n : Int) < (n : Int) := Int.emod_lt_of_pos _ (by omega)
  omega
theorem umod_eq (a : Int) (n : Nat) (h : 1 ≤ n) (h' : n ≤ 4611686018427387904) : wrap64 (Int.tmod (IntKind.u64.wrap a) (IntKind.u64.wrap (n : Int))) = (umod a n : Int) := by
  have e : (n : Int) % 18446744073709551616 = (n : Int) := by omega
  rw [u64w, u64w, e, tm (x := a % 18446744073709551616) _ (by omega)]
  unfold umod
  have h1 : 0 ≤ (a % 18446744073709551616) % (n : Int) := Int.emod_nonneg _ (by omega)
  have h2 : (a % 18446744073709551616) % (n : Int) < (n : Int) := Int.emod_lt_of_pos _ (by omega)
  rw [w64 (by omega) (by omega)]; omega
theorem umod_lit (a : Int) (n : Nat) (m : Int) (hm : m = (n : Int)) (h : 1 ≤ n) (h' : n ≤ 4611686018427387904) : wrap64 (Int.tmod (IntKind.u64.wrap a) m) = (umod a n : Int) := by
  subst hm
  have := umod_eq a n h h'
  rwa [show IntKind.u64.wrap (n : Int) = (n : Int) from by rw [u64w]; omega] at this
/-- int(uint32(x) >> 2) -/
def quart (x : Int) : Int := x % 4294967296 / 4
theorem quart_range (x : Int) : 0 ≤ quart x ∧ quart x < 1073741824 := by unfold quart; omega
theorem quart_seals (l : List Int) : Seals01 (l.map quart) := by
  intro x hx
  rw [List.mem_map] at hx
  obtain ⟨y, _, rfl⟩ := hx
  have := quart_range y; omega

theorem rootS_set : ∀ (n : Nat) (l : List Int), l.length = n → Seals01 l → ∀ (i : Nat) (hi : i < l.length) (x : Int), 0 ≤ x → x < 2147483647 → x ≠ l[i] → rootS (l.set i x) ≠ rootS l := by
  intro n
  induction n using Nat.strongRecOn with
  | _ n ih =>
    intro l hl hs i hi x hx0 hx1 hne
    by_cases h2 : 2 ≤ l.length
    · have hr := halfS_range h2
      have hs' : Seals01 (l.set i x) := by
        intro y hy
        rcases List.mem_or_eq_of_mem_set hy with h | h
        · exact hs y h
        · omega
      rw [rootS_two (l := l.set i x) (by rw [List.length_set]; exact h2), rootS_two h2, List.length_set]
      generalize hh : halfS l.length = h at hr
      intro e
      have ht := rootS_range (hs.take h) (by rw [List.length_take]; omega)
      have hd := rootS_range (hs.drop h) (by rw [List.length_drop]; omega)
      have ht' := rootS_range (hs'.take h) (by rw [List.length_take, List.length_set]; omega)
      have hd' := rootS_range (hs'.drop h) (by rw [List.length_drop, List.length_set]; omega)
      by_cases g : i < h
      · have e1 : (l.set i x).drop h = l.drop h := by rw [List.drop_set, if_pos g]
        have e2 : (l.set i x).take h = (l.take h).set i x := by rw [List.take_set]
        rw [e1] at e hd'
        rw [e2] at e ht'
        refine ih h (by omega) (l.take h) (by rw [List.length_take]; omega) (hs.take h) i (by rw [List.length_take]; omega) x hx0 hx1 (by rw [List.getElem_take]; exact hne) ?_
        exact pairS_left e ht'.1 ht'.2 ht.1 ht.2
      · have e1 : (l.set i x).drop h = (l.drop h).set (i - h) x := by rw [List.drop_set, if_neg g]
        have e2 : (l.set i x).take h = l.take h := by
          rw [List.take_set, List.set_eq_of_length_le (by rw [List.length_take]; omega)]
        rw [e1] at e hd'
        rw [e2] at e ht'
        refine ih (l.length - h) (by omega) (l.drop h) (by rw [List.length_drop]) (hs.drop h) (i - h) (by rw [List.length_drop]; omega) x hx0 hx1 ?_ ?_
        · rw [List.getElem_drop]
          intro e3; apply hne; rw [e3]; congr 1; omega
        · exact pairS_right e hd'.1 hd'.2 hd.1 hd.2
    · obtain ⟨y, rfl⟩ : ∃ y, l = [y] := List.length_eq_one_iff.mp (by omega)
      have : i = 0 := by simp at hi; exact hi
      subst this
      simp only [List.set_cons_zero, rootS_one]
      simpa using hne
theorem map_take_snoc (f : Int → Int) (l : List Int) (i : Nat) (h : i < l.length) : (l.take i).map f ++ [f l[i]] = (l.take (i + 1)).map f := by
  rw [List.take_succ_eq_append_getElem h, List.map_append, List.map_singleton]

theorem awake10 : Ev (fun k => ossuarylaw10_awake.f k) true :=
  Ev.of (k := 24) ossuarylaw10_awake.mono (by decide +kernel)

theorem turned_loop (l : List Int) (a b : Int) (hl : l.length * 8 ≤ 140737488351232) (hj : Ev (fun k => ossuarylaw10_TreeTurned.j1 k a b ((l.take 64).map quart)) true) :
    ∀ (d i : Nat), i + d = min l.length 64 → Ev (fun k => ossuarylaw10_TreeTurned.l0 k l a b ((l.take i).map quart) (i : Int)) true := by
  intro d
  induction d with
  | zero =>
    intro i hi
    refine Ev.step (f := fun k => ossuarylaw10_TreeTurned.j1 k a b ((l.take i).map quart)) (fun k => ?_) ?_
    · simp only [ossuarylaw10_TreeTurned.l0]
      by_cases g : (i : Int) < (l.length : Int)
      · rw [if_pos g, if_neg (by omega)]
      · rw [if_neg g]
    · rw [show l.take i = l.take 64 from by rw [List.take_eq_take_iff]; omega]; exact hj
  | succ d ih =>
    intro i hi
    have hlt : i < l.length := by omega
    refine Ev.step (f := fun k => ossuarylaw10_TreeTurned.l0 k l a b ((l.take (i + 1)).map quart) ((i + 1 : Nat) : Int)) (fun k => ?_) (ih (i + 1) (by omega))
    simp only [ossuarylaw10_TreeTurned.l0]
    rw [if_pos (by omega), if_pos (by omega), if_pos (by omega), if_pos (by rw [List.length_map, List.length_take]; omega), rd_nat l i hlt, w64 (by omega) (by omega)]
    rw [show l[i] % 4294967296 / 4 = quart l[i] from rfl, map_take_snoc quart l i hlt]
    rfl
theorem TreeTurned : ossuarylaw10_TreeTurned.Pure := by
  intro l a b hm hl hw ha hb
  apply ex_of_ev
  unfold ossuarylaw10_TreeTurned.f
  refine Ev.bind awake10 (ev_pos rfl ?_)
  refine turned_loop l a b hl ?_ (min l.length 64) 0 (by omega)
  have hlen : ((l.take 64).map quart).length ≤ 64 := by rw [List.length_map, List.length_take]; omega
  have hs := quart_seals (l.take 64)
  have hq : ∀ (i : Nat) (h : i < ((l.take 64).map quart).length), 0 ≤ ((l.take 64).map quart)[i] ∧ ((l.take 64).map quart)[i] < 1073741824 := by
    intro i h; rw [List.getElem_map]; exact quart_range _
  generalize (l.take 64).map quart = xs at hlen hs hq
  by_cases h1 : 1 ≤ xs.length
  · have hu := umod_lt a xs.length h1
    have hm := and_mask b 16 (by decide) 65535 65536 (by decide) (by decide)
    have hx := hq (umod a xs.length) hu
    have hv : Int.tmod (wrap64 ((wrap64 ((rd xs (umod a xs.length : Int)) + 1)) + (Go.bits .and .i64 b 65535))) 2147483647 = xs[umod a xs.length] + 1 + b % 65536 := by
      rw [hm, rd_nat xs _ hu, w64 (x := xs[umod a xs.length] + 1) (by omega) (by omega), w64 (by omega) (by omega), tm _ (by omega)]; omega
    have hs' : Seals01 (xs.set (umod a xs.length) (xs[umod a xs.length] + 1 + b % 65536)) := by
      intro y hy
      rcases List.mem_or_eq_of_mem_set hy with h | h
      · exact hs y h
      · omega
    refine Ev.step (f := fun k => (tree_Root.f k xs).bind fun p => (tree_Root.f k (xs.set (umod a xs.length) (xs[umod a xs.length] + 1 + b % 65536))).bind fun q => ((ossuarylaw0_Num.f p.2).bind fun t164 => (if t164 = 0 then ((ossuarylaw0_Num.f q.2).bind fun t165 => (if t165 = 0 then (some (p.1 != q.1)) else (some false))) else (some false)))) (fun k => ?_) ?_
    · simp only [ossuarylaw10_TreeTurned.j1]
      rw [if_neg (by omega), if_neg (by rw [u64w]; omega), umod_eq a xs.length h1 (by omega), hv, Int.toNat_natCast]
      congr 1; funext p
      rw [if_pos (by omega), if_pos (by omega)]
    · refine Ev.bind (tree_Root_ev xs (by omega)) (Ev.bind (tree_Root_ev _ (by rw [List.length_set]; omega)) ?_)
      rw [rootA_ok hs h1 hlen, rootA_ok hs' (by rw [List.length_set]; exact h1) (by rw [List.length_set]; exact hlen)]
      simp only [ossuarylaw0_Num.f, Option.bind_some, if_true]
      have hne := rootS_set xs.length xs rfl hs (umod a xs.length) hu (xs[umod a xs.length] + 1 + b % 65536) (by omega) (by omega) (by omega)
      rw [bne_iff_ne.mpr (Ne.symm hne)]
      exact Ev.now true
  · refine Ev.step (f := fun _ => some true) (fun k => ?_) (Ev.now true)
    simp only [ossuarylaw10_TreeTurned.j1]
    rw [if_pos (by omega)]

end Go.Proofs.Ytfjkehpcgiolhab.Pure
