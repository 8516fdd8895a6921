/- Paths and their check are those of the document, and they leave what they are given: no condition beyond the statement. -/
import Derived.Test.YtojdcenmjoddmaaHProofsx6
namespace Go.Proofs.Ytojdcenmjoddmaa.Pure
open Go.RowKit Go.Proofs.Ytojdcenmjoddmaa.HProofs Go.Proofs.YtojdcenmjoddmaaW.PrintWords Go.Proofs.YtojdcenmjoddmaaW.PrintLast


set_option linter.unusedVariables false
set_option linter.unusedSimpArgs false
theorem wf64 {x : Int} (h : (Lit.int .i64 x).wf = true) : -9223372036854775808 ≤ x ∧ x ≤ 9223372036854775807 := by
  simp only [Lit.wf, Bool.and_eq_true, decide_eq_true_eq] at h
  have e1 : IntKind.i64.min = -9223372036854775808 := by decide
  have e2 : IntKind.i64.max = 9223372036854775807 := by decide
  omega
theorem w64 {x : Int} (h0 : -9223372036854775808 ≤ x) (h1 : x ≤ 9223372036854775807) : wrap64 x = x := by
  unfold wrap64; omega
theorem tm {x : Int} (m : Int) (h0 : 0 ≤ x) : Int.tmod x m = x % m := Int.tmod_eq_emod_of_nonneg h0
theorem data_len (s : ByteArray) : s.data.toList.length = s.size := by rw [Array.length_toList]; rfl
theorem bt_get (s : ByteArray) (n : Nat) (h : n < s.data.toList.length) : bt s (n : Int) = ((s.data.toList[n]'h).toNat : Int) := by
  have h' : n < s.size := by rw [data_len] at h; exact h
  unfold bt
  rw [dif_pos (show (n : Int).toNat < s.size from by simpa using h')]
  simp [ByteArray.getElem_eq_getElem_data]
/-- enough rounds -/
theorem ex_of_ev {α : Type} {g : Nat → Option α} {r : α} (h : Ev g r) : ∃ k, g k = some r := h.rounds
theorem ev_ge {α : Type} {g : Nat → Option α} {r : α} (K : Nat) (h : ∀ k, K ≤ k → g k = some r) : Ev g r := ⟨K, h⟩
theorem ev_const {α : Type} {g : Option α} {r : α} (h : g = some r) : Ev (fun _ => g) r := ⟨0, fun _ _ => h⟩
theorem ev_pos {α : Type} {c : Prop} [Decidable c] {f g : Nat → Option α} {r : α} (h : c) (hf : Ev f r) : Ev (fun k => if c then f k else g k) r := by
  simp only [if_pos h]; exact hf
theorem ev_neg {α : Type} {c : Prop} [Decidable c] {f g : Nat → Option α} {r : α} (h : ¬ c) (hg : Ev g r) : Ev (fun k => if c then f k else g k) r := by
  simp only [if_neg h]; exact hg
theorem ev_succ {α : Type} {g : Nat → Option α} {r : α} (h : Ev (fun k => g (k + 1)) r) : Ev g r := Ev.step (f := fun k => g (k + 1)) (fun _ => rfl) h

/-- the seal of two seals -/
def pairS (a b : Int) : Int := (911 + a % 2147483647 * 65537 + b % 2147483647 * 65537 * 65537) % 2147483647
theorem pairS_range (a b : Int) : 0 ≤ pairS a b ∧ pairS a b < 2147483647 := by unfold pairS; omega
theorem tm_neg {a : Int} (h : a < 0) : Int.tmod a 2147483647 = -((-a) % 2147483647) := by
  have := Int.neg_tmod (a := -a) (b := 2147483647)
  rw [Int.neg_neg] at this
  rw [this, tm _ (by omega)]
theorem seal_taken_eq (a : Int) : seal_taken.f a = some (a % 2147483647) := by
  unfold seal_taken.f
  by_cases h : 0 ≤ a
  · rw [tm _ h, if_neg (by omega)]
  · rw [tm_neg (by omega)]
    by_cases g : -((-a) % 2147483647) < 0
    · rw [if_pos g, w64 (by omega) (by omega)]
      congr 1; omega
    · rw [if_neg g]
      congr 1; omega
theorem seal_Pair_eq (a b : Int) : seal_Pair.f a b = some (pairS a b) := by
  unfold seal_Pair.f
  rw [seal_taken_eq, seal_taken_eq]
  simp only [Option.bind_some]
  congr 1
  have ha : 0 ≤ a % 2147483647 ∧ a % 2147483647 < 2147483647 := by omega
  have hb : 0 ≤ b % 2147483647 ∧ b % 2147483647 < 2147483647 := by omega
  rw [w64 (x := b % 2147483647 * 65537) (by omega) (by omega), tm (x := b % 2147483647 * 65537) _ (by omega)]
  have hc : 0 ≤ b % 2147483647 * 65537 % 2147483647 ∧ b % 2147483647 * 65537 % 2147483647 < 2147483647 := by omega
  rw [w64 (x := b % 2147483647 * 65537 % 2147483647 + a % 2147483647) (by omega) (by omega), w64 (x := (b % 2147483647 * 65537 % 2147483647 + a % 2147483647) * 65537) (by omega) (by omega), w64 (x := (b % 2147483647 * 65537 % 2147483647 + a % 2147483647) * 65537 + 911) (by omega) (by omega), tm _ (by omega)]
  unfold pairS
  omega

theorem pairS_left {a a' b : Int} (h : pairS a b = pairS a' b) (h0 : 0 ≤ a) (h1 : a < 2147483647) (h2 : 0 ≤ a') (h3 : a' < 2147483647) : a = a' := by
  unfold pairS at h; omega
theorem pairS_right {a b b' : Int} (h : pairS a b = pairS a b') (h0 : 0 ≤ b) (h1 : b < 2147483647) (h2 : 0 ≤ b') (h3 : b' < 2147483647) : b = b' := by
  unfold pairS at h; omega
/-- the greatest power of 2 below a number -/
def halfGo : Nat → Nat → Nat → Nat
  | 0, h, _ => h
  | f + 1, h, c => if 2 * h < c then halfGo f (2 * h) c else h
def halfS (c : Nat) : Nat := halfGo c 1 c
theorem halfGo_range : ∀ (f h c : Nat), 1 ≤ h → h < c → 1 ≤ halfGo f h c ∧ halfGo f h c < c
  | 0, h, c, h0, h1 => ⟨h0, h1⟩
  | f + 1, h, c, h0, h1 => by
    unfold halfGo
    split
    · exact halfGo_range f (2 * h) c (by omega) (by assumption)
    · exact ⟨h0, h1⟩
theorem halfS_range {c : Nat} (h : 2 ≤ c) : 1 ≤ halfS c ∧ halfS c < c := halfGo_range c 1 c (by omega) (by omega)
theorem rd_nat (l : List Int) (i : Nat) (h : i < l.length) : rd l (i : Int) = l[i] := by
  simp [rd, List.getD_eq_getElem?_getD, List.getElem?_eq_getElem h]
theorem tree_Half_loop (c : Nat) (hc : c ≤ 1099511627776) : ∀ (f h k : Nat), 1 ≤ h → h ≤ c → c < h + f + 1 → f < k → tree_Half.l0 k (c : Int) (h : Int) = some ((halfGo f h c : Nat) : Int) := by
  intro f
  induction f with
  | zero =>
    intro h k h0 h1 h2 hk
    obtain ⟨k, rfl⟩ : ∃ m, k = m + 1 := ⟨k - 1, by omega⟩
    simp only [tree_Half.l0, halfGo]
    rw [w64 (by omega) (by omega), if_neg (by omega)]
  | succ f ih =>
    intro h k h0 h1 h2 hk
    obtain ⟨k, rfl⟩ : ∃ m, k = m + 1 := ⟨k - 1, by omega⟩
    simp only [tree_Half.l0, halfGo]
    rw [w64 (x := 2 * (h : Int)) (by omega) (by omega)]
    by_cases g : 2 * h < c
    · rw [if_pos (by omega), if_pos g, w64 (x := (h : Int) * 2) (by omega) (by omega), show ((h : Int) * 2) = ((2 * h : Nat) : Int) from by omega]
      exact ih (2 * h) k (by omega) (by omega) (by omega) (by omega)
    · rw [if_neg (by omega), if_neg g]
theorem tree_Half_ev (c : Nat) (h1 : 1 ≤ c) (hc : c ≤ 1099511627776) : Ev (fun k => tree_Half.f k (c : Int)) ((halfS c : Nat) : Int) :=
  ev_ge (c + 1) (fun k hk => tree_Half_loop c hc c 1 k (by omega) (by omega) (by omega) (by omega))
/-- the root of leaves -/
def rootS (l : List Int) : Int :=
  if h : 2 ≤ l.length then pairS (rootS (l.take (halfS l.length))) (rootS (l.drop (halfS l.length))) else l.headD 0
  termination_by l.length
  decreasing_by
    all_goals (have := halfS_range h; simp only [List.length_take, List.length_drop]; omega)
theorem rootS_one (x : Int) : rootS [x] = x := by rw [rootS]; simp
theorem rootS_two {l : List Int} (h : 2 ≤ l.length) : rootS l = pairS (rootS (l.take (halfS l.length))) (rootS (l.drop (halfS l.length))) := by
  rw [rootS, dif_pos h]
/-- all are seals -/
def Seals01 (l : List Int) : Prop := ∀ x, x ∈ l → 0 ≤ x ∧ x < 2147483647
theorem Seals01.take {l : List Int} (h : Seals01 l) (n : Nat) : Seals01 (l.take n) := fun x hx => h x (List.mem_of_mem_take hx)
theorem Seals01.drop {l : List Int} (h : Seals01 l) (n : Nat) : Seals01 (l.drop n) := fun x hx => h x (List.mem_of_mem_drop hx)
theorem rootS_range {l : List Int} (h : Seals01 l) (hl : 1 ≤ l.length) : 0 ≤ rootS l ∧ rootS l < 2147483647 := by
  by_cases h2 : 2 ≤ l.length
  · rw [rootS_two h2]; exact pairS_range _ _
  · obtain ⟨x, rfl⟩ : ∃ x, l = [x] := List.length_eq_one_iff.mp (by omega)
    rw [rootS_one]; exact h x (by simp)
theorem tree_Of_ev : ∀ (n : Nat) (l : List Int), l.length = n → 1 ≤ n → n ≤ 1099511627776 → Ev (fun k => tree_Of.f k l) (rootS l) := by
  intro n
  induction n using Nat.strongRecOn with
  | _ n ih =>
    intro l hl h1 h2
    by_cases e : n = 1
    · obtain ⟨x, rfl⟩ : ∃ x, l = [x] := List.length_eq_one_iff.mp (by omega)
      refine Ev.step (f := fun _ => some x) (fun k => ?_) (by rw [rootS_one]; exact Ev.now x)
      simp only [tree_Of.f]
      simp [rd]
    · have hr := halfS_range (c := l.length) (by omega)
      refine Ev.step (f := fun k => (tree_Half.f k (l.length : Int)).bind fun t => (if 0 ≤ t then (if t ≤ (l.length : Int) then ((tree_Of.f k (l.take (t : Int).toNat)).bind fun a => ((tree_Of.f k (l.drop (t : Int).toNat)).bind fun b => ((seal_Pair.f a b).bind fun t130 => (some t130)))) else (none)) else (none))) (fun k => ?_) ?_
      · simp only [tree_Of.f]; rw [if_neg (by omega)]
      · refine Ev.bind (tree_Half_ev l.length (by omega) (by omega)) ?_
        refine ev_pos (by omega) (ev_pos (by omega) ?_)
        rw [Int.toNat_natCast]
        refine Ev.bind (ih (halfS l.length) (by omega) _ (by rw [List.length_take]; omega) (by omega) (by omega)) ?_
        refine Ev.bind (ih (l.length - halfS l.length) (by omega) _ (by rw [List.length_drop]) (by omega) (by omega)) ?_
        simp only [seal_Pair_eq, Option.bind_some]
        rw [rootS_two (l := l) (by omega)]
        exact Ev.now _
theorem seal_Is_eq (x : Int) : seal_Is.f x = some (decide (0 ≤ x ∧ x < 2147483647)) := by
  unfold seal_Is.f
  by_cases h : x ≥ 0
  · rw [if_pos h]; congr 1; rw [decide_eq_decide]; omega
  · rw [if_neg h]; congr 1; symm; rw [decide_eq_false_iff_not]; omega
/-- all are seals, as a Bool -/
def allB (l : List Int) : Bool := l.all fun x => decide (0 ≤ x ∧ x < 2147483647)
theorem allB_iff (l : List Int) : allB l = true ↔ Seals01 l := by
  unfold allB Seals01; simp [List.all_eq_true]
theorem seal_All_loop (l : List Int) (hl : l.length ≤ 17592186044416) : ∀ (d i : Nat), i + d = l.length → Ev (fun k => seal_All.l0 k l (l.length : Int) (i : Int)) (allB (l.drop i)) := by
  intro d
  induction d with
  | zero =>
    intro i hi
    refine Ev.step (f := fun _ => some true) (fun k => ?_) ?_
    · simp only [seal_All.l0]; rw [if_neg (by omega)]
    · rw [List.drop_of_length_le (by omega)]; exact Ev.now true
  | succ d ih =>
    intro i hi
    have hlt : i < l.length := by omega
    refine Ev.step (f := fun k => if decide (0 ≤ l[i] ∧ l[i] < 2147483647) = true then seal_All.l0 k l (l.length : Int) ((i + 1 : Nat) : Int) else some false) (fun k => ?_) ?_
    · simp only [seal_All.l0]
      rw [if_pos (by omega), if_pos (by omega), if_pos (by omega), rd_nat l i hlt, seal_Is_eq, w64 (by omega) (by omega)]
      rfl
    · rw [List.drop_eq_getElem_cons hlt]
      by_cases g : 0 ≤ l[i] ∧ l[i] < 2147483647
      · simp only [g, and_self, decide_true, if_true, allB, List.all_cons, Bool.true_and]
        exact ih (i + 1) (by omega)
      · simp only [decide_eq_false g, allB, List.all_cons, Bool.false_and]
        exact Ev.now false
theorem seal_All_ev (l : List Int) (hl : l.length ≤ 17592186044416) : Ev (fun k => seal_All.f k l) (allB l) := by
  have := seal_All_loop l hl l.length 0 (by omega)
  rw [List.drop_zero] at this
  exact this
/-- may leaves be? -/
def mayB (l : List Int) : Bool := decide (1 ≤ l.length ∧ l.length ≤ 64) && allB l
theorem tree_May_ev (l : List Int) (hl : l.length ≤ 17592186044416) : Ev (fun k => tree_May.f k l) (mayB l) := by
  unfold mayB
  by_cases h1 : 1 ≤ l.length
  · by_cases h2 : l.length ≤ 64
    · rw [decide_eq_true ⟨h1, h2⟩, Bool.true_and]
      refine Ev.congr (f := fun k => (seal_All.f k l).bind fun t => some t) (fun k => ?_) (Ev.bind (seal_All_ev l hl) (Ev.now _))
      unfold tree_May.f; rw [if_pos (by omega), if_pos (by omega)]
    · rw [decide_eq_false (by omega), Bool.false_and]
      refine Ev.congr (f := fun k => some false) (fun k => ?_) (Ev.now _)
      unfold tree_May.f; rw [if_pos (by omega), if_neg (by omega)]
  · rw [decide_eq_false (by omega), Bool.false_and]
    refine Ev.congr (f := fun k => some false) (fun k => ?_) (Ev.now _)
    unfold tree_May.f; rw [if_neg (by omega)]
/-- Root's answer -/
def rootA (l : List Int) : Int × Int := if mayB l = true then (rootS l, 0) else (0, 1000)
theorem tree_Root_ev (l : List Int) (hl : l.length ≤ 17592186044416) : Ev (fun k => tree_Root.f k l) (rootA l) := by
  refine Ev.congr (f := fun k => (tree_May.f k l).bind fun t => (if t = true then ((tree_Of.f k l).bind fun u => (some (u, 0))) else (some (0, 1000)))) (fun k => rfl) (Ev.bind (tree_May_ev l hl) ?_)
  unfold rootA
  by_cases h : mayB l = true
  · simp only [if_pos h]
    have h' := h
    unfold mayB at h'
    rw [Bool.and_eq_true, decide_eq_true_eq] at h'
    exact Ev.bind (tree_Of_ev l.length l rfl h'.1.1 (by omega)) (Ev.now _)
  · simp only [if_neg h]; exact Ev.now _
theorem rootA_ok {l : List Int} (h : Seals01 l) (h1 : 1 ≤ l.length) (h2 : l.length ≤ 64) : rootA l = (rootS l, 0) := by
  unfold rootA mayB; rw [decide_eq_true ⟨h1, h2⟩, (allB_iff l).mpr h]; rfl

theorem u64w (x : Int) : IntKind.u64.wrap x = x % 18446744073709551616 := by simp [IntKind.wrap, IntKind.bits, IntKind.signed]
theorem i64w (x : Int) : IntKind.i64.wrap x = (x + 9223372036854775808) % 18446744073709551616 - 9223372036854775808 := by
  simp [IntKind.wrap, IntKind.bits, IntKind.signed]
  split <;> omega
/-- x & (2^i - 1), whatever x -/
theorem and_mask (x : Int) (i : Nat) (hi : i ≤ 62) (m p : Int) (hm : m = ((2 ^ i - 1 : Nat) : Int)) (hp : p = ((2 ^ i : Nat) : Int)) : Go.bits .and .i64 x m = x % p := by
  subst hm hp
  have h2 : 2 ^ i ≤ 2 ^ 62 := Nat.pow_le_pow_right (by decide) hi
  have hpos : 0 < 2 ^ i := Nat.two_pow_pos i
  have e1 : (2 ^ i - 1) % 2 ^ 64 = 2 ^ i - 1 := Nat.mod_eq_of_lt (by omega)
  have hd : 2 ^ i ∣ 2 ^ 64 := Nat.pow_dvd_pow 2 (by omega)
  have e0 : Go.bits .and .i64 x ((2 ^ i - 1 : Nat) : Int) = IntKind.i64.wrap (((BitVec.ofInt 64 x &&& BitVec.ofInt 64 ((2 ^ i - 1 : Nat) : Int)).toNat : Nat) : Int) := rfl
  rw [e0, BitVec.ofInt_natCast, BitVec.toNat_and, BitVec.toNat_ofNat]
  rw [e1, Nat.and_two_pow_sub_one_eq_mod]
  have e2 : (BitVec.ofInt 64 x).toNat = (x % 18446744073709551616).toNat := by
    rw [BitVec.toNat_ofInt]; rfl
  rw [e2]
  have e3 : (((x % 18446744073709551616).toNat % 2 ^ i : Nat) : Int) = x % ((2 ^ i : Nat) : Int) := by
    rw [Int.natCast_emod, Int.toNat_of_nonneg (by omega)]
    have hd' : ((2 ^ i : Nat) : Int) ∣ (18446744073709551616 : Int) := Int.natCast_dvd_natCast (n := 18446744073709551616).mpr hd
    exact Int.emod_emod_of_dvd x hd'
  rw [e3]
  have h3 : 0 ≤ x % ((2 ^ i : Nat) : Int) := Int.emod_nonneg x (by omega)
  have h4 : x % ((2 ^ i : Nat) : Int) < ((2 ^ i : Nat) : Int) := Int.emod_lt_of_pos x (by omega)
  generalize x % ((2 ^ i : Nat) : Int) = y at *
  rw [i64w]; omega
/-- uint(a) % uint(n), as a place -/
def umod (a : Int) (n : Nat) : Nat := ((a % 18446744073709551616) % (n : Int)).toNat
theorem umod_lt (a : Int) (n : Nat) (h : 1 ≤ n) : umod a n < n := by
  unfold umod
  have h1 : 0 ≤ (a % 18446744073709551616) % (n : Int) := Int.emod_nonneg _ (by omega)
  have h2 : (a % 18446744073709551616) % (n : Int) < (n : Int) := Int.emod_lt_of_pos _ (by omega)
  omega
theorem umod_eq (a : Int) (n : Nat) (h : 1 ≤ n) (h' : n ≤ 4611686018427387904) : wrap64 (Int.tmod (IntKind.u64.wrap a) (IntKind.u64.wrap (n : Int))) = (umod a n : Int) := by
  have e : (n : Int) % 18446744073709551616 = (n : Int) := by omega
  rw [u64w, u64w, e, tm (x := a % 18446744073709551616) _ (by omega)]
  unfold umod
  have h1 : 0 ≤ (a % 18446744073709551616) % (n : Int) := Int.emod_nonneg _ (by omega)
  have h2 : (a % 18446744073709551616) % (n : Int) < (n : Int) := Int.emod_lt_of_pos _ (by omega)
  rw [w64 (by omega) (by omega)]; omega
theorem umod_lit (a : Int) (n : Nat) (m : Int) (hm : m = (n : Int)) (h : 1 ≤ n) (h' : n ≤ 4611686018427387904) : wrap64 (Int.tmod (IntKind.u64.wrap a) m) = (umod a n : Int) := by
  subst hm
  have := umod_eq a n h h'
  rwa [show IntKind.u64.wrap (n : Int) = (n : Int) from by rw [u64w]; omega] at this
/-- int(uint32(x) >> 2) -/
def quart (x : Int) : Int := x % 4294967296 / 4
theorem quart_range (x : Int) : 0 ≤ quart x ∧ quart x < 1073741824 := by unfold quart; omega
theorem quart_seals (l : List Int) : Seals01 (l.map quart) := by
  intro x hx
  rw [List.mem_map] at hx
  obtain ⟨y, _, rfl⟩ := hx
  have := quart_range y; omega

theorem rootS_set : ∀ (n : Nat) (l : List Int), l.length = n → Seals01 l → ∀ (i : Nat) (hi : i < l.length) (x : Int), 0 ≤ x → x < 2147483647 → x ≠ l[i] → rootS (l.set i x) ≠ rootS l := by
  intro n
  induction n using Nat.strongRecOn with
  | _ n ih =>
    intro l hl hs i hi x hx0 hx1 hne
    by_cases h2 : 2 ≤ l.length
    · have hr := halfS_range h2
      have hs' : Seals01 (l.set i x) := by
        intro y hy
        rcases List.mem_or_eq_of_mem_set hy with h | h
        · exact hs y h
        · omega
      rw [rootS_two (l := l.set i x) (by rw [List.length_set]; exact h2), rootS_two h2, List.length_set]
      generalize hh : halfS l.length = h at hr
      intro e
      have ht := rootS_range (hs.take h) (by rw [List.length_take]; omega)
      have hd := rootS_range (hs.drop h) (by rw [List.length_drop]; omega)
      have ht' := rootS_range (hs'.take h) (by rw [List.length_take, List.length_set]; omega)
      have hd' := rootS_range (hs'.drop h) (by rw [List.length_drop, List.length_set]; omega)
      by_cases g : i < h
      · have e1 : (l.set i x).drop h = l.drop h := by rw [List.drop_set, if_pos g]
        have e2 : (l.set i x).take h = (l.take h).set i x := by rw [List.take_set]
        rw [e1] at e hd'
        rw [e2] at e ht'
        refine ih h (by omega) (l.take h) (by rw [List.length_take]; omega) (hs.take h) i (by rw [List.length_take]; omega) x hx0 hx1 (by rw [List.getElem_take]; exact hne) ?_
        exact pairS_left e ht'.1 ht'.2 ht.1 ht.2
      · have e1 : (l.set i x).drop h = (l.drop h).set (i - h) x := by rw [List.drop_set, if_neg g]
        have e2 : (l.set i x).take h = l.take h := by
          rw [List.take_set, List.set_eq_of_length_le (by rw [List.length_take]; omega)]
        rw [e1] at e hd'
        rw [e2] at e ht'
        refine ih (l.length - h) (by omega) (l.drop h) (by rw [List.length_drop]) (hs.drop h) (i - h) (by rw [List.length_drop]; omega) x hx0 hx1 ?_ ?_
        · rw [List.getElem_drop]
          intro e3; apply hne; rw [e3]; congr 1; omega
        · exact pairS_right e hd'.1 hd'.2 hd.1 hd.2
    · obtain ⟨y, rfl⟩ : ∃ y, l = [y] := List.length_eq_one_iff.mp (by omega)
      have : i = 0 := by simp at hi; exact hi
      subst this
      simp only [List.set_cons_zero, rootS_one]
      simpa using hne
theorem map_take_snoc (f : Int → Int) (l : List Int) (i : Nat) (h : i < l.length) : (l.take i).map f ++ [f l[i]] = (l.take (i + 1)).map f := by
  rw [List.take_succ_eq_append_getElem h, List.map_append, List.map_singleton]

/-- a leaf's path -/
def pathS (l : List Int) (a : Nat) : List Int :=
  if h : 2 ≤ l.length then
    if a < halfS l.length then pathS (l.take (halfS l.length)) a ++ [rootS (l.drop (halfS l.length))]
    else pathS (l.drop (halfS l.length)) (a - halfS l.length) ++ [rootS (l.take (halfS l.length))]
  else []
  termination_by l.length
  decreasing_by
    all_goals (have := halfS_range h; simp only [List.length_take, List.length_drop]; omega)
/-- how long a path is -/
def longS (c a : Nat) : Nat :=
  if h : 2 ≤ c then
    if a < halfS c then longS (halfS c) a + 1 else longS (c - halfS c) (a - halfS c) + 1
  else 0
  termination_by c
  decreasing_by
    all_goals (have := halfS_range h; omega)
/-- where a path leads -/
def upS (c a : Nat) (x : Int) (p : List Int) : Int :=
  if h : 2 ≤ c then
    if a < halfS c then pairS (upS (halfS c) a x (p.take (p.length - 1))) (rd p ((p.length - 1 : Nat) : Int))
    else pairS (rd p ((p.length - 1 : Nat) : Int)) (upS (c - halfS c) (a - halfS c) x (p.take (p.length - 1)))
  else x
  termination_by c
  decreasing_by
    all_goals (have := halfS_range h; omega)
theorem pathS_one {l : List Int} (a : Nat) (h : ¬ 2 ≤ l.length) : pathS l a = [] := by rw [pathS, dif_neg h]
theorem pathS_left {l : List Int} {a : Nat} (h : 2 ≤ l.length) (g : a < halfS l.length) : pathS l a = pathS (l.take (halfS l.length)) a ++ [rootS (l.drop (halfS l.length))] := by
  rw [pathS, dif_pos h, if_pos g]
theorem pathS_right {l : List Int} {a : Nat} (h : 2 ≤ l.length) (g : ¬ a < halfS l.length) : pathS l a = pathS (l.drop (halfS l.length)) (a - halfS l.length) ++ [rootS (l.take (halfS l.length))] := by
  rw [pathS, dif_pos h, if_neg g]
theorem longS_one {c : Nat} (a : Nat) (h : ¬ 2 ≤ c) : longS c a = 0 := by rw [longS, dif_neg h]
theorem longS_left {c a : Nat} (h : 2 ≤ c) (g : a < halfS c) : longS c a = longS (halfS c) a + 1 := by rw [longS, dif_pos h, if_pos g]
theorem longS_right {c a : Nat} (h : 2 ≤ c) (g : ¬ a < halfS c) : longS c a = longS (c - halfS c) (a - halfS c) + 1 := by rw [longS, dif_pos h, if_neg g]
theorem upS_one {c : Nat} (a : Nat) (x : Int) (p : List Int) (h : ¬ 2 ≤ c) : upS c a x p = x := by rw [upS, dif_neg h]
theorem upS_left {c a : Nat} (x : Int) (p : List Int) (h : 2 ≤ c) (g : a < halfS c) : upS c a x p = pairS (upS (halfS c) a x (p.take (p.length - 1))) (rd p ((p.length - 1 : Nat) : Int)) := by
  rw [upS, dif_pos h, if_pos g]
theorem upS_right {c a : Nat} (x : Int) (p : List Int) (h : 2 ≤ c) (g : ¬ a < halfS c) : upS c a x p = pairS (rd p ((p.length - 1 : Nat) : Int)) (upS (c - halfS c) (a - halfS c) x (p.take (p.length - 1))) := by
  rw [upS, dif_pos h, if_neg g]
theorem longS_le : ∀ (n c a : Nat), c = n → longS c a ≤ c - 1 := by
  intro n
  induction n using Nat.strongRecOn with
  | _ n ih =>
    intro c a hc
    by_cases h : 2 ≤ c
    · have hr := halfS_range h
      by_cases g : a < halfS c
      · rw [longS_left h g]
        have := ih (halfS c) (by omega) (halfS c) a rfl
        omega
      · rw [longS_right h g]
        have := ih (c - halfS c) (by omega) (c - halfS c) (a - halfS c) rfl
        omega
    · rw [longS_one a h]; omega
theorem pathS_length : ∀ (n : Nat) (l : List Int) (a : Nat), l.length = n → (pathS l a).length = longS l.length a := by
  intro n
  induction n using Nat.strongRecOn with
  | _ n ih =>
    intro l a hl
    by_cases h : 2 ≤ l.length
    · have hr := halfS_range h
      by_cases g : a < halfS l.length
      · have e : (l.take (halfS l.length)).length = halfS l.length := by rw [List.length_take]; omega
        rw [pathS_left h g, longS_left h g, List.length_append, ih (halfS l.length) (by omega) _ a e, e]; rfl
      · have e : (l.drop (halfS l.length)).length = l.length - halfS l.length := by rw [List.length_drop]
        rw [pathS_right h g, longS_right h g, List.length_append, ih (l.length - halfS l.length) (by omega) _ _ e, e]; rfl
    · rw [pathS_one a h, longS_one a h]; rfl
theorem proof_Long_ev : ∀ (n c a : Nat), c = n → c ≤ 1099511627776 → a ≤ 1099511627776 → Ev (fun k => proof_Long.f k (c : Int) (a : Int)) ((longS c a : Nat) : Int) := by
  intro n
  induction n using Nat.strongRecOn with
  | _ n ih =>
    intro c a hc hb ha
    by_cases h : 2 ≤ c
    · have hr := halfS_range h
      refine Ev.step (f := fun k => (tree_Half.f k (c : Int)).bind fun t170 => (if (a : Int) < t170 then ((proof_Long.f k t170 (a : Int)).bind fun t171 => (some (wrap64 (1 + t171)))) else ((proof_Long.f k (wrap64 ((c : Int) - t170)) (wrap64 ((a : Int) - t170))).bind fun t172 => (some (wrap64 (1 + t172)))))) (fun k => ?_) ?_
      · simp only [proof_Long.f]; rw [if_neg (by omega)]
      · refine Ev.bind (tree_Half_ev c (by omega) hb) ?_
        by_cases g : a < halfS c
        · refine ev_pos (by omega) (Ev.bind (ih (halfS c) (by omega) (halfS c) a rfl (by omega) ha) ?_)
          have := longS_le (halfS c) (halfS c) a rfl
          rw [w64 (by omega) (by omega), longS_left h g, show (1 + ((longS (halfS c) a : Nat) : Int)) = ((longS (halfS c) a + 1 : Nat) : Int) from by omega]
          exact Ev.now _
        · refine ev_neg (by omega) ?_
          rw [w64 (x := (c : Int) - (halfS c : Int)) (by omega) (by omega), w64 (x := (a : Int) - (halfS c : Int)) (by omega) (by omega), show (c : Int) - (halfS c : Int) = ((c - halfS c : Nat) : Int) from by omega, show (a : Int) - (halfS c : Int) = ((a - halfS c : Nat) : Int) from by omega]
          refine Ev.bind (ih (c - halfS c) (by omega) (c - halfS c) (a - halfS c) rfl (by omega) (by omega)) ?_
          have := longS_le (c - halfS c) (c - halfS c) (a - halfS c) rfl
          rw [w64 (by omega) (by omega), longS_right h g, show (1 + ((longS (c - halfS c) (a - halfS c) : Nat) : Int)) = ((longS (c - halfS c) (a - halfS c) + 1 : Nat) : Int) from by omega]
          exact Ev.now _
    · refine Ev.step (f := fun k => some 0) (fun k => ?_) ?_
      · simp only [proof_Long.f]; rw [if_pos (by omega)]
      · rw [longS_one a h]; exact Ev.now _
theorem proof_path_ev : ∀ (n : Nat) (l : List Int) (a : Nat), l.length = n → 1 ≤ n → n ≤ 1099511627776 → a < n → Ev (fun k => proof_path.f k l (a : Int)) (pathS l a) := by
  intro n
  induction n using Nat.strongRecOn with
  | _ n ih =>
    intro l a hl h1 hb ha
    by_cases h : 2 ≤ l.length
    · have hr := halfS_range h
      have et : (l.take (halfS l.length)).length = halfS l.length := by rw [List.length_take]; omega
      have ed : (l.drop (halfS l.length)).length = l.length - halfS l.length := by rw [List.length_drop]
      refine Ev.step (f := fun k => (tree_Half.f k (l.length : Int)).bind fun t113 => (if (a : Int) < t113 then (if 0 ≤ t113 then (if t113 ≤ (l.length : Int) then ((proof_path.f k (l.take (t113 : Int).toNat) (a : Int)).bind fun t115 => ((tree_Of.f k (l.drop (t113 : Int).toNat)).bind fun t119 => (if t115.length < 17592186044416 then (some (t115 ++ [t119])) else (none)))) else (none)) else (none)) else (if 0 ≤ t113 then (if t113 ≤ (l.length : Int) then ((proof_path.f k (l.drop (t113 : Int).toNat) (wrap64 ((a : Int) - t113))).bind fun t124 => ((tree_Of.f k (l.take (t113 : Int).toNat)).bind fun t128 => (if t124.length < 17592186044416 then (some (t124 ++ [t128])) else (none)))) else (none)) else (none)))) (fun k => ?_) ?_
      · simp only [proof_path.f]; rw [if_neg (by omega)]
      · refine Ev.bind (tree_Half_ev l.length (by omega) (by omega)) ?_
        by_cases g : a < halfS l.length
        · refine ev_pos (by omega) (ev_pos (by omega) (ev_pos (by omega) ?_))
          rw [Int.toNat_natCast]
          refine Ev.bind (ih (halfS l.length) (by omega) _ a et (by omega) (by omega) g) (Ev.bind (tree_Of_ev _ _ ed (by omega) (by omega)) ?_)
          have hp := pathS_length _ (l.take (halfS l.length)) a rfl
          have hle := longS_le _ (l.take (halfS l.length)).length a rfl
          rw [pathS_left h g]
          exact ev_pos (by omega) (Ev.now _)
        · refine ev_neg (by omega) (ev_pos (by omega) (ev_pos (by omega) ?_))
          rw [Int.toNat_natCast, w64 (x := (a : Int) - (halfS l.length : Int)) (by omega) (by omega), show (a : Int) - (halfS l.length : Int) = ((a - halfS l.length : Nat) : Int) from by omega]
          refine Ev.bind (ih (l.length - halfS l.length) (by omega) _ _ ed (by omega) (by omega) (by omega)) (Ev.bind (tree_Of_ev _ _ et (by omega) (by omega)) ?_)
          have hp := pathS_length _ (l.drop (halfS l.length)) (a - halfS l.length) rfl
          have hle := longS_le _ (l.drop (halfS l.length)).length (a - halfS l.length) rfl
          rw [pathS_right h g]
          exact ev_pos (by omega) (Ev.now _)
    · refine Ev.step (f := fun k => some []) (fun k => ?_) ?_
      · simp only [proof_path.f]; rw [if_pos (by omega)]
      · rw [pathS_one a h]; exact Ev.now _
theorem proof_up_ev : ∀ (n c a : Nat) (x : Int) (p : List Int), c = n → 1 ≤ c → c ≤ 1099511627776 → a < c → p.length = longS c a → Ev (fun k => proof_up.f k (c : Int) (a : Int) x p) (upS c a x p) := by
  intro n
  induction n using Nat.strongRecOn with
  | _ n ih =>
    intro c a x p hc h1 hb ha hp
    by_cases h : 2 ≤ c
    · have hr := halfS_range h
      have hle := longS_le c c a rfl
      have hp1 : 1 ≤ p.length := by
        rw [hp]
        by_cases g : a < halfS c
        · rw [longS_left h g]; omega
        · rw [longS_right h g]; omega
      have hw : wrap64 ((p.length : Int) - 1) = ((p.length - 1 : Nat) : Int) := by rw [w64 (by omega) (by omega)]; omega
      have ht : (p.take (p.length - 1)).length = p.length - 1 := by rw [List.length_take]; omega
      refine Ev.step (f := fun k => (tree_Half.f k (c : Int)).bind fun t173 => (if (a : Int) < t173 then (if 0 ≤ (wrap64 ((p.length : Int) - 1)) then (if (wrap64 ((p.length : Int) - 1)) ≤ (p.length : Int) then ((proof_up.f k t173 (a : Int) x (p.take ((wrap64 ((p.length : Int) - 1)) : Int).toNat)).bind fun t175 => (if (wrap64 ((p.length : Int) - 1)) < (p.length : Int) then ((seal_Pair.f t175 (rd p (wrap64 ((p.length : Int) - 1)))).bind fun t177 => (some t177)) else (none))) else (none)) else (none)) else (if 0 ≤ (wrap64 ((p.length : Int) - 1)) then (if (wrap64 ((p.length : Int) - 1)) < (p.length : Int) then (if (wrap64 ((p.length : Int) - 1)) ≤ (p.length : Int) then ((proof_up.f k (wrap64 ((c : Int) - t173)) (wrap64 ((a : Int) - t173)) x (p.take ((wrap64 ((p.length : Int) - 1)) : Int).toNat)).bind fun t180 => ((seal_Pair.f (rd p (wrap64 ((p.length : Int) - 1))) t180).bind fun t181 => (some t181))) else (none)) else (none)) else (none)))) (fun k => ?_) ?_
      · simp only [proof_up.f]; rw [if_neg (by omega)]
      · refine Ev.bind (tree_Half_ev c (by omega) hb) ?_
        rw [hw, Int.toNat_natCast]
        by_cases g : a < halfS c
        · refine ev_pos (by omega) (ev_pos (by omega) (ev_pos (by omega) ?_))
          refine Ev.bind (ih (halfS c) (by omega) (halfS c) a x _ rfl (by omega) (by omega) g (by rw [ht, hp, longS_left h g]; omega)) (ev_pos (by omega) ?_)
          simp only [seal_Pair_eq, Option.bind_some]
          rw [upS_left x p h g]
          exact Ev.now _
        · refine ev_neg (by omega) (ev_pos (by omega) (ev_pos (by omega) (ev_pos (by omega) ?_)))
          rw [w64 (x := (c : Int) - (halfS c : Int)) (by omega) (by omega), w64 (x := (a : Int) - (halfS c : Int)) (by omega) (by omega), show (c : Int) - (halfS c : Int) = ((c - halfS c : Nat) : Int) from by omega, show (a : Int) - (halfS c : Int) = ((a - halfS c : Nat) : Int) from by omega]
          refine Ev.bind (ih (c - halfS c) (by omega) (c - halfS c) (a - halfS c) x _ rfl (by omega) (by omega) (by omega) (by rw [ht, hp, longS_right h g]; omega)) ?_
          simp only [seal_Pair_eq, Option.bind_some]
          rw [upS_right x p h g]
          exact Ev.now _
    · refine Ev.step (f := fun k => some x) (fun k => ?_) ?_
      · simp only [proof_up.f]; rw [if_pos (by omega)]
      · rw [upS_one a x p h]; exact Ev.now _
/-- what a claim must be -/
def LeadOk (c a x : Int) (p : List Int) : Prop := 1 ≤ c ∧ c ≤ 64 ∧ 0 ≤ a ∧ a < c ∧ 0 ≤ x ∧ x < 2147483647 ∧ Seals01 p ∧ p.length = longS c.toNat a.toNat
instance (c a x : Int) (p : List Int) : Decidable (LeadOk c a x p) := by
  unfold LeadOk; have : Decidable (Seals01 p) := decidable_of_iff (allB p = true) (allB_iff p); infer_instance
theorem leadOk {c a : Nat} {x : Int} {p : List Int} (h1 : c ≤ 64) (h2 : a < c) (x0 : 0 ≤ x) (x1 : x < 2147483647) (hs : Seals01 p) (hp : p.length = longS c a) : LeadOk (c : Int) (a : Int) x p :=
  ⟨by omega, by omega, by omega, by omega, x0, x1, hs, hp⟩
/-- Lead's answer -/
def leadA (c a x : Int) (p : List Int) : Int × Bool := if LeadOk c a x p then (upS c.toNat a.toNat x p, true) else (0, false)
theorem proof_Lead_ev (c a x : Int) (p : List Int) (hp : p.length ≤ 17592186044416) : Ev (fun k => proof_Lead.f k c a x p) (leadA c a x p) := by
  unfold proof_Lead.f leadA
  by_cases h1 : c < 1
  · rw [if_neg (by unfold LeadOk; omega)]; exact ev_pos h1 (Ev.now _)
  refine ev_neg h1 ?_
  by_cases h2 : c > 64
  · rw [if_neg (by unfold LeadOk; omega)]; exact ev_pos h2 (Ev.now _)
  refine ev_neg h2 ?_
  by_cases h3 : a < 0
  · rw [if_neg (by unfold LeadOk; omega)]; exact ev_pos h3 (Ev.now _)
  refine ev_neg h3 ?_
  by_cases h4 : a ≥ c
  · rw [if_neg (by unfold LeadOk; omega)]; exact ev_pos h4 (Ev.now _)
  refine ev_neg h4 ?_
  simp only [seal_Is_eq, Option.bind_some]
  by_cases h5 : 0 ≤ x ∧ x < 2147483647
  · refine ev_pos (decide_eq_true h5) (Ev.bind (seal_All_ev p hp) ?_)
    by_cases h6 : allB p = true
    · refine ev_pos h6 ?_
      obtain ⟨c, rfl⟩ := Int.eq_ofNat_of_zero_le (show 0 ≤ c by omega)
      obtain ⟨a, rfl⟩ := Int.eq_ofNat_of_zero_le (show 0 ≤ a by omega)
      refine Ev.bind (proof_Long_ev c c a rfl (by omega) (by omega)) ?_
      by_cases h7 : p.length = longS c a
      · rw [if_pos (by unfold LeadOk; exact ⟨by omega, by omega, by omega, by omega, h5.1, h5.2, (allB_iff p).mp h6, h7⟩)]
        exact ev_pos (by omega) (Ev.bind (proof_up_ev c c a x p rfl (by omega) (by omega) (by omega) h7) (Ev.now _))
      · rw [if_neg (by unfold LeadOk; intro h; exact h7 h.2.2.2.2.2.2.2)]
        exact ev_neg (by omega) (Ev.now _)
    · rw [if_neg (by unfold LeadOk; intro h; exact h6 ((allB_iff p).mpr h.2.2.2.2.2.2.1))]
      exact ev_neg h6 (Ev.now _)
  · rw [if_neg (by unfold LeadOk; omega)]
    exact ev_neg (by simpa using h5) (Ev.now _)
/-- Check's answer -/
def checkA (r c a x : Int) (p : List Int) : Bool := (leadA c a x p).2 && ((leadA c a x p).1 == r)
theorem proof_Check_ev (r c a x : Int) (p : List Int) (hp : p.length ≤ 17592186044416) : Ev (fun k => proof_Check.f k r c a x p) (checkA r c a x p) := by
  unfold proof_Check.f
  refine Ev.bind (proof_Lead_ev c a x p hp) ?_
  unfold checkA
  by_cases h : (leadA c a x p).2 = true
  · rw [h, Bool.true_and]; exact ev_pos rfl (Ev.now _)
  · rw [Bool.eq_false_iff.mpr h, Bool.false_and]; exact ev_neg (by simp) (Ev.now _)
theorem checkA_no {r c a x : Int} {p : List Int} (h : ¬ LeadOk c a x p) : checkA r c a x p = false := by
  unfold checkA leadA; rw [if_neg h]; rfl
theorem checkA_yes {r c a x : Int} {p : List Int} (h : LeadOk c a x p) : checkA r c a x p = (upS c.toNat a.toNat x p == r) := by
  unfold checkA leadA; rw [if_pos h]; rfl
/-- Path's answer -/
def pathA (l : List Int) (a : Int) : List Int × Int := if mayB l = true ∧ 0 ≤ a ∧ a < (l.length : Int) then (pathS l a.toNat, 0) else ([], 1100)
theorem proof_Path_ev (l : List Int) (a : Int) (hl : l.length ≤ 17592186044416) : Ev (fun k => proof_Path.f k l a) (pathA l a) := by
  unfold proof_Path.f pathA
  refine Ev.bind (tree_May_ev l hl) ?_
  by_cases h : mayB l = true
  · refine ev_pos h ?_
    have h' := h
    unfold mayB at h'
    rw [Bool.and_eq_true, decide_eq_true_eq] at h'
    by_cases h1 : a < 0
    · rw [if_neg (by omega)]; exact ev_pos h1 (Ev.now _)
    refine ev_neg h1 ?_
    by_cases h2 : a ≥ (l.length : Int)
    · rw [if_neg (by omega)]; exact ev_pos h2 (Ev.now _)
    refine ev_neg h2 ?_
    rw [if_pos ⟨h, by omega, by omega⟩]
    obtain ⟨a, rfl⟩ := Int.eq_ofNat_of_zero_le (show 0 ≤ a by omega)
    exact Ev.bind (proof_path_ev l.length l a rfl (by omega) (by omega) (by omega)) (Ev.now _)
  · rw [if_neg (by intro h'; exact h h'.1)]
    exact ev_neg h (Ev.now _)
theorem mayB_ok {l : List Int} (h : Seals01 l) (h1 : 1 ≤ l.length) (h2 : l.length ≤ 64) : mayB l = true := by
  unfold mayB; rw [decide_eq_true ⟨h1, h2⟩, (allB_iff l).mpr h]; rfl
theorem pathA_ok {l : List Int} (h : Seals01 l) (h2 : l.length ≤ 64) {a : Nat} (ha : a < l.length) : pathA l (a : Int) = (pathS l a, 0) := by
  unfold pathA; rw [if_pos ⟨mayB_ok h (by omega) h2, by omega, by omega⟩]; rfl
theorem pathS_seals : ∀ (n : Nat) (l : List Int) (a : Nat), l.length = n → Seals01 l → Seals01 (pathS l a) := by
  intro n
  induction n using Nat.strongRecOn with
  | _ n ih =>
    intro l a hl hs
    by_cases h : 2 ≤ l.length
    · have hr := halfS_range h
      have et : (l.take (halfS l.length)).length = halfS l.length := by rw [List.length_take]; omega
      have ed : (l.drop (halfS l.length)).length = l.length - halfS l.length := by rw [List.length_drop]
      by_cases g : a < halfS l.length
      · rw [pathS_left h g]
        intro x hx
        rw [List.mem_append, List.mem_singleton] at hx
        rcases hx with hx | rfl
        · exact ih (halfS l.length) (by omega) _ a et (hs.take _) x hx
        · exact rootS_range (hs.drop _) (by omega)
      · rw [pathS_right h g]
        intro x hx
        rw [List.mem_append, List.mem_singleton] at hx
        rcases hx with hx | rfl
        · exact ih (l.length - halfS l.length) (by omega) _ _ ed (hs.drop _) x hx
        · exact rootS_range (hs.take _) (by omega)
    · rw [pathS_one a h]; intro x hx; simp at hx
theorem rd_last (q : List Int) (r : Int) : rd (q ++ [r]) (((q ++ [r]).length - 1 : Nat) : Int) = r := by
  rw [rd_nat _ _ (by simp)]; simp
theorem take_last (q : List Int) (r : Int) : (q ++ [r]).take ((q ++ [r]).length - 1) = q := by simp
theorem up_path : ∀ (n : Nat) (l : List Int) (a : Nat) (ha : a < l.length), l.length = n → upS n a l[a] (pathS l a) = rootS l := by
  intro n
  induction n using Nat.strongRecOn with
  | _ n ih =>
    intro l a ha hl
    subst hl
    by_cases h : 2 ≤ l.length
    · have hr := halfS_range h
      have et : (l.take (halfS l.length)).length = halfS l.length := by rw [List.length_take]; omega
      have ed : (l.drop (halfS l.length)).length = l.length - halfS l.length := by rw [List.length_drop]
      by_cases g : a < halfS l.length
      · have := ih (halfS l.length) (by omega) (l.take (halfS l.length)) a (by omega) et
        rw [List.getElem_take] at this
        rw [upS_left _ _ h g, pathS_left h g, rd_last, take_last, this, ← rootS_two h]
      · have := ih (l.length - halfS l.length) (by omega) (l.drop (halfS l.length)) (a - halfS l.length) (by omega) ed
        rw [List.getElem_drop] at this
        have e : halfS l.length + (a - halfS l.length) = a := by omega
        simp only [e] at this
        rw [upS_right _ _ h g, pathS_right h g, rd_last, take_last, this, ← rootS_two h]
    · obtain ⟨x, rfl⟩ : ∃ x, l = [x] := List.length_eq_one_iff.mp (by omega)
      have : a = 0 := by simp at ha; exact ha
      subst this
      rw [upS_one _ _ _ h, rootS_one]; rfl
theorem rd_range {p : List Int} (h : Seals01 p) (i : Nat) : 0 ≤ rd p (i : Int) ∧ rd p (i : Int) < 2147483647 := by
  by_cases g : i < p.length
  · rw [rd_nat p i g]; exact h _ (List.getElem_mem g)
  · have : rd p (i : Int) = 0 := by simp [rd, List.getD_eq_getElem?_getD, List.getElem?_eq_none (show p.length ≤ i by omega)]
    rw [this]; omega
theorem upS_range {c a : Nat} {x : Int} {p : List Int} (h0 : 0 ≤ x) (h1 : x < 2147483647) : 0 ≤ upS c a x p ∧ upS c a x p < 2147483647 := by
  by_cases h : 2 ≤ c
  · by_cases g : a < halfS c
    · rw [upS_left _ _ h g]; exact pairS_range _ _
    · rw [upS_right _ _ h g]; exact pairS_range _ _
  · rw [upS_one _ _ _ h]; exact ⟨h0, h1⟩
theorem up_leaf : ∀ (n c a : Nat) (x y : Int) (p : List Int), c = n → 0 ≤ x → x < 2147483647 → 0 ≤ y → y < 2147483647 → upS c a x p = upS c a y p → x = y := by
  intro n
  induction n using Nat.strongRecOn with
  | _ n ih =>
    intro c a x y p hc x0 x1 y0 y1 he
    by_cases h : 2 ≤ c
    · have hr := halfS_range h
      by_cases g : a < halfS c
      · rw [upS_left _ _ h g, upS_left _ _ h g] at he
        exact ih (halfS c) (by omega) (halfS c) a x y _ rfl x0 x1 y0 y1 (pairS_left he (upS_range x0 x1).1 (upS_range x0 x1).2 (upS_range y0 y1).1 (upS_range y0 y1).2)
      · rw [upS_right _ _ h g, upS_right _ _ h g] at he
        exact ih (c - halfS c) (by omega) (c - halfS c) (a - halfS c) x y _ rfl x0 x1 y0 y1 (pairS_right he (upS_range x0 x1).1 (upS_range x0 x1).2 (upS_range y0 y1).1 (upS_range y0 y1).2)
    · rwa [upS_one _ _ _ h, upS_one _ _ _ h] at he
theorem up_step : ∀ (n c a : Nat) (x : Int) (p : List Int) (i : Nat) (hi : i < p.length) (v : Int), c = n → p.length = longS c a → Seals01 p → 0 ≤ x → x < 2147483647 → 0 ≤ v → v < 2147483647 → upS c a x (p.set i v) = upS c a x p → v = p[i] := by
  intro n
  induction n using Nat.strongRecOn with
  | _ n ih =>
    intro c a x p i hi v hc hp hs x0 x1 v0 v1 he
    by_cases h : 2 ≤ c
    · have hr := halfS_range h
      have hlast := rd_range hs (p.length - 1)
      have hlen : (p.set i v).length = p.length := List.length_set
      have ht : (p.take (p.length - 1)).length = p.length - 1 := by rw [List.length_take]; omega
      have hu : ∀ (q : List Int) (c a : Nat), 0 ≤ upS c a x q ∧ upS c a x q < 2147483647 := fun q c a => upS_range x0 x1
      by_cases g : a < halfS c
      · rw [upS_left _ _ h g, upS_left _ _ h g, hlen] at he
        by_cases e : i = p.length - 1
        · rw [List.take_set, List.set_eq_of_length_le (l := p.take (p.length - 1)) (by omega), rd_nat (p.set i v) _ (by omega)] at he
          have := pairS_right he (by subst e; simp; omega) (by subst e; simp; omega) hlast.1 hlast.2
          rw [rd_nat p _ (by omega)] at this
          subst e
          simpa using this
        · rw [List.take_set, rd_nat (p.set i v) _ (by omega), List.getElem_set_ne (by omega), ← rd_nat p _ (by omega)] at he
          have := ih (halfS c) (by omega) (halfS c) a x (p.take (p.length - 1)) i (by omega) v rfl (by rw [ht, hp, longS_left h g]; omega) (hs.take _) x0 x1 v0 v1 (pairS_left he (hu _ _ _).1 (hu _ _ _).2 (hu _ _ _).1 (hu _ _ _).2)
          rwa [List.getElem_take] at this
      · rw [upS_right _ _ h g, upS_right _ _ h g, hlen] at he
        by_cases e : i = p.length - 1
        · rw [List.take_set, List.set_eq_of_length_le (l := p.take (p.length - 1)) (by omega), rd_nat (p.set i v) _ (by omega)] at he
          have := pairS_left he (by subst e; simp; omega) (by subst e; simp; omega) hlast.1 hlast.2
          rw [rd_nat p _ (by omega)] at this
          subst e
          simpa using this
        · rw [List.take_set, rd_nat (p.set i v) _ (by omega), List.getElem_set_ne (by omega), ← rd_nat p _ (by omega)] at he
          have := ih (c - halfS c) (by omega) (c - halfS c) (a - halfS c) x (p.take (p.length - 1)) i (by omega) v rfl (by rw [ht, hp, longS_right h g]; omega) (hs.take _) x0 x1 v0 v1 (pairS_right he (hu _ _ _).1 (hu _ _ _).2 (hu _ _ _).1 (hu _ _ _).2)
          rwa [List.getElem_take] at this
    · rw [hp, longS_one a h] at hi; omega
theorem check_path {l : List Int} (hs : Seals01 l) (h2 : l.length ≤ 64) {a : Nat} (ha : a < l.length) : checkA (rootS l) (l.length : Int) (a : Int) l[a] (pathS l a) = true := by
  rw [checkA_yes (leadOk h2 ha (hs _ (List.getElem_mem ha)).1 (hs _ (List.getElem_mem ha)).2 (pathS_seals _ l a rfl hs) (pathS_length _ l a rfl))]
  simp only [Int.toNat_natCast]
  rw [up_path l.length l a ha rfl, beq_self_eq_true]
theorem check_other_leaf {l : List Int} (hs : Seals01 l) (h2 : l.length ≤ 64) {a : Nat} (ha : a < l.length) (y : Int) (y0 : 0 ≤ y) (y1 : y < 2147483647) (hne : y ≠ l[a]) : checkA (rootS l) (l.length : Int) (a : Int) y (pathS l a) = false := by
  rw [checkA_yes (leadOk h2 ha y0 y1 (pathS_seals _ l a rfl hs) (pathS_length _ l a rfl))]
  simp only [Int.toNat_natCast]
  rw [beq_eq_false_iff_ne, ← up_path l.length l a ha rfl]
  intro e
  exact hne (up_leaf l.length l.length a y l[a] _ rfl y0 y1 (hs _ (List.getElem_mem ha)).1 (hs _ (List.getElem_mem ha)).2 e)
theorem check_other_step {l : List Int} (hs : Seals01 l) (h2 : l.length ≤ 64) {a : Nat} (ha : a < l.length) (i : Nat) (hi : i < (pathS l a).length) (v : Int) (v0 : 0 ≤ v) (v1 : v < 2147483647) (hne : v ≠ (pathS l a)[i]) : checkA (rootS l) (l.length : Int) (a : Int) l[a] ((pathS l a).set i v) = false := by
  have hp := pathS_seals _ l a rfl hs
  have hx := hs _ (List.getElem_mem ha)
  have hp' : Seals01 ((pathS l a).set i v) := by
    intro y hy
    rcases List.mem_or_eq_of_mem_set hy with h | h
    · exact hp y h
    · omega
  rw [checkA_yes (leadOk h2 ha hx.1 hx.2 hp' (by rw [List.length_set]; exact pathS_length _ l a rfl))]
  simp only [Int.toNat_natCast]
  rw [beq_eq_false_iff_ne, ← up_path l.length l a ha rfl]
  intro e
  exact hne (up_step l.length l.length a l[a] _ i hi v rfl (pathS_length _ l a rfl) hp hx.1 hx.2 v0 v1 e)
theorem check_short {l : List Int} (hs : Seals01 l) {a : Nat} (ha : a < l.length) (x : Int) (p : List Int) (hne : p.length ≠ longS l.length a) : checkA (rootS l) (l.length : Int) (a : Int) x p = false :=
  checkA_no (fun h => hne h.2.2.2.2.2.2.2)

theorem ref_mod_eq (a : Int) : ossuaryref1_mod.f a = some (a % 2147483647) := by
  unfold ossuaryref1_mod.f
  congr 1
  by_cases h : 0 ≤ a
  · rw [tm (x := a) _ h, w64 (x := a % 2147483647 + 2147483647) (by omega) (by omega), tm _ (by omega)]; omega
  · rw [tm_neg (a := a) (by omega), w64 (x := -((-a) % 2147483647) + 2147483647) (by omega) (by omega), tm _ (by omega)]; omega
theorem ref_Pair_eq (a b : Int) : ossuaryref1_Pair.f a b = some (pairS a b) := by
  unfold ossuaryref1_Pair.f
  rw [ref_mod_eq, ref_mod_eq]
  simp only [Option.bind_some]
  congr 1
  have ha : 0 ≤ a % 2147483647 ∧ a % 2147483647 < 2147483647 := by omega
  have hb : 0 ≤ b % 2147483647 ∧ b % 2147483647 < 2147483647 := by omega
  rw [w64 (x := a % 2147483647 * 65537) (by omega) (by omega), tm (x := a % 2147483647 * 65537) _ (by omega), w64 (x := b % 2147483647 * 65537) (by omega) (by omega), tm (x := b % 2147483647 * 65537) _ (by omega)]
  have hc : 0 ≤ b % 2147483647 * 65537 % 2147483647 ∧ b % 2147483647 * 65537 % 2147483647 < 2147483647 := by omega
  have hd : 0 ≤ a % 2147483647 * 65537 % 2147483647 ∧ a % 2147483647 * 65537 % 2147483647 < 2147483647 := by omega
  rw [w64 (x := 911 + a % 2147483647 * 65537 % 2147483647) (by omega) (by omega), w64 (x := b % 2147483647 * 65537 % 2147483647 * 65537) (by omega) (by omega), w64 (x := 911 + a % 2147483647 * 65537 % 2147483647 + b % 2147483647 * 65537 % 2147483647 * 65537) (by omega) (by omega), tm _ (by omega)]
  unfold pairS
  omega

theorem ref_half_loop (c : Nat) (hc : c ≤ 1099511627776) : ∀ (f h k : Nat), 1 ≤ h → h ≤ c → c < h + f + 1 → f < k → ossuaryref1_half.l0 k (c : Int) (h : Int) = some ((halfGo f h c : Nat) : Int) := by
  intro f
  induction f with
  | zero =>
    intro h k h0 h1 h2 hk
    obtain ⟨k, rfl⟩ : ∃ m, k = m + 1 := ⟨k - 1, by omega⟩
    simp only [ossuaryref1_half.l0, halfGo]
    rw [w64 (by omega) (by omega), if_neg (by omega)]
  | succ f ih =>
    intro h k h0 h1 h2 hk
    obtain ⟨k, rfl⟩ : ∃ m, k = m + 1 := ⟨k - 1, by omega⟩
    simp only [ossuaryref1_half.l0, halfGo]
    rw [w64 (x := 2 * (h : Int)) (by omega) (by omega)]
    by_cases g : 2 * h < c
    · rw [if_pos (by omega), if_pos g, show (2 * (h : Int)) = ((2 * h : Nat) : Int) from by omega]
      exact ih (2 * h) k (by omega) (by omega) (by omega) (by omega)
    · rw [if_neg (by omega), if_neg g]
theorem ref_half_ev (c : Nat) (h1 : 1 ≤ c) (hc : c ≤ 1099511627776) : Ev (fun k => ossuaryref1_half.f k (c : Int)) ((halfS c : Nat) : Int) :=
  ev_ge (c + 1) (fun k hk => ref_half_loop c hc c 1 k (by omega) (by omega) (by omega) (by omega))
theorem ref_root_ev : ∀ (n : Nat) (l : List Int), l.length = n → 1 ≤ n → n ≤ 1099511627776 → Ev (fun k => ossuaryref1_root.f k l) (rootS l) := by
  intro n
  induction n using Nat.strongRecOn with
  | _ n ih =>
    intro l hl h1 h2
    by_cases e : n = 1
    · obtain ⟨x, rfl⟩ : ∃ x, l = [x] := List.length_eq_one_iff.mp (by omega)
      refine Ev.step (f := fun _ => some x) (fun k => ?_) (by rw [rootS_one]; exact Ev.now x)
      simp only [ossuaryref1_root.f]
      simp [rd]
    · have hr := halfS_range (c := l.length) (by omega)
      refine Ev.step (f := fun k => (ossuaryref1_half.f k (l.length : Int)).bind fun t => (if 0 ≤ t then (if t ≤ (l.length : Int) then ((ossuaryref1_root.f k (l.take (t : Int).toNat)).bind fun a => ((ossuaryref1_root.f k (l.drop (t : Int).toNat)).bind fun b => ((ossuaryref1_Pair.f a b).bind fun t130 => (some t130)))) else (none)) else (none))) (fun k => ?_) ?_
      · simp only [ossuaryref1_root.f]; rw [if_neg (by omega)]
      · refine Ev.bind (ref_half_ev l.length (by omega) (by omega)) ?_
        refine ev_pos (by omega) (ev_pos (by omega) ?_)
        rw [Int.toNat_natCast]
        refine Ev.bind (ih (halfS l.length) (by omega) _ (by rw [List.length_take]; omega) (by omega) (by omega)) ?_
        refine Ev.bind (ih (l.length - halfS l.length) (by omega) _ (by rw [List.length_drop]) (by omega) (by omega)) ?_
        simp only [ref_Pair_eq, Option.bind_some]
        rw [rootS_two (l := l) (by omega)]
        exact Ev.now _
theorem ref_SealNum_eq (x : Int) : ossuaryref1_SealNum.f x = some (decide (0 ≤ x ∧ x < 2147483647)) := by
  unfold ossuaryref1_SealNum.f
  by_cases h : x ≥ 0
  · rw [if_pos h]; congr 1; rw [decide_eq_decide]; omega
  · rw [if_neg h]; congr 1; symm; rw [decide_eq_false_iff_not]; omega
theorem ref_SealNums_loop (l : List Int) (m : Int) (hl : l.length ≤ 17592186044416) : ∀ (d i : Nat), i + d = l.length → Ev (fun k => ossuaryref1_SealNums.l0 k l m (i : Int)) (allB (l.drop i) && decide ((l.length : Int) ≤ m)) := by
  intro d
  induction d with
  | zero =>
    intro i hi
    refine ev_succ ?_
    simp only [ossuaryref1_SealNums.l0]
    rw [List.drop_of_length_le (by omega)]
    exact ev_neg (by omega) (Ev.now _)
  | succ d ih =>
    intro i hi
    have hlt : i < l.length := by omega
    refine ev_succ ?_
    simp only [ossuaryref1_SealNums.l0, ref_SealNum_eq, Option.bind_some]
    refine ev_pos (by omega) (ev_pos (by omega) ?_)
    rw [rd_nat l i hlt, w64 (by omega) (by omega), List.drop_eq_getElem_cons hlt]
    by_cases g : 0 ≤ l[i] ∧ l[i] < 2147483647
    · simp only [allB, List.all_cons, decide_eq_true g, Bool.true_and]
      exact ev_pos trivial (ih (i + 1) (by omega))
    · simp only [allB, List.all_cons, decide_eq_false g, Bool.false_and]
      exact ev_neg (by simp) (Ev.now false)
theorem ref_SealNums_ev (l : List Int) (m : Int) (hl : l.length ≤ 17592186044416) : Ev (fun k => ossuaryref1_SealNums.f k l m) (allB l && decide ((l.length : Int) ≤ m)) := by
  have := ref_SealNums_loop l m hl l.length 0 (by omega)
  rw [List.drop_zero] at this
  exact this
theorem ref_may (l : List Int) (h : ¬ (l.length : Int) < 1) : (allB l && decide ((l.length : Int) ≤ 64)) = mayB l := by
  unfold mayB
  rw [Bool.and_comm]
  congr 1
  rw [decide_eq_decide]; omega

theorem ref_path_ev : ∀ (n : Nat) (l : List Int) (a : Nat), l.length = n → 1 ≤ n → n ≤ 1099511627776 → a < n → Ev (fun k => ossuaryref1_path.f k l (a : Int)) (pathS l a) := by
  intro n
  induction n using Nat.strongRecOn with
  | _ n ih =>
    intro l a hl h1 hb ha
    by_cases h : 2 ≤ l.length
    · have hr := halfS_range h
      have et : (l.take (halfS l.length)).length = halfS l.length := by rw [List.length_take]; omega
      have ed : (l.drop (halfS l.length)).length = l.length - halfS l.length := by rw [List.length_drop]
      refine Ev.step (f := fun k => (ossuaryref1_half.f k (l.length : Int)).bind fun t113 => (if (a : Int) < t113 then (if 0 ≤ t113 then (if t113 ≤ (l.length : Int) then ((ossuaryref1_path.f k (l.take (t113 : Int).toNat) (a : Int)).bind fun t115 => ((ossuaryref1_root.f k (l.drop (t113 : Int).toNat)).bind fun t119 => (if t115.length < 17592186044416 then (some (t115 ++ [t119])) else (none)))) else (none)) else (none)) else (if 0 ≤ t113 then (if t113 ≤ (l.length : Int) then ((ossuaryref1_path.f k (l.drop (t113 : Int).toNat) (wrap64 ((a : Int) - t113))).bind fun t124 => ((ossuaryref1_root.f k (l.take (t113 : Int).toNat)).bind fun t128 => (if t124.length < 17592186044416 then (some (t124 ++ [t128])) else (none)))) else (none)) else (none)))) (fun k => ?_) ?_
      · simp only [ossuaryref1_path.f]; rw [if_neg (by omega)]
      · refine Ev.bind (ref_half_ev l.length (by omega) (by omega)) ?_
        by_cases g : a < halfS l.length
        · refine ev_pos (by omega) (ev_pos (by omega) (ev_pos (by omega) ?_))
          rw [Int.toNat_natCast]
          refine Ev.bind (ih (halfS l.length) (by omega) _ a et (by omega) (by omega) g) (Ev.bind (ref_root_ev _ _ ed (by omega) (by omega)) ?_)
          have hp := pathS_length _ (l.take (halfS l.length)) a rfl
          have hle := longS_le _ (l.take (halfS l.length)).length a rfl
          rw [pathS_left h g]
          exact ev_pos (by omega) (Ev.now _)
        · refine ev_neg (by omega) (ev_pos (by omega) (ev_pos (by omega) ?_))
          rw [Int.toNat_natCast, w64 (x := (a : Int) - (halfS l.length : Int)) (by omega) (by omega), show (a : Int) - (halfS l.length : Int) = ((a - halfS l.length : Nat) : Int) from by omega]
          refine Ev.bind (ih (l.length - halfS l.length) (by omega) _ _ ed (by omega) (by omega) (by omega)) (Ev.bind (ref_root_ev _ _ et (by omega) (by omega)) ?_)
          have hp := pathS_length _ (l.drop (halfS l.length)) (a - halfS l.length) rfl
          have hle := longS_le _ (l.drop (halfS l.length)).length (a - halfS l.length) rfl
          rw [pathS_right h g]
          exact ev_pos (by omega) (Ev.now _)
    · refine Ev.step (f := fun k => some []) (fun k => ?_) ?_
      · simp only [ossuaryref1_path.f]; rw [if_pos (by omega)]
      · rw [pathS_one a h]; exact Ev.now _
theorem ref_Path_ev (l : List Int) (a : Int) (hl : l.length ≤ 17592186044416) : Ev (fun k => ossuaryref1_Path.f k l a) (pathA l a) := by
  unfold ossuaryref1_Path.f
  by_cases h : (l.length : Int) < 1
  · refine ev_pos h ?_
    have : mayB l = false := by unfold mayB; rw [decide_eq_false (by omega), Bool.false_and]
    unfold pathA; rw [if_neg (by rw [this]; simp)]; exact Ev.now _
  · refine ev_neg h (Ev.bind (ref_SealNums_ev l 64 hl) ?_)
    rw [ref_may l h]
    unfold pathA
    by_cases g : mayB l = true
    · have h' := g
      unfold mayB at h'
      rw [Bool.and_eq_true, decide_eq_true_eq] at h'
      refine ev_pos g ?_
      by_cases h1 : a < 0
      · rw [if_neg (by omega)]; exact ev_pos h1 (Ev.now _)
      refine ev_neg h1 ?_
      by_cases h2 : a ≥ (l.length : Int)
      · rw [if_neg (by omega)]; exact ev_pos h2 (Ev.now _)
      refine ev_neg h2 ?_
      rw [if_pos ⟨g, by omega, by omega⟩]
      obtain ⟨a, rfl⟩ := Int.eq_ofNat_of_zero_le (show 0 ≤ a by omega)
      exact Ev.bind (ref_path_ev l.length l a rfl (by omega) (by omega) (by omega)) (Ev.now _)
    · rw [if_neg (by intro h'; exact g h'.1)]
      exact ev_neg g (Ev.now _)

theorem ref_Depth_ev : ∀ (n c a : Nat), c = n → 1 ≤ c → c ≤ 1099511627776 → a ≤ 1099511627776 → Ev (fun k => ossuaryref1_Depth.f k (c : Int) (a : Int)) ((longS c a : Nat) : Int) := by
  intro n
  induction n using Nat.strongRecOn with
  | _ n ih =>
    intro c a hc h1 hb ha
    by_cases h : 2 ≤ c
    · have hr := halfS_range h
      refine Ev.step (f := fun k => (ossuaryref1_half.f k (c : Int)).bind fun t170 => (if (a : Int) < t170 then ((ossuaryref1_Depth.f k t170 (a : Int)).bind fun t171 => (some (wrap64 (t171 + 1)))) else ((ossuaryref1_Depth.f k (wrap64 ((c : Int) - t170)) (wrap64 ((a : Int) - t170))).bind fun t172 => (some (wrap64 (t172 + 1)))))) (fun k => ?_) ?_
      · simp only [ossuaryref1_Depth.f]; rw [if_neg (by omega)]
      · refine Ev.bind (ref_half_ev c (by omega) hb) ?_
        by_cases g : a < halfS c
        · refine ev_pos (by omega) (Ev.bind (ih (halfS c) (by omega) (halfS c) a rfl (by omega) (by omega) ha) ?_)
          have := longS_le (halfS c) (halfS c) a rfl
          rw [w64 (by omega) (by omega), longS_left h g, show (((longS (halfS c) a : Nat) : Int) + 1) = ((longS (halfS c) a + 1 : Nat) : Int) from by omega]
          exact Ev.now _
        · refine ev_neg (by omega) ?_
          rw [w64 (x := (c : Int) - (halfS c : Int)) (by omega) (by omega), w64 (x := (a : Int) - (halfS c : Int)) (by omega) (by omega), show (c : Int) - (halfS c : Int) = ((c - halfS c : Nat) : Int) from by omega, show (a : Int) - (halfS c : Int) = ((a - halfS c : Nat) : Int) from by omega]
          refine Ev.bind (ih (c - halfS c) (by omega) (c - halfS c) (a - halfS c) rfl (by omega) (by omega) (by omega)) ?_
          have := longS_le (c - halfS c) (c - halfS c) (a - halfS c) rfl
          rw [w64 (by omega) (by omega), longS_right h g, show (((longS (c - halfS c) (a - halfS c) : Nat) : Int) + 1) = ((longS (c - halfS c) (a - halfS c) + 1 : Nat) : Int) from by omega]
          exact Ev.now _
    · refine Ev.step (f := fun k => some 0) (fun k => ?_) ?_
      · simp only [ossuaryref1_Depth.f]; rw [if_pos (by omega)]
      · rw [longS_one a h]; exact Ev.now _
theorem ref_climb_ev : ∀ (n c a : Nat) (x : Int) (p : List Int), c = n → 1 ≤ c → c ≤ 1099511627776 → a < c → p.length = longS c a → Ev (fun k => ossuaryref1_climb.f k (c : Int) (a : Int) x p) (upS c a x p) := by
  intro n
  induction n using Nat.strongRecOn with
  | _ n ih =>
    intro c a x p hc h1 hb ha hp
    by_cases h : 2 ≤ c
    · have hr := halfS_range h
      have hle := longS_le c c a rfl
      have hp1 : 1 ≤ p.length := by
        rw [hp]
        by_cases g : a < halfS c
        · rw [longS_left h g]; omega
        · rw [longS_right h g]; omega
      have hw : wrap64 ((p.length : Int) - 1) = ((p.length - 1 : Nat) : Int) := by rw [w64 (by omega) (by omega)]; omega
      have ht : (p.take (p.length - 1)).length = p.length - 1 := by rw [List.length_take]; omega
      refine Ev.step (f := fun k => (ossuaryref1_half.f k (c : Int)).bind fun t173 => (if (a : Int) < t173 then (if 0 ≤ (wrap64 ((p.length : Int) - 1)) then (if (wrap64 ((p.length : Int) - 1)) ≤ (p.length : Int) then ((ossuaryref1_climb.f k t173 (a : Int) x (p.take ((wrap64 ((p.length : Int) - 1)) : Int).toNat)).bind fun t175 => (if (wrap64 ((p.length : Int) - 1)) < (p.length : Int) then ((ossuaryref1_Pair.f t175 (rd p (wrap64 ((p.length : Int) - 1)))).bind fun t177 => (some t177)) else (none))) else (none)) else (none)) else (if 0 ≤ (wrap64 ((p.length : Int) - 1)) then (if (wrap64 ((p.length : Int) - 1)) < (p.length : Int) then (if (wrap64 ((p.length : Int) - 1)) ≤ (p.length : Int) then ((ossuaryref1_climb.f k (wrap64 ((c : Int) - t173)) (wrap64 ((a : Int) - t173)) x (p.take ((wrap64 ((p.length : Int) - 1)) : Int).toNat)).bind fun t180 => ((ossuaryref1_Pair.f (rd p (wrap64 ((p.length : Int) - 1))) t180).bind fun t181 => (some t181))) else (none)) else (none)) else (none)))) (fun k => ?_) ?_
      · simp only [ossuaryref1_climb.f]; rw [if_neg (by omega)]
      · refine Ev.bind (ref_half_ev c (by omega) hb) ?_
        rw [hw, Int.toNat_natCast]
        by_cases g : a < halfS c
        · refine ev_pos (by omega) (ev_pos (by omega) (ev_pos (by omega) ?_))
          refine Ev.bind (ih (halfS c) (by omega) (halfS c) a x _ rfl (by omega) (by omega) g (by rw [ht, hp, longS_left h g]; omega)) (ev_pos (by omega) ?_)
          simp only [ref_Pair_eq, Option.bind_some]
          rw [upS_left x p h g]
          exact Ev.now _
        · refine ev_neg (by omega) (ev_pos (by omega) (ev_pos (by omega) (ev_pos (by omega) ?_)))
          rw [w64 (x := (c : Int) - (halfS c : Int)) (by omega) (by omega), w64 (x := (a : Int) - (halfS c : Int)) (by omega) (by omega), show (c : Int) - (halfS c : Int) = ((c - halfS c : Nat) : Int) from by omega, show (a : Int) - (halfS c : Int) = ((a - halfS c : Nat) : Int) from by omega]
          refine Ev.bind (ih (c - halfS c) (by omega) (c - halfS c) (a - halfS c) x _ rfl (by omega) (by omega) (by omega) (by rw [ht, hp, longS_right h g]; omega)) ?_
          simp only [ref_Pair_eq, Option.bind_some]
          rw [upS_right x p h g]
          exact Ev.now _
    · refine Ev.step (f := fun k => some x) (fun k => ?_) ?_
      · simp only [ossuaryref1_climb.f]; rw [if_pos (by omega)]
      · rw [upS_one a x p h]; exact Ev.now _
theorem ref_CheckPath_ev (r c a x : Int) (p : List Int) (hp : p.length ≤ 17592186044416) : Ev (fun k => ossuaryref1_CheckPath.f k r c a x p) (checkA r c a x p) := by
  unfold ossuaryref1_CheckPath.f
  by_cases h1 : c < 1
  · rw [checkA_no (by unfold LeadOk; omega)]; exact ev_pos h1 (Ev.now _)
  refine ev_neg h1 ?_
  by_cases h2 : c > 64
  · rw [checkA_no (by unfold LeadOk; omega)]; exact ev_pos h2 (Ev.now _)
  refine ev_neg h2 ?_
  by_cases h3 : a < 0
  · rw [checkA_no (by unfold LeadOk; omega)]; exact ev_pos h3 (Ev.now _)
  refine ev_neg h3 ?_
  by_cases h4 : a ≥ c
  · rw [checkA_no (by unfold LeadOk; omega)]; exact ev_pos h4 (Ev.now _)
  refine ev_neg h4 ?_
  simp only [ref_SealNum_eq, Option.bind_some]
  obtain ⟨c, rfl⟩ := Int.eq_ofNat_of_zero_le (show 0 ≤ c by omega)
  obtain ⟨a, rfl⟩ := Int.eq_ofNat_of_zero_le (show 0 ≤ a by omega)
  have hle := longS_le c c a rfl
  by_cases h5 : 0 ≤ x ∧ x < 2147483647
  · refine ev_pos (decide_eq_true h5) (Ev.bind (ref_SealNums_ev p 64 hp) ?_)
    by_cases h6 : allB p = true ∧ p.length ≤ 64
    · refine ev_pos (by rw [h6.1, decide_eq_true (by omega)]; rfl) ?_
      refine Ev.bind (ref_Depth_ev c c a rfl (by omega) (by omega) (by omega)) ?_
      by_cases h7 : p.length = longS c a
      · rw [checkA_yes (show LeadOk (c : Int) (a : Int) x p from ⟨by omega, by omega, by omega, by omega, h5.1, h5.2, (allB_iff p).mp h6.1, h7⟩)]
        exact ev_pos (by omega) (Ev.bind (ref_climb_ev c c a x p rfl (by omega) (by omega) (by omega) h7) (Ev.now _))
      · rw [checkA_no (by intro h; exact h7 h.2.2.2.2.2.2.2)]
        exact ev_neg (by omega) (Ev.now _)
    · rw [checkA_no (by intro h; exact h6 ⟨(allB_iff p).mpr h.2.2.2.2.2.2.1, by have e : p.length = longS c a := h.2.2.2.2.2.2.2; omega⟩)]
      refine ev_neg (fun h => h6 ?_) (Ev.now _)
      rw [Bool.and_eq_true, decide_eq_true_eq] at h
      exact ⟨h.1, by omega⟩
  · rw [checkA_no (by unfold LeadOk; omega)]
    exact ev_neg (by simpa using h5) (Ev.now _)

theorem awake11 : Ev (fun k => ossuarylaw11_awake.f k) true :=
  Ev.of (k := 24) ossuarylaw11_awake.mono (by decide +kernel)

theorem same_loop (l : List Int) (hl : l.length ≤ 17592186044416) : ∀ (d i : Nat), i + d = l.length → Ev (fun k => ossuarylaw0_SameInts.l0 k l l (i : Int)) true := by
  intro d
  induction d with
  | zero =>
    intro i hi
    refine ev_succ ?_
    simp only [ossuarylaw0_SameInts.l0]
    exact ev_neg (by omega) (Ev.now _)
  | succ d ih =>
    intro i hi
    refine ev_succ ?_
    simp only [ossuarylaw0_SameInts.l0]
    refine ev_pos (by omega) (ev_pos (by omega) (ev_pos (by omega) (ev_pos trivial ?_)))
    rw [w64 (by omega) (by omega)]
    exact ih (i + 1) (by omega)
theorem same_ev (l : List Int) (hl : l.length ≤ 17592186044416) : Ev (fun k => ossuarylaw0_SameInts.f k l l) true := by
  unfold ossuarylaw0_SameInts.f
  exact ev_pos rfl (same_loop l hl l.length 0 (by omega))

theorem lend_eq (l : List Int) (h : l.length ≤ 17592186043904) : ossuarylaw0_LendInts.f l = some l := by
  unfold ossuarylaw0_LendInts.f ossuarylaw0_CopyInts.f
  simp only [Option.bind_some, List.nil_append, List.length_nil, List.length_cons]
  rw [if_pos (by omega), Option.bind_some, if_pos (by omega), if_pos (by omega), if_pos (by rw [List.length_append]; simp only [List.length_cons, List.length_nil]; omega)]
  simp
theorem kept_ev (l : List Int) (h : l.length ≤ 17592186044416) : Ev (fun k => ossuarylaw0_KeptInts.f k l l) true := same_ev l h
theorem spoil_loop : ∀ (d i : Nat) (l : List Int), l.length ≤ 17592186044416 → i + d = l.length → ∃ r, Ev (fun k => ossuarylaw0_SpoilInts.l0 k l (i : Int)) r := by
  intro d
  induction d with
  | zero =>
    intro i l hl hi
    refine ⟨l, ev_succ ?_⟩
    simp only [ossuarylaw0_SpoilInts.l0]
    exact ev_neg (by omega) (Ev.now _)
  | succ d ih =>
    intro i l hl hi
    obtain ⟨r, hr⟩ := ih (i + 1) (l.set (i : Int).toNat (wrap64 ((-9) - (rd l (i : Int))))) (by rw [List.length_set]; exact hl) (by rw [List.length_set]; omega)
    refine ⟨r, ev_succ ?_⟩
    simp only [ossuarylaw0_SpoilInts.l0]
    refine ev_pos (by omega) (ev_pos (by omega) ?_)
    rw [w64 (x := (i : Int) + 1) (by omega) (by omega)]
    exact hr
theorem spoil_ev (l : List Int) (h : l.length ≤ 17592186044416) : ∃ r, Ev (fun k => ossuarylaw0_SpoilInts.f k l) r := by
  obtain ⟨r, hr⟩ := spoil_loop l.length 0 l h (by omega)
  exact ⟨r, hr⟩

theorem Proofs : ossuarylaw11_Proofs.Pure := by
  intro l a r c x p hl hl8 _ _ _ _ _ hp hp8 _
  apply ex_of_ev
  unfold ossuarylaw11_Proofs.f
  simp only [lend_eq l (by omega), lend_eq p (by omega), Option.bind_some]
  refine Ev.bind (proof_Path_ev l a (by omega)) (Ev.bind (ref_Path_ev l a (by omega)) ?_)
  have hlen : (pathA l a).1.length ≤ 17592186044416 := by
    unfold pathA
    split
    · rename_i h
      rw [pathS_length l.length l a.toNat rfl]
      have := longS_le l.length l.length a.toNat rfl
      omega
    · simp
  refine Ev.bind (same_ev _ hlen) (ev_pos rfl ?_)
  simp only [ossuarylaw0_Num.f, Option.bind_some, if_true]
  refine Ev.bind (proof_Check_ev r c a x p (by omega)) (Ev.bind (ref_CheckPath_ev r c a x p (by omega)) ?_)
  rw [bne_self_eq_false]
  obtain ⟨q, hq⟩ := spoil_ev _ hlen
  refine ev_succ ?_
  simp only [ossuarylaw11_Proofs.j0]
  refine ev_neg (by simp) (Ev.bind hq (Ev.bind (kept_ev l (by omega)) (ev_pos rfl (Ev.bind (kept_ev p (by omega)) (ev_pos rfl (Ev.bind awake11 (Ev.now _)))))))

end Go.Proofs.Ytojdcenmjoddmaa.Pure
