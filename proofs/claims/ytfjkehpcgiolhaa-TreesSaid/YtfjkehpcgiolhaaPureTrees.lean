/- Roots and leaves are those of the document, and they leave what they are given: no condition beyond the statement. -/
import Derived.Test.YtfjkehpcgiolhaaHTreesx3
namespace Go.Proofs.Ytfjkehpcgiolhaa.Pure
open Go.RowKit Go.Proofs.Ytfjkehpcgiolhaa.HTrees Go.Proofs.YtfjkehpcgiolhaaW.PrintWords Go.Proofs.YtfjkehpcgiolhaaW.PrintLast


set_option linter.unusedVariables false
set_option linter.unusedSimpArgs false
theorem wf64 {x : Int} (h : (Lit.int .i64 x).wf = true) : -9223372036854775808 ≤ x ∧ x ≤ 9223372036854775807 := by
  simp only [Lit.wf, Bool.and_eq_true, decide_eq_true_eq] at h
  have e1 : IntKind.i64.min = -9223372036854775808 := by decide
  have e2 : IntKind.i64.max = 9223372036854775807 := by decide
  omega
theorem w64 {x : Int} (h0 : -9223372036854775808 ≤ x) (h1 : x ≤ 9223372036854775807) : wrap64 x = x := by
  unfold wrap64; omega
theorem tm {x : Int} (m : Int) (h0 : 0 ≤ x) : Int.tmod x m = x % m := Int.tmod_eq_emod_of_nonneg h0
theorem data_len (s : ByteArray) : s.data.toList.length = s.size := by rw [Array.length_toList]; rfl
theorem bt_get (s : ByteArray) (n : Nat) (h : n < s.data.toList.length) : bt s (n : Int) = ((s.data.toList[n]'h).toNat : Int) := by
  have h' : n < s.size := by rw [data_len] at h; exact h
  unfold bt
  rw [dif_pos (show (n : Int).toNat < s.size from by simpa using h')]
  simp [ByteArray.getElem_eq_getElem_data]
/-- enough rounds -/
theorem ex_of_ev {α : Type} {g : Nat → Option α} {r : α} (h : Ev g r) : ∃ k, g k = some r := h.rounds
theorem ev_ge {α : Type} {g : Nat → Option α} {r : α} (K : Nat) (h : ∀ k, K ≤ k → g k = some r) : Ev g r := ⟨K, h⟩
theorem ev_const {α : Type} {g : Option α} {r : α} (h : g = some r) : Ev (fun _ => g) r := ⟨0, fun _ _ => h⟩
theorem ev_pos {α : Type} {c : Prop} [Decidable c] {f g : Nat → Option α} {r : α} (h : c) (hf : Ev f r) : Ev (fun k => if c then f k else g k) r := by
  simp only [if_pos h]; exact hf
theorem ev_neg {α : Type} {c : Prop} [Decidable c] {f g : Nat → Option α} {r : α} (h : ¬ c) (hg : Ev g r) : Ev (fun k => if c then f k else g k) r := by
  simp only [if_neg h]; exact hg
theorem ev_succ {α : Type} {g : Nat → Option α} {r : α} (h : Ev (fun k => g (k + 1)) r) : Ev g r := Ev.step (f := fun k => g (k + 1)) (fun _ => rfl) h

/-- the seal of a list of bytes -/
def ofL : List UInt8 → Int
  | [] => 0
  | b :: bs => (ofL bs + (b.toNat : Int) + 1) * 65537 % 2147483647
theorem ofL_range : ∀ l, 0 ≤ ofL l ∧ ofL l < 2147483647
  | [] => by simp [ofL]
  | b :: bs => by unfold ofL; omega
theorem of_step {x b : Int} (h0 : 0 ≤ x) (h1 : x < 2147483647) (b0 : 0 ≤ b) (b1 : b ≤ 255) :
    Int.tmod (wrap64 ((wrap64 ((wrap64 (x + (wrap64 b))) + 1)) * 65537)) 2147483647 = (x + b + 1) * 65537 % 2147483647 := by
  rw [w64 (x := b) (by omega) (by omega), w64 (x := x + b) (by omega) (by omega), w64 (x := x + b + 1) (by omega) (by omega), w64 (x := (x + b + 1) * 65537) (by omega) (by omega)]
  exact tm _ (by omega)
theorem seal_Of_loop (s : ByteArray) (hs : s.size ≤ 140737488351232) : ∀ (n k : Nat), n ≤ s.data.toList.length → n < k →
    seal_Of.l0 k s (ofL (s.data.toList.drop n)) ((n : Int) - 1) = some (ofL s.data.toList) := by
  intro n
  have hl := data_len s
  induction n with
  | zero =>
    intro k _ hk
    obtain ⟨k, rfl⟩ : ∃ m, k = m + 1 := ⟨k - 1, by omega⟩
    simp only [seal_Of.l0]
    rw [if_neg (by omega), List.drop_zero]
  | succ n ih =>
    intro k hn hk
    obtain ⟨k, rfl⟩ : ∃ m, k = m + 1 := ⟨k - 1, by omega⟩
    have hr := ofL_range (s.data.toList.drop (n + 1))
    have hb := bt_range s (n : Int)
    rw [show (((n + 1 : Nat) : Int) - 1) = (n : Int) from by omega]
    simp only [seal_Of.l0]
    rw [if_pos (by omega), if_pos (by omega), if_pos (by omega), of_step hr.1 hr.2 hb.1 hb.2, w64 (x := (n : Int) - 1) (by omega) (by omega), bt_get s n (by omega)]
    have := ih k (by omega) (by omega)
    rw [List.drop_eq_getElem_cons (by omega)] at this
    exact this
theorem seal_Of_at (s : ByteArray) (hs : s.size ≤ 140737488351232) (k : Nat) (hk : s.size < k) : seal_Of.f k s = some (ofL s.data.toList) := by
  have hl := data_len s
  have := seal_Of_loop s hs s.data.toList.length k (by omega) (by omega)
  rw [List.drop_length] at this
  unfold seal_Of.f
  rw [w64 (by omega) (by omega), ← hl]
  exact this
theorem seal_Of_ev (s : ByteArray) (hs : s.size ≤ 140737488351232) : Ev (fun k => seal_Of.f k s) (ofL s.data.toList) :=
  ev_ge (s.size + 1) (fun k hk => seal_Of_at s hs k (by omega))

/-- the seal of two seals -/
def pairS (a b : Int) : Int := (911 + a % 2147483647 * 65537 + b % 2147483647 * 65537 * 65537) % 2147483647
theorem pairS_range (a b : Int) : 0 ≤ pairS a b ∧ pairS a b < 2147483647 := by unfold pairS; omega
theorem tm_neg {a : Int} (h : a < 0) : Int.tmod a 2147483647 = -((-a) % 2147483647) := by
  have := Int.neg_tmod (a := -a) (b := 2147483647)
  rw [Int.neg_neg] at this
  rw [this, tm _ (by omega)]
theorem seal_taken_eq (a : Int) : seal_taken.f a = some (a % 2147483647) := by
  unfold seal_taken.f
  by_cases h : 0 ≤ a
  · rw [tm _ h, if_neg (by omega)]
  · rw [tm_neg (by omega)]
    by_cases g : -((-a) % 2147483647) < 0
    · rw [if_pos g, w64 (by omega) (by omega)]
      congr 1; omega
    · rw [if_neg g]
      congr 1; omega
theorem seal_Pair_eq (a b : Int) : seal_Pair.f a b = some (pairS a b) := by
  unfold seal_Pair.f
  rw [seal_taken_eq, seal_taken_eq]
  simp only [Option.bind_some]
  congr 1
  have ha : 0 ≤ a % 2147483647 ∧ a % 2147483647 < 2147483647 := by omega
  have hb : 0 ≤ b % 2147483647 ∧ b % 2147483647 < 2147483647 := by omega
  rw [w64 (x := b % 2147483647 * 65537) (by omega) (by omega), tm (x := b % 2147483647 * 65537) _ (by omega)]
  have hc : 0 ≤ b % 2147483647 * 65537 % 2147483647 ∧ b % 2147483647 * 65537 % 2147483647 < 2147483647 := by omega
  rw [w64 (x := b % 2147483647 * 65537 % 2147483647 + a % 2147483647) (by omega) (by omega), w64 (x := (b % 2147483647 * 65537 % 2147483647 + a % 2147483647) * 65537) (by omega) (by omega), w64 (x := (b % 2147483647 * 65537 % 2147483647 + a % 2147483647) * 65537 + 911) (by omega) (by omega), tm _ (by omega)]
  unfold pairS
  omega

theorem pairS_left {a a' b : Int} (h : pairS a b = pairS a' b) (h0 : 0 ≤ a) (h1 : a < 2147483647) (h2 : 0 ≤ a') (h3 : a' < 2147483647) : a = a' := by
  unfold pairS at h; omega
theorem pairS_right {a b b' : Int} (h : pairS a b = pairS a b') (h0 : 0 ≤ b) (h1 : b < 2147483647) (h2 : 0 ≤ b') (h3 : b' < 2147483647) : b = b' := by
  unfold pairS at h; omega
/-- the greatest power of 2 below a number -/
def halfGo : Nat → Nat → Nat → Nat
  | 0, h, _ => h
  | f + 1, h, c => if 2 * h < c then halfGo f (2 * h) c else h
def halfS (c : Nat) : Nat := halfGo c 1 c
theorem halfGo_range : ∀ (f h c : Nat), 1 ≤ h → h < c → 1 ≤ halfGo f h c ∧ halfGo f h c < c
  | 0, h, c, h0, h1 => ⟨h0, h1⟩
  | f + 1, h, c, h0, h1 => by
    unfold halfGo
    split
    · exact halfGo_range f (2 * h) c (by omega) (by assumption)
    · exact ⟨h0, h1⟩
theorem halfS_range {c : Nat} (h : 2 ≤ c) : 1 ≤ halfS c ∧ halfS c < c := halfGo_range c 1 c (by omega) (by omega)
theorem rd_nat (l : List Int) (i : Nat) (h : i < l.length) : rd l (i : Int) = l[i] := by
  simp [rd, List.getD_eq_getElem?_getD, List.getElem?_eq_getElem h]
theorem tree_Half_loop (c : Nat) (hc : c ≤ 1099511627776) : ∀ (f h k : Nat), 1 ≤ h → h ≤ c → c < h + f + 1 → f < k → tree_Half.l0 k (c : Int) (h : Int) = some ((halfGo f h c : Nat) : Int) := by
  intro f
  induction f with
  | zero =>
    intro h k h0 h1 h2 hk
    obtain ⟨k, rfl⟩ : ∃ m, k = m + 1 := ⟨k - 1, by omega⟩
    simp only [tree_Half.l0, halfGo]
    rw [w64 (by omega) (by omega), if_neg (by omega)]
  | succ f ih =>
    intro h k h0 h1 h2 hk
    obtain ⟨k, rfl⟩ : ∃ m, k = m + 1 := ⟨k - 1, by omega⟩
    simp only [tree_Half.l0, halfGo]
    rw [w64 (x := 2 * (h : Int)) (by omega) (by omega)]
    by_cases g : 2 * h < c
    · rw [if_pos (by omega), if_pos g, w64 (x := (h : Int) * 2) (by omega) (by omega), show ((h : Int) * 2) = ((2 * h : Nat) : Int) from by omega]
      exact ih (2 * h) k (by omega) (by omega) (by omega) (by omega)
    · rw [if_neg (by omega), if_neg g]
theorem tree_Half_ev (c : Nat) (h1 : 1 ≤ c) (hc : c ≤ 1099511627776) : Ev (fun k => tree_Half.f k (c : Int)) ((halfS c : Nat) : Int) :=
  ev_ge (c + 1) (fun k hk => tree_Half_loop c hc c 1 k (by omega) (by omega) (by omega) (by omega))
/-- the root of leaves -/
def rootS (l : List Int) : Int :=
  if h : 2 ≤ l.length then pairS (rootS (l.take (halfS l.length))) (rootS (l.drop (halfS l.length))) else l.headD 0
  termination_by l.length
  decreasing_by
    all_goals (have := halfS_range h; simp only [List.length_take, List.length_drop]; omega)
theorem rootS_one (x : Int) : rootS [x] = x := by rw [rootS]; simp
theorem rootS_two {l : List Int} (h : 2 ≤ l.length) : rootS l = pairS (rootS (l.take (halfS l.length))) (rootS (l.drop (halfS l.length))) := by
  rw [rootS, dif_pos h]
/-- all are seals -/
def Seals01 (l : List Int) : Prop := ∀ x, x ∈ l → 0 ≤ x ∧ x < 2147483647
theorem Seals01.take {l : List Int} (h : Seals01 l) (n : Nat) : Seals01 (l.take n) := fun x hx => h x (List.mem_of_mem_take hx)
theorem Seals01.drop {l : List Int} (h : Seals01 l) (n : Nat) : Seals01 (l.drop n) := fun x hx => h x (List.mem_of_mem_drop hx)
theorem rootS_range {l : List Int} (h : Seals01 l) (hl : 1 ≤ l.length) : 0 ≤ rootS l ∧ rootS l < 2147483647 := by
  by_cases h2 : 2 ≤ l.length
  · rw [rootS_two h2]; exact pairS_range _ _
  · obtain ⟨x, rfl⟩ : ∃ x, l = [x] := List.length_eq_one_iff.mp (by omega)
    rw [rootS_one]; exact h x (by simp)
theorem tree_Of_ev : ∀ (n : Nat) (l : List Int), l.length = n → 1 ≤ n → n ≤ 1099511627776 → Ev (fun k => tree_Of.f k l) (rootS l) := by
  intro n
  induction n using Nat.strongRecOn with
  | _ n ih =>
    intro l hl h1 h2
    by_cases e : n = 1
    · obtain ⟨x, rfl⟩ : ∃ x, l = [x] := List.length_eq_one_iff.mp (by omega)
      refine Ev.step (f := fun _ => some x) (fun k => ?_) (by rw [rootS_one]; exact Ev.now x)
      simp only [tree_Of.f]
      simp [rd]
    · have hr := halfS_range (c := l.length) (by omega)
      refine Ev.step (f := fun k => (tree_Half.f k (l.length : Int)).bind fun t => (if 0 ≤ t then (if t ≤ (l.length : Int) then ((tree_Of.f k (l.take (t : Int).toNat)).bind fun a => ((tree_Of.f k (l.drop (t : Int).toNat)).bind fun b => ((seal_Pair.f a b).bind fun t130 => (some t130)))) else (none)) else (none))) (fun k => ?_) ?_
      · simp only [tree_Of.f]; rw [if_neg (by omega)]
      · refine Ev.bind (tree_Half_ev l.length (by omega) (by omega)) ?_
        refine ev_pos (by omega) (ev_pos (by omega) ?_)
        rw [Int.toNat_natCast]
        refine Ev.bind (ih (halfS l.length) (by omega) _ (by rw [List.length_take]; omega) (by omega) (by omega)) ?_
        refine Ev.bind (ih (l.length - halfS l.length) (by omega) _ (by rw [List.length_drop]) (by omega) (by omega)) ?_
        simp only [seal_Pair_eq, Option.bind_some]
        rw [rootS_two (l := l) (by omega)]
        exact Ev.now _
theorem seal_Is_eq (x : Int) : seal_Is.f x = some (decide (0 ≤ x ∧ x < 2147483647)) := by
  unfold seal_Is.f
  by_cases h : x ≥ 0
  · rw [if_pos h]; congr 1; rw [decide_eq_decide]; omega
  · rw [if_neg h]; congr 1; symm; rw [decide_eq_false_iff_not]; omega
/-- all are seals, as a Bool -/
def allB (l : List Int) : Bool := l.all fun x => decide (0 ≤ x ∧ x < 2147483647)
theorem allB_iff (l : List Int) : allB l = true ↔ Seals01 l := by
  unfold allB Seals01; simp [List.all_eq_true]
theorem seal_All_loop (l : List Int) (hl : l.length ≤ 17592186044416) : ∀ (d i : Nat), i + d = l.length → Ev (fun k => seal_All.l0 k l (l.length : Int) (i : Int)) (allB (l.drop i)) := by
  intro d
  induction d with
  | zero =>
    intro i hi
    refine Ev.step (f := fun _ => some true) (fun k => ?_) ?_
    · simp only [seal_All.l0]; rw [if_neg (by omega)]
    · rw [List.drop_of_length_le (by omega)]; exact Ev.now true
  | succ d ih =>
    intro i hi
    have hlt : i < l.length := by omega
    refine Ev.step (f := fun k => if decide (0 ≤ l[i] ∧ l[i] < 2147483647) = true then seal_All.l0 k l (l.length : Int) ((i + 1 : Nat) : Int) else some false) (fun k => ?_) ?_
    · simp only [seal_All.l0]
      rw [if_pos (by omega), if_pos (by omega), if_pos (by omega), rd_nat l i hlt, seal_Is_eq, w64 (by omega) (by omega)]
      rfl
    · rw [List.drop_eq_getElem_cons hlt]
      by_cases g : 0 ≤ l[i] ∧ l[i] < 2147483647
      · simp only [g, and_self, decide_true, if_true, allB, List.all_cons, Bool.true_and]
        exact ih (i + 1) (by omega)
      · simp only [decide_eq_false g, allB, List.all_cons, Bool.false_and]
        exact Ev.now false
theorem seal_All_ev (l : List Int) (hl : l.length ≤ 17592186044416) : Ev (fun k => seal_All.f k l) (allB l) := by
  have := seal_All_loop l hl l.length 0 (by omega)
  rw [List.drop_zero] at this
  exact this
/-- may leaves be? -/
def mayB (l : List Int) : Bool := decide (1 ≤ l.length ∧ l.length ≤ 64) && allB l
theorem tree_May_ev (l : List Int) (hl : l.length ≤ 17592186044416) : Ev (fun k => tree_May.f k l) (mayB l) := by
  unfold mayB
  by_cases h1 : 1 ≤ l.length
  · by_cases h2 : l.length ≤ 64
    · rw [decide_eq_true ⟨h1, h2⟩, Bool.true_and]
      refine Ev.congr (f := fun k => (seal_All.f k l).bind fun t => some t) (fun k => ?_) (Ev.bind (seal_All_ev l hl) (Ev.now _))
      unfold tree_May.f; rw [if_pos (by omega), if_pos (by omega)]
    · rw [decide_eq_false (by omega), Bool.false_and]
      refine Ev.congr (f := fun k => some false) (fun k => ?_) (Ev.now _)
      unfold tree_May.f; rw [if_pos (by omega), if_neg (by omega)]
  · rw [decide_eq_false (by omega), Bool.false_and]
    refine Ev.congr (f := fun k => some false) (fun k => ?_) (Ev.now _)
    unfold tree_May.f; rw [if_neg (by omega)]
/-- Root's answer -/
def rootA (l : List Int) : Int × Int := if mayB l = true then (rootS l, 0) else (0, 1000)
theorem tree_Root_ev (l : List Int) (hl : l.length ≤ 17592186044416) : Ev (fun k => tree_Root.f k l) (rootA l) := by
  refine Ev.congr (f := fun k => (tree_May.f k l).bind fun t => (if t = true then ((tree_Of.f k l).bind fun u => (some (u, 0))) else (some (0, 1000)))) (fun k => rfl) (Ev.bind (tree_May_ev l hl) ?_)
  unfold rootA
  by_cases h : mayB l = true
  · simp only [if_pos h]
    have h' := h
    unfold mayB at h'
    rw [Bool.and_eq_true, decide_eq_true_eq] at h'
    exact Ev.bind (tree_Of_ev l.length l rfl h'.1.1 (by omega)) (Ev.now _)
  · simp only [if_neg h]; exact Ev.now _
theorem rootA_ok {l : List Int} (h : Seals01 l) (h1 : 1 ≤ l.length) (h2 : l.length ≤ 64) : rootA l = (rootS l, 0) := by
  unfold rootA mayB; rw [decide_eq_true ⟨h1, h2⟩, (allB_iff l).mpr h]; rfl

theorem extr (s : ByteArray) (a b : Nat) : (s.extract a b).data.toList = (s.data.toList.drop a).take (b - a) := by
  rw [ByteArray.data_extract, Array.toList_extract, List.extract_eq_take_drop]
theorem extr_size (s : ByteArray) (a b : Nat) (h : b ≤ s.size) : (s.extract a b).size = b - a := by
  rw [ByteArray.size_extract]; omega
theorem mn_eq (a b : Int) : mn a b = min a b := by unfold mn; omega

/-- the seals of a text's blocks -/
def leavesL (l : List UInt8) : List Int :=
  if h : l = [] then [] else ofL (l.take 8) :: leavesL (l.drop 8)
  termination_by l.length
  decreasing_by
    have := List.length_pos_iff.mpr h
    simp only [List.length_drop]; omega
theorem leavesL_nil : leavesL [] = [] := by rw [leavesL]; simp
theorem leavesL_cons {l : List UInt8} (h : 1 ≤ l.length) : leavesL l = ofL (l.take 8) :: leavesL (l.drop 8) := by
  rw [leavesL, dif_neg (by intro e; rw [e] at h; simp at h)]
theorem leavesL_length : ∀ (n : Nat) (l : List UInt8), l.length = n → (leavesL l).length = (n + 7) / 8 := by
  intro n
  induction n using Nat.strongRecOn with
  | _ n ih =>
    intro l hl
    by_cases h : 1 ≤ l.length
    · rw [leavesL_cons h, List.length_cons, ih (n - 8) (by omega) (l.drop 8) (by rw [List.length_drop]; omega)]; omega
    · have : l = [] := List.eq_nil_of_length_eq_zero (by omega)
      rw [this, leavesL_nil]; simp; omega
theorem leavesL_range : ∀ (n : Nat) (l : List UInt8), l.length = n → ∀ x, x ∈ leavesL l → 0 ≤ x ∧ x < 2147483647 := by
  intro n
  induction n using Nat.strongRecOn with
  | _ n ih =>
    intro l hl x hx
    by_cases h : 1 ≤ l.length
    · rw [leavesL_cons h, List.mem_cons] at hx
      rcases hx with rfl | hx
      · exact ofL_range _
      · exact ih (n - 8) (by omega) (l.drop 8) (by rw [List.length_drop]; omega) x hx
    · have : l = [] := List.eq_nil_of_length_eq_zero (by omega)
      rw [this, leavesL_nil] at hx; simp at hx
theorem leavesL_get : ∀ (i : Nat) (l : List UInt8) (h : i < (leavesL l).length), (leavesL l)[i] = ofL ((l.drop (8 * i)).take 8) := by
  intro i
  induction i with
  | zero =>
    intro l h
    have h1 : 1 ≤ l.length := by
      rw [leavesL_length l.length l rfl] at h; omega
    simp only [leavesL_cons h1, List.getElem_cons_zero, Nat.mul_zero, List.drop_zero]
  | succ i ih =>
    intro l h
    have h1 : 1 ≤ l.length := by
      rw [leavesL_length l.length l rfl] at h; omega
    have h2 : i < (leavesL (l.drop 8)).length := by
      rw [leavesL_cons h1, List.length_cons] at h; omega
    simp only [leavesL_cons h1, List.getElem_cons_succ]
    rw [ih _ h2, List.drop_drop, show 8 + 8 * i = 8 * (i + 1) from by omega]
theorem tree_Leaves_loop : ∀ (n : Nat) (s : ByteArray) (acc : List Int), s.size = n → acc.length * 8 + s.size ≤ 140737488351232 →
    Ev (fun k => tree_Leaves.l0 k s acc) (acc ++ leavesL s.data.toList) := by
  intro n
  induction n using Nat.strongRecOn with
  | _ n ih =>
    intro s acc hs hb
    have hl := data_len s
    by_cases h : 1 ≤ s.size
    · have hm : (mn 8 (s.size : Int)) = ((min 8 s.size : Nat) : Int) := by rw [mn_eq]; omega
      refine Ev.step (f := fun k => (seal_Of.f k (s.extract 0 (min 8 s.size))).bind fun t => tree_Leaves.l0 k (s.extract (min 8 s.size) s.size) (acc ++ [t])) (fun k => ?_) ?_
      · simp only [tree_Leaves.l0]
        rw [if_pos (by omega), hm, if_pos (by omega), if_pos (by omega), Int.toNat_natCast]
        congr 1; funext t
        rw [if_pos (by omega)]
      · refine Ev.bind (seal_Of_ev _ (by rw [extr_size _ _ _ (by omega)]; omega)) ?_
        have e1 : (s.extract 0 (min 8 s.size)).data.toList = s.data.toList.take 8 := by
          rw [extr, List.drop_zero, Nat.sub_zero, List.take_eq_take_iff]; omega
        have e2 : (s.extract (min 8 s.size) s.size).data.toList = s.data.toList.drop 8 := by
          rw [extr, List.take_of_length_le (by rw [List.length_drop]; omega)]
          by_cases g : 8 ≤ s.size
          · rw [Nat.min_eq_left g]
          · rw [List.drop_of_length_le (by omega), List.drop_of_length_le (by omega)]
        have := ih (s.size - min 8 s.size) (by omega) (s.extract (min 8 s.size) s.size) (acc ++ [ofL (s.data.toList.take 8)]) (extr_size _ _ _ (by omega)) (by rw [extr_size _ _ _ (by omega), List.length_append]; simp only [List.length_cons, List.length_nil]; omega)
        rw [e1]
        rw [e2, List.append_assoc, List.singleton_append, ← leavesL_cons (by omega)] at this
        exact this
    · refine Ev.step (f := fun _ => some acc) (fun k => ?_) ?_
      · simp only [tree_Leaves.l0]; rw [if_neg (by omega)]
      · have : s.data.toList = [] := List.eq_nil_of_length_eq_zero (by omega)
        rw [this, leavesL_nil, List.append_nil]; exact Ev.now _
theorem tree_Leaves_ev (s : ByteArray) (hs : s.size ≤ 140737488351232) : Ev (fun k => tree_Leaves.f k s) (leavesL s.data.toList) := by
  have := tree_Leaves_loop s.size s [] rfl (by simpa using hs)
  rw [List.nil_append] at this
  exact this

theorem u64w (x : Int) : IntKind.u64.wrap x = x % 18446744073709551616 := by simp [IntKind.wrap, IntKind.bits, IntKind.signed]
theorem i64w (x : Int) : IntKind.i64.wrap x = (x + 9223372036854775808) % 18446744073709551616 - 9223372036854775808 := by
  simp [IntKind.wrap, IntKind.bits, IntKind.signed]
  split <;> omega
/-- x & (2^i - 1), whatever x -/
theorem and_mask (x : Int) (i : Nat) (hi : i ≤ 62) (m p : Int) (hm : m = ((2 ^ i - 1 : Nat) : Int)) (hp : p = ((2 ^ i : Nat) : Int)) : Go.bits .and .i64 x m = x % p := by
  subst hm hp
  have h2 : 2 ^ i ≤ 2 ^ 62 := Nat.pow_le_pow_right (by decide) hi
  have hpos : 0 < 2 ^ i := Nat.two_pow_pos i
  have e1 : (2 ^ i - 1) % 2 ^ 64 = 2 ^ i - 1 := Nat.mod_eq_of_lt (by omega)
  have hd : 2 ^ i ∣ 2 ^ 64 := Nat.pow_dvd_pow 2 (by omega)
  have e0 : Go.bits .and .i64 x ((2 ^ i - 1 : Nat) : Int) = IntKind.i64.wrap (((BitVec.ofInt 64 x &&& BitVec.ofInt 64 ((2 ^ i - 1 : Nat) : Int)).toNat : Nat) : Int) := rfl
  rw [e0, BitVec.ofInt_natCast, BitVec.toNat_and, BitVec.toNat_ofNat]
  rw [e1, Nat.and_two_pow_sub_one_eq_mod]
  have e2 : (BitVec.ofInt 64 x).toNat = (x % 18446744073709551616).toNat := by
    rw [BitVec.toNat_ofInt]; rfl
  rw [e2]
  have e3 : (((x % 18446744073709551616).toNat % 2 ^ i : Nat) : Int) = x % ((2 ^ i : Nat) : Int) := by
    rw [Int.natCast_emod, Int.toNat_of_nonneg (by omega)]
    have hd' : ((2 ^ i : Nat) : Int) ∣ (18446744073709551616 : Int) := Int.natCast_dvd_natCast (n := 18446744073709551616).mpr hd
    exact Int.emod_emod_of_dvd x hd'
  rw [e3]
  have h3 : 0 ≤ x % ((2 ^ i : Nat) : Int) := Int.emod_nonneg x (by omega)
  have h4 : x % ((2 ^ i : Nat) : Int) < ((2 ^ i : Nat) : Int) := Int.emod_lt_of_pos x (by omega)
  generalize x % ((2 ^ i : Nat) : Int) = y at *
  rw [i64w]; omega
/-- uint(a) % uint(n), as a place -/
def umod (a : Int) (n : Nat) : Nat := ((a % 18446744073709551616) % (n : Int)).toNat
theorem umod_lt (a : Int) (n : Nat) (h : 1 ≤ n) : umod a n < n := by
  unfold umod
  have h1 : 0 ≤ (a % 18446744073709551616) % (n : Int) := Int.emod_nonneg _ (by omega)
  have h2 : (a % 18446744073709551616) % (n : Int) < (n : Int) := Int.emod_lt_of_pos _ (by omega)
  omega
theorem umod_eq (a : Int) (n : Nat) (h : 1 ≤ n) (h' : n ≤ 4611686018427387904) : wrap64 (Int.tmod (IntKind.u64.wrap a) (IntKind.u64.wrap (n : Int))) = (umod a n : Int) := by
  have e : (n : Int) % 18446744073709551616 = (n : Int) := by omega
  rw [u64w, u64w, e, tm (x := a % 18446744073709551616) _ (by omega)]
  unfold umod
  have h1 : 0 ≤ (a % 18446744073709551616) % (n : Int) := Int.emod_nonneg _ (by omega)
  have h2 : (a % 18446744073709551616) % (n : Int) < (n : Int) := Int.emod_lt_of_pos _ (by omega)
  rw [w64 (by omega) (by omega)]; omega
theorem umod_lit (a : Int) (n : Nat) (m : Int) (hm : m = (n : Int)) (h : 1 ≤ n) (h' : n ≤ 4611686018427387904) : wrap64 (Int.tmod (IntKind.u64.wrap a) m) = (umod a n : Int) := by
  subst hm
  have := umod_eq a n h h'
  rwa [show IntKind.u64.wrap (n : Int) = (n : Int) from by rw [u64w]; omega] at this
/-- int(uint32(x) >> 2) -/
def quart (x : Int) : Int := x % 4294967296 / 4
theorem quart_range (x : Int) : 0 ≤ quart x ∧ quart x < 1073741824 := by unfold quart; omega
theorem quart_seals (l : List Int) : Seals01 (l.map quart) := by
  intro x hx
  rw [List.mem_map] at hx
  obtain ⟨y, _, rfl⟩ := hx
  have := quart_range y; omega

theorem ref_Of_loop (s : ByteArray) (hs : s.size ≤ 140737488351232) : ∀ (n k : Nat), n ≤ s.data.toList.length → n < k →
    ossuaryref1_Of.l0 k s (ofL (s.data.toList.drop n)) ((n : Int) - 1) = some (ofL s.data.toList) := by
  intro n
  have hl := data_len s
  induction n with
  | zero =>
    intro k _ hk
    obtain ⟨k, rfl⟩ : ∃ m, k = m + 1 := ⟨k - 1, by omega⟩
    simp only [ossuaryref1_Of.l0]
    rw [if_neg (by omega), List.drop_zero]
  | succ n ih =>
    intro k hn hk
    obtain ⟨k, rfl⟩ : ∃ m, k = m + 1 := ⟨k - 1, by omega⟩
    have hr := ofL_range (s.data.toList.drop (n + 1))
    have hb := bt_range s (n : Int)
    rw [show (((n + 1 : Nat) : Int) - 1) = (n : Int) from by omega]
    simp only [ossuaryref1_Of.l0]
    rw [if_pos (by omega), if_pos (by omega), if_pos (by omega), of_step hr.1 hr.2 hb.1 hb.2, w64 (x := (n : Int) - 1) (by omega) (by omega), bt_get s n (by omega)]
    have := ih k (by omega) (by omega)
    rw [List.drop_eq_getElem_cons (by omega)] at this
    exact this
theorem ref_Of_at (s : ByteArray) (hs : s.size ≤ 140737488351232) (k : Nat) (hk : s.size < k) : ossuaryref1_Of.f k s = some (ofL s.data.toList) := by
  have hl := data_len s
  have := ref_Of_loop s hs s.data.toList.length k (by omega) (by omega)
  rw [List.drop_length] at this
  unfold ossuaryref1_Of.f
  rw [w64 (by omega) (by omega), ← hl]
  exact this
theorem ref_Of_ev (s : ByteArray) (hs : s.size ≤ 140737488351232) : Ev (fun k => ossuaryref1_Of.f k s) (ofL s.data.toList) :=
  ev_ge (s.size + 1) (fun k hk => ref_Of_at s hs k (by omega))

theorem ref_mod_eq (a : Int) : ossuaryref1_mod.f a = some (a % 2147483647) := by
  unfold ossuaryref1_mod.f
  congr 1
  by_cases h : 0 ≤ a
  · rw [tm (x := a) _ h, w64 (x := a % 2147483647 + 2147483647) (by omega) (by omega), tm _ (by omega)]; omega
  · rw [tm_neg (a := a) (by omega), w64 (x := -((-a) % 2147483647) + 2147483647) (by omega) (by omega), tm _ (by omega)]; omega
theorem ref_Pair_eq (a b : Int) : ossuaryref1_Pair.f a b = some (pairS a b) := by
  unfold ossuaryref1_Pair.f
  rw [ref_mod_eq, ref_mod_eq]
  simp only [Option.bind_some]
  congr 1
  have ha : 0 ≤ a % 2147483647 ∧ a % 2147483647 < 2147483647 := by omega
  have hb : 0 ≤ b % 2147483647 ∧ b % 2147483647 < 2147483647 := by omega
  rw [w64 (x := a % 2147483647 * 65537) (by omega) (by omega), tm (x := a % 2147483647 * 65537) _ (by omega), w64 (x := b % 2147483647 * 65537) (by omega) (by omega), tm (x := b % 2147483647 * 65537) _ (by omega)]
  have hc : 0 ≤ b % 2147483647 * 65537 % 2147483647 ∧ b % 2147483647 * 65537 % 2147483647 < 2147483647 := by omega
  have hd : 0 ≤ a % 2147483647 * 65537 % 2147483647 ∧ a % 2147483647 * 65537 % 2147483647 < 2147483647 := by omega
  rw [w64 (x := 911 + a % 2147483647 * 65537 % 2147483647) (by omega) (by omega), w64 (x := b % 2147483647 * 65537 % 2147483647 * 65537) (by omega) (by omega), w64 (x := 911 + a % 2147483647 * 65537 % 2147483647 + b % 2147483647 * 65537 % 2147483647 * 65537) (by omega) (by omega), tm _ (by omega)]
  unfold pairS
  omega

theorem ref_half_loop (c : Nat) (hc : c ≤ 1099511627776) : ∀ (f h k : Nat), 1 ≤ h → h ≤ c → c < h + f + 1 → f < k → ossuaryref1_half.l0 k (c : Int) (h : Int) = some ((halfGo f h c : Nat) : Int) := by
  intro f
  induction f with
  | zero =>
    intro h k h0 h1 h2 hk
    obtain ⟨k, rfl⟩ : ∃ m, k = m + 1 := ⟨k - 1, by omega⟩
    simp only [ossuaryref1_half.l0, halfGo]
    rw [w64 (by omega) (by omega), if_neg (by omega)]
  | succ f ih =>
    intro h k h0 h1 h2 hk
    obtain ⟨k, rfl⟩ : ∃ m, k = m + 1 := ⟨k - 1, by omega⟩
    simp only [ossuaryref1_half.l0, halfGo]
    rw [w64 (x := 2 * (h : Int)) (by omega) (by omega)]
    by_cases g : 2 * h < c
    · rw [if_pos (by omega), if_pos g, show (2 * (h : Int)) = ((2 * h : Nat) : Int) from by omega]
      exact ih (2 * h) k (by omega) (by omega) (by omega) (by omega)
    · rw [if_neg (by omega), if_neg g]
theorem ref_half_ev (c : Nat) (h1 : 1 ≤ c) (hc : c ≤ 1099511627776) : Ev (fun k => ossuaryref1_half.f k (c : Int)) ((halfS c : Nat) : Int) :=
  ev_ge (c + 1) (fun k hk => ref_half_loop c hc c 1 k (by omega) (by omega) (by omega) (by omega))
theorem ref_root_ev : ∀ (n : Nat) (l : List Int), l.length = n → 1 ≤ n → n ≤ 1099511627776 → Ev (fun k => ossuaryref1_root.f k l) (rootS l) := by
  intro n
  induction n using Nat.strongRecOn with
  | _ n ih =>
    intro l hl h1 h2
    by_cases e : n = 1
    · obtain ⟨x, rfl⟩ : ∃ x, l = [x] := List.length_eq_one_iff.mp (by omega)
      refine Ev.step (f := fun _ => some x) (fun k => ?_) (by rw [rootS_one]; exact Ev.now x)
      simp only [ossuaryref1_root.f]
      simp [rd]
    · have hr := halfS_range (c := l.length) (by omega)
      refine Ev.step (f := fun k => (ossuaryref1_half.f k (l.length : Int)).bind fun t => (if 0 ≤ t then (if t ≤ (l.length : Int) then ((ossuaryref1_root.f k (l.take (t : Int).toNat)).bind fun a => ((ossuaryref1_root.f k (l.drop (t : Int).toNat)).bind fun b => ((ossuaryref1_Pair.f a b).bind fun t130 => (some t130)))) else (none)) else (none))) (fun k => ?_) ?_
      · simp only [ossuaryref1_root.f]; rw [if_neg (by omega)]
      · refine Ev.bind (ref_half_ev l.length (by omega) (by omega)) ?_
        refine ev_pos (by omega) (ev_pos (by omega) ?_)
        rw [Int.toNat_natCast]
        refine Ev.bind (ih (halfS l.length) (by omega) _ (by rw [List.length_take]; omega) (by omega) (by omega)) ?_
        refine Ev.bind (ih (l.length - halfS l.length) (by omega) _ (by rw [List.length_drop]) (by omega) (by omega)) ?_
        simp only [ref_Pair_eq, Option.bind_some]
        rw [rootS_two (l := l) (by omega)]
        exact Ev.now _
theorem ref_SealNum_eq (x : Int) : ossuaryref1_SealNum.f x = some (decide (0 ≤ x ∧ x < 2147483647)) := by
  unfold ossuaryref1_SealNum.f
  by_cases h : x ≥ 0
  · rw [if_pos h]; congr 1; rw [decide_eq_decide]; omega
  · rw [if_neg h]; congr 1; symm; rw [decide_eq_false_iff_not]; omega
theorem ref_SealNums_loop (l : List Int) (m : Int) (hl : l.length ≤ 17592186044416) : ∀ (d i : Nat), i + d = l.length → Ev (fun k => ossuaryref1_SealNums.l0 k l m (i : Int)) (allB (l.drop i) && decide ((l.length : Int) ≤ m)) := by
  intro d
  induction d with
  | zero =>
    intro i hi
    refine ev_succ ?_
    simp only [ossuaryref1_SealNums.l0]
    rw [List.drop_of_length_le (by omega)]
    exact ev_neg (by omega) (Ev.now _)
  | succ d ih =>
    intro i hi
    have hlt : i < l.length := by omega
    refine ev_succ ?_
    simp only [ossuaryref1_SealNums.l0, ref_SealNum_eq, Option.bind_some]
    refine ev_pos (by omega) (ev_pos (by omega) ?_)
    rw [rd_nat l i hlt, w64 (by omega) (by omega), List.drop_eq_getElem_cons hlt]
    by_cases g : 0 ≤ l[i] ∧ l[i] < 2147483647
    · simp only [allB, List.all_cons, decide_eq_true g, Bool.true_and]
      exact ev_pos trivial (ih (i + 1) (by omega))
    · simp only [allB, List.all_cons, decide_eq_false g, Bool.false_and]
      exact ev_neg (by simp) (Ev.now false)
theorem ref_SealNums_ev (l : List Int) (m : Int) (hl : l.length ≤ 17592186044416) : Ev (fun k => ossuaryref1_SealNums.f k l m) (allB l && decide ((l.length : Int) ≤ m)) := by
  have := ref_SealNums_loop l m hl l.length 0 (by omega)
  rw [List.drop_zero] at this
  exact this
theorem ref_may (l : List Int) (h : ¬ (l.length : Int) < 1) : (allB l && decide ((l.length : Int) ≤ 64)) = mayB l := by
  unfold mayB
  rw [Bool.and_comm]
  congr 1
  rw [decide_eq_decide]; omega
theorem ref_Root_ev (l : List Int) (hl : l.length ≤ 17592186044416) : Ev (fun k => ossuaryref1_Root.f k l) (rootA l) := by
  unfold ossuaryref1_Root.f
  by_cases h : (l.length : Int) < 1
  · refine ev_pos h ?_
    have : mayB l = false := by unfold mayB; rw [decide_eq_false (by omega), Bool.false_and]
    unfold rootA; rw [this]; exact Ev.now _
  · refine ev_neg h (Ev.bind (ref_SealNums_ev l 64 hl) ?_)
    rw [ref_may l h]
    unfold rootA
    by_cases g : mayB l = true
    · rw [if_pos g]
      have h' := g
      unfold mayB at h'
      rw [Bool.and_eq_true, decide_eq_true_eq] at h'
      exact ev_pos g (Ev.bind (ref_root_ev l.length l rfl h'.1.1 (by omega)) (Ev.now _))
    · rw [if_neg g]; exact ev_neg g (Ev.now _)

theorem ref_Leaves_loop (s : ByteArray) (hs : s.size ≤ 140737488351232) : ∀ (n i : Nat) (acc : List Int), i + n = s.size + 8 → acc.length * 8 ≤ i → i ≤ s.size + 8 →
    Ev (fun k => ossuaryref1_Leaves.l0 k s acc (i : Int)) (acc ++ leavesL (s.data.toList.drop i)) := by
  have hl := data_len s
  intro n
  induction n using Nat.strongRecOn with
  | _ n ih =>
    intro i acc hi ha hi8
    by_cases h : i < s.size
    · have hm : (mn ((i : Int) + 8) (s.size : Int)) = ((min (i + 8) s.size : Nat) : Int) := by rw [mn_eq]; omega
      refine Ev.step (f := fun k => (ossuaryref1_Of.f k (s.extract i (min (i + 8) s.size))).bind fun t => ossuaryref1_Leaves.l0 k s (acc ++ [t]) ((i + 8 : Nat) : Int)) (fun k => ?_) ?_
      · simp only [ossuaryref1_Leaves.l0]
        rw [if_pos (by omega), if_pos (by omega), w64 (x := (i : Int) + 8) (by omega) (by omega), hm, if_pos (by omega), if_pos (by omega), Int.toNat_natCast, Int.toNat_natCast]
        congr 1; funext t
        rw [if_pos (by omega)]
        rfl
      · refine Ev.bind (ref_Of_ev _ (by rw [extr_size _ _ _ (by omega)]; omega)) ?_
        have e1 : (s.extract i (min (i + 8) s.size)).data.toList = (s.data.toList.drop i).take 8 := by
          rw [extr, List.take_eq_take_iff, List.length_drop]; omega
        have e2 : leavesL (s.data.toList.drop i) = ofL ((s.data.toList.drop i).take 8) :: leavesL (s.data.toList.drop (i + 8)) := by
          rw [leavesL_cons (by rw [List.length_drop]; omega), List.drop_drop]
        rw [e1]
        have := ih (n - 8) (by omega) (i + 8) (acc ++ [ofL ((s.data.toList.drop i).take 8)]) (by omega) (by rw [List.length_append]; simp only [List.length_cons, List.length_nil]; omega) (by omega)
        rw [List.append_assoc, List.singleton_append, ← e2] at this
        exact this
    · refine Ev.step (f := fun _ => some acc) (fun k => ?_) ?_
      · simp only [ossuaryref1_Leaves.l0]; rw [if_neg (by omega)]
      · rw [List.drop_of_length_le (by omega), leavesL_nil, List.append_nil]; exact Ev.now _
theorem ref_Leaves_ev (s : ByteArray) (hs : s.size ≤ 140737488351232) : Ev (fun k => ossuaryref1_Leaves.f k s) (leavesL s.data.toList) := by
  have := ref_Leaves_loop s hs (s.size + 8) 0 [] (by omega) (by simp) (by omega)
  rw [List.nil_append, List.drop_zero] at this
  exact this

theorem same_loop (l : List Int) (hl : l.length ≤ 17592186044416) : ∀ (d i : Nat), i + d = l.length → Ev (fun k => ossuarylaw0_SameInts.l0 k l l (i : Int)) true := by
  intro d
  induction d with
  | zero =>
    intro i hi
    refine ev_succ ?_
    simp only [ossuarylaw0_SameInts.l0]
    exact ev_neg (by omega) (Ev.now _)
  | succ d ih =>
    intro i hi
    refine ev_succ ?_
    simp only [ossuarylaw0_SameInts.l0]
    refine ev_pos (by omega) (ev_pos (by omega) (ev_pos (by omega) (ev_pos trivial ?_)))
    rw [w64 (by omega) (by omega)]
    exact ih (i + 1) (by omega)
theorem same_ev (l : List Int) (hl : l.length ≤ 17592186044416) : Ev (fun k => ossuarylaw0_SameInts.f k l l) true := by
  unfold ossuarylaw0_SameInts.f
  exact ev_pos rfl (same_loop l hl l.length 0 (by omega))

theorem lend_eq (l : List Int) (h : l.length ≤ 17592186043904) : ossuarylaw0_LendInts.f l = some l := by
  unfold ossuarylaw0_LendInts.f ossuarylaw0_CopyInts.f
  simp only [Option.bind_some, List.nil_append, List.length_nil, List.length_cons]
  rw [if_pos (by omega), Option.bind_some, if_pos (by omega), if_pos (by omega), if_pos (by rw [List.length_append]; simp only [List.length_cons, List.length_nil]; omega)]
  simp
theorem kept_ev (l : List Int) (h : l.length ≤ 17592186044416) : Ev (fun k => ossuarylaw0_KeptInts.f k l l) true := same_ev l h
theorem spoil_loop : ∀ (d i : Nat) (l : List Int), l.length ≤ 17592186044416 → i + d = l.length → ∃ r, Ev (fun k => ossuarylaw0_SpoilInts.l0 k l (i : Int)) r := by
  intro d
  induction d with
  | zero =>
    intro i l hl hi
    refine ⟨l, ev_succ ?_⟩
    simp only [ossuarylaw0_SpoilInts.l0]
    exact ev_neg (by omega) (Ev.now _)
  | succ d ih =>
    intro i l hl hi
    obtain ⟨r, hr⟩ := ih (i + 1) (l.set (i : Int).toNat (wrap64 ((-9) - (rd l (i : Int))))) (by rw [List.length_set]; exact hl) (by rw [List.length_set]; omega)
    refine ⟨r, ev_succ ?_⟩
    simp only [ossuarylaw0_SpoilInts.l0]
    refine ev_pos (by omega) (ev_pos (by omega) ?_)
    rw [w64 (x := (i : Int) + 1) (by omega) (by omega)]
    exact hr
theorem spoil_ev (l : List Int) (h : l.length ≤ 17592186044416) : ∃ r, Ev (fun k => ossuarylaw0_SpoilInts.f k l) r := by
  obtain ⟨r, hr⟩ := spoil_loop l.length 0 l h (by omega)
  exact ⟨r, hr⟩

theorem awake10 : Ev (fun k => ossuarylaw10_awake.f k) true :=
  Ev.of (k := 24) ossuarylaw10_awake.mono (by decide +kernel)

theorem Trees : ossuarylaw10_Trees.Pure := by
  intro s l hs hl hl8 _
  apply ex_of_ev
  unfold ossuarylaw10_Trees.f
  simp only [lend_eq l (by omega), Option.bind_some]
  refine Ev.bind (tree_Root_ev l (by omega)) (Ev.bind (ref_Root_ev l (by omega)) (Ev.bind (tree_Leaves_ev s hs) (Ev.bind (ref_Leaves_ev s hs) (ev_pos rfl ?_))))
  have hlen : (leavesL s.data.toList).length ≤ 17592186044416 := by
    rw [leavesL_length s.data.toList.length _ rfl, data_len]; omega
  simp only [ossuarylaw0_Num.f, Option.bind_some, if_true]
  refine Ev.bind (same_ev _ hlen) ?_
  obtain ⟨q, hq⟩ := spoil_ev _ hlen
  refine ev_succ ?_
  simp only [ossuarylaw10_Trees.j0]
  exact ev_neg (by simp) (Ev.bind hq (Ev.bind (kept_ev l (by omega)) (ev_pos rfl (Ev.bind awake10 (Ev.now _)))))

end Go.Proofs.Ytfjkehpcgiolhaa.Pure
