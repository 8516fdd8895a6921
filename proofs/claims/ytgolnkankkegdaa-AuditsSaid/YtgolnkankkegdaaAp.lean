/- What the audit's calls answer, in plain words: no condition beyond each theorem's own. -/
import Derived.Test.YtgolnkankkegdaaHAuditMovedx8
import Derived.Test.YtgolnkankkegdaaHAuditMovedx9
namespace Go.Proofs.Ytgolnkankkegdaa.Ap
open Go.RowKit Go.Proofs.Ytgolnkankkegdaa.HAuditMoved Go.Proofs.YtgolnkankkegdaaW.PrintWords Go.Proofs.YtgolnkankkegdaaW.PrintLast
set_option linter.unusedVariables false
set_option linter.unusedSimpArgs false
theorem wf64 {x : Int} (h : (Lit.int .i64 x).wf = true) : -9223372036854775808 ≤ x ∧ x ≤ 9223372036854775807 := by
  simp only [Lit.wf, Bool.and_eq_true, decide_eq_true_eq] at h
  have e1 : IntKind.i64.min = -9223372036854775808 := by decide
  have e2 : IntKind.i64.max = 9223372036854775807 := by decide
  omega
theorem w64 {x : Int} (h0 : -9223372036854775808 ≤ x) (h1 : x ≤ 9223372036854775807) : wrap64 x = x := by
  unfold wrap64; omega
theorem tm {x : Int} (m : Int) (h0 : 0 ≤ x) : Int.tmod x m = x % m := Int.tmod_eq_emod_of_nonneg h0
theorem data_len (s : ByteArray) : s.data.toList.length = s.size := by rw [Array.length_toList]; rfl
theorem bt_get (s : ByteArray) (n : Nat) (h : n < s.data.toList.length) : bt s (n : Int) = ((s.data.toList[n]'h).toNat : Int) := by
  have h' : n < s.size := by rw [data_len] at h; exact h
  unfold bt
  rw [dif_pos (show (n : Int).toNat < s.size from by simpa using h')]
  simp [ByteArray.getElem_eq_getElem_data]
/-- enough rounds -/
theorem ex_of_ev {α : Type} {g : Nat → Option α} {r : α} (h : Ev g r) : ∃ k, g k = some r := h.rounds
theorem ev_ge {α : Type} {g : Nat → Option α} {r : α} (K : Nat) (h : ∀ k, K ≤ k → g k = some r) : Ev g r := ⟨K, h⟩
theorem ev_const {α : Type} {g : Option α} {r : α} (h : g = some r) : Ev (fun _ => g) r := ⟨0, fun _ _ => h⟩
theorem ev_pos {α : Type} {c : Prop} [Decidable c] {f g : Nat → Option α} {r : α} (h : c) (hf : Ev f r) : Ev (fun k => if c then f k else g k) r := by
  simp only [if_pos h]; exact hf
theorem ev_neg {α : Type} {c : Prop} [Decidable c] {f g : Nat → Option α} {r : α} (h : ¬ c) (hg : Ev g r) : Ev (fun k => if c then f k else g k) r := by
  simp only [if_neg h]; exact hg
theorem ev_succ {α : Type} {g : Nat → Option α} {r : α} (h : Ev (fun k => g (k + 1)) r) : Ev g r := Ev.step (f := fun k => g (k + 1)) (fun _ => rfl) h

/-- the seal of a list of bytes -/
def ofL : List UInt8 → Int
  | [] => 0
  | b :: bs => (ofL bs + (b.toNat : Int) + 1) * 65537 % 2147483647
theorem ofL_range : ∀ l, 0 ≤ ofL l ∧ ofL l < 2147483647
  | [] => by simp [ofL]
  | b :: bs => by unfold ofL; omega
theorem of_step {x b : Int} (h0 : 0 ≤ x) (h1 : x < 2147483647) (b0 : 0 ≤ b) (b1 : b ≤ 255) :
    Int.tmod (wrap64 ((wrap64 ((wrap64 (x + (wrap64 b))) + 1)) * 65537)) 2147483647 = (x + b + 1) * 65537 % 2147483647 := by
  rw [w64 (x := b) (by omega) (by omega), w64 (x := x + b) (by omega) (by omega), w64 (x := x + b + 1) (by omega) (by omega), w64 (x := (x + b + 1) * 65537) (by omega) (by omega)]
  exact tm _ (by omega)
theorem seal_Of_loop (s : ByteArray) (hs : s.size ≤ 140737488351232) : ∀ (n k : Nat), n ≤ s.data.toList.length → n < k →
    seal_Of.l0 k s (ofL (s.data.toList.drop n)) ((n : Int) - 1) = some (ofL s.data.toList) := by
  intro n
  have hl := data_len s
  induction n with
  | zero =>
    intro k _ hk
    obtain ⟨k, rfl⟩ : ∃ m, k = m + 1 := ⟨k - 1, by omega⟩
    simp only [seal_Of.l0]
    rw [if_neg (by omega), List.drop_zero]
  | succ n ih =>
    intro k hn hk
    obtain ⟨k, rfl⟩ : ∃ m, k = m + 1 := ⟨k - 1, by omega⟩
    have hr := ofL_range (s.data.toList.drop (n + 1))
    have hb := bt_range s (n : Int)
    rw [show (((n + 1 : Nat) : Int) - 1) = (n : Int) from by omega]
    simp only [seal_Of.l0]
    rw [if_pos (by omega), if_pos (by omega), if_pos (by omega), of_step hr.1 hr.2 hb.1 hb.2, w64 (x := (n : Int) - 1) (by omega) (by omega), bt_get s n (by omega)]
    have := ih k (by omega) (by omega)
    rw [List.drop_eq_getElem_cons (by omega)] at this
    exact this
theorem seal_Of_at (s : ByteArray) (hs : s.size ≤ 140737488351232) (k : Nat) (hk : s.size < k) : seal_Of.f k s = some (ofL s.data.toList) := by
  have hl := data_len s
  have := seal_Of_loop s hs s.data.toList.length k (by omega) (by omega)
  rw [List.drop_length] at this
  unfold seal_Of.f
  rw [w64 (by omega) (by omega), ← hl]
  exact this
theorem seal_Of_ev (s : ByteArray) (hs : s.size ≤ 140737488351232) : Ev (fun k => seal_Of.f k s) (ofL s.data.toList) :=
  ev_ge (s.size + 1) (fun k hk => seal_Of_at s hs k (by omega))

/-- the seal of two seals -/
def pairS (a b : Int) : Int := (911 + a % 2147483647 * 65537 + b % 2147483647 * 65537 * 65537) % 2147483647
theorem pairS_range (a b : Int) : 0 ≤ pairS a b ∧ pairS a b < 2147483647 := by unfold pairS; omega
theorem tm_neg {a : Int} (h : a < 0) : Int.tmod a 2147483647 = -((-a) % 2147483647) := by
  have := Int.neg_tmod (a := -a) (b := 2147483647)
  rw [Int.neg_neg] at this
  rw [this, tm _ (by omega)]
theorem seal_taken_eq (a : Int) : seal_taken.f a = some (a % 2147483647) := by
  unfold seal_taken.f
  by_cases h : 0 ≤ a
  · rw [tm _ h, if_neg (by omega)]
  · rw [tm_neg (by omega)]
    by_cases g : -((-a) % 2147483647) < 0
    · rw [if_pos g, w64 (by omega) (by omega)]
      congr 1; omega
    · rw [if_neg g]
      congr 1; omega
theorem seal_Pair_eq (a b : Int) : seal_Pair.f a b = some (pairS a b) := by
  unfold seal_Pair.f
  rw [seal_taken_eq, seal_taken_eq]
  simp only [Option.bind_some]
  congr 1
  have ha : 0 ≤ a % 2147483647 ∧ a % 2147483647 < 2147483647 := by omega
  have hb : 0 ≤ b % 2147483647 ∧ b % 2147483647 < 2147483647 := by omega
  rw [w64 (x := b % 2147483647 * 65537) (by omega) (by omega), tm (x := b % 2147483647 * 65537) _ (by omega)]
  have hc : 0 ≤ b % 2147483647 * 65537 % 2147483647 ∧ b % 2147483647 * 65537 % 2147483647 < 2147483647 := by omega
  rw [w64 (x := b % 2147483647 * 65537 % 2147483647 + a % 2147483647) (by omega) (by omega), w64 (x := (b % 2147483647 * 65537 % 2147483647 + a % 2147483647) * 65537) (by omega) (by omega), w64 (x := (b % 2147483647 * 65537 % 2147483647 + a % 2147483647) * 65537 + 911) (by omega) (by omega), tm _ (by omega)]
  unfold pairS
  omega

theorem pairS_left {a a' b : Int} (h : pairS a b = pairS a' b) (h0 : 0 ≤ a) (h1 : a < 2147483647) (h2 : 0 ≤ a') (h3 : a' < 2147483647) : a = a' := by
  unfold pairS at h; omega
theorem pairS_right {a b b' : Int} (h : pairS a b = pairS a b') (h0 : 0 ≤ b) (h1 : b < 2147483647) (h2 : 0 ≤ b') (h3 : b' < 2147483647) : b = b' := by
  unfold pairS at h; omega
/-- the greatest power of 2 below a number -/
def halfGo : Nat → Nat → Nat → Nat
  | 0, h, _ => h
  | f + 1, h, c => if 2 * h < c then halfGo f (2 * h) c else h
def halfS (c : Nat) : Nat := halfGo c 1 c
theorem halfGo_range : ∀ (f h c : Nat), 1 ≤ h → h < c → 1 ≤ halfGo f h c ∧ halfGo f h c < c
  | 0, h, c, h0, h1 => ⟨h0, h1⟩
  | f + 1, h, c, h0, h1 => by
    unfold halfGo
    split
    · exact halfGo_range f (2 * h) c (by omega) (by assumption)
    · exact ⟨h0, h1⟩
theorem halfS_range {c : Nat} (h : 2 ≤ c) : 1 ≤ halfS c ∧ halfS c < c := halfGo_range c 1 c (by omega) (by omega)
theorem rd_nat (l : List Int) (i : Nat) (h : i < l.length) : rd l (i : Int) = l[i] := by
  simp [rd, List.getD_eq_getElem?_getD, List.getElem?_eq_getElem h]
theorem tree_Half_loop (c : Nat) (hc : c ≤ 1099511627776) : ∀ (f h k : Nat), 1 ≤ h → h ≤ c → c < h + f + 1 → f < k → tree_Half.l0 k (c : Int) (h : Int) = some ((halfGo f h c : Nat) : Int) := by
  intro f
  induction f with
  | zero =>
    intro h k h0 h1 h2 hk
    obtain ⟨k, rfl⟩ : ∃ m, k = m + 1 := ⟨k - 1, by omega⟩
    simp only [tree_Half.l0, halfGo]
    rw [w64 (by omega) (by omega), if_neg (by omega)]
  | succ f ih =>
    intro h k h0 h1 h2 hk
    obtain ⟨k, rfl⟩ : ∃ m, k = m + 1 := ⟨k - 1, by omega⟩
    simp only [tree_Half.l0, halfGo]
    rw [w64 (x := 2 * (h : Int)) (by omega) (by omega)]
    by_cases g : 2 * h < c
    · rw [if_pos (by omega), if_pos g, w64 (x := (h : Int) * 2) (by omega) (by omega), show ((h : Int) * 2) = ((2 * h : Nat) : Int) from by omega]
      exact ih (2 * h) k (by omega) (by omega) (by omega) (by omega)
    · rw [if_neg (by omega), if_neg g]
theorem tree_Half_ev (c : Nat) (h1 : 1 ≤ c) (hc : c ≤ 1099511627776) : Ev (fun k => tree_Half.f k (c : Int)) ((halfS c : Nat) : Int) :=
  ev_ge (c + 1) (fun k hk => tree_Half_loop c hc c 1 k (by omega) (by omega) (by omega) (by omega))
/-- the root of leaves -/
def rootS (l : List Int) : Int :=
  if h : 2 ≤ l.length then pairS (rootS (l.take (halfS l.length))) (rootS (l.drop (halfS l.length))) else l.headD 0
  termination_by l.length
  decreasing_by
    all_goals (have := halfS_range h; simp only [List.length_take, List.length_drop]; omega)
theorem rootS_one (x : Int) : rootS [x] = x := by rw [rootS]; simp
theorem rootS_two {l : List Int} (h : 2 ≤ l.length) : rootS l = pairS (rootS (l.take (halfS l.length))) (rootS (l.drop (halfS l.length))) := by
  rw [rootS, dif_pos h]
/-- all are seals -/
def Seals01 (l : List Int) : Prop := ∀ x, x ∈ l → 0 ≤ x ∧ x < 2147483647
theorem Seals01.take {l : List Int} (h : Seals01 l) (n : Nat) : Seals01 (l.take n) := fun x hx => h x (List.mem_of_mem_take hx)
theorem Seals01.drop {l : List Int} (h : Seals01 l) (n : Nat) : Seals01 (l.drop n) := fun x hx => h x (List.mem_of_mem_drop hx)
theorem rootS_range {l : List Int} (h : Seals01 l) (hl : 1 ≤ l.length) : 0 ≤ rootS l ∧ rootS l < 2147483647 := by
  by_cases h2 : 2 ≤ l.length
  · rw [rootS_two h2]; exact pairS_range _ _
  · obtain ⟨x, rfl⟩ : ∃ x, l = [x] := List.length_eq_one_iff.mp (by omega)
    rw [rootS_one]; exact h x (by simp)
theorem tree_Of_ev : ∀ (n : Nat) (l : List Int), l.length = n → 1 ≤ n → n ≤ 1099511627776 → Ev (fun k => tree_Of.f k l) (rootS l) := by
  intro n
  induction n using Nat.strongRecOn with
  | _ n ih =>
    intro l hl h1 h2
    by_cases e : n = 1
    · obtain ⟨x, rfl⟩ : ∃ x, l = [x] := List.length_eq_one_iff.mp (by omega)
      refine Ev.step (f := fun _ => some x) (fun k => ?_) (by rw [rootS_one]; exact Ev.now x)
      simp only [tree_Of.f]
      simp [rd]
    · have hr := halfS_range (c := l.length) (by omega)
      refine Ev.step (f := fun k => (tree_Half.f k (l.length : Int)).bind fun t => (if 0 ≤ t then (if t ≤ (l.length : Int) then ((tree_Of.f k (l.take (t : Int).toNat)).bind fun a => ((tree_Of.f k (l.drop (t : Int).toNat)).bind fun b => ((seal_Pair.f a b).bind fun t130 => (some t130)))) else (none)) else (none))) (fun k => ?_) ?_
      · simp only [tree_Of.f]; rw [if_neg (by omega)]
      · refine Ev.bind (tree_Half_ev l.length (by omega) (by omega)) ?_
        refine ev_pos (by omega) (ev_pos (by omega) ?_)
        rw [Int.toNat_natCast]
        refine Ev.bind (ih (halfS l.length) (by omega) _ (by rw [List.length_take]; omega) (by omega) (by omega)) ?_
        refine Ev.bind (ih (l.length - halfS l.length) (by omega) _ (by rw [List.length_drop]) (by omega) (by omega)) ?_
        simp only [seal_Pair_eq, Option.bind_some]
        rw [rootS_two (l := l) (by omega)]
        exact Ev.now _
theorem seal_Is_eq (x : Int) : seal_Is.f x = some (decide (0 ≤ x ∧ x < 2147483647)) := by
  unfold seal_Is.f
  by_cases h : x ≥ 0
  · rw [if_pos h]; congr 1; rw [decide_eq_decide]; omega
  · rw [if_neg h]; congr 1; symm; rw [decide_eq_false_iff_not]; omega
/-- all are seals, as a Bool -/
def allB (l : List Int) : Bool := l.all fun x => decide (0 ≤ x ∧ x < 2147483647)
theorem allB_iff (l : List Int) : allB l = true ↔ Seals01 l := by
  unfold allB Seals01; simp [List.all_eq_true]
theorem seal_All_loop (l : List Int) (hl : l.length ≤ 17592186044416) : ∀ (d i : Nat), i + d = l.length → Ev (fun k => seal_All.l0 k l (l.length : Int) (i : Int)) (allB (l.drop i)) := by
  intro d
  induction d with
  | zero =>
    intro i hi
    refine Ev.step (f := fun _ => some true) (fun k => ?_) ?_
    · simp only [seal_All.l0]; rw [if_neg (by omega)]
    · rw [List.drop_of_length_le (by omega)]; exact Ev.now true
  | succ d ih =>
    intro i hi
    have hlt : i < l.length := by omega
    refine Ev.step (f := fun k => if decide (0 ≤ l[i] ∧ l[i] < 2147483647) = true then seal_All.l0 k l (l.length : Int) ((i + 1 : Nat) : Int) else some false) (fun k => ?_) ?_
    · simp only [seal_All.l0]
      rw [if_pos (by omega), if_pos (by omega), if_pos (by omega), rd_nat l i hlt, seal_Is_eq, w64 (by omega) (by omega)]
      rfl
    · rw [List.drop_eq_getElem_cons hlt]
      by_cases g : 0 ≤ l[i] ∧ l[i] < 2147483647
      · simp only [g, and_self, decide_true, if_true, allB, List.all_cons, Bool.true_and]
        exact ih (i + 1) (by omega)
      · simp only [decide_eq_false g, allB, List.all_cons, Bool.false_and]
        exact Ev.now false
theorem seal_All_ev (l : List Int) (hl : l.length ≤ 17592186044416) : Ev (fun k => seal_All.f k l) (allB l) := by
  have := seal_All_loop l hl l.length 0 (by omega)
  rw [List.drop_zero] at this
  exact this
/-- may leaves be? -/
def mayB (l : List Int) : Bool := decide (1 ≤ l.length ∧ l.length ≤ 64) && allB l
theorem tree_May_ev (l : List Int) (hl : l.length ≤ 17592186044416) : Ev (fun k => tree_May.f k l) (mayB l) := by
  unfold mayB
  by_cases h1 : 1 ≤ l.length
  · by_cases h2 : l.length ≤ 64
    · rw [decide_eq_true ⟨h1, h2⟩, Bool.true_and]
      refine Ev.congr (f := fun k => (seal_All.f k l).bind fun t => some t) (fun k => ?_) (Ev.bind (seal_All_ev l hl) (Ev.now _))
      unfold tree_May.f; rw [if_pos (by omega), if_pos (by omega)]
    · rw [decide_eq_false (by omega), Bool.false_and]
      refine Ev.congr (f := fun k => some false) (fun k => ?_) (Ev.now _)
      unfold tree_May.f; rw [if_pos (by omega), if_neg (by omega)]
  · rw [decide_eq_false (by omega), Bool.false_and]
    refine Ev.congr (f := fun k => some false) (fun k => ?_) (Ev.now _)
    unfold tree_May.f; rw [if_neg (by omega)]
/-- Root's answer -/
def rootA (l : List Int) : Int × Int := if mayB l = true then (rootS l, 0) else (0, 1000)
theorem rootA_ok {l : List Int} (h : Seals01 l) (h1 : 1 ≤ l.length) (h2 : l.length ≤ 64) : rootA l = (rootS l, 0) := by
  unfold rootA mayB; rw [decide_eq_true ⟨h1, h2⟩, (allB_iff l).mpr h]; rfl

theorem extr (s : ByteArray) (a b : Nat) : (s.extract a b).data.toList = (s.data.toList.drop a).take (b - a) := by
  rw [ByteArray.data_extract, Array.toList_extract, List.extract_eq_take_drop]
theorem extr_size (s : ByteArray) (a b : Nat) (h : b ≤ s.size) : (s.extract a b).size = b - a := by
  rw [ByteArray.size_extract]; omega
theorem mn_eq (a b : Int) : mn a b = min a b := by unfold mn; omega

/-- the seals of a text's blocks -/
def leavesL (l : List UInt8) : List Int :=
  if h : l = [] then [] else ofL (l.take 8) :: leavesL (l.drop 8)
  termination_by l.length
  decreasing_by
    have := List.length_pos_iff.mpr h
    simp only [List.length_drop]; omega
theorem leavesL_nil : leavesL [] = [] := by rw [leavesL]; simp
theorem leavesL_cons {l : List UInt8} (h : 1 ≤ l.length) : leavesL l = ofL (l.take 8) :: leavesL (l.drop 8) := by
  rw [leavesL, dif_neg (by intro e; rw [e] at h; simp at h)]
theorem leavesL_length : ∀ (n : Nat) (l : List UInt8), l.length = n → (leavesL l).length = (n + 7) / 8 := by
  intro n
  induction n using Nat.strongRecOn with
  | _ n ih =>
    intro l hl
    by_cases h : 1 ≤ l.length
    · rw [leavesL_cons h, List.length_cons, ih (n - 8) (by omega) (l.drop 8) (by rw [List.length_drop]; omega)]; omega
    · have : l = [] := List.eq_nil_of_length_eq_zero (by omega)
      rw [this, leavesL_nil]; simp; omega
theorem leavesL_range : ∀ (n : Nat) (l : List UInt8), l.length = n → ∀ x, x ∈ leavesL l → 0 ≤ x ∧ x < 2147483647 := by
  intro n
  induction n using Nat.strongRecOn with
  | _ n ih =>
    intro l hl x hx
    by_cases h : 1 ≤ l.length
    · rw [leavesL_cons h, List.mem_cons] at hx
      rcases hx with rfl | hx
      · exact ofL_range _
      · exact ih (n - 8) (by omega) (l.drop 8) (by rw [List.length_drop]; omega) x hx
    · have : l = [] := List.eq_nil_of_length_eq_zero (by omega)
      rw [this, leavesL_nil] at hx; simp at hx
theorem leavesL_get : ∀ (i : Nat) (l : List UInt8) (h : i < (leavesL l).length), (leavesL l)[i] = ofL ((l.drop (8 * i)).take 8) := by
  intro i
  induction i with
  | zero =>
    intro l h
    have h1 : 1 ≤ l.length := by
      rw [leavesL_length l.length l rfl] at h; omega
    simp only [leavesL_cons h1, List.getElem_cons_zero, Nat.mul_zero, List.drop_zero]
  | succ i ih =>
    intro l h
    have h1 : 1 ≤ l.length := by
      rw [leavesL_length l.length l rfl] at h; omega
    have h2 : i < (leavesL (l.drop 8)).length := by
      rw [leavesL_cons h1, List.length_cons] at h; omega
    simp only [leavesL_cons h1, List.getElem_cons_succ]
    rw [ih _ h2, List.drop_drop, show 8 + 8 * i = 8 * (i + 1) from by omega]
theorem tree_Leaves_loop : ∀ (n : Nat) (s : ByteArray) (acc : List Int), s.size = n → acc.length * 8 + s.size ≤ 140737488351232 →
    Ev (fun k => tree_Leaves.l0 k s acc) (acc ++ leavesL s.data.toList) := by
  intro n
  induction n using Nat.strongRecOn with
  | _ n ih =>
    intro s acc hs hb
    have hl := data_len s
    by_cases h : 1 ≤ s.size
    · have hm : (mn 8 (s.size : Int)) = ((min 8 s.size : Nat) : Int) := by rw [mn_eq]; omega
      refine Ev.step (f := fun k => (seal_Of.f k (s.extract 0 (min 8 s.size))).bind fun t => tree_Leaves.l0 k (s.extract (min 8 s.size) s.size) (acc ++ [t])) (fun k => ?_) ?_
      · simp only [tree_Leaves.l0]
        rw [if_pos (by omega), hm, if_pos (by omega), if_pos (by omega), Int.toNat_natCast]
        congr 1; funext t
        rw [if_pos (by omega)]
      · refine Ev.bind (seal_Of_ev _ (by rw [extr_size _ _ _ (by omega)]; omega)) ?_
        have e1 : (s.extract 0 (min 8 s.size)).data.toList = s.data.toList.take 8 := by
          rw [extr, List.drop_zero, Nat.sub_zero, List.take_eq_take_iff]; omega
        have e2 : (s.extract (min 8 s.size) s.size).data.toList = s.data.toList.drop 8 := by
          rw [extr, List.take_of_length_le (by rw [List.length_drop]; omega)]
          by_cases g : 8 ≤ s.size
          · rw [Nat.min_eq_left g]
          · rw [List.drop_of_length_le (by omega), List.drop_of_length_le (by omega)]
        have := ih (s.size - min 8 s.size) (by omega) (s.extract (min 8 s.size) s.size) (acc ++ [ofL (s.data.toList.take 8)]) (extr_size _ _ _ (by omega)) (by rw [extr_size _ _ _ (by omega), List.length_append]; simp only [List.length_cons, List.length_nil]; omega)
        rw [e1]
        rw [e2, List.append_assoc, List.singleton_append, ← leavesL_cons (by omega)] at this
        exact this
    · refine Ev.step (f := fun _ => some acc) (fun k => ?_) ?_
      · simp only [tree_Leaves.l0]; rw [if_neg (by omega)]
      · have : s.data.toList = [] := List.eq_nil_of_length_eq_zero (by omega)
        rw [this, leavesL_nil, List.append_nil]; exact Ev.now _
theorem tree_Leaves_ev (s : ByteArray) (hs : s.size ≤ 140737488351232) : Ev (fun k => tree_Leaves.f k s) (leavesL s.data.toList) := by
  have := tree_Leaves_loop s.size s [] rfl (by simpa using hs)
  rw [List.nil_append] at this
  exact this

theorem u64w (x : Int) : IntKind.u64.wrap x = x % 18446744073709551616 := by simp [IntKind.wrap, IntKind.bits, IntKind.signed]
theorem i64w (x : Int) : IntKind.i64.wrap x = (x + 9223372036854775808) % 18446744073709551616 - 9223372036854775808 := by
  simp [IntKind.wrap, IntKind.bits, IntKind.signed]
  split <;> omega
/-- x & (2^i - 1), whatever x -/
theorem and_mask (x : Int) (i : Nat) (hi : i ≤ 62) (m p : Int) (hm : m = ((2 ^ i - 1 : Nat) : Int)) (hp : p = ((2 ^ i : Nat) : Int)) : Go.bits .and .i64 x m = x % p := by
  subst hm hp
  have h2 : 2 ^ i ≤ 2 ^ 62 := Nat.pow_le_pow_right (by decide) hi
  have hpos : 0 < 2 ^ i := Nat.two_pow_pos i
  have e1 : (2 ^ i - 1) % 2 ^ 64 = 2 ^ i - 1 := Nat.mod_eq_of_lt (by omega)
  have hd : 2 ^ i ∣ 2 ^ 64 := Nat.pow_dvd_pow 2 (by omega)
  have e0 : Go.bits .and .i64 x ((2 ^ i - 1 : Nat) : Int) = IntKind.i64.wrap (((BitVec.ofInt 64 x &&& BitVec.ofInt 64 ((2 ^ i - 1 : Nat) : Int)).toNat : Nat) : Int) := rfl
  rw [e0, BitVec.ofInt_natCast, BitVec.toNat_and, BitVec.toNat_ofNat]
  rw [e1, Nat.and_two_pow_sub_one_eq_mod]
  have e2 : (BitVec.ofInt 64 x).toNat = (x % 18446744073709551616).toNat := by
    rw [BitVec.toNat_ofInt]; rfl
  rw [e2]
  have e3 : (((x % 18446744073709551616).toNat % 2 ^ i : Nat) : Int) = x % ((2 ^ i : Nat) : Int) := by
    rw [Int.natCast_emod, Int.toNat_of_nonneg (by omega)]
    have hd' : ((2 ^ i : Nat) : Int) ∣ (18446744073709551616 : Int) := Int.natCast_dvd_natCast (n := 18446744073709551616).mpr hd
    exact Int.emod_emod_of_dvd x hd'
  rw [e3]
  have h3 : 0 ≤ x % ((2 ^ i : Nat) : Int) := Int.emod_nonneg x (by omega)
  have h4 : x % ((2 ^ i : Nat) : Int) < ((2 ^ i : Nat) : Int) := Int.emod_lt_of_pos x (by omega)
  generalize x % ((2 ^ i : Nat) : Int) = y at *
  rw [i64w]; omega
/-- uint(a) % uint(n), as a place -/
def umod (a : Int) (n : Nat) : Nat := ((a % 18446744073709551616) % (n : Int)).toNat
theorem umod_lt (a : Int) (n : Nat) (h : 1 ≤ n) : umod a n < n := by
  unfold umod
  have h1 : 0 ≤ (a % 18446744073709551616) % (n : Int) := Int.emod_nonneg _ (by omega)
  have h2 : (a % 18446744073709551616) % (n : Int) < (n : Int) := Int.emod_lt_of_pos _ (by omega)
  omega
theorem umod_eq (a : Int) (n : Nat) (h : 1 ≤ n) (h' : n ≤ 4611686018427387904) : wrap64 (Int.tmod (IntKind.u64.wrap a) (IntKind.u64.wrap (n : Int))) = (umod a n : Int) := by
  have e : (n : Int) % 18446744073709551616 = (n : Int) := by omega
  rw [u64w, u64w, e, tm (x := a % 18446744073709551616) _ (by omega)]
  unfold umod
  have h1 : 0 ≤ (a % 18446744073709551616) % (n : Int) := Int.emod_nonneg _ (by omega)
  have h2 : (a % 18446744073709551616) % (n : Int) < (n : Int) := Int.emod_lt_of_pos _ (by omega)
  rw [w64 (by omega) (by omega)]; omega
theorem umod_lit (a : Int) (n : Nat) (m : Int) (hm : m = (n : Int)) (h : 1 ≤ n) (h' : n ≤ 4611686018427387904) : wrap64 (Int.tmod (IntKind.u64.wrap a) m) = (umod a n : Int) := by
  subst hm
  have := umod_eq a n h h'
  rwa [show IntKind.u64.wrap (n : Int) = (n : Int) from by rw [u64w]; omega] at this
/-- int(uint32(x) >> 2) -/
def quart (x : Int) : Int := x % 4294967296 / 4
theorem quart_range (x : Int) : 0 ≤ quart x ∧ quart x < 1073741824 := by unfold quart; omega

/-- a text of these bytes -/
def bsOf (l : List UInt8) : ByteArray := ⟨l.toArray⟩
theorem bs_list (l : List UInt8) : (bsOf l).toList = l := by unfold bsOf; simp
theorem bs_data (l : List UInt8) : (bsOf l).data.toList = l := by simp [bsOf]
theorem bs_size (l : List UInt8) : (bsOf l).size = l.length := by rw [← data_len, bs_data]
theorem bs_of (s : ByteArray) : bsOf s.data.toList = s := by simp [bsOf]
theorem bs_eta (s : ByteArray) : ∃ l, s = bsOf l ∧ l.length = s.size := ⟨s.data.toList, (bs_of s).symm, data_len s⟩
theorem ba_ext {a b : ByteArray} (h : a.data.toList = b.data.toList) : a = b := by rw [← bs_of a, ← bs_of b, h]
theorem bs_append (a b : List UInt8) : bsOf a ++ bsOf b = bsOf (a ++ b) := by
  apply ba_ext; simp [bs_data]
theorem bs_inj {a b : List UInt8} (h : bsOf a = bsOf b) : a = b := by rw [← bs_data a, ← bs_data b, h]
theorem bs_extract (l : List UInt8) (a b : Nat) : (bsOf l).extract a b = bsOf ((l.drop a).take (b - a)) := by
  apply ba_ext
  rw [bs_data, ByteArray.data_extract, Array.toList_extract, List.extract_eq_take_drop, bs_data]
theorem bs_bt (l : List UInt8) (i : Nat) (h : i < l.length) : bt (bsOf l) (i : Int) = (l[i].toNat : Int) := by
  have := bt_get (bsOf l) i (by rw [bs_data]; exact h)
  rw [this]; congr 2
theorem u8_range (b : UInt8) : 0 ≤ (b.toNat : Int) ∧ (b.toNat : Int) ≤ 255 := by
  have := b.toNat_lt; omega
/-- a byte of a number -/
def byteOf (x : Int) : UInt8 := UInt8.ofNat (x % 256).toNat
theorem byteOf_val (x : Int) : ((byteOf x).toNat : Int) = x % 256 := by
  unfold byteOf
  rw [UInt8.toNat_ofNat']
  omega
theorem byteOf_toNat (b : UInt8) : byteOf (b.toNat : Int) = b := by
  apply UInt8.toNat_inj.mp
  have h1 := byteOf_val (b.toNat : Int)
  have h2 := u8_range b
  omega
theorem str_nums (xs : List Int) (h : ∀ x, x ∈ xs → 0 ≤ x ∧ x < 256) : strOfNums xs = bsOf (xs.map byteOf) := by
  unfold strOfNums bsOf
  congr 2
  apply List.map_congr_left
  intro x hx
  have := h x hx
  unfold byteOf
  rw [Int.emod_eq_of_lt this.1 this.2]

/-- a leaf's path -/
def pathS (l : List Int) (a : Nat) : List Int :=
  if h : 2 ≤ l.length then
    if a < halfS l.length then pathS (l.take (halfS l.length)) a ++ [rootS (l.drop (halfS l.length))]
    else pathS (l.drop (halfS l.length)) (a - halfS l.length) ++ [rootS (l.take (halfS l.length))]
  else []
  termination_by l.length
  decreasing_by
    all_goals (have := halfS_range h; simp only [List.length_take, List.length_drop]; omega)
/-- how long a path is -/
def longS (c a : Nat) : Nat :=
  if h : 2 ≤ c then
    if a < halfS c then longS (halfS c) a + 1 else longS (c - halfS c) (a - halfS c) + 1
  else 0
  termination_by c
  decreasing_by
    all_goals (have := halfS_range h; omega)
/-- where a path leads -/
def upS (c a : Nat) (x : Int) (p : List Int) : Int :=
  if h : 2 ≤ c then
    if a < halfS c then pairS (upS (halfS c) a x (p.take (p.length - 1))) (rd p ((p.length - 1 : Nat) : Int))
    else pairS (rd p ((p.length - 1 : Nat) : Int)) (upS (c - halfS c) (a - halfS c) x (p.take (p.length - 1)))
  else x
  termination_by c
  decreasing_by
    all_goals (have := halfS_range h; omega)
theorem pathS_one {l : List Int} (a : Nat) (h : ¬ 2 ≤ l.length) : pathS l a = [] := by rw [pathS, dif_neg h]
theorem pathS_left {l : List Int} {a : Nat} (h : 2 ≤ l.length) (g : a < halfS l.length) : pathS l a = pathS (l.take (halfS l.length)) a ++ [rootS (l.drop (halfS l.length))] := by
  rw [pathS, dif_pos h, if_pos g]
theorem pathS_right {l : List Int} {a : Nat} (h : 2 ≤ l.length) (g : ¬ a < halfS l.length) : pathS l a = pathS (l.drop (halfS l.length)) (a - halfS l.length) ++ [rootS (l.take (halfS l.length))] := by
  rw [pathS, dif_pos h, if_neg g]
theorem longS_one {c : Nat} (a : Nat) (h : ¬ 2 ≤ c) : longS c a = 0 := by rw [longS, dif_neg h]
theorem longS_left {c a : Nat} (h : 2 ≤ c) (g : a < halfS c) : longS c a = longS (halfS c) a + 1 := by rw [longS, dif_pos h, if_pos g]
theorem longS_right {c a : Nat} (h : 2 ≤ c) (g : ¬ a < halfS c) : longS c a = longS (c - halfS c) (a - halfS c) + 1 := by rw [longS, dif_pos h, if_neg g]
theorem upS_one {c : Nat} (a : Nat) (x : Int) (p : List Int) (h : ¬ 2 ≤ c) : upS c a x p = x := by rw [upS, dif_neg h]
theorem upS_left {c a : Nat} (x : Int) (p : List Int) (h : 2 ≤ c) (g : a < halfS c) : upS c a x p = pairS (upS (halfS c) a x (p.take (p.length - 1))) (rd p ((p.length - 1 : Nat) : Int)) := by
  rw [upS, dif_pos h, if_pos g]
theorem upS_right {c a : Nat} (x : Int) (p : List Int) (h : 2 ≤ c) (g : ¬ a < halfS c) : upS c a x p = pairS (rd p ((p.length - 1 : Nat) : Int)) (upS (c - halfS c) (a - halfS c) x (p.take (p.length - 1))) := by
  rw [upS, dif_pos h, if_neg g]
theorem longS_le : ∀ (n c a : Nat), c = n → longS c a ≤ c - 1 := by
  intro n
  induction n using Nat.strongRecOn with
  | _ n ih =>
    intro c a hc
    by_cases h : 2 ≤ c
    · have hr := halfS_range h
      by_cases g : a < halfS c
      · rw [longS_left h g]
        have := ih (halfS c) (by omega) (halfS c) a rfl
        omega
      · rw [longS_right h g]
        have := ih (c - halfS c) (by omega) (c - halfS c) (a - halfS c) rfl
        omega
    · rw [longS_one a h]; omega
theorem pathS_length : ∀ (n : Nat) (l : List Int) (a : Nat), l.length = n → (pathS l a).length = longS l.length a := by
  intro n
  induction n using Nat.strongRecOn with
  | _ n ih =>
    intro l a hl
    by_cases h : 2 ≤ l.length
    · have hr := halfS_range h
      by_cases g : a < halfS l.length
      · have e : (l.take (halfS l.length)).length = halfS l.length := by rw [List.length_take]; omega
        rw [pathS_left h g, longS_left h g, List.length_append, ih (halfS l.length) (by omega) _ a e, e]; rfl
      · have e : (l.drop (halfS l.length)).length = l.length - halfS l.length := by rw [List.length_drop]
        rw [pathS_right h g, longS_right h g, List.length_append, ih (l.length - halfS l.length) (by omega) _ _ e, e]; rfl
    · rw [pathS_one a h, longS_one a h]; rfl
theorem proof_Long_ev : ∀ (n c a : Nat), c = n → c ≤ 1099511627776 → a ≤ 1099511627776 → Ev (fun k => proof_Long.f k (c : Int) (a : Int)) ((longS c a : Nat) : Int) := by
  intro n
  induction n using Nat.strongRecOn with
  | _ n ih =>
    intro c a hc hb ha
    by_cases h : 2 ≤ c
    · have hr := halfS_range h
      refine Ev.step (f := fun k => (tree_Half.f k (c : Int)).bind fun t170 => (if (a : Int) < t170 then ((proof_Long.f k t170 (a : Int)).bind fun t171 => (some (wrap64 (1 + t171)))) else ((proof_Long.f k (wrap64 ((c : Int) - t170)) (wrap64 ((a : Int) - t170))).bind fun t172 => (some (wrap64 (1 + t172)))))) (fun k => ?_) ?_
      · simp only [proof_Long.f]; rw [if_neg (by omega)]
      · refine Ev.bind (tree_Half_ev c (by omega) hb) ?_
        by_cases g : a < halfS c
        · refine ev_pos (by omega) (Ev.bind (ih (halfS c) (by omega) (halfS c) a rfl (by omega) ha) ?_)
          have := longS_le (halfS c) (halfS c) a rfl
          rw [w64 (by omega) (by omega), longS_left h g, show (1 + ((longS (halfS c) a : Nat) : Int)) = ((longS (halfS c) a + 1 : Nat) : Int) from by omega]
          exact Ev.now _
        · refine ev_neg (by omega) ?_
          rw [w64 (x := (c : Int) - (halfS c : Int)) (by omega) (by omega), w64 (x := (a : Int) - (halfS c : Int)) (by omega) (by omega), show (c : Int) - (halfS c : Int) = ((c - halfS c : Nat) : Int) from by omega, show (a : Int) - (halfS c : Int) = ((a - halfS c : Nat) : Int) from by omega]
          refine Ev.bind (ih (c - halfS c) (by omega) (c - halfS c) (a - halfS c) rfl (by omega) (by omega)) ?_
          have := longS_le (c - halfS c) (c - halfS c) (a - halfS c) rfl
          rw [w64 (by omega) (by omega), longS_right h g, show (1 + ((longS (c - halfS c) (a - halfS c) : Nat) : Int)) = ((longS (c - halfS c) (a - halfS c) + 1 : Nat) : Int) from by omega]
          exact Ev.now _
    · refine Ev.step (f := fun k => some 0) (fun k => ?_) ?_
      · simp only [proof_Long.f]; rw [if_pos (by omega)]
      · rw [longS_one a h]; exact Ev.now _
theorem proof_path_ev : ∀ (n : Nat) (l : List Int) (a : Nat), l.length = n → 1 ≤ n → n ≤ 1099511627776 → a < n → Ev (fun k => proof_path.f k l (a : Int)) (pathS l a) := by
  intro n
  induction n using Nat.strongRecOn with
  | _ n ih =>
    intro l a hl h1 hb ha
    by_cases h : 2 ≤ l.length
    · have hr := halfS_range h
      have et : (l.take (halfS l.length)).length = halfS l.length := by rw [List.length_take]; omega
      have ed : (l.drop (halfS l.length)).length = l.length - halfS l.length := by rw [List.length_drop]
      refine Ev.step (f := fun k => (tree_Half.f k (l.length : Int)).bind fun t113 => (if (a : Int) < t113 then (if 0 ≤ t113 then (if t113 ≤ (l.length : Int) then ((proof_path.f k (l.take (t113 : Int).toNat) (a : Int)).bind fun t115 => ((tree_Of.f k (l.drop (t113 : Int).toNat)).bind fun t119 => (if t115.length < 17592186044416 then (some (t115 ++ [t119])) else (none)))) else (none)) else (none)) else (if 0 ≤ t113 then (if t113 ≤ (l.length : Int) then ((proof_path.f k (l.drop (t113 : Int).toNat) (wrap64 ((a : Int) - t113))).bind fun t124 => ((tree_Of.f k (l.take (t113 : Int).toNat)).bind fun t128 => (if t124.length < 17592186044416 then (some (t124 ++ [t128])) else (none)))) else (none)) else (none)))) (fun k => ?_) ?_
      · simp only [proof_path.f]; rw [if_neg (by omega)]
      · refine Ev.bind (tree_Half_ev l.length (by omega) (by omega)) ?_
        by_cases g : a < halfS l.length
        · refine ev_pos (by omega) (ev_pos (by omega) (ev_pos (by omega) ?_))
          rw [Int.toNat_natCast]
          refine Ev.bind (ih (halfS l.length) (by omega) _ a et (by omega) (by omega) g) (Ev.bind (tree_Of_ev _ _ ed (by omega) (by omega)) ?_)
          have hp := pathS_length _ (l.take (halfS l.length)) a rfl
          have hle := longS_le _ (l.take (halfS l.length)).length a rfl
          rw [pathS_left h g]
          exact ev_pos (by omega) (Ev.now _)
        · refine ev_neg (by omega) (ev_pos (by omega) (ev_pos (by omega) ?_))
          rw [Int.toNat_natCast, w64 (x := (a : Int) - (halfS l.length : Int)) (by omega) (by omega), show (a : Int) - (halfS l.length : Int) = ((a - halfS l.length : Nat) : Int) from by omega]
          refine Ev.bind (ih (l.length - halfS l.length) (by omega) _ _ ed (by omega) (by omega) (by omega)) (Ev.bind (tree_Of_ev _ _ et (by omega) (by omega)) ?_)
          have hp := pathS_length _ (l.drop (halfS l.length)) (a - halfS l.length) rfl
          have hle := longS_le _ (l.drop (halfS l.length)).length (a - halfS l.length) rfl
          rw [pathS_right h g]
          exact ev_pos (by omega) (Ev.now _)
    · refine Ev.step (f := fun k => some []) (fun k => ?_) ?_
      · simp only [proof_path.f]; rw [if_pos (by omega)]
      · rw [pathS_one a h]; exact Ev.now _
theorem proof_up_ev : ∀ (n c a : Nat) (x : Int) (p : List Int), c = n → 1 ≤ c → c ≤ 1099511627776 → a < c → p.length = longS c a → Ev (fun k => proof_up.f k (c : Int) (a : Int) x p) (upS c a x p) := by
  intro n
  induction n using Nat.strongRecOn with
  | _ n ih =>
    intro c a x p hc h1 hb ha hp
    by_cases h : 2 ≤ c
    · have hr := halfS_range h
      have hle := longS_le c c a rfl
      have hp1 : 1 ≤ p.length := by
        rw [hp]
        by_cases g : a < halfS c
        · rw [longS_left h g]; omega
        · rw [longS_right h g]; omega
      have hw : wrap64 ((p.length : Int) - 1) = ((p.length - 1 : Nat) : Int) := by rw [w64 (by omega) (by omega)]; omega
      have ht : (p.take (p.length - 1)).length = p.length - 1 := by rw [List.length_take]; omega
      refine Ev.step (f := fun k => (tree_Half.f k (c : Int)).bind fun t173 => (if (a : Int) < t173 then (if 0 ≤ (wrap64 ((p.length : Int) - 1)) then (if (wrap64 ((p.length : Int) - 1)) ≤ (p.length : Int) then ((proof_up.f k t173 (a : Int) x (p.take ((wrap64 ((p.length : Int) - 1)) : Int).toNat)).bind fun t175 => (if (wrap64 ((p.length : Int) - 1)) < (p.length : Int) then ((seal_Pair.f t175 (rd p (wrap64 ((p.length : Int) - 1)))).bind fun t177 => (some t177)) else (none))) else (none)) else (none)) else (if 0 ≤ (wrap64 ((p.length : Int) - 1)) then (if (wrap64 ((p.length : Int) - 1)) < (p.length : Int) then (if (wrap64 ((p.length : Int) - 1)) ≤ (p.length : Int) then ((proof_up.f k (wrap64 ((c : Int) - t173)) (wrap64 ((a : Int) - t173)) x (p.take ((wrap64 ((p.length : Int) - 1)) : Int).toNat)).bind fun t180 => ((seal_Pair.f (rd p (wrap64 ((p.length : Int) - 1))) t180).bind fun t181 => (some t181))) else (none)) else (none)) else (none)))) (fun k => ?_) ?_
      · simp only [proof_up.f]; rw [if_neg (by omega)]
      · refine Ev.bind (tree_Half_ev c (by omega) hb) ?_
        rw [hw, Int.toNat_natCast]
        by_cases g : a < halfS c
        · refine ev_pos (by omega) (ev_pos (by omega) (ev_pos (by omega) ?_))
          refine Ev.bind (ih (halfS c) (by omega) (halfS c) a x _ rfl (by omega) (by omega) g (by rw [ht, hp, longS_left h g]; omega)) (ev_pos (by omega) ?_)
          simp only [seal_Pair_eq, Option.bind_some]
          rw [upS_left x p h g]
          exact Ev.now _
        · refine ev_neg (by omega) (ev_pos (by omega) (ev_pos (by omega) (ev_pos (by omega) ?_)))
          rw [w64 (x := (c : Int) - (halfS c : Int)) (by omega) (by omega), w64 (x := (a : Int) - (halfS c : Int)) (by omega) (by omega), show (c : Int) - (halfS c : Int) = ((c - halfS c : Nat) : Int) from by omega, show (a : Int) - (halfS c : Int) = ((a - halfS c : Nat) : Int) from by omega]
          refine Ev.bind (ih (c - halfS c) (by omega) (c - halfS c) (a - halfS c) x _ rfl (by omega) (by omega) (by omega) (by rw [ht, hp, longS_right h g]; omega)) ?_
          simp only [seal_Pair_eq, Option.bind_some]
          rw [upS_right x p h g]
          exact Ev.now _
    · refine Ev.step (f := fun k => some x) (fun k => ?_) ?_
      · simp only [proof_up.f]; rw [if_pos (by omega)]
      · rw [upS_one a x p h]; exact Ev.now _
/-- what a claim must be -/
def LeadOk (c a x : Int) (p : List Int) : Prop := 1 ≤ c ∧ c ≤ 64 ∧ 0 ≤ a ∧ a < c ∧ 0 ≤ x ∧ x < 2147483647 ∧ Seals01 p ∧ p.length = longS c.toNat a.toNat
instance (c a x : Int) (p : List Int) : Decidable (LeadOk c a x p) := by
  unfold LeadOk; have : Decidable (Seals01 p) := decidable_of_iff (allB p = true) (allB_iff p); infer_instance
theorem leadOk {c a : Nat} {x : Int} {p : List Int} (h1 : c ≤ 64) (h2 : a < c) (x0 : 0 ≤ x) (x1 : x < 2147483647) (hs : Seals01 p) (hp : p.length = longS c a) : LeadOk (c : Int) (a : Int) x p :=
  ⟨by omega, by omega, by omega, by omega, x0, x1, hs, hp⟩
/-- Lead's answer -/
def leadA (c a x : Int) (p : List Int) : Int × Bool := if LeadOk c a x p then (upS c.toNat a.toNat x p, true) else (0, false)
theorem proof_Lead_ev (c a x : Int) (p : List Int) (hp : p.length ≤ 17592186044416) : Ev (fun k => proof_Lead.f k c a x p) (leadA c a x p) := by
  unfold proof_Lead.f leadA
  by_cases h1 : c < 1
  · rw [if_neg (by unfold LeadOk; omega)]; exact ev_pos h1 (Ev.now _)
  refine ev_neg h1 ?_
  by_cases h2 : c > 64
  · rw [if_neg (by unfold LeadOk; omega)]; exact ev_pos h2 (Ev.now _)
  refine ev_neg h2 ?_
  by_cases h3 : a < 0
  · rw [if_neg (by unfold LeadOk; omega)]; exact ev_pos h3 (Ev.now _)
  refine ev_neg h3 ?_
  by_cases h4 : a ≥ c
  · rw [if_neg (by unfold LeadOk; omega)]; exact ev_pos h4 (Ev.now _)
  refine ev_neg h4 ?_
  simp only [seal_Is_eq, Option.bind_some]
  by_cases h5 : 0 ≤ x ∧ x < 2147483647
  · refine ev_pos (decide_eq_true h5) (Ev.bind (seal_All_ev p hp) ?_)
    by_cases h6 : allB p = true
    · refine ev_pos h6 ?_
      obtain ⟨c, rfl⟩ := Int.eq_ofNat_of_zero_le (show 0 ≤ c by omega)
      obtain ⟨a, rfl⟩ := Int.eq_ofNat_of_zero_le (show 0 ≤ a by omega)
      refine Ev.bind (proof_Long_ev c c a rfl (by omega) (by omega)) ?_
      by_cases h7 : p.length = longS c a
      · rw [if_pos (by unfold LeadOk; exact ⟨by omega, by omega, by omega, by omega, h5.1, h5.2, (allB_iff p).mp h6, h7⟩)]
        exact ev_pos (by omega) (Ev.bind (proof_up_ev c c a x p rfl (by omega) (by omega) (by omega) h7) (Ev.now _))
      · rw [if_neg (by unfold LeadOk; intro h; exact h7 h.2.2.2.2.2.2.2)]
        exact ev_neg (by omega) (Ev.now _)
    · rw [if_neg (by unfold LeadOk; intro h; exact h6 ((allB_iff p).mpr h.2.2.2.2.2.2.1))]
      exact ev_neg h6 (Ev.now _)
  · rw [if_neg (by unfold LeadOk; omega)]
    exact ev_neg (by simpa using h5) (Ev.now _)
/-- Check's answer -/
def checkA (r c a x : Int) (p : List Int) : Bool := (leadA c a x p).2 && ((leadA c a x p).1 == r)
theorem proof_Check_ev (r c a x : Int) (p : List Int) (hp : p.length ≤ 17592186044416) : Ev (fun k => proof_Check.f k r c a x p) (checkA r c a x p) := by
  unfold proof_Check.f
  refine Ev.bind (proof_Lead_ev c a x p hp) ?_
  unfold checkA
  by_cases h : (leadA c a x p).2 = true
  · rw [h, Bool.true_and]; exact ev_pos rfl (Ev.now _)
  · rw [Bool.eq_false_iff.mpr h, Bool.false_and]; exact ev_neg (by simp) (Ev.now _)
theorem checkA_no {r c a x : Int} {p : List Int} (h : ¬ LeadOk c a x p) : checkA r c a x p = false := by
  unfold checkA leadA; rw [if_neg h]; rfl
theorem checkA_yes {r c a x : Int} {p : List Int} (h : LeadOk c a x p) : checkA r c a x p = (upS c.toNat a.toNat x p == r) := by
  unfold checkA leadA; rw [if_pos h]; rfl
/-- Path's answer -/
def pathA (l : List Int) (a : Int) : List Int × Int := if mayB l = true ∧ 0 ≤ a ∧ a < (l.length : Int) then (pathS l a.toNat, 0) else ([], 1100)
theorem proof_Path_ev (l : List Int) (a : Int) (hl : l.length ≤ 17592186044416) : Ev (fun k => proof_Path.f k l a) (pathA l a) := by
  unfold proof_Path.f pathA
  refine Ev.bind (tree_May_ev l hl) ?_
  by_cases h : mayB l = true
  · refine ev_pos h ?_
    have h' := h
    unfold mayB at h'
    rw [Bool.and_eq_true, decide_eq_true_eq] at h'
    by_cases h1 : a < 0
    · rw [if_neg (by omega)]; exact ev_pos h1 (Ev.now _)
    refine ev_neg h1 ?_
    by_cases h2 : a ≥ (l.length : Int)
    · rw [if_neg (by omega)]; exact ev_pos h2 (Ev.now _)
    refine ev_neg h2 ?_
    rw [if_pos ⟨h, by omega, by omega⟩]
    obtain ⟨a, rfl⟩ := Int.eq_ofNat_of_zero_le (show 0 ≤ a by omega)
    exact Ev.bind (proof_path_ev l.length l a rfl (by omega) (by omega) (by omega)) (Ev.now _)
  · rw [if_neg (by intro h'; exact h h'.1)]
    exact ev_neg h (Ev.now _)
theorem mayB_ok {l : List Int} (h : Seals01 l) (h1 : 1 ≤ l.length) (h2 : l.length ≤ 64) : mayB l = true := by
  unfold mayB; rw [decide_eq_true ⟨h1, h2⟩, (allB_iff l).mpr h]; rfl
theorem pathA_ok {l : List Int} (h : Seals01 l) (h2 : l.length ≤ 64) {a : Nat} (ha : a < l.length) : pathA l (a : Int) = (pathS l a, 0) := by
  unfold pathA; rw [if_pos ⟨mayB_ok h (by omega) h2, by omega, by omega⟩]; rfl
theorem pathS_seals : ∀ (n : Nat) (l : List Int) (a : Nat), l.length = n → Seals01 l → Seals01 (pathS l a) := by
  intro n
  induction n using Nat.strongRecOn with
  | _ n ih =>
    intro l a hl hs
    by_cases h : 2 ≤ l.length
    · have hr := halfS_range h
      have et : (l.take (halfS l.length)).length = halfS l.length := by rw [List.length_take]; omega
      have ed : (l.drop (halfS l.length)).length = l.length - halfS l.length := by rw [List.length_drop]
      by_cases g : a < halfS l.length
      · rw [pathS_left h g]
        intro x hx
        rw [List.mem_append, List.mem_singleton] at hx
        rcases hx with hx | rfl
        · exact ih (halfS l.length) (by omega) _ a et (hs.take _) x hx
        · exact rootS_range (hs.drop _) (by omega)
      · rw [pathS_right h g]
        intro x hx
        rw [List.mem_append, List.mem_singleton] at hx
        rcases hx with hx | rfl
        · exact ih (l.length - halfS l.length) (by omega) _ _ ed (hs.drop _) x hx
        · exact rootS_range (hs.take _) (by omega)
    · rw [pathS_one a h]; intro x hx; simp at hx
theorem rd_last (q : List Int) (r : Int) : rd (q ++ [r]) (((q ++ [r]).length - 1 : Nat) : Int) = r := by
  rw [rd_nat _ _ (by simp)]; simp
theorem take_last (q : List Int) (r : Int) : (q ++ [r]).take ((q ++ [r]).length - 1) = q := by simp
theorem up_path : ∀ (n : Nat) (l : List Int) (a : Nat) (ha : a < l.length), l.length = n → upS n a l[a] (pathS l a) = rootS l := by
  intro n
  induction n using Nat.strongRecOn with
  | _ n ih =>
    intro l a ha hl
    subst hl
    by_cases h : 2 ≤ l.length
    · have hr := halfS_range h
      have et : (l.take (halfS l.length)).length = halfS l.length := by rw [List.length_take]; omega
      have ed : (l.drop (halfS l.length)).length = l.length - halfS l.length := by rw [List.length_drop]
      by_cases g : a < halfS l.length
      · have := ih (halfS l.length) (by omega) (l.take (halfS l.length)) a (by omega) et
        rw [List.getElem_take] at this
        rw [upS_left _ _ h g, pathS_left h g, rd_last, take_last, this, ← rootS_two h]
      · have := ih (l.length - halfS l.length) (by omega) (l.drop (halfS l.length)) (a - halfS l.length) (by omega) ed
        rw [List.getElem_drop] at this
        have e : halfS l.length + (a - halfS l.length) = a := by omega
        simp only [e] at this
        rw [upS_right _ _ h g, pathS_right h g, rd_last, take_last, this, ← rootS_two h]
    · obtain ⟨x, rfl⟩ : ∃ x, l = [x] := List.length_eq_one_iff.mp (by omega)
      have : a = 0 := by simp at ha; exact ha
      subst this
      rw [upS_one _ _ _ h, rootS_one]; rfl
theorem rd_range {p : List Int} (h : Seals01 p) (i : Nat) : 0 ≤ rd p (i : Int) ∧ rd p (i : Int) < 2147483647 := by
  by_cases g : i < p.length
  · rw [rd_nat p i g]; exact h _ (List.getElem_mem g)
  · have : rd p (i : Int) = 0 := by simp [rd, List.getD_eq_getElem?_getD, List.getElem?_eq_none (show p.length ≤ i by omega)]
    rw [this]; omega
theorem upS_range {c a : Nat} {x : Int} {p : List Int} (h0 : 0 ≤ x) (h1 : x < 2147483647) : 0 ≤ upS c a x p ∧ upS c a x p < 2147483647 := by
  by_cases h : 2 ≤ c
  · by_cases g : a < halfS c
    · rw [upS_left _ _ h g]; exact pairS_range _ _
    · rw [upS_right _ _ h g]; exact pairS_range _ _
  · rw [upS_one _ _ _ h]; exact ⟨h0, h1⟩
theorem up_leaf : ∀ (n c a : Nat) (x y : Int) (p : List Int), c = n → 0 ≤ x → x < 2147483647 → 0 ≤ y → y < 2147483647 → upS c a x p = upS c a y p → x = y := by
  intro n
  induction n using Nat.strongRecOn with
  | _ n ih =>
    intro c a x y p hc x0 x1 y0 y1 he
    by_cases h : 2 ≤ c
    · have hr := halfS_range h
      by_cases g : a < halfS c
      · rw [upS_left _ _ h g, upS_left _ _ h g] at he
        exact ih (halfS c) (by omega) (halfS c) a x y _ rfl x0 x1 y0 y1 (pairS_left he (upS_range x0 x1).1 (upS_range x0 x1).2 (upS_range y0 y1).1 (upS_range y0 y1).2)
      · rw [upS_right _ _ h g, upS_right _ _ h g] at he
        exact ih (c - halfS c) (by omega) (c - halfS c) (a - halfS c) x y _ rfl x0 x1 y0 y1 (pairS_right he (upS_range x0 x1).1 (upS_range x0 x1).2 (upS_range y0 y1).1 (upS_range y0 y1).2)
    · rwa [upS_one _ _ _ h, upS_one _ _ _ h] at he
theorem up_step : ∀ (n c a : Nat) (x : Int) (p : List Int) (i : Nat) (hi : i < p.length) (v : Int), c = n → p.length = longS c a → Seals01 p → 0 ≤ x → x < 2147483647 → 0 ≤ v → v < 2147483647 → upS c a x (p.set i v) = upS c a x p → v = p[i] := by
  intro n
  induction n using Nat.strongRecOn with
  | _ n ih =>
    intro c a x p i hi v hc hp hs x0 x1 v0 v1 he
    by_cases h : 2 ≤ c
    · have hr := halfS_range h
      have hlast := rd_range hs (p.length - 1)
      have hlen : (p.set i v).length = p.length := List.length_set
      have ht : (p.take (p.length - 1)).length = p.length - 1 := by rw [List.length_take]; omega
      have hu : ∀ (q : List Int) (c a : Nat), 0 ≤ upS c a x q ∧ upS c a x q < 2147483647 := fun q c a => upS_range x0 x1
      by_cases g : a < halfS c
      · rw [upS_left _ _ h g, upS_left _ _ h g, hlen] at he
        by_cases e : i = p.length - 1
        · rw [List.take_set, List.set_eq_of_length_le (l := p.take (p.length - 1)) (by omega), rd_nat (p.set i v) _ (by omega)] at he
          have := pairS_right he (by subst e; simp; omega) (by subst e; simp; omega) hlast.1 hlast.2
          rw [rd_nat p _ (by omega)] at this
          subst e
          simpa using this
        · rw [List.take_set, rd_nat (p.set i v) _ (by omega), List.getElem_set_ne (by omega), ← rd_nat p _ (by omega)] at he
          have := ih (halfS c) (by omega) (halfS c) a x (p.take (p.length - 1)) i (by omega) v rfl (by rw [ht, hp, longS_left h g]; omega) (hs.take _) x0 x1 v0 v1 (pairS_left he (hu _ _ _).1 (hu _ _ _).2 (hu _ _ _).1 (hu _ _ _).2)
          rwa [List.getElem_take] at this
      · rw [upS_right _ _ h g, upS_right _ _ h g, hlen] at he
        by_cases e : i = p.length - 1
        · rw [List.take_set, List.set_eq_of_length_le (l := p.take (p.length - 1)) (by omega), rd_nat (p.set i v) _ (by omega)] at he
          have := pairS_left he (by subst e; simp; omega) (by subst e; simp; omega) hlast.1 hlast.2
          rw [rd_nat p _ (by omega)] at this
          subst e
          simpa using this
        · rw [List.take_set, rd_nat (p.set i v) _ (by omega), List.getElem_set_ne (by omega), ← rd_nat p _ (by omega)] at he
          have := ih (c - halfS c) (by omega) (c - halfS c) (a - halfS c) x (p.take (p.length - 1)) i (by omega) v rfl (by rw [ht, hp, longS_right h g]; omega) (hs.take _) x0 x1 v0 v1 (pairS_right he (hu _ _ _).1 (hu _ _ _).2 (hu _ _ _).1 (hu _ _ _).2)
          rwa [List.getElem_take] at this
    · rw [hp, longS_one a h] at hi; omega
theorem check_path {l : List Int} (hs : Seals01 l) (h2 : l.length ≤ 64) {a : Nat} (ha : a < l.length) : checkA (rootS l) (l.length : Int) (a : Int) l[a] (pathS l a) = true := by
  rw [checkA_yes (leadOk h2 ha (hs _ (List.getElem_mem ha)).1 (hs _ (List.getElem_mem ha)).2 (pathS_seals _ l a rfl hs) (pathS_length _ l a rfl))]
  simp only [Int.toNat_natCast]
  rw [up_path l.length l a ha rfl, beq_self_eq_true]
theorem check_other_leaf {l : List Int} (hs : Seals01 l) (h2 : l.length ≤ 64) {a : Nat} (ha : a < l.length) (y : Int) (y0 : 0 ≤ y) (y1 : y < 2147483647) (hne : y ≠ l[a]) : checkA (rootS l) (l.length : Int) (a : Int) y (pathS l a) = false := by
  rw [checkA_yes (leadOk h2 ha y0 y1 (pathS_seals _ l a rfl hs) (pathS_length _ l a rfl))]
  simp only [Int.toNat_natCast]
  rw [beq_eq_false_iff_ne, ← up_path l.length l a ha rfl]
  intro e
  exact hne (up_leaf l.length l.length a y l[a] _ rfl y0 y1 (hs _ (List.getElem_mem ha)).1 (hs _ (List.getElem_mem ha)).2 e)
theorem check_other_step {l : List Int} (hs : Seals01 l) (h2 : l.length ≤ 64) {a : Nat} (ha : a < l.length) (i : Nat) (hi : i < (pathS l a).length) (v : Int) (v0 : 0 ≤ v) (v1 : v < 2147483647) (hne : v ≠ (pathS l a)[i]) : checkA (rootS l) (l.length : Int) (a : Int) l[a] ((pathS l a).set i v) = false := by
  have hp := pathS_seals _ l a rfl hs
  have hx := hs _ (List.getElem_mem ha)
  have hp' : Seals01 ((pathS l a).set i v) := by
    intro y hy
    rcases List.mem_or_eq_of_mem_set hy with h | h
    · exact hp y h
    · omega
  rw [checkA_yes (leadOk h2 ha hx.1 hx.2 hp' (by rw [List.length_set]; exact pathS_length _ l a rfl))]
  simp only [Int.toNat_natCast]
  rw [beq_eq_false_iff_ne, ← up_path l.length l a ha rfl]
  intro e
  exact hne (up_step l.length l.length a l[a] _ i hi v rfl (pathS_length _ l a rfl) hp hx.1 hx.2 v0 v1 e)
theorem check_short {l : List Int} (hs : Seals01 l) {a : Nat} (ha : a < l.length) (x : Int) (p : List Int) (hne : p.length ≠ longS l.length a) : checkA (rootS l) (l.length : Int) (a : Int) x p = false :=
  checkA_no (fun h => hne h.2.2.2.2.2.2.2)

/-- may a question be? -/
def askL (nonce : Int) (l : List Int) : Bool := decide (0 ≤ nonce ∧ nonce < 2147483647) && decide (1 ≤ l.length ∧ l.length ≤ 64) && l.all fun b => decide (0 ≤ b ∧ b < 4)
theorem list_range (l : List Int) : l = (List.range l.length).map fun j => l.getD j 0 := by
  apply List.ext_getElem
  · simp
  · intro i h1 h2
    simp [List.getD, List.getElem?_eq_getElem h1]
theorem ask_eq (nonce : Int) (l : List Int) : Go.Proofs.YtgolnkankkegdaaErr.askB nonce l.length (fun j => l.getD j 0) = askL nonce l := by
  have h : ((List.range l.length).any fun j => Go.Proofs.YtgolnkankkegdaaErr.noneB (l.getD j 0)) = l.any Go.Proofs.YtgolnkankkegdaaErr.noneB := by
    conv => rhs; rw [list_range l, List.any_map]
    rfl
  unfold Go.Proofs.YtgolnkankkegdaaErr.askB askL
  rw [h]
  have h2 : (!l.any Go.Proofs.YtgolnkankkegdaaErr.noneB) = l.all fun b => decide (0 ≤ b ∧ b < 4) := by
    rw [List.not_any_eq_all_not]
    congr 1
    funext b
    unfold Go.Proofs.YtgolnkankkegdaaErr.noneB
    by_cases c : b < 0
    · rw [decide_eq_true c, decide_eq_false (show ¬ (0 ≤ b ∧ b < 4) by omega)]; rfl
    · by_cases d : 4 ≤ b
      · rw [decide_eq_true d, decide_eq_false (show ¬ (0 ≤ b ∧ b < 4) by omega), Bool.or_true]; rfl
      · rw [decide_eq_false c, decide_eq_false d, decide_eq_true (show 0 ≤ b ∧ b < 4 by omega)]; rfl
  rw [h2]
  unfold Go.Proofs.YtgolnkankkegdaaErr.sealB
  rw [show (decide (0 ≤ nonce) && decide (nonce < 2147483647)) = decide (0 ≤ nonce ∧ nonce < 2147483647) from (Bool.decide_and _ _).symm, Bool.and_assoc (decide (0 ≤ nonce ∧ nonce < 2147483647)), show (decide (1 ≤ l.length) && decide (l.length ≤ 64)) = decide (1 ≤ l.length ∧ l.length ≤ 64) from (Bool.decide_and _ _).symm]
theorem may_eq (nonce : Int) (l : List Int) (hl : l.length ≤ 9223372036854775807) : audit_may.f nonce l = some (!askL nonce l) := by
  unfold audit_may.f
  rw [if_pos hl, ask_eq]
def sharesB (l : List Int) : Bool := decide (l.length ≤ 3) && allB l
theorem shares_ev (l : List Int) (hl : l.length ≤ 17592186044416) : Ev (fun k => audit_Shares.f k l) (sharesB l) := by
  unfold audit_Shares.f sharesB
  by_cases h : l.length ≤ 3
  · rw [decide_eq_true h, Bool.true_and]
    exact ev_pos (by omega) (Ev.bind (seal_All_ev l hl) (Ev.now _))
  · rw [decide_eq_false h, Bool.false_and]
    exact ev_neg (by omega) (Ev.now _)
/-- may a shard be, and its path? -/
def hasL (s : ByteArray) (p : List Int) : Bool := decide (s.size = 32) && sharesB p
theorem has_ev (s : ByteArray) (p : List Int) (hl : p.length ≤ 17592186044416) : Ev (fun k => audit_has.f k s p) (!hasL s p) := by
  unfold audit_has.f hasL
  by_cases h : s.size = 32
  · rw [decide_eq_true h, Bool.true_and]
    exact ev_pos (by omega) (Ev.bind (shares_ev p hl) (Ev.now _))
  · rw [decide_eq_false h, Bool.false_and]
    exact ev_neg (by omega) (Ev.now _)
theorem form_ev (s : ByteArray) (p : List Int) (nonce : Int) (l : List Int) (hp : p.length ≤ 17592186044416) (hl : l.length ≤ 9223372036854775807) : Ev (fun k => audit_form.f k s p nonce l) (!(hasL s p && askL nonce l)) := by
  unfold audit_form.f
  refine Ev.bind (has_ev s p hp) ?_
  rw [may_eq nonce l hl, Option.bind_some, Bool.not_and]
  exact Ev.now _
/-- the block of a shard -/
def blockS (s : ByteArray) (b : Int) : ByteArray := s.extract (8 * b.toNat) (8 * b.toNat + 8)
/-- the answer for a block -/
def ansOf (s : ByteArray) (p : List Int) (nonce b : Int) : S49 := ⟨blockS s b, pathS (leavesL s.data.toList) b.toNat ++ p, pairS nonce (ofL (blockS s b).data.toList)⟩
theorem keyed_ev (n : Int) (b : ByteArray) (hb : b.size ≤ 140737488351232) : Ev (fun k => audit_keyed.f k n b) (pairS n (ofL b.data.toList)) := by
  unfold audit_keyed.f
  refine Ev.bind (seal_Of_ev b hb) ?_
  rw [seal_Pair_eq, Option.bind_some]
  exact Ev.now _
theorem leaves4 {s : ByteArray} (hs : s.size = 32) : (leavesL s.data.toList).length = 4 := by
  rw [leavesL_length 32 _ (by rw [data_len]; exact hs)]
theorem leaves_seals (s : ByteArray) : Seals01 (leavesL s.data.toList) := leavesL_range _ _ rfl
theorem longS4 (a : Nat) (h : a < 4) : longS 4 a = 2 := by
  have h4 : halfS 4 = 2 := by decide
  have h2 : halfS 2 = 1 := by decide
  by_cases c : a < 2
  · rw [longS_left (by omega) (by rw [h4]; omega), h4]
    by_cases d : a < 1
    · rw [longS_left (by omega) (by rw [h2]; omega), h2, longS_one _ (by omega)]
    · rw [longS_right (by omega) (by rw [h2]; omega), h2, longS_one _ (by omega)]
  · rw [longS_right (by omega) (by rw [h4]; omega), h4]
    by_cases d : a - 2 < 1
    · rw [longS_left (by omega) (by rw [h2]; omega), h2, longS_one _ (by omega)]
    · rw [longS_right (by omega) (by rw [h2]; omega), h2, longS_one _ (by omega)]
theorem map_take_ans (f : Int → S49) (l : List Int) (i : Nat) (h : i < l.length) : (l.take i).map f ++ [f l[i]] = (l.take (i + 1)).map f := by
  rw [List.map_take, List.map_take, List.take_add_one, List.getElem?_eq_getElem (by rw [List.length_map]; exact h)]; simp
theorem respond_loop (s : ByteArray) (p : List Int) (nonce : Int) (l : List Int) (hs : s.size = 32) (hp : p.length ≤ 3) (hl : l.length ≤ 64) (hb : ∀ b, b ∈ l → 0 ≤ b ∧ b < 4) :
    ∀ (d i : Nat), i + d = l.length → Ev (fun k => audit_Respond.l0 k s p (leavesL s.data.toList) ((l.take i).map (ansOf s p nonce)) l (l.length : Int) (i : Int) nonce l) (l.map (ansOf s p nonce), 0) := by
  intro d
  induction d with
  | zero =>
    intro i hi
    refine Ev.step (f := fun _ => some (l.map (ansOf s p nonce), 0)) (fun k => ?_) (Ev.now _)
    simp only [audit_Respond.l0]
    rw [if_neg (by omega), List.take_of_length_le (by omega)]
  | succ d ih =>
    intro i hi
    have hlt : i < l.length := by omega
    have hbi := hb l[i] (List.getElem_mem hlt)
    have h4 := leaves4 hs
    refine ev_succ ?_
    simp only [audit_Respond.l0]
    refine ev_pos (by omega) (ev_pos (by omega) (ev_pos (by omega) ?_))
    rw [rd_nat l i hlt]
    refine Ev.bind (proof_Path_ev _ _ (by omega)) ?_
    obtain ⟨b, hbe⟩ := Int.eq_ofNat_of_zero_le hbi.1
    have hpa : pathA (leavesL s.data.toList) l[i] = (pathS (leavesL s.data.toList) l[i].toNat, 0) := by
      rw [hbe]; exact pathA_ok (leaves_seals s) (by omega) (by omega)
    have hpl := pathS_length _ (leavesL s.data.toList) l[i].toNat rfl
    rw [h4, longS4 _ (by omega)] at hpl
    rw [hpa, w64 (x := l[i] * 8) (by omega) (by omega), w64 (x := l[i] + 1) (by omega) (by omega), w64 (x := (l[i] + 1) * 8) (by omega) (by omega)]
    have he : s.extract (l[i] * 8).toNat ((l[i] + 1) * 8).toNat = blockS s l[i] := by
      unfold blockS
      rw [show (l[i] * 8).toNat = 8 * l[i].toNat from by omega, show ((l[i] + 1) * 8).toNat = 8 * l[i].toNat + 8 from by omega]
    refine ev_pos (by omega) (ev_pos (by omega) (ev_pos (by omega) (ev_pos (by simp only; omega) ?_)))
    rw [he]
    refine Ev.bind (keyed_ev _ _ (by unfold blockS; rw [extr_size _ _ _ (by omega)]; omega)) ?_
    refine ev_pos (by rw [List.length_map, List.length_take]; omega) ?_
    rw [w64 (x := (i : Int) + 1) (by omega) (by omega)]
    have := ih (i + 1) (by omega)
    rw [← map_take_ans (ansOf s p nonce) l i hlt] at this
    exact this
/-- Respond's answer -/
def respA (s : ByteArray) (p : List Int) (nonce : Int) (l : List Int) : List S49 × Int := if (hasL s p && askL nonce l) = true then (l.map (ansOf s p nonce), 0) else ([], 1200)
theorem respond_ev (s : ByteArray) (p : List Int) (nonce : Int) (l : List Int) (hp : p.length ≤ 17592186044416) (hl : l.length ≤ 9223372036854775807) : Ev (fun k => audit_Respond.f k s p nonce l) (respA s p nonce l) := by
  unfold audit_Respond.f respA
  refine Ev.bind (form_ev s p nonce l hp hl) ?_
  by_cases h : (hasL s p && askL nonce l) = true
  · rw [h]
    refine ev_neg (by decide) ?_
    rw [if_pos rfl]
    obtain ⟨h1, h2⟩ := Bool.and_eq_true_iff.mp h
    unfold hasL sharesB at h1
    unfold askL at h2
    simp only [Bool.and_eq_true, decide_eq_true_eq, List.all_eq_true] at h1 h2
    refine Ev.bind (tree_Leaves_ev s (by omega)) ?_
    exact respond_loop s p nonce l h1.1 h1.2.1 h2.1.2.2 h2.2 l.length 0 (by omega)
  · rw [if_neg h, Bool.eq_false_iff.mpr h]
    exact ev_pos (by decide) (Ev.now _)
theorem respA_ok {s : ByteArray} {p : List Int} {nonce : Int} {l : List Int} (hs : s.size = 32) (hp : p.length ≤ 3) (hq : Seals01 p) (n0 : 0 ≤ nonce) (n1 : nonce < 2147483647) (l1 : 1 ≤ l.length) (l2 : l.length ≤ 64) (hb : ∀ b, b ∈ l → 0 ≤ b ∧ b < 4) : hasL s p = true ∧ askL nonce l = true ∧ respA s p nonce l = (l.map (ansOf s p nonce), 0) := by
  have h1 : hasL s p = true := by unfold hasL sharesB; rw [decide_eq_true hs, decide_eq_true hp, (allB_iff p).mpr hq]; rfl
  have h2 : askL nonce l = true := by unfold askL; rw [decide_eq_true ⟨n0, n1⟩, decide_eq_true ⟨l1, l2⟩, Bool.true_and, Bool.true_and, List.all_eq_true]; exact fun b hm => decide_eq_true (hb b hm)
  exact ⟨h1, h2, by unfold respA; rw [h1, h2]; rfl⟩
/-- is an answer right about a block? -/
def fitsA (root shards shard nonce at_ : Int) (x : S49) : Bool :=
  decide (x.f0.size = 8) && decide (x.f2 = pairS nonce (ofL x.f0.data.toList)) && decide (longS 4 at_.toNat ≤ x.f1.length) &&
    ((leadA 4 at_ (ofL x.f0.data.toList) (x.f1.take (longS 4 at_.toNat))).2 && checkA root shards shard (leadA 4 at_ (ofL x.f0.data.toList) (x.f1.take (longS 4 at_.toNat))).1 (x.f1.drop (longS 4 at_.toNat)))
/-- what an answer's size may be -/
def AnsOk (x : S49) : Prop := x.f0.size ≤ 140737488351232 ∧ x.f1.length ≤ 17592186044416
theorem fits_ev (root shards shard nonce : Int) (a : Nat) (ha : a < 4) (x : S49) (hx : AnsOk x) : Ev (fun k => audit_fits.f k root shards shard nonce (a : Int) x.f0 x.f1 x.f2) (fitsA root shards shard nonce (a : Int) x) := by
  unfold audit_fits.f fitsA
  rw [Int.toNat_natCast]
  refine Ev.bind (proof_Long_ev 4 4 a rfl (by omega) (by omega)) ?_
  have no : ∀ b, Ev (fun k => audit_fits.j0 k root shards shard (a : Int) b true x.f0 x.f1 x.f2) false := fun b => by
    refine ev_succ ?_
    simp only [audit_fits.j0, if_true]
    exact Ev.now _
  by_cases c1 : x.f0.size = 8
  · refine ev_pos (by omega) (Ev.bind (keyed_ev nonce x.f0 hx.1) ?_)
    rw [decide_eq_true c1, Bool.true_and]
    by_cases c2 : x.f2 = pairS nonce (ofL x.f0.data.toList)
    · rw [decide_eq_true c2, Bool.true_and]
      refine ev_pos c2 ?_
      by_cases c3 : longS 4 a ≤ x.f1.length
      · rw [decide_eq_true c3, Bool.true_and, decide_eq_false (show ¬ (x.f1.length : Int) < (longS 4 a : Int) by omega)]
        refine ev_succ ?_
        simp only [audit_fits.j0]
        refine ev_neg (by decide) (Ev.bind (seal_Of_ev x.f0 hx.1) (ev_pos (by omega) (ev_pos (by omega) ?_)))
        rw [Int.toNat_natCast]
        refine Ev.bind (proof_Lead_ev _ _ _ _ (by rw [List.length_take]; have := hx.2; omega)) ?_
        by_cases c4 : (leadA 4 (a : Int) (ofL x.f0.data.toList) (x.f1.take (longS 4 a))).2 = true
        · rw [c4, Bool.true_and]
          exact ev_pos (by trivial) (Ev.bind (proof_Check_ev _ _ _ _ _ (by rw [List.length_drop]; have := hx.2; omega)) (Ev.now _))
        · rw [Bool.eq_false_iff.mpr c4, Bool.false_and]
          exact ev_neg (by simp) (Ev.now _)
      · rw [decide_eq_false c3, Bool.false_and, decide_eq_true (show (x.f1.length : Int) < (longS 4 a : Int) by omega)]
        exact no _
    · rw [decide_eq_false c2, Bool.false_and, Bool.false_and]
      exact ev_neg c2 (no _)
  · rw [decide_eq_false c1, Bool.false_and, Bool.false_and, Bool.false_and]
    exact ev_neg (by omega) (no _)
/-- Check's answer -/
def auditA (root shards shard nonce : Int) (l : List Int) (zs : List S49) : Bool :=
  askL nonce l && decide (zs.length = l.length) && decide (1 ≤ shards ∧ shards ≤ 6 ∧ 0 ≤ shard ∧ shard < shards) && (l.zip zs).all fun q => fitsA root shards shard nonce q.1 q.2
theorem rd_ans (zs : List S49) (i : Nat) (h : i < zs.length) : rd_T49 zs (i : Int) = zs[i] := by
  unfold rd_T49; rw [Int.toNat_natCast]; simp [List.getD, List.getElem?_eq_getElem h]
theorem check_loop (root shards shard nonce : Int) (l : List Int) (zs : List S49) (hl : zs.length = l.length) (h64 : l.length ≤ 64) (hb : ∀ b, b ∈ l → 0 ≤ b ∧ b < 4) (ho : ∀ x, x ∈ zs → AnsOk x) :
    ∀ (d i : Nat), i + d = l.length → Ev (fun k => audit_Check.l0 k root shards shard zs (zs.length : Int) (i : Int) nonce l) (((l.drop i).zip (zs.drop i)).all fun q => fitsA root shards shard nonce q.1 q.2) := by
  intro d
  induction d with
  | zero =>
    intro i hi
    refine Ev.step (f := fun _ => some true) (fun k => ?_) ?_
    · simp only [audit_Check.l0]; rw [if_neg (by omega)]
    · rw [List.drop_of_length_le (show l.length ≤ i by omega)]; exact Ev.now true
  | succ d ih =>
    intro i hi
    have h1 : i < l.length := by omega
    have h2 : i < zs.length := by omega
    have hbi := hb l[i] (List.getElem_mem h1)
    refine ev_succ ?_
    simp only [audit_Check.l0]
    refine ev_pos (by omega) (ev_pos (by omega) (ev_pos (by omega) ?_))
    rw [rd_nat l i h1, List.drop_eq_getElem_cons h1, List.drop_eq_getElem_cons h2, List.zip_cons_cons, List.all_cons]
    have hf : Ev (fun k => audit_fitsAt.f k root shards shard nonce l[i] zs (i : Int)) (fitsA root shards shard nonce l[i] zs[i]) := by
      obtain ⟨b, hbe⟩ := Int.eq_ofNat_of_zero_le hbi.1
      rw [hbe]
      unfold audit_fitsAt.f
      rw [rd_ans zs i h2]
      exact ev_pos (by omega) (ev_pos (by omega) (fits_ev root shards shard nonce b (by omega) zs[i] (ho _ (List.getElem_mem h2))))
    refine Ev.bind hf ?_
    cases fitsA root shards shard nonce l[i] zs[i] with
    | true =>
      rw [Bool.true_and, w64 (x := (i : Int) + 1) (by omega) (by omega)]
      exact ev_pos rfl (ih (i + 1) (by omega))
    | false => exact ev_neg (by decide) (Ev.now _)
theorem check_ev (root shards shard nonce : Int) (l : List Int) (zs : List S49) (hl : l.length ≤ 9223372036854775807) (ho : ∀ x, x ∈ zs → AnsOk x) : Ev (fun k => audit_Check.f k root shards shard nonce l zs) (auditA root shards shard nonce l zs) := by
  unfold audit_Check.f auditA
  refine Ev.bind (ev_const (may_eq nonce l hl)) ?_
  have no : Ev (fun k => audit_Check.j0 k root shards shard zs true nonce l) false := by
    refine ev_succ ?_
    simp only [audit_Check.j0, if_true]
    exact Ev.now _
  by_cases c1 : askL nonce l = true
  · rw [c1, Bool.true_and]
    refine ev_neg (by decide) ?_
    by_cases c2 : zs.length = l.length
    · rw [decide_eq_true c2, Bool.true_and]
      refine ev_pos (by omega) ?_
      by_cases c3 : shards < 1
      · rw [decide_eq_false (show ¬ (1 ≤ shards ∧ shards ≤ 6 ∧ 0 ≤ shard ∧ shard < shards) by omega), Bool.false_and]
        exact ev_pos c3 no
      refine ev_neg c3 ?_
      by_cases c4 : shards > 6
      · rw [decide_eq_false (show ¬ (1 ≤ shards ∧ shards ≤ 6 ∧ 0 ≤ shard ∧ shard < shards) by omega), Bool.false_and]
        exact ev_pos c4 no
      refine ev_neg c4 ?_
      by_cases c5 : shard < 0
      · rw [decide_eq_false (show ¬ (1 ≤ shards ∧ shards ≤ 6 ∧ 0 ≤ shard ∧ shard < shards) by omega), Bool.false_and]
        exact ev_pos c5 no
      refine ev_neg c5 ?_
      by_cases c6 : shard ≥ shards
      · rw [decide_eq_false (show ¬ (1 ≤ shards ∧ shards ≤ 6 ∧ 0 ≤ shard ∧ shard < shards) by omega), Bool.false_and, decide_eq_true c6]
        exact no
      · rw [decide_eq_true (show (1 ≤ shards ∧ shards ≤ 6 ∧ 0 ≤ shard ∧ shard < shards) by omega), Bool.true_and, decide_eq_false c6]
        refine ev_succ ?_
        simp only [audit_Check.j0]
        refine ev_neg (by decide) ?_
        have c1' := c1
        unfold askL at c1'
        simp only [Bool.and_eq_true, decide_eq_true_eq, List.all_eq_true] at c1'
        exact check_loop root shards shard nonce l zs c2 c1'.1.2.2 c1'.2 ho l.length 0 (by omega)
    · rw [decide_eq_false c2, Bool.false_and, Bool.false_and]
      exact ev_neg (by omega) no
  · rw [Bool.eq_false_iff.mpr c1, Bool.false_and, Bool.false_and, Bool.false_and]
    exact ev_pos (by decide) no

/-- a shard of bytes that go up -/
def textL (b : Int) : List UInt8 := (List.range 32).map fun (i : Nat) => byteOf (b + (i : Int))
def textS (b : Int) : ByteArray := bsOf (textL b)
theorem text_size (b : Int) : (textS b).size = 32 := by unfold textS textL; rw [bs_size, List.length_map, List.length_range]
theorem text_loop (b : Int) (h0 : 0 ≤ b) (h1 : b < 256) : ∀ (d i : Nat), i + d = 32 →
    Ev (fun k => ossuarylaw12_text.l0 k b ((List.range i).map (fun (j : Nat) => (b + (j : Int)) % 256) ++ List.replicate d 0) (i : Int)) (textS b) := by
  intro d
  induction d with
  | zero =>
    intro i hi
    obtain rfl : i = 32 := by omega
    refine Ev.step (f := fun _ => some (textS b)) (fun k => ?_) (Ev.now _)
    simp only [ossuarylaw12_text.l0]
    rw [if_neg (by omega), List.replicate_zero, List.append_nil, str_nums _ (by intro x hx; obtain ⟨j, _, rfl⟩ := List.mem_map.mp hx; omega), List.map_map]
    unfold textS textL
    refine congrArg some (congrArg bsOf (List.map_congr_left fun j _ => ?_))
    show byteOf ((b + (j : Int)) % 256) = byteOf (b + (j : Int))
    unfold byteOf
    rw [Int.emod_emod_of_dvd _ (by decide)]
  | succ d ih =>
    intro i hi
    refine ev_succ ?_
    simp only [ossuarylaw12_text.l0]
    refine ev_pos (by omega) (ev_pos (by omega) (ev_pos (by simp; omega) ?_))
    rw [w64 (x := (i : Int) + 1) (by omega) (by omega)]
    have h := ih (i + 1) (by omega)
    rw [List.range_succ, List.map_append, List.append_assoc] at h
    rw [Int.toNat_natCast, List.set_append_right _ _ (by simp), show i - ((List.range i).map (fun (j : Nat) => (b + (j : Int)) % 256)).length = 0 from by simp, List.replicate_succ, List.set_cons_zero]
    rw [show (b + (i : Int) % 256) % 256 = (b + (i : Int)) % 256 from by omega]
    exact h
theorem text_ev (b : Int) (h0 : 0 ≤ b) (h1 : b < 256) : Ev (fun k => ossuarylaw12_text.f k b) (textS b) := by
  unfold ossuarylaw12_text.f
  exact ev_pos (by omega) (text_loop b h0 h1 32 0 (by omega))

/-! four leaves, four blocks -/
theorem half4 : halfS 4 = 2 := by decide
theorem half2 : halfS 2 = 1 := by decide
theorem root2 (a b : Int) : rootS [a, b] = pairS a b := by
  rw [rootS_two (by simp), show ([a, b] : List Int).length = 2 from rfl, half2]
  show pairS (rootS [a]) (rootS [b]) = _
  rw [rootS_one, rootS_one]
theorem root4 (a b c d : Int) : rootS [a, b, c, d] = pairS (pairS a b) (pairS c d) := by
  rw [rootS_two (by simp), show ([a, b, c, d] : List Int).length = 4 from rfl, half4]
  show pairS (rootS [a, b]) (rootS [c, d]) = _
  rw [root2, root2]
theorem path20 (a b : Int) : pathS [a, b] 0 = [b] := by
  rw [pathS_left (by simp) (by rw [show ([a, b] : List Int).length = 2 from rfl, half2]; omega), show ([a, b] : List Int).length = 2 from rfl, half2]
  show pathS [a] 0 ++ [rootS [b]] = _
  rw [pathS_one _ (by simp), rootS_one]; rfl
theorem path21 (a b : Int) : pathS [a, b] 1 = [a] := by
  rw [pathS_right (by simp) (by rw [show ([a, b] : List Int).length = 2 from rfl, half2]; omega), show ([a, b] : List Int).length = 2 from rfl, half2]
  show pathS [b] 0 ++ [rootS [a]] = _
  rw [pathS_one _ (by simp), rootS_one]; rfl
/-- the path of one of four -/
def path4 (a b c d : Int) (j : Nat) : List Int := if j = 0 then [b, pairS c d] else if j = 1 then [a, pairS c d] else if j = 2 then [d, pairS a b] else [c, pairS a b]
theorem path4_eq (a b c d : Int) (j : Nat) (hj : j < 4) : pathS [a, b, c, d] j = path4 a b c d j := by
  have h4 : ([a, b, c, d] : List Int).length = 4 := rfl
  by_cases h : j < 2
  · rw [pathS_left (by simp) (by rw [h4, half4]; exact h), h4, half4]
    show pathS [a, b] j ++ [rootS [c, d]] = _
    rw [root2]
    by_cases g : j = 0
    · rw [g, path20]; rfl
    · obtain rfl : j = 1 := by omega
      rw [path21]; rfl
  · rw [pathS_right (by simp) (by rw [h4, half4]; exact h), h4, half4]
    show pathS [c, d] (j - 2) ++ [rootS [a, b]] = _
    rw [root2]
    by_cases g : j = 2
    · rw [g, path20]; rfl
    · obtain rfl : j = 3 := by omega
      rw [path21]; rfl
def up4 (j : Nat) (x p q : Int) : Int := if j = 0 then pairS (pairS x p) q else if j = 1 then pairS (pairS p x) q else if j = 2 then pairS q (pairS x p) else pairS q (pairS p x)
theorem up20 (x p : Int) : upS 2 0 x [p] = pairS x p := by
  rw [upS_left _ _ (by omega) (by rw [half2]; omega), half2]
  show pairS (upS 1 0 x []) p = _
  rw [upS_one _ _ _ (by omega)]
theorem up21 (x p : Int) : upS 2 1 x [p] = pairS p x := by
  rw [upS_right _ _ (by omega) (by rw [half2]; omega), half2]
  show pairS p (upS 1 0 x []) = _
  rw [upS_one _ _ _ (by omega)]
theorem up4_eq (j : Nat) (hj : j < 4) (x p q : Int) : upS 4 j x [p, q] = up4 j x p q := by
  by_cases h : j < 2
  · rw [upS_left _ _ (by omega) (by rw [half4]; exact h), half4]
    show pairS (upS 2 j x [p]) q = _
    by_cases g : j = 0
    · rw [g, up20]; rfl
    · obtain rfl : j = 1 := by omega
      rw [up21]; rfl
  · rw [upS_right _ _ (by omega) (by rw [half4]; exact h), half4]
    show pairS q (upS 2 (j - 2) x [p]) = _
    by_cases g : j = 2
    · rw [g, up20]; rfl
    · obtain rfl : j = 3 := by omega
      rw [up21]; rfl
/-! the numbers -/
def nOf : List Nat → Nat
  | [] => 0
  | b :: l => (nOf l + b + 1) * 65537 % 2147483647
theorem of_nat : ∀ l : List UInt8, ofL l = (nOf (l.map UInt8.toNat) : Int)
  | [] => rfl
  | b :: l => by rw [ofL, of_nat l, List.map_cons, nOf]; omega
def nPair (x y : Nat) : Nat := (911 + x % 2147483647 * 65537 + y % 2147483647 * 65537 * 65537) % 2147483647
theorem pair_nat (x y : Nat) : pairS (x : Int) (y : Int) = (nPair x y : Int) := by unfold pairS nPair; omega
/-- the seal of a text's block -/
def lf (b j : Nat) : Nat := nOf ((List.range 8).map fun i => (b + (8 * j + i)) % 256)
def nRoot (a b c d : Nat) : Nat := nPair (nPair a b) (nPair c d)
def rt (b : Nat) : Nat := nRoot (lf b 0) (lf b 1) (lf b 2) (lf b 3)
def nUp (j x p q : Nat) : Nat := if j = 0 then nPair (nPair x p) q else if j = 1 then nPair (nPair p x) q else if j = 2 then nPair q (nPair x p) else nPair q (nPair p x)
def nPathP (a b c d j : Nat) : Nat := if j = 0 then b else if j = 1 then a else if j = 2 then d else c
def nPathQ (a b c d j : Nat) : Nat := if j < 2 then nPair c d else nPair a b
def nGet (a b c d j : Nat) : Nat := if j = 0 then a else if j = 1 then b else if j = 2 then c else d
theorem up_nat (j x p q : Nat) : up4 j (x : Int) (p : Int) (q : Int) = (nUp j x p q : Int) := by
  unfold up4 nUp
  split
  · rw [pair_nat, pair_nat]
  · split
    · rw [pair_nat, pair_nat]
    · split
      · rw [pair_nat, pair_nat]
      · rw [pair_nat, pair_nat]
theorem path_nat (a b c d j : Nat) (hj : j < 4) : path4 (a : Int) b c d j = [(nPathP a b c d j : Int), (nPathQ a b c d j : Int)] := by
  unfold path4 nPathP nPathQ
  by_cases h0 : j = 0
  · subst h0; simp [pair_nat]
  by_cases h1 : j = 1
  · subst h1; simp [pair_nat]
  by_cases h2 : j = 2
  · subst h2; simp [pair_nat]
  · obtain rfl : j = 3 := by omega
    simp [pair_nat]
theorem text_block (b j : Nat) (hj : j < 4) : ((textL (b : Int)).drop (8 * j)).take 8 = (List.range 8).map fun (i : Nat) => byteOf ((b : Int) + ((8 * j + i : Nat) : Int)) := by
  unfold textL
  rw [← List.map_drop, ← List.map_take]
  have : ((List.range 32).drop (8 * j)).take 8 = (List.range 8).map fun i => 8 * j + i := by
    have h : j = 0 ∨ j = 1 ∨ j = 2 ∨ j = 3 := by omega
    rcases h with rfl | rfl | rfl | rfl <;> decide
  rw [this, List.map_map]
  rfl
theorem leaf_nat (b j : Nat) (hj : j < 4) : ofL (((textL (b : Int)).drop (8 * j)).take 8) = (lf b j : Int) := by
  rw [text_block b j hj, of_nat, List.map_map]
  unfold lf
  refine congrArg (fun l => ((nOf l : Nat) : Int)) (List.map_congr_left fun i _ => ?_)
  show (byteOf ((b : Int) + ((8 * j + i : Nat) : Int))).toNat = (b + (8 * j + i)) % 256
  have := byteOf_val ((b : Int) + ((8 * j + i : Nat) : Int))
  omega
theorem four_list {l : List Int} (h : l.length = 4) : l = [l[0]'(by omega), l[1]'(by omega), l[2]'(by omega), l[3]'(by omega)] := by
  match l, h with
  | [a, b, c, d], _ => rfl
theorem text_leaves (b : Nat) : leavesL (textS (b : Int)).data.toList = [(lf b 0 : Int), (lf b 1 : Int), (lf b 2 : Int), (lf b 3 : Int)] := by
  have h4 := leaves4 (text_size (b : Int))
  rw [four_list h4, leavesL_get, leavesL_get, leavesL_get, leavesL_get]
  unfold textS
  rw [bs_data, leaf_nat b 0 (by omega), leaf_nat b 1 (by omega), leaf_nat b 2 (by omega), leaf_nat b 3 (by omega)]
theorem text_root (b : Nat) : rootS (leavesL (textS (b : Int)).data.toList) = (rt b : Int) := by
  rw [text_leaves, root4, pair_nat, pair_nat, pair_nat]; rfl
theorem block_leaf (s : ByteArray) (hs : s.size = 32) (q : Nat) (hq : q < 4) : ofL (blockS s (q : Int)).data.toList = (leavesL s.data.toList)[q]'(by rw [leaves4 hs]; exact hq) := by
  unfold blockS
  rw [extr, leavesL_get, Int.toNat_natCast, show 8 * q + 8 - 8 * q = 8 from by omega]
theorem block_size (s : ByteArray) (hs : s.size = 32) (q : Nat) (hq : q < 4) : (blockS s (q : Int)).size = 8 := by
  unfold blockS; rw [Int.toNat_natCast, extr_size _ _ _ (by omega)]; omega
/-- an answer, asked about some place and some block -/
theorem fits_ans (R : Int) (s : ByteArray) (hs : s.size = 32) (p : List Int) (hp : Seals01 p) (m : Nat) (t : Nat) (ht : t < m) (hm : m ≤ 64) (hpl : p.length = longS m t) (n : Int) (q a : Nat) (hq : q < 4) (ha : a < 4) :
    fitsA R (m : Int) (t : Int) n (a : Int) (ansOf s p n (q : Int)) = (upS m t (upS 4 a ((leavesL s.data.toList)[q]'(by rw [leaves4 hs]; exact hq)) (pathS (leavesL s.data.toList) q)) p == R) := by
  have h4 := leaves4 hs
  have hpath := pathS_length _ (leavesL s.data.toList) q rfl
  rw [h4, longS4 q hq] at hpath
  have hx := leaves_seals s _ (List.getElem_mem (show q < (leavesL s.data.toList).length by omega))
  have hps := pathS_seals _ (leavesL s.data.toList) q rfl (leaves_seals s)
  unfold fitsA ansOf
  rw [Int.toNat_natCast, Int.toNat_natCast]
  simp only
  rw [block_leaf s hs q hq, decide_eq_true (block_size s hs q hq), Bool.true_and, show decide True = true from rfl, Bool.true_and, longS4 a ha, decide_eq_true (by rw [List.length_append]; omega), Bool.true_and]
  rw [List.take_left' hpath, List.drop_left' hpath]
  have hl : LeadOk (4 : Int) (a : Int) ((leavesL s.data.toList)[q]'(by omega)) (pathS (leavesL s.data.toList) q) := leadOk (c := 4) (by omega) ha hx.1 hx.2 hps (by rw [longS4 a ha]; exact hpath)
  have hu := upS_range (c := 4) (a := a) (p := pathS (leavesL s.data.toList) q) hx.1 hx.2
  unfold leadA
  rw [if_pos hl]
  show (true && checkA R (m : Int) (t : Int) (upS 4 a _ _) p) = _
  rw [Bool.true_and, checkA_yes (leadOk hm ht hu.1 hu.2 hp hpl)]
  rfl
theorem ans_ok (s : ByteArray) (hs : s.size = 32) (p : List Int) (hp : p.length ≤ 3) (n : Int) (q : Nat) (hq : q < 4) : AnsOk (ansOf s p n (q : Int)) := by
  have h4 := leaves4 hs
  have hpath := pathS_length _ (leavesL s.data.toList) q rfl
  rw [h4, longS4 q hq] at hpath
  refine ⟨?_, ?_⟩
  · show (blockS s (q : Int)).size ≤ _
    rw [block_size s hs q hq]; omega
  · show (pathS (leavesL s.data.toList) (q : Int).toNat ++ p).length ≤ _
    rw [List.length_append, Int.toNat_natCast]; omega

theorem ref_Of_loop (s : ByteArray) (hs : s.size ≤ 140737488351232) : ∀ (n k : Nat), n ≤ s.data.toList.length → n < k →
    ossuaryref1_Of.l0 k s (ofL (s.data.toList.drop n)) ((n : Int) - 1) = some (ofL s.data.toList) := by
  intro n
  have hl := data_len s
  induction n with
  | zero =>
    intro k _ hk
    obtain ⟨k, rfl⟩ : ∃ m, k = m + 1 := ⟨k - 1, by omega⟩
    simp only [ossuaryref1_Of.l0]
    rw [if_neg (by omega), List.drop_zero]
  | succ n ih =>
    intro k hn hk
    obtain ⟨k, rfl⟩ : ∃ m, k = m + 1 := ⟨k - 1, by omega⟩
    have hr := ofL_range (s.data.toList.drop (n + 1))
    have hb := bt_range s (n : Int)
    rw [show (((n + 1 : Nat) : Int) - 1) = (n : Int) from by omega]
    simp only [ossuaryref1_Of.l0]
    rw [if_pos (by omega), if_pos (by omega), if_pos (by omega), of_step hr.1 hr.2 hb.1 hb.2, w64 (x := (n : Int) - 1) (by omega) (by omega), bt_get s n (by omega)]
    have := ih k (by omega) (by omega)
    rw [List.drop_eq_getElem_cons (by omega)] at this
    exact this
theorem ref_Of_at (s : ByteArray) (hs : s.size ≤ 140737488351232) (k : Nat) (hk : s.size < k) : ossuaryref1_Of.f k s = some (ofL s.data.toList) := by
  have hl := data_len s
  have := ref_Of_loop s hs s.data.toList.length k (by omega) (by omega)
  rw [List.drop_length] at this
  unfold ossuaryref1_Of.f
  rw [w64 (by omega) (by omega), ← hl]
  exact this
theorem ref_Of_ev (s : ByteArray) (hs : s.size ≤ 140737488351232) : Ev (fun k => ossuaryref1_Of.f k s) (ofL s.data.toList) :=
  ev_ge (s.size + 1) (fun k hk => ref_Of_at s hs k (by omega))

theorem ref_mod_eq (a : Int) : ossuaryref1_mod.f a = some (a % 2147483647) := by
  unfold ossuaryref1_mod.f
  congr 1
  by_cases h : 0 ≤ a
  · rw [tm (x := a) _ h, w64 (x := a % 2147483647 + 2147483647) (by omega) (by omega), tm _ (by omega)]; omega
  · rw [tm_neg (a := a) (by omega), w64 (x := -((-a) % 2147483647) + 2147483647) (by omega) (by omega), tm _ (by omega)]; omega
theorem ref_Pair_eq (a b : Int) : ossuaryref1_Pair.f a b = some (pairS a b) := by
  unfold ossuaryref1_Pair.f
  rw [ref_mod_eq, ref_mod_eq]
  simp only [Option.bind_some]
  congr 1
  have ha : 0 ≤ a % 2147483647 ∧ a % 2147483647 < 2147483647 := by omega
  have hb : 0 ≤ b % 2147483647 ∧ b % 2147483647 < 2147483647 := by omega
  rw [w64 (x := a % 2147483647 * 65537) (by omega) (by omega), tm (x := a % 2147483647 * 65537) _ (by omega), w64 (x := b % 2147483647 * 65537) (by omega) (by omega), tm (x := b % 2147483647 * 65537) _ (by omega)]
  have hc : 0 ≤ b % 2147483647 * 65537 % 2147483647 ∧ b % 2147483647 * 65537 % 2147483647 < 2147483647 := by omega
  have hd : 0 ≤ a % 2147483647 * 65537 % 2147483647 ∧ a % 2147483647 * 65537 % 2147483647 < 2147483647 := by omega
  rw [w64 (x := 911 + a % 2147483647 * 65537 % 2147483647) (by omega) (by omega), w64 (x := b % 2147483647 * 65537 % 2147483647 * 65537) (by omega) (by omega), w64 (x := 911 + a % 2147483647 * 65537 % 2147483647 + b % 2147483647 * 65537 % 2147483647 * 65537) (by omega) (by omega), tm _ (by omega)]
  unfold pairS
  omega

theorem ref_half_loop (c : Nat) (hc : c ≤ 1099511627776) : ∀ (f h k : Nat), 1 ≤ h → h ≤ c → c < h + f + 1 → f < k → ossuaryref1_half.l0 k (c : Int) (h : Int) = some ((halfGo f h c : Nat) : Int) := by
  intro f
  induction f with
  | zero =>
    intro h k h0 h1 h2 hk
    obtain ⟨k, rfl⟩ : ∃ m, k = m + 1 := ⟨k - 1, by omega⟩
    simp only [ossuaryref1_half.l0, halfGo]
    rw [w64 (by omega) (by omega), if_neg (by omega)]
  | succ f ih =>
    intro h k h0 h1 h2 hk
    obtain ⟨k, rfl⟩ : ∃ m, k = m + 1 := ⟨k - 1, by omega⟩
    simp only [ossuaryref1_half.l0, halfGo]
    rw [w64 (x := 2 * (h : Int)) (by omega) (by omega)]
    by_cases g : 2 * h < c
    · rw [if_pos (by omega), if_pos g, show (2 * (h : Int)) = ((2 * h : Nat) : Int) from by omega]
      exact ih (2 * h) k (by omega) (by omega) (by omega) (by omega)
    · rw [if_neg (by omega), if_neg g]
theorem ref_half_ev (c : Nat) (h1 : 1 ≤ c) (hc : c ≤ 1099511627776) : Ev (fun k => ossuaryref1_half.f k (c : Int)) ((halfS c : Nat) : Int) :=
  ev_ge (c + 1) (fun k hk => ref_half_loop c hc c 1 k (by omega) (by omega) (by omega) (by omega))
theorem ref_root_ev : ∀ (n : Nat) (l : List Int), l.length = n → 1 ≤ n → n ≤ 1099511627776 → Ev (fun k => ossuaryref1_root.f k l) (rootS l) := by
  intro n
  induction n using Nat.strongRecOn with
  | _ n ih =>
    intro l hl h1 h2
    by_cases e : n = 1
    · obtain ⟨x, rfl⟩ : ∃ x, l = [x] := List.length_eq_one_iff.mp (by omega)
      refine Ev.step (f := fun _ => some x) (fun k => ?_) (by rw [rootS_one]; exact Ev.now x)
      simp only [ossuaryref1_root.f]
      simp [rd]
    · have hr := halfS_range (c := l.length) (by omega)
      refine Ev.step (f := fun k => (ossuaryref1_half.f k (l.length : Int)).bind fun t => (if 0 ≤ t then (if t ≤ (l.length : Int) then ((ossuaryref1_root.f k (l.take (t : Int).toNat)).bind fun a => ((ossuaryref1_root.f k (l.drop (t : Int).toNat)).bind fun b => ((ossuaryref1_Pair.f a b).bind fun t130 => (some t130)))) else (none)) else (none))) (fun k => ?_) ?_
      · simp only [ossuaryref1_root.f]; rw [if_neg (by omega)]
      · refine Ev.bind (ref_half_ev l.length (by omega) (by omega)) ?_
        refine ev_pos (by omega) (ev_pos (by omega) ?_)
        rw [Int.toNat_natCast]
        refine Ev.bind (ih (halfS l.length) (by omega) _ (by rw [List.length_take]; omega) (by omega) (by omega)) ?_
        refine Ev.bind (ih (l.length - halfS l.length) (by omega) _ (by rw [List.length_drop]) (by omega) (by omega)) ?_
        simp only [ref_Pair_eq, Option.bind_some]
        rw [rootS_two (l := l) (by omega)]
        exact Ev.now _
theorem ref_SealNum_eq (x : Int) : ossuaryref1_SealNum.f x = some (decide (0 ≤ x ∧ x < 2147483647)) := by
  unfold ossuaryref1_SealNum.f
  by_cases h : x ≥ 0
  · rw [if_pos h]; congr 1; rw [decide_eq_decide]; omega
  · rw [if_neg h]; congr 1; symm; rw [decide_eq_false_iff_not]; omega
theorem ref_SealNums_loop (l : List Int) (m : Int) (hl : l.length ≤ 17592186044416) : ∀ (d i : Nat), i + d = l.length → Ev (fun k => ossuaryref1_SealNums.l0 k l m (i : Int)) (allB (l.drop i) && decide ((l.length : Int) ≤ m)) := by
  intro d
  induction d with
  | zero =>
    intro i hi
    refine ev_succ ?_
    simp only [ossuaryref1_SealNums.l0]
    rw [List.drop_of_length_le (by omega)]
    exact ev_neg (by omega) (Ev.now _)
  | succ d ih =>
    intro i hi
    have hlt : i < l.length := by omega
    refine ev_succ ?_
    simp only [ossuaryref1_SealNums.l0, ref_SealNum_eq, Option.bind_some]
    refine ev_pos (by omega) (ev_pos (by omega) ?_)
    rw [rd_nat l i hlt, w64 (by omega) (by omega), List.drop_eq_getElem_cons hlt]
    by_cases g : 0 ≤ l[i] ∧ l[i] < 2147483647
    · simp only [allB, List.all_cons, decide_eq_true g, Bool.true_and]
      exact ev_pos trivial (ih (i + 1) (by omega))
    · simp only [allB, List.all_cons, decide_eq_false g, Bool.false_and]
      exact ev_neg (by simp) (Ev.now false)
theorem ref_SealNums_ev (l : List Int) (m : Int) (hl : l.length ≤ 17592186044416) : Ev (fun k => ossuaryref1_SealNums.f k l m) (allB l && decide ((l.length : Int) ≤ m)) := by
  have := ref_SealNums_loop l m hl l.length 0 (by omega)
  rw [List.drop_zero] at this
  exact this
theorem ref_may (l : List Int) (h : ¬ (l.length : Int) < 1) : (allB l && decide ((l.length : Int) ≤ 64)) = mayB l := by
  unfold mayB
  rw [Bool.and_comm]
  congr 1
  rw [decide_eq_decide]; omega
theorem ref_Root_ev (l : List Int) (hl : l.length ≤ 17592186044416) : Ev (fun k => ossuaryref1_Root.f k l) (rootA l) := by
  unfold ossuaryref1_Root.f
  by_cases h : (l.length : Int) < 1
  · refine ev_pos h ?_
    have : mayB l = false := by unfold mayB; rw [decide_eq_false (by omega), Bool.false_and]
    unfold rootA; rw [this]; exact Ev.now _
  · refine ev_neg h (Ev.bind (ref_SealNums_ev l 64 hl) ?_)
    rw [ref_may l h]
    unfold rootA
    by_cases g : mayB l = true
    · rw [if_pos g]
      have h' := g
      unfold mayB at h'
      rw [Bool.and_eq_true, decide_eq_true_eq] at h'
      exact ev_pos g (Ev.bind (ref_root_ev l.length l rfl h'.1.1 (by omega)) (Ev.now _))
    · rw [if_neg g]; exact ev_neg g (Ev.now _)

theorem ref_Leaves_loop (s : ByteArray) (hs : s.size ≤ 140737488351232) : ∀ (n i : Nat) (acc : List Int), i + n = s.size + 8 → acc.length * 8 ≤ i → i ≤ s.size + 8 →
    Ev (fun k => ossuaryref1_Leaves.l0 k s acc (i : Int)) (acc ++ leavesL (s.data.toList.drop i)) := by
  have hl := data_len s
  intro n
  induction n using Nat.strongRecOn with
  | _ n ih =>
    intro i acc hi ha hi8
    by_cases h : i < s.size
    · have hm : (mn ((i : Int) + 8) (s.size : Int)) = ((min (i + 8) s.size : Nat) : Int) := by rw [mn_eq]; omega
      refine Ev.step (f := fun k => (ossuaryref1_Of.f k (s.extract i (min (i + 8) s.size))).bind fun t => ossuaryref1_Leaves.l0 k s (acc ++ [t]) ((i + 8 : Nat) : Int)) (fun k => ?_) ?_
      · simp only [ossuaryref1_Leaves.l0]
        rw [if_pos (by omega), if_pos (by omega), w64 (x := (i : Int) + 8) (by omega) (by omega), hm, if_pos (by omega), if_pos (by omega), Int.toNat_natCast, Int.toNat_natCast]
        congr 1; funext t
        rw [if_pos (by omega)]
        rfl
      · refine Ev.bind (ref_Of_ev _ (by rw [extr_size _ _ _ (by omega)]; omega)) ?_
        have e1 : (s.extract i (min (i + 8) s.size)).data.toList = (s.data.toList.drop i).take 8 := by
          rw [extr, List.take_eq_take_iff, List.length_drop]; omega
        have e2 : leavesL (s.data.toList.drop i) = ofL ((s.data.toList.drop i).take 8) :: leavesL (s.data.toList.drop (i + 8)) := by
          rw [leavesL_cons (by rw [List.length_drop]; omega), List.drop_drop]
        rw [e1]
        have := ih (n - 8) (by omega) (i + 8) (acc ++ [ofL ((s.data.toList.drop i).take 8)]) (by omega) (by rw [List.length_append]; simp only [List.length_cons, List.length_nil]; omega) (by omega)
        rw [List.append_assoc, List.singleton_append, ← e2] at this
        exact this
    · refine Ev.step (f := fun _ => some acc) (fun k => ?_) ?_
      · simp only [ossuaryref1_Leaves.l0]; rw [if_neg (by omega)]
      · rw [List.drop_of_length_le (by omega), leavesL_nil, List.append_nil]; exact Ev.now _
theorem ref_Leaves_ev (s : ByteArray) (hs : s.size ≤ 140737488351232) : Ev (fun k => ossuaryref1_Leaves.f k s) (leavesL s.data.toList) := by
  have := ref_Leaves_loop s hs (s.size + 8) 0 [] (by omega) (by simp) (by omega)
  rw [List.nil_append, List.drop_zero] at this
  exact this

theorem ref_path_ev : ∀ (n : Nat) (l : List Int) (a : Nat), l.length = n → 1 ≤ n → n ≤ 1099511627776 → a < n → Ev (fun k => ossuaryref1_path.f k l (a : Int)) (pathS l a) := by
  intro n
  induction n using Nat.strongRecOn with
  | _ n ih =>
    intro l a hl h1 hb ha
    by_cases h : 2 ≤ l.length
    · have hr := halfS_range h
      have et : (l.take (halfS l.length)).length = halfS l.length := by rw [List.length_take]; omega
      have ed : (l.drop (halfS l.length)).length = l.length - halfS l.length := by rw [List.length_drop]
      refine Ev.step (f := fun k => (ossuaryref1_half.f k (l.length : Int)).bind fun t113 => (if (a : Int) < t113 then (if 0 ≤ t113 then (if t113 ≤ (l.length : Int) then ((ossuaryref1_path.f k (l.take (t113 : Int).toNat) (a : Int)).bind fun t115 => ((ossuaryref1_root.f k (l.drop (t113 : Int).toNat)).bind fun t119 => (if t115.length < 17592186044416 then (some (t115 ++ [t119])) else (none)))) else (none)) else (none)) else (if 0 ≤ t113 then (if t113 ≤ (l.length : Int) then ((ossuaryref1_path.f k (l.drop (t113 : Int).toNat) (wrap64 ((a : Int) - t113))).bind fun t124 => ((ossuaryref1_root.f k (l.take (t113 : Int).toNat)).bind fun t128 => (if t124.length < 17592186044416 then (some (t124 ++ [t128])) else (none)))) else (none)) else (none)))) (fun k => ?_) ?_
      · simp only [ossuaryref1_path.f]; rw [if_neg (by omega)]
      · refine Ev.bind (ref_half_ev l.length (by omega) (by omega)) ?_
        by_cases g : a < halfS l.length
        · refine ev_pos (by omega) (ev_pos (by omega) (ev_pos (by omega) ?_))
          rw [Int.toNat_natCast]
          refine Ev.bind (ih (halfS l.length) (by omega) _ a et (by omega) (by omega) g) (Ev.bind (ref_root_ev _ _ ed (by omega) (by omega)) ?_)
          have hp := pathS_length _ (l.take (halfS l.length)) a rfl
          have hle := longS_le _ (l.take (halfS l.length)).length a rfl
          rw [pathS_left h g]
          exact ev_pos (by omega) (Ev.now _)
        · refine ev_neg (by omega) (ev_pos (by omega) (ev_pos (by omega) ?_))
          rw [Int.toNat_natCast, w64 (x := (a : Int) - (halfS l.length : Int)) (by omega) (by omega), show (a : Int) - (halfS l.length : Int) = ((a - halfS l.length : Nat) : Int) from by omega]
          refine Ev.bind (ih (l.length - halfS l.length) (by omega) _ _ ed (by omega) (by omega) (by omega)) (Ev.bind (ref_root_ev _ _ et (by omega) (by omega)) ?_)
          have hp := pathS_length _ (l.drop (halfS l.length)) (a - halfS l.length) rfl
          have hle := longS_le _ (l.drop (halfS l.length)).length (a - halfS l.length) rfl
          rw [pathS_right h g]
          exact ev_pos (by omega) (Ev.now _)
    · refine Ev.step (f := fun k => some []) (fun k => ?_) ?_
      · simp only [ossuaryref1_path.f]; rw [if_pos (by omega)]
      · rw [pathS_one a h]; exact Ev.now _
theorem ref_Path_ev (l : List Int) (a : Int) (hl : l.length ≤ 17592186044416) : Ev (fun k => ossuaryref1_Path.f k l a) (pathA l a) := by
  unfold ossuaryref1_Path.f
  by_cases h : (l.length : Int) < 1
  · refine ev_pos h ?_
    have : mayB l = false := by unfold mayB; rw [decide_eq_false (by omega), Bool.false_and]
    unfold pathA; rw [if_neg (by rw [this]; simp)]; exact Ev.now _
  · refine ev_neg h (Ev.bind (ref_SealNums_ev l 64 hl) ?_)
    rw [ref_may l h]
    unfold pathA
    by_cases g : mayB l = true
    · have h' := g
      unfold mayB at h'
      rw [Bool.and_eq_true, decide_eq_true_eq] at h'
      refine ev_pos g ?_
      by_cases h1 : a < 0
      · rw [if_neg (by omega)]; exact ev_pos h1 (Ev.now _)
      refine ev_neg h1 ?_
      by_cases h2 : a ≥ (l.length : Int)
      · rw [if_neg (by omega)]; exact ev_pos h2 (Ev.now _)
      refine ev_neg h2 ?_
      rw [if_pos ⟨g, by omega, by omega⟩]
      obtain ⟨a, rfl⟩ := Int.eq_ofNat_of_zero_le (show 0 ≤ a by omega)
      exact Ev.bind (ref_path_ev l.length l a rfl (by omega) (by omega) (by omega)) (Ev.now _)
    · rw [if_neg (by intro h'; exact g h'.1)]
      exact ev_neg g (Ev.now _)

theorem awake12_ask : ([2, 0] : List Int).length ≤ 9223372036854775807 := by decide
theorem awake12 : Ev (fun k => ossuarylaw12_awake.f k) true := by
  unfold ossuarylaw12_awake.f
  have hs := text_size 97
  have h4 := leaves4 hs
  have hl := leaves_seals (textS 97)
  refine Ev.bind (text_ev 97 (by omega) (by omega)) (Ev.bind (ref_Leaves_ev _ (by omega)) (Ev.bind (ref_Root_ev _ (by omega)) ?_))
  rw [rootA_ok hl (by omega) (by omega)]
  simp only [Option.bind_some]
  obtain ⟨_, ha, hr⟩ := respA_ok (p := []) (nonce := 7) (l := [2, 0]) hs (by simp) (by intro x hx; cases hx) (by omega) (by omega) (by simp) (by simp) (by intro b hb; simp at hb; omega)
  refine Ev.bind (respond_ev _ _ _ _ (by simp) (by simp)) (Ev.bind (respond_ev _ _ _ _ (by simp) (by simp)) (Ev.bind (respond_ev _ _ _ _ (by simp) (by simp)) ?_))
  rw [hr]
  have hx : respA (⟨#[120]⟩ : ByteArray) [] 7 [2, 0] = ([], 1200) := by
    unfold respA hasL
    rw [decide_eq_false (by decide), Bool.false_and, Bool.false_and]; rfl
  have hy : respA (textS 97) [] 0 [4] = ([], 1200) := by
    unfold respA askL
    rw [show (([4] : List Int).all fun b => decide (0 ≤ b ∧ b < 4)) = false from by decide, Bool.and_false, Bool.and_false]; rfl
  rw [hx, hy]
  simp only [ossuarylaw0_Num.f, Option.bind_some, List.map_cons, List.map_nil]
  have hp2 := pathS_length _ (leavesL (textS 97).data.toList) 2 rfl
  rw [h4, longS4 2 (by omega)] at hp2
  have e0 : rd_T49 [ansOf (textS 97) [] 7 2, ansOf (textS 97) [] 7 0] 0 = ansOf (textS 97) [] 7 ((2 : Nat) : Int) := rfl
  rw [e0]
  have hf0 : (ansOf (textS 97) [] 7 ((2 : Nat) : Int)).f0 = (textS 97).extract 16 24 := rfl
  have hf1 : (ansOf (textS 97) [] 7 ((2 : Nat) : Int)).f1 = pathS (leavesL (textS 97).data.toList) 2 ++ [] := rfl
  have hf2 : (ansOf (textS 97) [] 7 ((2 : Nat) : Int)).f2 = pairS 7 ((leavesL (textS 97).data.toList)[2]'(by omega)) := by
    rw [← block_leaf (textS 97) hs 2 (by omega)]; rfl
  rw [hf0, hf1, hf2, ref_Pair_eq, show rd (leavesL (textS 97).data.toList) 2 = (leavesL (textS 97).data.toList)[2]'(by omega) from rd_nat _ 2 (by omega)]
  simp only [Option.bind_some]
  have hroot : ∀ q : Nat, q < 4 → ∀ hq, upS 1 0 (upS 4 q ((leavesL (textS 97).data.toList)[q]'hq) (pathS (leavesL (textS 97).data.toList) q)) [] = rootS (leavesL (textS 97).data.toList) := by
    intro q h1 h2
    rw [upS_one _ _ _ (by omega)]
    exact up_path 4 _ q h2 h4
  have hfit : ∀ (R : Int) (q : Nat), q < 4 → fitsA R 1 0 7 (q : Int) (ansOf (textS 97) [] 7 (q : Int)) = (rootS (leavesL (textS 97).data.toList) == R) := by
    intro R q h1
    have := fits_ans R (textS 97) hs [] (by intro x hx; cases hx) 1 0 (by omega) (by omega) (by rw [longS_one _ (by omega)]; rfl) 7 q q h1 h1
    rw [hroot q h1 (by omega)] at this
    exact this
  have haud : ∀ R : Int, auditA R 1 0 7 [2, 0] [ansOf (textS 97) [] 7 2, ansOf (textS 97) [] 7 0] = (rootS (leavesL (textS 97).data.toList) == R) := by
    intro R
    unfold auditA
    rw [ha, decide_eq_true (by rfl), decide_eq_true (by omega)]
    simp only [List.zip_cons_cons, List.zip_nil_right, List.all_cons, List.all_nil, Bool.true_and, Bool.and_true]
    have a2 := hfit R 2 (by omega)
    have a0 := hfit R 0 (by omega)
    simp only [Int.cast_ofNat_Int] at a2 a0
    rw [a2, a0, Bool.and_self]
  have hok : ∀ x, x ∈ [ansOf (textS 97) [] 7 2, ansOf (textS 97) [] 7 0] → AnsOk x := by
    intro x hx
    simp only [List.mem_cons, List.not_mem_nil, or_false] at hx
    rcases hx with rfl | rfl
    · exact ans_ok _ hs _ (by simp) 7 2 (by omega)
    · exact ans_ok _ hs _ (by simp) 7 0 (by omega)
  have hrr := rootS_range hl (by omega)
  refine ev_pos (by first | trivial | rfl | omega | simp) (ev_pos (by first | trivial | rfl | omega | simp) (ev_pos (by first | trivial | rfl | omega | simp) (ev_pos (by first | trivial | rfl | omega | simp) (ev_pos (by first | trivial | rfl | omega | simp) (ev_pos (by first | trivial | rfl | omega | simp) (ev_pos (by first | trivial | rfl | omega | simp) (ev_pos (by first | trivial | rfl | omega | simp) (ev_pos (by rw [List.append_nil]; omega) ?_))))))))
  refine Ev.bind (check_ev _ _ _ _ _ _ (by simp) hok) ?_
  rw [haud, show (rootS (leavesL (textS 97).data.toList) == rootS (leavesL (textS 97).data.toList)) = true from by simp]
  refine ev_pos rfl (Ev.bind (check_ev _ _ _ _ _ _ (by simp) hok) ?_)
  rw [haud, w64 (by omega) (by omega), show (rootS (leavesL (textS 97).data.toList) == rootS (leavesL (textS 97).data.toList) + 1) = false from by rw [beq_eq_false_iff_ne]; omega]
  exact ev_neg (by decide) (ev_pos (by first | trivial | rfl | omega | simp) (Ev.now _))

/-- of a byte, with one other than 0 -/
theorem xor_byte (x : UInt8) (c : Nat) (h1 : 1 ≤ c) (h2 : c ≤ 255) : 0 ≤ bits .xor .u8 (x.toNat : Int) (c : Int) ∧ bits .xor .u8 (x.toNat : Int) (c : Int) < 256 ∧ bits .xor .u8 (x.toNat : Int) (c : Int) ≠ (x.toNat : Int) := by
  have e0 : bits .xor .u8 (x.toNat : Int) (c : Int) = IntKind.u8.wrap (((BitVec.ofInt 8 (x.toNat : Int) ^^^ BitVec.ofInt 8 (c : Int)).toNat : Nat) : Int) := rfl
  have hx := x.toNat_lt
  rw [e0, BitVec.ofInt_natCast, BitVec.ofInt_natCast, BitVec.toNat_xor, BitVec.toNat_ofNat, BitVec.toNat_ofNat, Nat.mod_eq_of_lt (by omega), Nat.mod_eq_of_lt (by omega)]
  have h3 : x.toNat ^^^ c < 2 ^ 8 := Nat.xor_lt_two_pow (by omega) (by omega)
  have h4 : x.toNat ^^^ c ≠ x.toNat := by
    intro h
    have : x.toNat ^^^ (x.toNat ^^^ c) = x.toNat ^^^ x.toNat := by rw [h]
    rw [Nat.xor_self, ← Nat.xor_assoc, Nat.xor_self, Nat.zero_xor] at this
    omega
  have e : IntKind.u8.wrap ((x.toNat ^^^ c : Nat) : Int) = ((x.toNat ^^^ c : Nat) : Int) := by
    simp [IntKind.wrap, IntKind.bits, IntKind.signed]; omega
  rw [e]; omega
theorem ofL_set_ne : ∀ (l : List UInt8) (i : Nat) (b : UInt8) (h : i < l.length), b ≠ l[i] → ofL (l.set i b) ≠ ofL l
  | [], _, _, h, _ => by simp at h
  | x :: l, 0, b, h, hb => by
    have h1 := ofL_range l
    have h2 := x.toNat_lt
    have h3 := b.toNat_lt
    have h4 : b.toNat ≠ x.toNat := fun e => hb (UInt8.toNat_inj.mp e)
    simp only [List.set, ofL]
    omega
  | x :: l, i + 1, b, h, hb => by
    have h0 := ofL_set_ne l i b (by simpa using h) (by simpa using hb)
    have h1 := ofL_range l
    have h2 := ofL_range (l.set i b)
    simp only [List.set, ofL]
    generalize ofL (l.set i b) = p at *
    generalize ofL l = q at *
    omega
theorem set_text (s : ByteArray) (i : Nat) (v : Int) (h : i < s.size) (h0 : 0 ≤ v) (h1 : v < 256) :
    strOfNums ((bytesOf s).set i v) = bsOf (s.data.toList.set i (byteOf v)) := by
  have e : bytesOf s = s.data.toList.map (fun b => (b.toNat : Int)) := by
    apply List.ext_getElem
    · rw [bytesOf_length, List.length_map, data_len]
    · intro j h1 h2
      have hj : j < s.size := by rw [bytesOf_length] at h1; exact h1
      have := rd_bytesOf s (j : Int)
      simp [rd, List.getD_eq_getElem?_getD, List.getElem?_eq_getElem h1] at this
      rw [this, bt_get s j (by rw [data_len]; exact hj)]; simp
  rw [e, str_nums]
  · congr 1
    rw [List.map_set, List.map_map]
    congr 1
    conv => rhs; rw [← List.map_id s.data.toList]
    apply List.map_congr_left
    intro b _
    exact byteOf_toNat b
  · intro x hx
    rcases List.mem_or_eq_of_mem_set hx with g | g
    · obtain ⟨b, _, rfl⟩ := List.mem_map.mp g
      have := u8_range b
      omega
    · omega
/-- .. and the seal of a text with one byte that is another one -/
theorem turned_seal (s : ByteArray) (i : Nat) (c : Int) (h : i < s.size) (h1 : 1 ≤ c) (h2 : c ≤ 255) :
    ofL (strOfNums ((bytesOf s).set i (bits .xor .u8 (bt s (i : Int)) c))).data.toList ≠ ofL s.data.toList := by
  have hl := data_len s
  rw [bt_get s i (by omega)]
  obtain ⟨n, rfl⟩ : ∃ n : Nat, c = (n : Int) := ⟨c.toNat, by omega⟩
  have hx := xor_byte (s.data.toList[i]'(by omega)) n (by omega) (by omega)
  rw [set_text s i _ h hx.1 hx.2.1, bs_data]
  apply ofL_set_ne _ _ _ (by omega)
  intro e
  have := byteOf_val (bits .xor .u8 ((s.data.toList[i]'(by omega)).toNat : Int) (n : Int))
  rw [e] at this
  omega

theorem bytes_frozen (W : World) (e : TypeId) (s : ByteArray) (i : Nat) (h : i < s.size) : (Lib.bytesWorld W e s).frozen? ⟨W.heap.size, i, none⟩ = false := by
  have hs : s.size ≤ (Lib.bytesCells W e s).size := by
    have hl := data_len s
    unfold Lib.bytesCells
    simp
  simp [World.frozen?, Lib.bytesWorld_at_new]
  omega
theorem bytes_cell (W : World) (e : TypeId) (s : ByteArray) (i : Nat) (h : i < s.size) : (Lib.bytesWorld W e s).cell? ⟨W.heap.size, i, none⟩ = some (.int .u8 (bt s (i : Int))) := by
  rw [Lib.bytesWorld_cell W e s i h, bt_get s i (by rw [data_len]; exact h)]
  simp [List.getD_eq_getElem?_getD, List.getElem?_eq_getElem (show i < s.data.toList.length by rw [data_len]; exact h)]
/-- what stands in the bytes' place behind one store -/
theorem bytes_set_cells (W : World) (e : TypeId) (s : ByteArray) (i : Nat) (v : Int) (h : i < s.size) (n : Nat) : ∀ j, j < s.size →
    (((Lib.bytesWorld W e s).setCell ⟨W.heap.size, i, none⟩ (.int .u8 v)).drewN n).cell? ⟨W.heap.size, 0 + j, none⟩ = some (.int .u8 (((bytesOf s).set i v).getD j 0)) := by
  intro j hj
  have hl := bytesOf_length s
  rw [Nat.zero_add]
  show ((Lib.bytesWorld W e s).setCell ⟨W.heap.size, i, none⟩ (.int .u8 v)).cell? ⟨W.heap.size, j, none⟩ = _
  by_cases g : j = i
  · subst g
    rw [World.cell?_setCell_same _ _ _ (bytes_cell W e s j hj)]
    simp [List.getD_eq_getElem?_getD, List.getElem?_set, hl, hj]
  · rw [World.cell?_setCell_other _ _ _ _ (by intro he; injection he with _ h2 _; exact g h2.symm), bytes_cell W e s j hj]
    rw [← rd_bytesOf]
    simp [rd, List.getD_eq_getElem?_getD, List.getElem?_set, Ne.symm g]
theorem bytes_back {P : Program} (W : World) (src e dst : TypeId) (s : ByteArray) (i : Nat) (v : Int) (h : i < s.size) (hs : P.underlying src = some (.slice e)) (he : P.underlying e = some (.int .u8)) (hd : P.underlying dst = some .string) (n c : Nat) :
    (convert src dst (.slice (some ⟨W.heap.size, 0, none⟩) s.size c)).run P (((Lib.bytesWorld W e s).setCell ⟨W.heap.size, i, none⟩ (.int .u8 v)).drewN n) = .ok (.string (strOfNums ((bytesOf s).set i v))) (((Lib.bytesWorld W e s).setCell ⟨W.heap.size, i, none⟩ (.int .u8 v)).drewN n) :=
  run_convert_bytes_arg _ src e hs he W.heap.size 0 s.size c _ (by rw [List.length_set, bytesOf_length]) (fun j hj => bytes_set_cells W e s i v h n j hj) dst hd

/-- an answer whose seal is right: what its path comes to -/
theorem fits_form (R : Int) (s : ByteArray) (hs : s.size = 32) (p : List Int) (hp : Seals01 p) (m t : Nat) (ht : t < m) (hm : m ≤ 64) (hpl : p.length = longS m t) (n : Int) (a : Nat) (ha : a < 4) (b : ByteArray) (hb : b.size = 8) :
    fitsA R (m : Int) (t : Int) n (a : Int) ⟨b, pathS (leavesL s.data.toList) a ++ p, pairS n (ofL b.data.toList)⟩ = (upS m t (upS 4 a (ofL b.data.toList) (pathS (leavesL s.data.toList) a)) p == R) := by
  have h4 := leaves4 hs
  have hpath := pathS_length _ (leavesL s.data.toList) a rfl
  rw [h4, longS4 a ha] at hpath
  have hx := ofL_range b.data.toList
  have hps := pathS_seals _ (leavesL s.data.toList) a rfl (leaves_seals s)
  unfold fitsA
  rw [Int.toNat_natCast]
  simp only
  rw [decide_eq_true hb, Bool.true_and, show decide True = true from rfl, Bool.true_and, longS4 a ha, decide_eq_true (by rw [List.length_append]; omega), Bool.true_and]
  rw [List.take_left' hpath, List.drop_left' hpath]
  have hl : LeadOk (4 : Int) (a : Int) (ofL b.data.toList) (pathS (leavesL s.data.toList) a) := leadOk (c := 4) (by omega) ha hx.1 hx.2 hps (by rw [longS4 a ha]; exact hpath)
  have hu := upS_range (c := 4) (a := a) (p := pathS (leavesL s.data.toList) a) hx.1 hx.2
  unfold leadA
  rw [if_pos hl]
  show (true && checkA R (m : Int) (t : Int) (upS 4 a _ _) p) = _
  rw [Bool.true_and, checkA_yes (leadOk hm ht hu.1 hu.2 hp hpl)]
  rfl
/-- one that does not fit: refused -/
theorem audit_no (R m k n : Int) (L : List Int) (zs : List S49) (j : Nat) (hj : j < L.length) (hz : j < zs.length) (h : fitsA R m k n L[j] zs[j] = false) : auditA R m k n L zs = false := by
  unfold auditA
  rw [Bool.and_eq_false_iff]
  right
  rw [List.all_eq_false]
  have e : (L.zip zs)[j]'(by rw [List.length_zip]; omega) = (L[j], zs[j]) := List.getElem_zip
  exact ⟨(L[j], zs[j]), by rw [← e]; exact List.getElem_mem _, by simp [h]⟩
/-- another number of answers: refused -/
theorem audit_len (R m k n : Int) (L : List Int) (zs : List S49) (h : zs.length ≠ L.length) : auditA R m k n L zs = false := by
  unfold auditA
  rw [decide_eq_false h, Bool.and_false, Bool.false_and, Bool.false_and]
/-- the setting: a shard's root lies in place t of the roots -/
structure Sits (s : ByteArray) (rs : List Int) (t : Nat) : Prop where
  size : s.size = 32
  seals : Seals01 rs
  few : rs.length ≤ 6
  lt : t < rs.length
  root : rs[t] = rootS (leavesL s.data.toList)
  long : (pathS rs t).length ≤ 3
theorem Sits.pathl {s : ByteArray} {rs : List Int} {t : Nat} (h : Sits s rs t) : (pathS rs t).length = longS rs.length t := pathS_length _ rs t rfl
theorem Sits.up {s : ByteArray} {rs : List Int} {t : Nat} (h : Sits s rs t) (a : Nat) (ha : a < 4) : upS rs.length t (upS 4 a (ofL (blockS s (a : Int)).data.toList) (pathS (leavesL s.data.toList) a)) (pathS rs t) = rootS rs := by
  have h4 := leaves4 h.size
  have e := up_path 4 (leavesL s.data.toList) a (by rw [h4]; exact ha) h4
  rw [block_leaf s h.size a ha, e, ← h.root]
  exact up_path rs.length rs t h.lt rfl
theorem Sits.fit {s : ByteArray} {rs : List Int} {t : Nat} (h : Sits s rs t) (n : Int) (a : Nat) (ha : a < 4) : fitsA (rootS rs) (rs.length : Int) (t : Int) n (a : Int) (ansOf s (pathS rs t) n (a : Int)) = true := by
  unfold ansOf
  rw [Int.toNat_natCast, fits_form _ s h.size _ (pathS_seals _ rs t rfl h.seals) rs.length t h.lt (by have := h.few; omega) h.pathl n a ha _ (block_size s h.size a ha), h.up a ha]
  exact beq_self_eq_true _
/-- another block, its seal right: it does not fit -/
theorem Sits.liar {s : ByteArray} {rs : List Int} {t : Nat} (h : Sits s rs t) (n : Int) (a : Nat) (ha : a < 4) (b : ByteArray) (hb : b.size = 8) (hne : ofL b.data.toList ≠ ofL (blockS s (a : Int)).data.toList) :
    fitsA (rootS rs) (rs.length : Int) (t : Int) n (a : Int) ⟨b, pathS (leavesL s.data.toList) a ++ pathS rs t, pairS n (ofL b.data.toList)⟩ = false := by
  rw [fits_form _ s h.size _ (pathS_seals _ rs t rfl h.seals) rs.length t h.lt (by have := h.few; omega) h.pathl n a ha b hb, beq_eq_false_iff_ne]
  intro e
  rw [← h.up a ha] at e
  have h1 := ofL_range b.data.toList
  have h2 := ofL_range (blockS s (a : Int)).data.toList
  have u1 := upS_range (c := 4) (a := a) (p := pathS (leavesL s.data.toList) a) h1.1 h1.2
  have u2 := upS_range (c := 4) (a := a) (p := pathS (leavesL s.data.toList) a) h2.1 h2.2
  exact hne (up_leaf 4 4 a _ _ _ rfl h1.1 h1.2 h2.1 h2.2 (up_leaf rs.length rs.length t _ _ _ rfl u1.1 u1.2 u2.1 u2.2 e))
/-- a seal that is not the block's with the nonce: it does not fit -/
theorem fits_keyed (R m k n at_ : Int) (x : S49) (h : x.f2 ≠ pairS n (ofL x.f0.data.toList)) : fitsA R m k n at_ x = false := by
  unfold fitsA
  rw [decide_eq_false h, Bool.and_false, Bool.false_and, Bool.false_and]
theorem nonce_ne {n n' x : Int} (h0 : 0 ≤ n) (h1 : n < 2147483647) (h2 : 0 ≤ n') (h3 : n' < 2147483647) (h : n ≠ n') : pairS n x ≠ pairS n' x := fun e => h (pairS_left e h0 h1 h2 h3)
/-- the answers, rightly given: right -/
theorem Sits.yes {s : ByteArray} {rs : List Int} {t : Nat} (h : Sits s rs t) (n : Int) (L : List Int) (hq : askL n L = true) (hb : ∀ b, b ∈ L → 0 ≤ b ∧ b < 4) : auditA (rootS rs) (rs.length : Int) (t : Int) n L (L.map (ansOf s (pathS rs t) n)) = true := by
  unfold auditA
  have h1 := h.lt
  have h2 := h.few
  rw [hq, decide_eq_true (List.length_map _), decide_eq_true (show 1 ≤ (rs.length : Int) ∧ (rs.length : Int) ≤ 6 ∧ 0 ≤ (t : Int) ∧ (t : Int) < (rs.length : Int) by omega), Bool.true_and, Bool.true_and, Bool.true_and, List.all_eq_true]
  intro q hq
  obtain ⟨i, hi, rfl⟩ := List.getElem_of_mem hq
  rw [List.length_zip, List.length_map] at hi
  rw [List.getElem_zip, List.getElem_map]
  have hm := hb (L[i]'(by omega)) (List.getElem_mem _)
  obtain ⟨a, ha⟩ : ∃ a : Nat, L[i]'(by omega) = (a : Int) := ⟨(L[i]'(by omega)).toNat, by omega⟩
  show fitsA _ _ _ _ (L[i]'(by omega)) (ansOf s _ n (L[i]'(by omega))) = true
  rw [ha]
  exact h.fit n a (by omega)
/-- asked with another nonce: refused -/
theorem Sits.nonce {s : ByteArray} {rs : List Int} {t : Nat} (h : Sits s rs t) (n n' : Int) (L : List Int) (h0 : 0 ≤ n) (h1 : n < 2147483647) (h2 : 0 ≤ n') (h3 : n' < 2147483647) (hn : n ≠ n') (hl : 1 ≤ L.length) :
    auditA (rootS rs) (rs.length : Int) (t : Int) n' L (L.map (ansOf s (pathS rs t) n)) = false := by
  refine audit_no _ _ _ _ _ _ 0 (by omega) (by rw [List.length_map]; omega) (fits_keyed _ _ _ _ _ _ ?_)
  rw [List.getElem_map]
  exact nonce_ne h0 h1 h2 h3 hn
/-- a block turned, the number left: refused -/
theorem Sits.turned {s : ByteArray} {rs : List Int} {t : Nat} (h : Sits s rs t) (n : Int) (L : List Int) (j : Nat) (hj : j < L.length) (b : ByteArray) (p : List Int) (hne : ofL b.data.toList ≠ ofL (blockS s L[j]).data.toList) :
    auditA (rootS rs) (rs.length : Int) (t : Int) n L ((L.map (ansOf s (pathS rs t) n)).set j ⟨b, p, pairS n (ofL (blockS s L[j]).data.toList)⟩) = false := by
  have hz : j < ((L.map (ansOf s (pathS rs t) n)).set j ⟨b, p, pairS n (ofL (blockS s L[j]).data.toList)⟩).length := by rw [List.length_set, List.length_map]; exact hj
  refine audit_no _ _ _ _ _ _ j hj hz (fits_keyed _ _ _ _ _ _ ?_)
  rw [List.getElem_set_self]
  have h1 := ofL_range b.data.toList
  have h2 := ofL_range (blockS s L[j]).data.toList
  exact fun e => hne (pairS_right e h2.1 h2.2 h1.1 h1.2).symm
/-- a block turned by one who knows the nonce: refused -/
theorem Sits.lied {s : ByteArray} {rs : List Int} {t : Nat} (h : Sits s rs t) (n : Int) (L : List Int) (hb : ∀ b, b ∈ L → 0 ≤ b ∧ b < 4) (j : Nat) (hj : j < L.length) (b : ByteArray) (h8 : b.size = 8) (hne : ofL b.data.toList ≠ ofL (blockS s L[j]).data.toList) :
    auditA (rootS rs) (rs.length : Int) (t : Int) n L ((L.map (ansOf s (pathS rs t) n)).set j ⟨b, pathS (leavesL s.data.toList) (L[j]).toNat ++ pathS rs t, pairS n (ofL b.data.toList)⟩) = false := by
  have hz : j < ((L.map (ansOf s (pathS rs t) n)).set j ⟨b, pathS (leavesL s.data.toList) (L[j]).toNat ++ pathS rs t, pairS n (ofL b.data.toList)⟩).length := by rw [List.length_set, List.length_map]; exact hj
  refine audit_no _ _ _ _ _ _ j hj hz ?_
  rw [List.getElem_set_self]
  have hm := hb L[j] (List.getElem_mem _)
  generalize L[j] = z at *
  obtain ⟨a, rfl⟩ : ∃ a : Nat, z = (a : Int) := ⟨z.toNat, by omega⟩
  rw [Int.toNat_natCast]
  exact h.liar n a (by omega) b h8 hne
/-- one answer too few: refused -/
theorem Sits.less {s : ByteArray} {rs : List Int} {t : Nat} (h : Sits s rs t) (n : Int) (L : List Int) (hl : 1 ≤ L.length) : auditA (rootS rs) (rs.length : Int) (t : Int) n L ((L.map (ansOf s (pathS rs t) n)).drop 1) = false :=
  audit_len _ _ _ _ _ _ (by rw [List.length_drop, List.length_map]; omega)
/-- each answer's size is borne -/
theorem Sits.ok {s : ByteArray} {rs : List Int} {t : Nat} (h : Sits s rs t) (n : Int) (L : List Int) (hb : ∀ b, b ∈ L → 0 ≤ b ∧ b < 4) : ∀ x, x ∈ L.map (ansOf s (pathS rs t) n) → AnsOk x := by
  intro x hx
  obtain ⟨b, hm, rfl⟩ := List.mem_map.mp hx
  have := hb b hm
  obtain ⟨a, rfl⟩ : ∃ a : Nat, b = (a : Int) := ⟨b.toNat, by omega⟩
  exact ans_ok s h.size _ h.long n a (by omega)

end Go.Proofs.Ytgolnkankkegdaa.Ap
