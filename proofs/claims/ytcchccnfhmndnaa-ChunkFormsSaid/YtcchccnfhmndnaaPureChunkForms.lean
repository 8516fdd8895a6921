/- Shapes, texts, chunks and sizes that are none are refused: no condition beyond the statement. -/
import Derived.Test.YtcchccnfhmndnaaHChunkFormsx3
namespace Go.Proofs.Ytcchccnfhmndnaa.Pure
open Go.RowKit Go.Proofs.Ytcchccnfhmndnaa.HChunkForms Go.Proofs.YtcchccnfhmndnaaW.PrintWords Go.Proofs.YtcchccnfhmndnaaW.PrintLast


set_option linter.unusedVariables false
set_option linter.unusedSimpArgs false
theorem wf64 {x : Int} (h : (Lit.int .i64 x).wf = true) : -9223372036854775808 ≤ x ∧ x ≤ 9223372036854775807 := by
  simp only [Lit.wf, Bool.and_eq_true, decide_eq_true_eq] at h
  have e1 : IntKind.i64.min = -9223372036854775808 := by decide
  have e2 : IntKind.i64.max = 9223372036854775807 := by decide
  omega
theorem w64 {x : Int} (h0 : -9223372036854775808 ≤ x) (h1 : x ≤ 9223372036854775807) : wrap64 x = x := by
  unfold wrap64; omega
theorem tm {x : Int} (m : Int) (h0 : 0 ≤ x) : Int.tmod x m = x % m := Int.tmod_eq_emod_of_nonneg h0
theorem data_len (s : ByteArray) : s.data.toList.length = s.size := by rw [Array.length_toList]; rfl
theorem bt_get (s : ByteArray) (n : Nat) (h : n < s.data.toList.length) : bt s (n : Int) = ((s.data.toList[n]'h).toNat : Int) := by
  have h' : n < s.size := by rw [data_len] at h; exact h
  unfold bt
  rw [dif_pos (show (n : Int).toNat < s.size from by simpa using h')]
  simp [ByteArray.getElem_eq_getElem_data]
/-- enough rounds -/
theorem ex_of_ev {α : Type} {g : Nat → Option α} {r : α} (h : Ev g r) : ∃ k, g k = some r := h.rounds
theorem ev_ge {α : Type} {g : Nat → Option α} {r : α} (K : Nat) (h : ∀ k, K ≤ k → g k = some r) : Ev g r := ⟨K, h⟩
theorem ev_const {α : Type} {g : Option α} {r : α} (h : g = some r) : Ev (fun _ => g) r := ⟨0, fun _ _ => h⟩
theorem ev_pos {α : Type} {c : Prop} [Decidable c] {f g : Nat → Option α} {r : α} (h : c) (hf : Ev f r) : Ev (fun k => if c then f k else g k) r := by
  simp only [if_pos h]; exact hf
theorem ev_neg {α : Type} {c : Prop} [Decidable c] {f g : Nat → Option α} {r : α} (h : ¬ c) (hg : Ev g r) : Ev (fun k => if c then f k else g k) r := by
  simp only [if_neg h]; exact hg
theorem ev_succ {α : Type} {g : Nat → Option α} {r : α} (h : Ev (fun k => g (k + 1)) r) : Ev g r := Ev.step (f := fun k => g (k + 1)) (fun _ => rfl) h

theorem extr (s : ByteArray) (a b : Nat) : (s.extract a b).data.toList = (s.data.toList.drop a).take (b - a) := by
  rw [ByteArray.data_extract, Array.toList_extract, List.extract_eq_take_drop]
theorem extr_size (s : ByteArray) (a b : Nat) (h : b ≤ s.size) : (s.extract a b).size = b - a := by
  rw [ByteArray.size_extract]; omega
theorem mn_eq (a b : Int) : mn a b = min a b := by unfold mn; omega

theorem u64w (x : Int) : IntKind.u64.wrap x = x % 18446744073709551616 := by simp [IntKind.wrap, IntKind.bits, IntKind.signed]
theorem i64w (x : Int) : IntKind.i64.wrap x = (x + 9223372036854775808) % 18446744073709551616 - 9223372036854775808 := by
  simp [IntKind.wrap, IntKind.bits, IntKind.signed]
  split <;> omega
/-- x & (2^i - 1), whatever x -/
theorem and_mask (x : Int) (i : Nat) (hi : i ≤ 62) (m p : Int) (hm : m = ((2 ^ i - 1 : Nat) : Int)) (hp : p = ((2 ^ i : Nat) : Int)) : Go.bits .and .i64 x m = x % p := by
  subst hm hp
  have h2 : 2 ^ i ≤ 2 ^ 62 := Nat.pow_le_pow_right (by decide) hi
  have hpos : 0 < 2 ^ i := Nat.two_pow_pos i
  have e1 : (2 ^ i - 1) % 2 ^ 64 = 2 ^ i - 1 := Nat.mod_eq_of_lt (by omega)
  have hd : 2 ^ i ∣ 2 ^ 64 := Nat.pow_dvd_pow 2 (by omega)
  have e0 : Go.bits .and .i64 x ((2 ^ i - 1 : Nat) : Int) = IntKind.i64.wrap (((BitVec.ofInt 64 x &&& BitVec.ofInt 64 ((2 ^ i - 1 : Nat) : Int)).toNat : Nat) : Int) := rfl
  rw [e0, BitVec.ofInt_natCast, BitVec.toNat_and, BitVec.toNat_ofNat]
  rw [e1, Nat.and_two_pow_sub_one_eq_mod]
  have e2 : (BitVec.ofInt 64 x).toNat = (x % 18446744073709551616).toNat := by
    rw [BitVec.toNat_ofInt]; rfl
  rw [e2]
  have e3 : (((x % 18446744073709551616).toNat % 2 ^ i : Nat) : Int) = x % ((2 ^ i : Nat) : Int) := by
    rw [Int.natCast_emod, Int.toNat_of_nonneg (by omega)]
    have hd' : ((2 ^ i : Nat) : Int) ∣ (18446744073709551616 : Int) := Int.natCast_dvd_natCast (n := 18446744073709551616).mpr hd
    exact Int.emod_emod_of_dvd x hd'
  rw [e3]
  have h3 : 0 ≤ x % ((2 ^ i : Nat) : Int) := Int.emod_nonneg x (by omega)
  have h4 : x % ((2 ^ i : Nat) : Int) < ((2 ^ i : Nat) : Int) := Int.emod_lt_of_pos x (by omega)
  generalize x % ((2 ^ i : Nat) : Int) = y at *
  rw [i64w]; omega
/-- uint(a) % uint(n), as a place -/
def umod (a : Int) (n : Nat) : Nat := ((a % 18446744073709551616) % (n : Int)).toNat
theorem umod_lt (a : Int) (n : Nat) (h : 1 ≤ n) : umod a n < n := by
  unfold umod
  have h1 : 0 ≤ (a % 18446744073709551616) % (n : Int) := Int.emod_nonneg _ (by omega)
  have h2 : (a % 18446744073709551616) % (n : Int) < (n : Int) := Int.emod_lt_of_pos _ (by omega)
  omega
theorem umod_eq (a : Int) (n : Nat) (h : 1 ≤ n) (h' : n ≤ 4611686018427387904) : wrap64 (Int.tmod (IntKind.u64.wrap a) (IntKind.u64.wrap (n : Int))) = (umod a n : Int) := by
  have e : (n : Int) % 18446744073709551616 = (n : Int) := by omega
  rw [u64w, u64w, e, tm (x := a % 18446744073709551616) _ (by omega)]
  unfold umod
  have h1 : 0 ≤ (a % 18446744073709551616) % (n : Int) := Int.emod_nonneg _ (by omega)
  have h2 : (a % 18446744073709551616) % (n : Int) < (n : Int) := Int.emod_lt_of_pos _ (by omega)
  rw [w64 (by omega) (by omega)]; omega
theorem umod_lit (a : Int) (n : Nat) (m : Int) (hm : m = (n : Int)) (h : 1 ≤ n) (h' : n ≤ 4611686018427387904) : wrap64 (Int.tmod (IntKind.u64.wrap a) m) = (umod a n : Int) := by
  subst hm
  have := umod_eq a n h h'
  rwa [show IntKind.u64.wrap (n : Int) = (n : Int) from by rw [u64w]; omega] at this
/-- int(uint32(x) >> 2) -/
def quart (x : Int) : Int := x % 4294967296 / 4
theorem quart_range (x : Int) : 0 ≤ quart x ∧ quart x < 1073741824 := by unfold quart; omega

/-- a text of these bytes -/
def bsOf (l : List UInt8) : ByteArray := ⟨l.toArray⟩
theorem bs_list (l : List UInt8) : (bsOf l).toList = l := by unfold bsOf; simp
theorem bs_data (l : List UInt8) : (bsOf l).data.toList = l := by simp [bsOf]
theorem bs_size (l : List UInt8) : (bsOf l).size = l.length := by rw [← data_len, bs_data]
theorem bs_of (s : ByteArray) : bsOf s.data.toList = s := by simp [bsOf]
theorem bs_eta (s : ByteArray) : ∃ l, s = bsOf l ∧ l.length = s.size := ⟨s.data.toList, (bs_of s).symm, data_len s⟩
theorem ba_ext {a b : ByteArray} (h : a.data.toList = b.data.toList) : a = b := by rw [← bs_of a, ← bs_of b, h]
theorem bs_append (a b : List UInt8) : bsOf a ++ bsOf b = bsOf (a ++ b) := by
  apply ba_ext; simp [bs_data]
theorem bs_inj {a b : List UInt8} (h : bsOf a = bsOf b) : a = b := by rw [← bs_data a, ← bs_data b, h]
theorem bs_extract (l : List UInt8) (a b : Nat) : (bsOf l).extract a b = bsOf ((l.drop a).take (b - a)) := by
  apply ba_ext
  rw [bs_data, ByteArray.data_extract, Array.toList_extract, List.extract_eq_take_drop, bs_data]
theorem bs_bt (l : List UInt8) (i : Nat) (h : i < l.length) : bt (bsOf l) (i : Int) = (l[i].toNat : Int) := by
  have := bt_get (bsOf l) i (by rw [bs_data]; exact h)
  rw [this]; congr 2
theorem u8_range (b : UInt8) : 0 ≤ (b.toNat : Int) ∧ (b.toNat : Int) ≤ 255 := by
  have := b.toNat_lt; omega
/-- a byte of a number -/
def byteOf (x : Int) : UInt8 := UInt8.ofNat (x % 256).toNat
theorem byteOf_val (x : Int) : ((byteOf x).toNat : Int) = x % 256 := by
  unfold byteOf
  rw [UInt8.toNat_ofNat']
  omega
theorem byteOf_toNat (b : UInt8) : byteOf (b.toNat : Int) = b := by
  apply UInt8.toNat_inj.mp
  have h1 := byteOf_val (b.toNat : Int)
  have h2 := u8_range b
  omega
theorem str_nums (xs : List Int) (h : ∀ x, x ∈ xs → 0 ≤ x ∧ x < 256) : strOfNums xs = bsOf (xs.map byteOf) := by
  unfold strOfNums bsOf
  congr 2
  apply List.map_congr_left
  intro x hx
  have := h x hx
  unfold byteOf
  rw [Int.emod_eq_of_lt this.1 this.2]

theorem rep_zero : ∀ n, Lib.repeatL [0] n = List.replicate n 0
  | 0 => rfl
  | n + 1 => by rw [Lib.repeatL, rep_zero n]; rfl
theorem repeat_eq (m : Nat) (h : m ≤ 1000000) : strings_Repeat.f (⟨#[0]⟩ : ByteArray) (m : Int) = some (bsOf (List.replicate m 0)) := by
  unfold strings_Repeat.f
  rw [if_pos (by refine ⟨by omega, by omega, ?_⟩; rw [Int.toNat_natCast, show (⟨#[0]⟩ : ByteArray).size = 1 from rfl]; omega), Int.toNat_natCast, rep_zero]
  rfl

/-- how many chunks -/
def manyC (c n : Nat) : Nat := (n + c - 1) / c
theorem many_zero (d : Nat) (h1 : 1 ≤ d) (h2 : d ≤ 4) : manyC (32 * d) 0 = 0 := by
  unfold manyC
  have c : d = 1 ∨ d = 2 ∨ d = 3 ∨ d = 4 := by omega
  rcases c with e | e | e | e <;> subst e <;> omega
theorem many_step (d n : Nat) (h1 : 1 ≤ d) (h2 : d ≤ 4) (h : 0 < n) : manyC (32 * d) n = manyC (32 * d) (n - 32 * d) + 1 := by
  unfold manyC
  have c : d = 1 ∨ d = 2 ∨ d = 3 ∨ d = 4 := by omega
  rcases c with e | e | e | e <;> subst e <;> omega
theorem many_le (d n : Nat) (h1 : 1 ≤ d) (h2 : d ≤ 4) (h : n ≤ 192 * d) : manyC (32 * d) n ≤ 6 := by
  unfold manyC
  have c : d = 1 ∨ d = 2 ∨ d = 3 ∨ d = 4 := by omega
  rcases c with e | e | e | e <;> subst e <;> omega
theorem many_of (d n m : Nat) (h1 : 1 ≤ d) (h2 : d ≤ 4) (h : manyC (32 * d) n = m) : n ≤ 32 * d * m ∧ (0 < m → 32 * d * m < n + 32 * d) ∧ (m = 0 → n = 0) := by
  unfold manyC at h
  have c : d = 1 ∨ d = 2 ∨ d = 3 ∨ d = 4 := by omega
  rcases c with e | e | e | e <;> subst e <;> omega
theorem many_to (d n m : Nat) (h1 : 1 ≤ d) (h2 : d ≤ 4) (h : n ≤ 32 * d * m) (h' : 0 < m → 32 * d * m < n + 32 * d) : manyC (32 * d) n = m := by
  unfold manyC
  have c : d = 1 ∨ d = 2 ∨ d = 3 ∨ d = 4 := by omega
  rcases c with e | e | e | e <;> subst e <;> omega
/-- a text's pieces, each of so many bytes -/
def piecesL (c : Nat) : Nat → List UInt8 → List (List UInt8)
  | 0, _ => []
  | n + 1, s => (s.take c ++ List.replicate (c - s.length) 0) :: piecesL c n (s.drop c)
theorem piecesL_length (c : Nat) : ∀ (n : Nat) (s : List UInt8), (piecesL c n s).length = n
  | 0, _ => rfl
  | n + 1, s => by rw [piecesL, List.length_cons, piecesL_length c n]
theorem piecesL_mem (c : Nat) : ∀ (n : Nat) (s t : List UInt8), t ∈ piecesL c n s → t.length = c
  | 0, _, t, h => by simp [piecesL] at h
  | n + 1, s, t, h => by
    rw [piecesL, List.mem_cons] at h
    rcases h with rfl | h
    · rw [List.length_append, List.length_take, List.length_replicate]; omega
    · exact piecesL_mem c n _ t h
/-- may there be such a shape? -/
def ShapeOk (d p : Int) : Prop := 1 ≤ d ∧ d ≤ 4 ∧ 0 ≤ p ∧ p ≤ 2
instance (d p : Int) : Decidable (ShapeOk d p) := by unfold ShapeOk; infer_instance
/-- Cut's answer -/
def cutA (d p : Int) (s : List UInt8) : List ByteArray × Int := if ShapeOk d p ∧ (s.length : Int) ≤ 192 * d then ((piecesL (32 * d.toNat) (manyC (32 * d.toNat) s.length) s).map bsOf, 0) else ([], 1700)
theorem gen_May_eq (d p : Int) : gen_May.f d p = some (decide (ShapeOk d p)) := by
  unfold gen_May.f
  have no : ¬ ShapeOk d p → some false = some (decide (ShapeOk d p)) := fun h => by rw [decide_eq_false h]
  by_cases h1 : d ≥ 1
  · rw [if_pos h1]
    by_cases h2 : d ≤ 4
    · rw [if_pos h2]
      by_cases h3 : p ≥ 0
      · rw [if_pos h3]; congr 1; rw [decide_eq_decide]; unfold ShapeOk; omega
      · rw [if_neg h3]; exact no (by unfold ShapeOk; omega)
    · rw [if_neg h2]; exact no (by unfold ShapeOk; omega)
  · rw [if_neg h1]; exact no (by unfold ShapeOk; omega)
theorem chunk_Size_eq (d : Nat) (p : Int) (h : d ≤ 4) : chunk_Size.f (d : Int) p = some ((32 * d : Nat) : Int) := by
  unfold chunk_Size.f
  rw [w64 (by omega) (by omega)]; congr 1; omega
theorem chunk_Most_eq (d : Nat) (p : Int) (h : d ≤ 4) : chunk_Most.f (d : Int) p = some ((192 * d : Nat) : Int) := by
  unfold chunk_Most.f
  rw [chunk_Size_eq d p h, Option.bind_some, w64 (by omega) (by omega)]; congr 1; omega
theorem cut_loop (d : Nat) (p : Int) (h1 : 1 ≤ d) (h2 : d ≤ 4) : ∀ (n : Nat) (s : List UInt8) (pre : List (List UInt8)), manyC (32 * d) s.length = n → s.length ≤ 192 * d → pre.length ≤ 1000 - n →  n ≤ 6 →
    Ev (fun k => chunk_Cut.l0 k (bsOf s) (pre.map bsOf) (d : Int) p) ((pre ++ piecesL (32 * d) n s).map bsOf, 0) := by
  intro n
  induction n with
  | zero =>
    intro s pre hn hs _ _
    have := (many_of d _ _ h1 h2 hn).2.2 rfl
    refine ev_succ ?_
    simp only [chunk_Cut.l0]
    rw [bs_size]
    refine ev_neg (by omega) ?_
    rw [piecesL, List.append_nil]
    exact Ev.now _
  | succ n ih =>
    intro s pre hn hs hp hn6
    have hpos : 0 < s.length := by
      rcases Nat.eq_zero_or_pos s.length with h | h
      · rw [h, many_zero d h1 h2] at hn; omega
      · exact h
    have hst := many_step d s.length h1 h2 hpos
    refine ev_succ ?_
    simp only [chunk_Cut.l0, chunk_Size_eq d p h2, Option.bind_some]
    have hm : mn ((32 * d : Nat) : Int) ((bsOf s).size : Int) = ((min (32 * d) s.length : Nat) : Int) := by rw [mn_eq, bs_size]; omega
    have hw : wrap64 (((32 * d : Nat) : Int) - ((min (32 * d) s.length : Nat) : Int)) = ((32 * d - s.length : Nat) : Int) := by rw [w64 (by omega) (by omega)]; omega
    have e1 : (s.drop 0).take (min (32 * d) s.length - 0) = s.take (32 * d) := by
      rw [List.drop_zero, Nat.sub_zero, List.take_eq_take_iff]; omega
    have e3 : (s.drop (min (32 * d) s.length)).take (s.length - min (32 * d) s.length) = s.drop (32 * d) := by
      rw [List.take_of_length_le (by rw [List.length_drop]; omega)]
      by_cases g : 32 * d ≤ s.length
      · rw [Nat.min_eq_left g]
      · rw [List.drop_of_length_le (by omega), List.drop_of_length_le (by omega)]
    rw [hm, hw, repeat_eq _ (by omega), Int.toNat_natCast, bs_extract, bs_size, bs_extract, e1, e3]
    refine ev_pos (by omega) (ev_pos (by omega) (ev_pos (by omega) ?_))
    simp only [Option.bind_some]
    rw [bs_append, bs_size, bs_size, List.length_map, List.length_take, List.length_replicate]
    refine ev_pos (by omega) (ev_pos (by omega) ?_)
    rw [show pre.map bsOf ++ [bsOf (s.take (32 * d) ++ List.replicate (32 * d - s.length) 0)] = (pre ++ [s.take (32 * d) ++ List.replicate (32 * d - s.length) 0]).map bsOf from by rw [List.map_append]; rfl]
    have := ih (s.drop (32 * d)) (pre ++ [s.take (32 * d) ++ List.replicate (32 * d - s.length) 0]) (by rw [List.length_drop]; omega) (by rw [List.length_drop]; omega) (by rw [List.length_append, List.length_singleton]; omega) (by omega)
    rw [List.append_assoc, List.singleton_append] at this
    rw [piecesL]
    exact this
theorem chunk_Cut_ev (d p : Int) (s : List UInt8) : Ev (fun k => chunk_Cut.f k d p (bsOf s)) (cutA d p s) := by
  have no : Ev (fun k => chunk_Cut.j0 k (bsOf s) true d p) ([], 1700) := by
    refine ev_succ ?_
    simp only [chunk_Cut.j0]
    exact ev_pos trivial (Ev.now _)
  unfold chunk_Cut.f cutA
  simp only [gen_May_eq, Option.bind_some]
  by_cases h : ShapeOk d p
  · rw [decide_eq_true h]
    refine ev_pos rfl ?_
    obtain ⟨g1, g2, g3, g4⟩ := h
    obtain ⟨d, rfl⟩ := Int.eq_ofNat_of_zero_le (show 0 ≤ d by omega)
    rw [chunk_Most_eq d p (by omega)]
    simp only [Option.bind_some]
    rw [bs_size, Int.toNat_natCast]
    by_cases g : (s.length : Int) ≤ 192 * (d : Int)
    · rw [if_pos ⟨⟨g1, g2, g3, g4⟩, g⟩, decide_eq_false (by omega)]
      refine ev_succ ?_
      simp only [chunk_Cut.j0]
      refine ev_neg (by simp) ?_
      have := many_le d s.length (by omega) (by omega) (by omega)
      exact cut_loop d p (by omega) (by omega) _ s [] rfl (by omega) (by simp) this
    · rw [if_neg (fun hh => g hh.2), decide_eq_true (by omega)]
      exact no
  · rw [decide_eq_false h, if_neg (fun hh => h hh.1)]
    exact ev_neg (by simp) no
theorem join_flat : ∀ (l : List (List UInt8)), Lib.join l [] = l.flatten := by
  intro l
  unfold Lib.join List.intercalate
  induction l with
  | nil => rfl
  | cons x l ih =>
    cases l with
    | nil => simp
    | cons y l => rw [List.intersperse_cons_cons, List.flatten_cons, List.flatten_cons, List.nil_append, ih, List.flatten_cons, List.flatten_cons, List.flatten_cons]
theorem flat_length (c : Nat) : ∀ (l : List (List UInt8)), (∀ t ∈ l, t.length = c) → l.flatten.length = c * l.length
  | [], _ => by simp
  | x :: l, h => by
    rw [List.flatten_cons, List.length_append, h x (by simp), flat_length c l (fun t ht => h t (by simp [ht])), List.length_cons, Nat.mul_succ]; omega
/-- are chunks of such a shape, so many as a size needs? -/
def JoinOk (d p : Int) (l : List (List UInt8)) (n : Int) : Prop := ShapeOk d p ∧ 0 ≤ n ∧ n ≤ 192 * d ∧ l.length = manyC (32 * d.toNat) n.toNat ∧ ∀ t ∈ l, t.length = 32 * d.toNat
open Classical in
/-- Join's answer -/
noncomputable def joinA (d p : Int) (l : List (List UInt8)) (n : Int) : ByteArray × Int := if JoinOk d p l n then (bsOf (l.flatten.take n.toNat), 0) else (bsOf [], 1700)
theorem join_no {d p : Int} {l : List (List UInt8)} {n : Int} (h : ¬ JoinOk d p l n) : joinA d p l n = (bsOf [], 1700) := by unfold joinA; rw [if_neg h]
theorem join_yes {d p : Int} {l : List (List UInt8)} {n : Int} (h : JoinOk d p l n) : joinA d p l n = (bsOf (l.flatten.take n.toNat), 0) := by unfold joinA; rw [if_pos h]
theorem rdOf_map (l : List (List UInt8)) (i : Nat) (h : i < l.length) : rdOf ByteArray.empty (l.map bsOf) (i : Int) = bsOf l[i] := by
  simp [rdOf, List.getD_eq_getElem?_getD, List.getElem?_eq_getElem h]
theorem Join_f_eq (l : List (List UInt8)) (h : l.length ≤ 1000) (h2 : l.flatten.length ≤ 1000000) : strings_Join.f (l.map bsOf) (⟨#[]⟩ : ByteArray) = some (bsOf l.flatten) := by
  unfold strings_Join.f
  have e : (l.map bsOf).map (fun t => t.data.toList) = l := by
    rw [List.map_map]
    conv => rhs; rw [← List.map_id l]
    exact List.map_congr_left (fun t _ => bs_data t)
  rw [e, show (⟨#[]⟩ : ByteArray).data.toList = [] from rfl, join_flat, List.length_map, if_pos (by omega)]
  rfl
theorem join_loop (d : Nat) (p : Int) (l : List (List UInt8)) (n : Nat) (h1 : 1 ≤ d) (h2 : d ≤ 4) (hp : 0 ≤ p ∧ p ≤ 2) (hn : n ≤ 192 * d) (hl : l.length = manyC (32 * d) n) : ∀ (m i : Nat), i + m = l.length → (∀ t ∈ l.take i, t.length = 32 * d) →
    Ev (fun k => chunk_Join.l0 k (l.map bsOf) (n : Int) (l.map bsOf) ((l.map bsOf).length : Int) (i : Int) (d : Int) p) (joinA (d : Int) p l (n : Int)) := by
  have h6 := many_le d n h1 h2 hn
  intro m
  induction m with
  | zero =>
    intro i hi h
    rw [List.take_of_length_le (by omega)] at h
    have hf := flat_length (32 * d) l h
    have hm := many_of d n l.length h1 h2 hl.symm
    refine ev_succ ?_
    simp only [chunk_Join.l0]
    have hfl : l.flatten.length ≤ 1000000 := by
      rw [hf]
      have : 32 * d * l.length ≤ 128 * 6 := Nat.mul_le_mul (by omega) (by omega)
      omega
    rw [Join_f_eq l (by omega) hfl, List.length_map]
    refine ev_neg (by omega) ?_
    simp only [Option.bind_some]
    rw [bs_size, hf, Int.toNat_natCast, bs_extract, List.drop_zero, Nat.sub_zero, join_yes ⟨⟨by omega, by omega, hp.1, hp.2⟩, by omega, by omega, by rw [Int.toNat_natCast, Int.toNat_natCast]; exact hl, by rw [Int.toNat_natCast]; exact h⟩, Int.toNat_natCast]
    exact ev_pos (by omega) (ev_pos (by have := hm.1; omega) (Ev.now _))
  | succ m ih =>
    intro i hi h
    have hlt : i < l.length := by omega
    refine ev_succ ?_
    simp only [chunk_Join.l0, chunk_Size_eq d p h2, Option.bind_some]
    rw [List.length_map, rdOf_map l i hlt, bs_size]
    refine ev_pos (by omega) (ev_pos (by omega) (ev_pos (by omega) ?_))
    by_cases g : (l[i].length : Int) = ((32 * d : Nat) : Int)
    · refine ev_pos g ?_
      rw [w64 (by omega) (by omega)]
      have := ih (i + 1) (by omega) (by
        intro t ht
        rw [List.take_succ_eq_append_getElem hlt, List.mem_append, List.mem_singleton] at ht
        rcases ht with ht | rfl
        · exact h t ht
        · omega)
      rw [List.length_map] at this
      exact this
    · refine ev_neg g ?_
      rw [join_no (fun hh => g (by have := hh.2.2.2.2 _ (List.getElem_mem hlt); rw [Int.toNat_natCast] at this; omega))]
      exact Ev.now _
theorem chunk_Join_ev (d p : Int) (l : List (List UInt8)) (n : Int) : Ev (fun k => chunk_Join.f k d p (l.map bsOf) n) (joinA d p l n) := by
  have no : Ev (fun k => chunk_Join.j0 k (l.map bsOf) n true d p) (bsOf [], 1700) := by
    refine ev_succ ?_
    simp only [chunk_Join.j0]
    exact ev_pos trivial (Ev.now _)
  unfold chunk_Join.f
  simp only [gen_May_eq, Option.bind_some]
  by_cases h : ShapeOk d p
  · rw [decide_eq_true h]
    refine ev_pos rfl ?_
    have h' := h
    obtain ⟨g1, g2, g3, g4⟩ := h
    obtain ⟨d, rfl⟩ := Int.eq_ofNat_of_zero_le (show 0 ≤ d by omega)
    by_cases c1 : n < 0
    · rw [join_no (fun hh => by have := hh.2.1; omega)]
      exact ev_pos c1 no
    refine ev_neg c1 ?_
    obtain ⟨n, rfl⟩ := Int.eq_ofNat_of_zero_le (show 0 ≤ n by omega)
    rw [chunk_Most_eq d p (by omega)]
    simp only [Option.bind_some]
    by_cases c2 : (n : Int) > ((192 * d : Nat) : Int)
    · rw [join_no (fun hh => by have := hh.2.2.1; omega)]
      exact ev_pos c2 no
    refine ev_neg c2 ?_
    have hmf : chunk_Many.f (d : Int) p (n : Int) = some ((manyC (32 * d) n : Nat) : Int) := by
      unfold chunk_Many.f manyC
      rw [if_pos (by omega), Int.toNat_natCast, Int.toNat_natCast]
    rw [hmf]
    simp only [Option.bind_some]
    rw [List.length_map]
    by_cases c3 : l.length = manyC (32 * d) n
    · rw [show ((l.length : Int) != ((manyC (32 * d) n : Nat) : Int)) = false from by rw [bne_eq_false_iff_eq]; omega]
      refine ev_succ ?_
      simp only [chunk_Join.j0]
      refine ev_neg (by simp) ?_
      exact join_loop d p l n (by omega) (by omega) ⟨g3, g4⟩ (by omega) c3 l.length 0 (by omega) (by simp)
    · rw [show ((l.length : Int) != ((manyC (32 * d) n : Nat) : Int)) = true from by rw [bne_iff_ne]; omega, join_no (fun hh => c3 (by have := hh.2.2.2.1; rw [Int.toNat_natCast, Int.toNat_natCast] at this; exact this))]
      exact no
  · rw [decide_eq_false h, join_no (fun hh => h hh.1)]
    exact ev_neg (by simp) no
theorem pieces_flat (c : Nat) : ∀ (n : Nat) (s : List UInt8), s.length ≤ c * n → (piecesL c n s).flatten = s ++ List.replicate (c * n - s.length) 0
  | 0, s, h => by
    have : s = [] := List.eq_nil_of_length_eq_zero (by omega)
    subst this; simp [piecesL]
  | n + 1, s, h => by
    rw [Nat.mul_succ] at h ⊢
    rw [piecesL, List.flatten_cons, pieces_flat c n _ (by rw [List.length_drop]; omega), List.length_drop]
    by_cases g : c ≤ s.length
    · rw [show c - s.length = 0 from by omega, List.replicate_zero, List.append_nil, ← List.append_assoc, List.take_append_drop, show c * n - (s.length - c) = c * n + c - s.length from by omega]
    · rw [List.take_of_length_le (by omega), List.drop_of_length_le (by omega), List.nil_append, List.append_assoc, List.replicate_append_replicate, show c - s.length + (c * n - (s.length - c)) = c * n + c - s.length from by omega]
theorem cut_yes {d p : Int} {s : List UInt8} (h : ShapeOk d p) (h2 : (s.length : Int) ≤ 192 * d) : cutA d p s = ((piecesL (32 * d.toNat) (manyC (32 * d.toNat) s.length) s).map bsOf, 0) := by unfold cutA; rw [if_pos ⟨h, h2⟩]
theorem join_cut {d p : Int} {s : List UInt8} (h : ShapeOk d p) (h2 : (s.length : Int) ≤ 192 * d) : joinA d p (piecesL (32 * d.toNat) (manyC (32 * d.toNat) s.length) s) (s.length : Int) = (bsOf s, 0) := by
  have hd := h
  obtain ⟨g1, g2, _, _⟩ := hd
  obtain ⟨d, rfl⟩ := Int.eq_ofNat_of_zero_le (show 0 ≤ d by omega)
  have hm := many_of d s.length _ (by omega) (by omega) rfl
  rw [Int.toNat_natCast]
  rw [join_yes ⟨h, by omega, h2, by rw [piecesL_length, Int.toNat_natCast, Int.toNat_natCast], fun t ht => by rw [Int.toNat_natCast]; exact piecesL_mem _ _ _ t ht⟩, Int.toNat_natCast, pieces_flat _ _ _ hm.1, List.take_append_of_le_length (Nat.le_refl _), List.take_length]

theorem awake17 : Ev (fun k => ossuarylaw17_awake.f k) true := by
  unfold ossuarylaw17_awake.f
  have ok : ShapeOk 1 0 := by unfold ShapeOk; omega
  have c1 : cutA 1 0 [97, 98, 99] = ((piecesL 32 1 [97, 98, 99]).map bsOf, 0) := cut_yes ok (by simp)
  have j1 : joinA 1 0 (piecesL 32 1 [97, 98, 99]) 3 = (bsOf [97, 98, 99], 0) := join_cut (s := [97, 98, 99]) ok (by simp)
  have j2 : joinA 1 0 (piecesL 32 1 [97, 98, 99]) 33 = (bsOf [], 1700) := join_no (fun h => by
    have := h.2.2.2.1
    rw [piecesL_length] at this
    revert this
    decide)
  have c2 : cutA 0 0 [] = ([], 1700) := by unfold cutA; rw [if_neg (fun h => by have := h.1.1; omega)]
  refine Ev.bind (chunk_Cut_ev 1 0 [97, 98, 99]) ?_
  rw [c1]
  refine Ev.bind (chunk_Join_ev 1 0 _ 3) ?_
  rw [j1]
  refine Ev.bind (chunk_Join_ev 1 0 _ 33) ?_
  rw [j2]
  refine Ev.bind (chunk_Cut_ev 0 0 []) ?_
  rw [c2]
  have e0 : rdOf ByteArray.empty ((piecesL 32 1 [97, 98, 99]).map bsOf) 0 = bsOf ([97, 98, 99] ++ List.replicate 29 0) := rfl
  simp only [e0, ossuarylaw0_Num.f, Option.bind_some, if_true, List.length_map, piecesL_length, bs_size, bs_extract, bs_list]
  refine ev_pos (by omega) (ev_pos (by omega) (ev_pos (by decide) (ev_pos (by omega) (ev_pos (by decide) (ev_pos (by decide) (Ev.now _))))))

theorem zs_str (n : Nat) : strOfNums (List.replicate n 0) = bsOf (List.replicate n 0) := by
  rw [str_nums _ (by intro x hx; have := (List.mem_replicate.mp hx).2; omega), List.map_replicate]; rfl
theorem mapped (l : List (List UInt8)) : l.map bsOf = l.map bsOf := rfl
theorem join_bad (l : List (List UInt8)) (n : Int) (h : ¬ (0 ≤ n ∧ l.length = manyC 32 n.toNat ∧ ∀ t ∈ l, t.length = 32)) : joinA 1 0 l n = (bsOf [], 1700) :=
  join_no (fun hh => h ⟨hh.2.1, hh.2.2.2.1, hh.2.2.2.2⟩)
theorem many32 (n : Nat) : manyC 32 n = (n + 31) / 32 := by unfold manyC; omega
theorem ChunkForms : ossuarylaw17_ChunkForms.Pure := by
  intro a x _ _
  apply ex_of_ev
  unfold ossuarylaw17_ChunkForms.f
  refine Ev.bind awake17 (ev_pos rfl ?_)
  rw [umod_lit a 7 7 rfl (by omega) (by omega), and_mask x 10 (by omega) 1023 1024 rfl rfl]
  have he := umod_lt a 7 (by omega)
  generalize umod a 7 = k at he
  obtain ⟨d, hd⟩ : ∃ d : Nat, x % 1024 = (d : Int) := ⟨(x % 1024).toNat, by omega⟩
  have hd' : d < 1024 := by omega
  rw [hd, show wrap64 (1 + (d : Int)) = ((d + 1 : Nat) : Int) from by rw [w64 (by omega) (by omega)]; omega]
  have h1 : 1 ≤ d + 1 := by omega
  have h2 : d + 1 ≤ 1024 := by omega
  clear hd hd'
  generalize d + 1 = e at h1 h2
  rw [show wrap64 (192 + (e : Int)) = ((192 + e : Nat) : Int) from by rw [w64 (by omega) (by omega)]; omega, show wrap64 (6 + (e : Int)) = ((6 + e : Nat) : Int) from by rw [w64 (by omega) (by omega)]; omega, show wrap64 (32 + (e : Int)) = ((32 + e : Nat) : Int) from by rw [w64 (by omega) (by omega)]; omega, w64 (x := -(e : Int)) (by omega) (by omega), Int.toNat_natCast, Int.toNat_natCast]
  simp only [Option.bind_some]
  rw [zs_str, zs_str]
  refine ev_pos (by omega) (ev_pos (by omega) (ev_pos (by omega) ?_))
  have c1 : cutA 1 0 (List.replicate (192 + e) 0) = ([], 1700) := by unfold cutA; rw [if_neg (fun h => by have := h.2; rw [List.length_replicate] at this; omega)]
  have c2 : cutA (-(e : Int)) 0 [] = ([], 1700) := by unfold cutA; rw [if_neg (fun h => by have := h.1.1; omega)]
  refine Ev.bind (chunk_Cut_ev 1 0 _) ?_
  rw [c1]
  refine Ev.bind (chunk_Cut_ev (-(e : Int)) 0 []) ?_
  rw [c2]
  rw [bs_size, List.length_replicate]
  refine ev_pos (by omega) (ev_pos (by omega) (ev_pos (by omega) (ev_pos (by omega) ?_)))
  refine ev_pos (by omega) (ev_pos (by simp only [List.length_cons, List.length_nil]; omega) (ev_pos (by simp only [List.length_cons, List.length_nil]; omega) ?_))
  have one : (List.replicate 32 (0 : UInt8)).length = 32 := List.length_replicate
  generalize hO : List.replicate 32 (0 : UInt8) = o at one
  have j2 : joinA 1 0 [o, o] 33 = (bsOf ((o ++ o).take 33), 0) := by
    have ok : JoinOk 1 0 [o, o] 33 := ⟨by unfold ShapeOk; omega, by omega, by omega, by rw [show (33 : Int).toNat = 33 from rfl, show 32 * (1 : Int).toNat = 32 from rfl, many32]; rfl, by intro t ht; simp at ht; rw [ht, one]; rfl⟩
    rw [join_yes ok]; simp
  have key : ∀ {g : ByteArray × Int → Nat → Option Bool}, (∀ t, t = (bsOf [], (1700 : Int)) → Ev (g t) true) → ∀ (l : List (List UInt8)) (n : Int), ¬ (0 ≤ n ∧ l.length = manyC 32 n.toNat ∧ ∀ t ∈ l, t.length = 32) → Ev (fun k => (chunk_Join.f k 1 0 (l.map bsOf) n).bind fun t => g t k) true := by
    intro g hg l n hb
    refine Ev.bind (chunk_Join_ev 1 0 l n) ?_
    exact hg _ (join_bad l n hb)
  have last : ∀ t : ByteArray × Int, t = (bsOf [], (1700 : Int)) → Ev (fun k => (chunk_Join.f k 1 0 [bsOf o, bsOf o] 33).bind fun bt190 => ((ossuarylaw0_Num.f 1700).bind fun t192 => (if t192 = 1700 then ((ossuarylaw0_Num.f 1700).bind fun t193 => (if t193 = 1700 then (if t.1.toList = ([] : List UInt8) then ((ossuarylaw0_Num.f t.2).bind fun t194 => (if t194 = 1700 then (if (bt190.1.size : Int) = 33 then ((ossuarylaw0_Num.f bt190.2).bind fun t195 => (some (t195 == 0))) else (some false)) else (some false))) else (some false)) else (some false))) else (some false)))) true := by
    rintro t rfl
    refine Ev.bind (chunk_Join_ev 1 0 [o, o] 33) ?_
    rw [j2]
    simp only [ossuarylaw0_Num.f, Option.bind_some, if_true, bs_list, bs_size]
    refine ev_pos (by rw [List.length_take, List.length_append, one]; rfl) (Ev.now _)
  have c : k = 0 ∨ k = 1 ∨ k = 2 ∨ k = 3 ∨ k = 4 ∨ k = 5 ∨ k = 6 := by omega
  rcases c with rfl | rfl | rfl | rfl | rfl | rfl | rfl
  · exact key last [] (e : Int) (fun h => by have := h.2.1; rw [Int.toNat_natCast, many32] at this; simp at this; omega)
  · exact key last [o] 0 (fun h => by have := h.2.1; rw [show (0 : Int).toNat = 0 from rfl, many32] at this; simp at this)
  · exact key last [o] ((32 + e : Nat) : Int) (fun h => by have := h.2.1; rw [Int.toNat_natCast, many32] at this; simp at this; omega)
  · exact key last [o, o] 32 (fun h => by have := h.2.1; rw [show (32 : Int).toNat = 32 from rfl, many32] at this; simp at this)
  · have e31 : (bsOf o).extract 0 31 = bsOf (o.take 31) := by rw [bs_extract]; rfl
    have := key last [o.take 31] 5 (fun h => by have := h.2.2 _ (List.mem_singleton.2 rfl); rw [List.length_take, one] at this; omega)
    rw [List.map_cons, ← e31] at this
    exact this
  · have := key last (List.replicate (6 + e) []) 5 (fun h => by have := h.2.1; rw [show (5 : Int).toNat = 5 from rfl, many32, List.length_replicate] at this; omega)
    rw [List.map_replicate] at this
    exact this
  · exact key last [o] (-(e : Int)) (fun h => by have := h.1; omega)

end Go.Proofs.Ytcchccnfhmndnaa.Pure
