/- A frame with one byte that is another one is none, and neither is it one elsewhere: no condition beyond the statement. -/
import Derived.Test.YtgfgehhmnogbpaaHFrameTurnedx4
namespace Go.Proofs.Ytgfgehhmnogbpaa.Pure
open Go.RowKit Go.Proofs.Ytgfgehhmnogbpaa.HFrameTurned Go.Proofs.YtgfgehhmnogbpaaW.PrintWords Go.Proofs.YtgfgehhmnogbpaaW.PrintLast


set_option linter.unusedVariables false
set_option linter.unusedSimpArgs false
theorem wf64 {x : Int} (h : (Lit.int .i64 x).wf = true) : -9223372036854775808 ≤ x ∧ x ≤ 9223372036854775807 := by
  simp only [Lit.wf, Bool.and_eq_true, decide_eq_true_eq] at h
  have e1 : IntKind.i64.min = -9223372036854775808 := by decide
  have e2 : IntKind.i64.max = 9223372036854775807 := by decide
  omega
theorem w64 {x : Int} (h0 : -9223372036854775808 ≤ x) (h1 : x ≤ 9223372036854775807) : wrap64 x = x := by
  unfold wrap64; omega
theorem tm {x : Int} (m : Int) (h0 : 0 ≤ x) : Int.tmod x m = x % m := Int.tmod_eq_emod_of_nonneg h0
theorem data_len (s : ByteArray) : s.data.toList.length = s.size := by rw [Array.length_toList]; rfl
theorem bt_get (s : ByteArray) (n : Nat) (h : n < s.data.toList.length) : bt s (n : Int) = ((s.data.toList[n]'h).toNat : Int) := by
  have h' : n < s.size := by rw [data_len] at h; exact h
  unfold bt
  rw [dif_pos (show (n : Int).toNat < s.size from by simpa using h')]
  simp [ByteArray.getElem_eq_getElem_data]
/-- enough rounds -/
theorem ex_of_ev {α : Type} {g : Nat → Option α} {r : α} (h : Ev g r) : ∃ k, g k = some r := h.rounds
theorem ev_ge {α : Type} {g : Nat → Option α} {r : α} (K : Nat) (h : ∀ k, K ≤ k → g k = some r) : Ev g r := ⟨K, h⟩
theorem ev_const {α : Type} {g : Option α} {r : α} (h : g = some r) : Ev (fun _ => g) r := ⟨0, fun _ _ => h⟩
theorem ev_pos {α : Type} {c : Prop} [Decidable c] {f g : Nat → Option α} {r : α} (h : c) (hf : Ev f r) : Ev (fun k => if c then f k else g k) r := by
  simp only [if_pos h]; exact hf
theorem ev_neg {α : Type} {c : Prop} [Decidable c] {f g : Nat → Option α} {r : α} (h : ¬ c) (hg : Ev g r) : Ev (fun k => if c then f k else g k) r := by
  simp only [if_neg h]; exact hg
theorem ev_succ {α : Type} {g : Nat → Option α} {r : α} (h : Ev (fun k => g (k + 1)) r) : Ev g r := Ev.step (f := fun k => g (k + 1)) (fun _ => rfl) h

/-- the seal of a list of bytes -/
def ofL : List UInt8 → Int
  | [] => 0
  | b :: bs => (ofL bs + (b.toNat : Int) + 1) * 65537 % 2147483647
theorem ofL_range : ∀ l, 0 ≤ ofL l ∧ ofL l < 2147483647
  | [] => by simp [ofL]
  | b :: bs => by unfold ofL; omega
theorem of_step {x b : Int} (h0 : 0 ≤ x) (h1 : x < 2147483647) (b0 : 0 ≤ b) (b1 : b ≤ 255) :
    Int.tmod (wrap64 ((wrap64 ((wrap64 (x + (wrap64 b))) + 1)) * 65537)) 2147483647 = (x + b + 1) * 65537 % 2147483647 := by
  rw [w64 (x := b) (by omega) (by omega), w64 (x := x + b) (by omega) (by omega), w64 (x := x + b + 1) (by omega) (by omega), w64 (x := (x + b + 1) * 65537) (by omega) (by omega)]
  exact tm _ (by omega)
theorem seal_Of_loop (s : ByteArray) (hs : s.size ≤ 140737488351232) : ∀ (n k : Nat), n ≤ s.data.toList.length → n < k →
    seal_Of.l0 k s (ofL (s.data.toList.drop n)) ((n : Int) - 1) = some (ofL s.data.toList) := by
  intro n
  have hl := data_len s
  induction n with
  | zero =>
    intro k _ hk
    obtain ⟨k, rfl⟩ : ∃ m, k = m + 1 := ⟨k - 1, by omega⟩
    simp only [seal_Of.l0]
    rw [if_neg (by omega), List.drop_zero]
  | succ n ih =>
    intro k hn hk
    obtain ⟨k, rfl⟩ : ∃ m, k = m + 1 := ⟨k - 1, by omega⟩
    have hr := ofL_range (s.data.toList.drop (n + 1))
    have hb := bt_range s (n : Int)
    rw [show (((n + 1 : Nat) : Int) - 1) = (n : Int) from by omega]
    simp only [seal_Of.l0]
    rw [if_pos (by omega), if_pos (by omega), if_pos (by omega), of_step hr.1 hr.2 hb.1 hb.2, w64 (x := (n : Int) - 1) (by omega) (by omega), bt_get s n (by omega)]
    have := ih k (by omega) (by omega)
    rw [List.drop_eq_getElem_cons (by omega)] at this
    exact this
theorem seal_Of_at (s : ByteArray) (hs : s.size ≤ 140737488351232) (k : Nat) (hk : s.size < k) : seal_Of.f k s = some (ofL s.data.toList) := by
  have hl := data_len s
  have := seal_Of_loop s hs s.data.toList.length k (by omega) (by omega)
  rw [List.drop_length] at this
  unfold seal_Of.f
  rw [w64 (by omega) (by omega), ← hl]
  exact this
theorem seal_Of_ev (s : ByteArray) (hs : s.size ≤ 140737488351232) : Ev (fun k => seal_Of.f k s) (ofL s.data.toList) :=
  ev_ge (s.size + 1) (fun k hk => seal_Of_at s hs k (by omega))

theorem rd_nat (l : List Int) (i : Nat) (h : i < l.length) : rd l (i : Int) = l[i] := by
  simp [rd, List.getD_eq_getElem?_getD, List.getElem?_eq_getElem h]
/-- all are seals -/
def Seals01 (l : List Int) : Prop := ∀ x, x ∈ l → 0 ≤ x ∧ x < 2147483647
theorem Seals01.take {l : List Int} (h : Seals01 l) (n : Nat) : Seals01 (l.take n) := fun x hx => h x (List.mem_of_mem_take hx)
theorem Seals01.drop {l : List Int} (h : Seals01 l) (n : Nat) : Seals01 (l.drop n) := fun x hx => h x (List.mem_of_mem_drop hx)
theorem seal_Is_eq (x : Int) : seal_Is.f x = some (decide (0 ≤ x ∧ x < 2147483647)) := by
  unfold seal_Is.f
  by_cases h : x ≥ 0
  · rw [if_pos h]; congr 1; rw [decide_eq_decide]; omega
  · rw [if_neg h]; congr 1; symm; rw [decide_eq_false_iff_not]; omega
/-- all are seals, as a Bool -/
def allB (l : List Int) : Bool := l.all fun x => decide (0 ≤ x ∧ x < 2147483647)
theorem allB_iff (l : List Int) : allB l = true ↔ Seals01 l := by
  unfold allB Seals01; simp [List.all_eq_true]
theorem seal_All_loop (l : List Int) (hl : l.length ≤ 17592186044416) : ∀ (d i : Nat), i + d = l.length → Ev (fun k => seal_All.l0 k l (l.length : Int) (i : Int)) (allB (l.drop i)) := by
  intro d
  induction d with
  | zero =>
    intro i hi
    refine Ev.step (f := fun _ => some true) (fun k => ?_) ?_
    · simp only [seal_All.l0]; rw [if_neg (by omega)]
    · rw [List.drop_of_length_le (by omega)]; exact Ev.now true
  | succ d ih =>
    intro i hi
    have hlt : i < l.length := by omega
    refine Ev.step (f := fun k => if decide (0 ≤ l[i] ∧ l[i] < 2147483647) = true then seal_All.l0 k l (l.length : Int) ((i + 1 : Nat) : Int) else some false) (fun k => ?_) ?_
    · simp only [seal_All.l0]
      rw [if_pos (by omega), if_pos (by omega), if_pos (by omega), rd_nat l i hlt, seal_Is_eq, w64 (by omega) (by omega)]
      rfl
    · rw [List.drop_eq_getElem_cons hlt]
      by_cases g : 0 ≤ l[i] ∧ l[i] < 2147483647
      · simp only [g, and_self, decide_true, if_true, allB, List.all_cons, Bool.true_and]
        exact ih (i + 1) (by omega)
      · simp only [decide_eq_false g, allB, List.all_cons, Bool.false_and]
        exact Ev.now false
theorem seal_All_ev (l : List Int) (hl : l.length ≤ 17592186044416) : Ev (fun k => seal_All.f k l) (allB l) := by
  have := seal_All_loop l hl l.length 0 (by omega)
  rw [List.drop_zero] at this
  exact this

theorem extr (s : ByteArray) (a b : Nat) : (s.extract a b).data.toList = (s.data.toList.drop a).take (b - a) := by
  rw [ByteArray.data_extract, Array.toList_extract, List.extract_eq_take_drop]
theorem extr_size (s : ByteArray) (a b : Nat) (h : b ≤ s.size) : (s.extract a b).size = b - a := by
  rw [ByteArray.size_extract]; omega
theorem mn_eq (a b : Int) : mn a b = min a b := by unfold mn; omega

theorem rd_range {p : List Int} (h : Seals01 p) (i : Nat) : 0 ≤ rd p (i : Int) ∧ rd p (i : Int) < 2147483647 := by
  by_cases g : i < p.length
  · rw [rd_nat p i g]; exact h _ (List.getElem_mem g)
  · have : rd p (i : Int) = 0 := by simp [rd, List.getD_eq_getElem?_getD, List.getElem?_eq_none (show p.length ≤ i by omega)]
    rw [this]; omega

theorem u64w (x : Int) : IntKind.u64.wrap x = x % 18446744073709551616 := by simp [IntKind.wrap, IntKind.bits, IntKind.signed]
theorem i64w (x : Int) : IntKind.i64.wrap x = (x + 9223372036854775808) % 18446744073709551616 - 9223372036854775808 := by
  simp [IntKind.wrap, IntKind.bits, IntKind.signed]
  split <;> omega
/-- x & (2^i - 1), whatever x -/
theorem and_mask (x : Int) (i : Nat) (hi : i ≤ 62) (m p : Int) (hm : m = ((2 ^ i - 1 : Nat) : Int)) (hp : p = ((2 ^ i : Nat) : Int)) : Go.bits .and .i64 x m = x % p := by
  subst hm hp
  have h2 : 2 ^ i ≤ 2 ^ 62 := Nat.pow_le_pow_right (by decide) hi
  have hpos : 0 < 2 ^ i := Nat.two_pow_pos i
  have e1 : (2 ^ i - 1) % 2 ^ 64 = 2 ^ i - 1 := Nat.mod_eq_of_lt (by omega)
  have hd : 2 ^ i ∣ 2 ^ 64 := Nat.pow_dvd_pow 2 (by omega)
  have e0 : Go.bits .and .i64 x ((2 ^ i - 1 : Nat) : Int) = IntKind.i64.wrap (((BitVec.ofInt 64 x &&& BitVec.ofInt 64 ((2 ^ i - 1 : Nat) : Int)).toNat : Nat) : Int) := rfl
  rw [e0, BitVec.ofInt_natCast, BitVec.toNat_and, BitVec.toNat_ofNat]
  rw [e1, Nat.and_two_pow_sub_one_eq_mod]
  have e2 : (BitVec.ofInt 64 x).toNat = (x % 18446744073709551616).toNat := by
    rw [BitVec.toNat_ofInt]; rfl
  rw [e2]
  have e3 : (((x % 18446744073709551616).toNat % 2 ^ i : Nat) : Int) = x % ((2 ^ i : Nat) : Int) := by
    rw [Int.natCast_emod, Int.toNat_of_nonneg (by omega)]
    have hd' : ((2 ^ i : Nat) : Int) ∣ (18446744073709551616 : Int) := Int.natCast_dvd_natCast (n := 18446744073709551616).mpr hd
    exact Int.emod_emod_of_dvd x hd'
  rw [e3]
  have h3 : 0 ≤ x % ((2 ^ i : Nat) : Int) := Int.emod_nonneg x (by omega)
  have h4 : x % ((2 ^ i : Nat) : Int) < ((2 ^ i : Nat) : Int) := Int.emod_lt_of_pos x (by omega)
  generalize x % ((2 ^ i : Nat) : Int) = y at *
  rw [i64w]; omega
/-- uint(a) % uint(n), as a place -/
def umod (a : Int) (n : Nat) : Nat := ((a % 18446744073709551616) % (n : Int)).toNat
theorem umod_lt (a : Int) (n : Nat) (h : 1 ≤ n) : umod a n < n := by
  unfold umod
  have h1 : 0 ≤ (a % 18446744073709551616) % (n : Int) := Int.emod_nonneg _ (by omega)
  have h2 : (a % 18446744073709551616) % (n : Int) < (n : Int) := Int.emod_lt_of_pos _ (by omega)
  omega
theorem umod_eq (a : Int) (n : Nat) (h : 1 ≤ n) (h' : n ≤ 4611686018427387904) : wrap64 (Int.tmod (IntKind.u64.wrap a) (IntKind.u64.wrap (n : Int))) = (umod a n : Int) := by
  have e : (n : Int) % 18446744073709551616 = (n : Int) := by omega
  rw [u64w, u64w, e, tm (x := a % 18446744073709551616) _ (by omega)]
  unfold umod
  have h1 : 0 ≤ (a % 18446744073709551616) % (n : Int) := Int.emod_nonneg _ (by omega)
  have h2 : (a % 18446744073709551616) % (n : Int) < (n : Int) := Int.emod_lt_of_pos _ (by omega)
  rw [w64 (by omega) (by omega)]; omega
theorem umod_lit (a : Int) (n : Nat) (m : Int) (hm : m = (n : Int)) (h : 1 ≤ n) (h' : n ≤ 4611686018427387904) : wrap64 (Int.tmod (IntKind.u64.wrap a) m) = (umod a n : Int) := by
  subst hm
  have := umod_eq a n h h'
  rwa [show IntKind.u64.wrap (n : Int) = (n : Int) from by rw [u64w]; omega] at this
/-- int(uint32(x) >> 2) -/
def quart (x : Int) : Int := x % 4294967296 / 4
theorem quart_range (x : Int) : 0 ≤ quart x ∧ quart x < 1073741824 := by unfold quart; omega

/-- a text of these bytes -/
def bsOf (l : List UInt8) : ByteArray := ⟨l.toArray⟩
theorem bs_list (l : List UInt8) : (bsOf l).toList = l := by unfold bsOf; simp
theorem bs_data (l : List UInt8) : (bsOf l).data.toList = l := by simp [bsOf]
theorem bs_size (l : List UInt8) : (bsOf l).size = l.length := by rw [← data_len, bs_data]
theorem bs_of (s : ByteArray) : bsOf s.data.toList = s := by simp [bsOf]
theorem bs_eta (s : ByteArray) : ∃ l, s = bsOf l ∧ l.length = s.size := ⟨s.data.toList, (bs_of s).symm, data_len s⟩
theorem ba_ext {a b : ByteArray} (h : a.data.toList = b.data.toList) : a = b := by rw [← bs_of a, ← bs_of b, h]
theorem bs_append (a b : List UInt8) : bsOf a ++ bsOf b = bsOf (a ++ b) := by
  apply ba_ext; simp [bs_data]
theorem bs_inj {a b : List UInt8} (h : bsOf a = bsOf b) : a = b := by rw [← bs_data a, ← bs_data b, h]
theorem bs_extract (l : List UInt8) (a b : Nat) : (bsOf l).extract a b = bsOf ((l.drop a).take (b - a)) := by
  apply ba_ext
  rw [bs_data, ByteArray.data_extract, Array.toList_extract, List.extract_eq_take_drop, bs_data]
theorem bs_bt (l : List UInt8) (i : Nat) (h : i < l.length) : bt (bsOf l) (i : Int) = (l[i].toNat : Int) := by
  have := bt_get (bsOf l) i (by rw [bs_data]; exact h)
  rw [this]; congr 2
theorem u8_range (b : UInt8) : 0 ≤ (b.toNat : Int) ∧ (b.toNat : Int) ≤ 255 := by
  have := b.toNat_lt; omega
/-- a byte of a number -/
def byteOf (x : Int) : UInt8 := UInt8.ofNat (x % 256).toNat
theorem byteOf_val (x : Int) : ((byteOf x).toNat : Int) = x % 256 := by
  unfold byteOf
  rw [UInt8.toNat_ofNat']
  omega
theorem byteOf_toNat (b : UInt8) : byteOf (b.toNat : Int) = b := by
  apply UInt8.toNat_inj.mp
  have h1 := byteOf_val (b.toNat : Int)
  have h2 := u8_range b
  omega
theorem str_nums (xs : List Int) (h : ∀ x, x ∈ xs → 0 ≤ x ∧ x < 256) : strOfNums xs = bsOf (xs.map byteOf) := by
  unfold strOfNums bsOf
  congr 2
  apply List.map_congr_left
  intro x hx
  have := h x hx
  unfold byteOf
  rw [Int.emod_eq_of_lt this.1 this.2]

/-- a number in so many bytes, the lowest one first -/
def lowL (x : Int) : Nat → List UInt8
  | 0 => []
  | n + 1 => byteOf x :: lowL (x / 256) n
theorem lowL_length : ∀ (n : Nat) (x : Int), (lowL x n).length = n
  | 0, _ => rfl
  | n + 1, x => by rw [lowL, List.length_cons, lowL_length n]
/-- the list that Low fills -/
def lowI (x : Int) : Nat → List Int
  | 0 => []
  | n + 1 => x % 256 :: lowI (x / 256) n
theorem lowI_length : ∀ (n : Nat) (x : Int), (lowI x n).length = n
  | 0, _ => rfl
  | n + 1, x => by rw [lowI, List.length_cons, lowI_length n]
theorem lowI_bytes : ∀ (n : Nat) (x : Int), (lowI x n).map byteOf = lowL x n
  | 0, _ => rfl
  | n + 1, x => by
    rw [lowI, lowL, List.map_cons, lowI_bytes n]
    congr 1
    unfold byteOf
    rw [Int.emod_emod_of_dvd _ (Int.dvd_refl 256)]
theorem lowI_range : ∀ (n : Nat) (x y : Int), y ∈ lowI x n → 0 ≤ y ∧ y < 256
  | 0, _, y, h => by simp [lowI] at h
  | n + 1, x, y, h => by
    rw [lowI, List.mem_cons] at h
    rcases h with rfl | h
    · omega
    · exact lowI_range n _ y h
theorem low_loop (N : Nat) (hN : N ≤ 1000) : ∀ (d i : Nat) (x : Int) (pre : List Int), pre.length = i → i + d = N → Ev (fun k => frame_Low.l0 k x (pre ++ List.replicate d 0) (N : Int) (i : Int)) (strOfNums (pre ++ lowI x d)) := by
  intro d
  induction d with
  | zero =>
    intro i x pre hp hi
    refine ev_succ ?_
    simp only [frame_Low.l0]
    refine ev_neg (by omega) ?_
    simp only [List.replicate_zero, lowI]
    exact Ev.now _
  | succ d ih =>
    intro i x pre hp hi
    refine ev_succ ?_
    simp only [frame_Low.l0]
    refine ev_pos (by omega) (ev_pos (by omega) (ev_pos (by rw [List.length_append, List.length_replicate]; omega) ?_))
    rw [w64 (by omega) (by omega), Int.toNat_natCast]
    have e : (pre ++ List.replicate (d + 1) 0).set i (x % 256) = (pre ++ [x % 256]) ++ List.replicate d 0 := by
      rw [List.set_append_right _ _ (by omega), hp, Nat.sub_self, List.replicate_succ, List.set_cons_zero, List.append_assoc, List.singleton_append]
    have e2 : pre ++ lowI x (d + 1) = (pre ++ [x % 256]) ++ lowI (x / 256) d := by
      rw [lowI, List.append_assoc, List.singleton_append]
    rw [e, e2]
    exact ih (i + 1) (x / 256) (pre ++ [x % 256]) (by rw [List.length_append, hp]; rfl) (by omega)
theorem frame_Low_ev (x : Int) (n : Nat) (hn : n ≤ 1000) : Ev (fun k => frame_Low.f k x (n : Int)) (bsOf (lowL x n)) := by
  unfold frame_Low.f
  refine ev_pos (by omega) ?_
  rw [Int.toNat_natCast]
  refine ev_pos (by omega) ?_
  simp only [Option.bind_some, List.length_replicate]
  have := low_loop n hn n 0 x [] rfl (by omega)
  rw [List.nil_append, List.nil_append, str_nums _ (lowI_range n x), lowI_bytes] at this
  exact this
/-- the number of some bytes, the lowest one first -/
def numL : List UInt8 → Int
  | [] => 0
  | b :: bs => numL bs * 256 + (b.toNat : Int)
theorem numL_range : ∀ (l : List UInt8), 0 ≤ numL l ∧ numL l < 256 ^ l.length
  | [] => by simp [numL]
  | b :: bs => by
    have h1 := numL_range bs
    have h2 := u8_range b
    rw [numL, List.length_cons, Int.pow_succ]
    omega
theorem numL_low : ∀ (n : Nat) (x : Int), 0 ≤ x → x < 256 ^ n → numL (lowL x n) = x
  | 0, x, h0, h1 => by simp at h1; simp [lowL, numL]; omega
  | n + 1, x, h0, h1 => by
    rw [Int.pow_succ] at h1
    rw [lowL, numL, numL_low n (x / 256) (by omega) (by omega), byteOf_val]; omega
theorem low_num : ∀ (l : List UInt8), lowL (numL l) l.length = l
  | [] => rfl
  | b :: bs => by
    have h2 := u8_range b
    have e : (numL bs * 256 + (b.toNat : Int)) / 256 = numL bs := by omega
    rw [numL, List.length_cons, lowL, e, low_num bs]
    congr 1
    unfold byteOf
    rw [show (numL bs * 256 + (b.toNat : Int)) % 256 = (b.toNat : Int) % 256 from by omega]
    exact byteOf_toNat b
theorem or_byte (x b : Int) (x0 : 0 ≤ x) (x1 : x < 72057594037927936) (b0 : 0 ≤ b) (b1 : b ≤ 255) : Go.bits .or .i64 (wrap64 (x * 256)) (wrap64 b) = x * 256 + b ∨ 36028797018963968 ≤ x := by
  by_cases h : 36028797018963968 ≤ x
  · exact Or.inr h
  · left
    rw [w64 (x := x * 256) (by omega) (by omega), w64 (x := b) (by omega) (by omega)]
    have hk : ∀ n : Int, 0 ≤ n → n < 2 ^ 63 → IntKind.i64.wrap n = n := by
      intro n h0 h1; rw [i64w]; omega
    exact Go.bits_join .i64 63 (by decide) hk 8 (x * 256) b (by omega) (by omega) (by omega) b0 (by omega) (by omega)
theorem pow256 (m : Nat) (h : m ≤ 6) : (256 : Int) ^ m ≤ 256 ^ 6 := by
  have c : m = 0 ∨ m = 1 ∨ m = 2 ∨ m = 3 ∨ m = 4 ∨ m = 5 ∨ m = 6 := by omega
  rcases c with e | e | e | e | e | e | e <;> subst e <;> decide
theorem num_loop (l : List UInt8) (hl : l.length ≤ 6) : ∀ (n : Nat), n ≤ l.length → Ev (fun k => frame_Number.l0 k (bsOf l) (numL (l.drop n)) ((n : Int) - 1)) (numL l) := by
  intro n
  induction n with
  | zero =>
    intro _
    refine ev_succ ?_
    simp only [frame_Number.l0]
    rw [List.drop_zero]
    exact ev_neg (by omega) (Ev.now _)
  | succ n ih =>
    intro hn
    have hlt : n < l.length := by omega
    have hr := numL_range (l.drop (n + 1))
    have hp : (256 : Int) ^ (l.drop (n + 1)).length ≤ 256 ^ 6 := pow256 _ (by rw [List.length_drop]; omega)
    have hb := u8_range l[n]
    refine ev_succ ?_
    simp only [frame_Number.l0]
    rw [show (((n + 1 : Nat) : Int) - 1) = (n : Int) from by omega]
    refine ev_pos (by omega) (ev_pos (by omega) (ev_pos (by rw [bs_size]; omega) ?_))
    rw [bs_bt l n hlt, w64 (x := (n : Int) - 1) (by omega) (by omega)]
    have h := or_byte (numL (l.drop (n + 1))) (l[n].toNat : Int) hr.1 (by omega) hb.1 hb.2
    rw [h.resolve_right (by omega)]
    have := ih (by omega)
    rw [List.drop_eq_getElem_cons hlt, numL] at this
    exact this
theorem frame_Number_ev (l : List UInt8) (hl : l.length ≤ 6) : Ev (fun k => frame_Number.f k (bsOf l)) (numL l) := by
  unfold frame_Number.f
  rw [bs_size, w64 (by omega) (by omega)]
  have := num_loop l hl l.length (by omega)
  rw [List.drop_length] at this
  exact this

theorem rep_zero : ∀ n, Lib.repeatL [0] n = List.replicate n 0
  | 0 => rfl
  | n + 1 => by rw [Lib.repeatL, rep_zero n]; rfl
theorem blank_eq : disk_Blank.f = some (bsOf (List.replicate 64 0)) := by
  unfold disk_Blank.f strings_Repeat.f
  rw [if_pos (by refine ⟨by omega, by omega, ?_⟩; decide)]
  simp only [Option.bind_some]
  rw [show (64 : Int).toNat = 64 from rfl, rep_zero]
  rfl
theorem seal_Of_bs (l : List UInt8) (h : l.length ≤ 140737488351232) : Ev (fun k => seal_Of.f k (bsOf l)) (ofL l) := by
  have := seal_Of_ev (bsOf l) (by rw [bs_size]; exact h)
  rwa [bs_data] at this
/-- a text with its seal behind -/
def sealedL (l : List UInt8) : List UInt8 := l ++ lowL (ofL l) 4
theorem sealedL_length (l : List UInt8) : (sealedL l).length = l.length + 4 := by
  unfold sealedL; rw [List.length_append, lowL_length]
theorem frame_Sealed_ev (l : List UInt8) (h : l.length ≤ 4611686018427387904) (h' : l.length ≤ 140737488351232) : Ev (fun k => frame_Sealed.f k (bsOf l)) (bsOf (sealedL l)) := by
  unfold frame_Sealed.f
  refine Ev.bind (seal_Of_bs l h') (Ev.bind (frame_Low_ev (ofL l) 4 (by omega)) ?_)
  refine ev_pos (by rw [bs_size, bs_size, lowL_length]; omega) ?_
  rw [bs_append]; exact Ev.now _

/-- a path's number, or 0 -/
def pathAt (p : List Int) (i : Nat) : Int := p.getD i 0
/-- a frame's bytes ahead of its seal -/
def bodyF (slot shard : Int) (s : List UInt8) (p : List Int) : List UInt8 :=
  [79] ++ lowL slot 1 ++ lowL shard 1 ++ lowL (p.length : Int) 1 ++ s ++ lowL (pathAt p 0) 4 ++ lowL (pathAt p 1) 4 ++ lowL (pathAt p 2) 4
/-- a frame -/
def frameF (slot shard : Int) (s : List UInt8) (p : List Int) : List UInt8 := sealedL (bodyF slot shard s p) ++ List.replicate 12 0
/-- may there be such a frame? -/
def PutOk (slot shard : Int) (s : List UInt8) (p : List Int) : Prop := 0 ≤ slot ∧ slot < 24 ∧ 0 ≤ shard ∧ shard < 6 ∧ s.length = 32 ∧ p.length ≤ 3 ∧ Seals01 p
instance (slot shard : Int) (s : List UInt8) (p : List Int) : Decidable (PutOk slot shard s p) := by
  unfold PutOk; have : Decidable (Seals01 p) := decidable_of_iff (allB p = true) (allB_iff p); infer_instance
/-- Put's answer -/
def putA (slot shard : Int) (s : List UInt8) (p : List Int) : ByteArray × Int := if PutOk slot shard s p then (bsOf (frameF slot shard s p), 0) else (bsOf [], 1400)
theorem bodyF_length (slot shard : Int) (s : List UInt8) (p : List Int) : (bodyF slot shard s p).length = 16 + s.length := by
  unfold bodyF
  simp only [List.length_append, lowL_length, List.length_cons, List.length_nil]
  omega
theorem frameF_length (slot shard : Int) (s : List UInt8) (p : List Int) : (frameF slot shard s p).length = 32 + s.length := by
  unfold frameF
  rw [List.length_append, sealedL_length, bodyF_length, List.length_replicate]; omega
theorem rd_pathAt (p : List Int) (i : Nat) : rd p (i : Int) = pathAt p i := by simp [rd, pathAt]
theorem audit_Shares_ev (p : List Int) (hp : p.length ≤ 17592186044416) : Ev (fun k => audit_Shares.f k p) (decide (p.length ≤ 3) && allB p) := by
  unfold audit_Shares.f
  by_cases h : (p.length : Int) ≤ 3
  · rw [decide_eq_true (by omega), Bool.true_and]
    exact ev_pos h (Ev.bind (seal_All_ev p hp) (Ev.now _))
  · rw [decide_eq_false (by omega), Bool.false_and]
    exact ev_neg h (Ev.now _)
theorem frame_May_eq (slot shard : Int) : frame_May.f slot shard = some (decide (0 ≤ slot ∧ slot < 24 ∧ 0 ≤ shard ∧ shard < 6)) := by
  unfold frame_May.f
  by_cases h1 : slot ≥ 0
  · rw [if_pos h1]
    by_cases h2 : slot < 24
    · rw [if_pos h2]
      by_cases h3 : shard ≥ 0
      · rw [if_pos h3]; congr 1; rw [decide_eq_decide]; omega
      · rw [if_neg h3]; congr 1; symm; rw [decide_eq_false_iff_not]; omega
    · rw [if_neg h2]; congr 1; symm; rw [decide_eq_false_iff_not]; omega
  · rw [if_neg h1]; congr 1; symm; rw [decide_eq_false_iff_not]; omega
theorem low_at (p : List Int) (i : Nat) (hi : i < 3) (x : List UInt8) (hx : x.length ≤ 1000) {g : Nat → Option (ByteArray × Int)} {r : ByteArray × Int}
    (h : Ev g r) (hg : ∀ k, g k = frame_Put.l0 k p (bsOf (x ++ lowL (pathAt p i) 4)) ((i + 1 : Nat) : Int)) : Ev (fun k => frame_Put.l0 k p (bsOf x) (i : Int)) r := by
  refine ev_succ ?_
  simp only [frame_Put.l0]
  have hn : wrap64 ((i : Int) + 1) = ((i + 1 : Nat) : Int) := by rw [w64 (by omega) (by omega)]; omega
  rw [hn]
  refine ev_pos (by omega) ?_
  by_cases c : (i : Int) < (p.length : Int)
  · refine ev_pos c (ev_pos (by omega) ?_)
    rw [rd_pathAt]
    refine Ev.bind (frame_Low_ev (pathAt p i) 4 (by omega)) (ev_pos (by rw [bs_size, bs_size, lowL_length]; omega) ?_)
    rw [bs_append]
    exact Ev.congr (fun k => (hg k).symm) h
  · refine ev_neg c ?_
    have e : pathAt p i = 0 := by
      unfold pathAt
      rw [List.getD_eq_getElem?_getD, List.getElem?_eq_none (by omega)]; rfl
    rw [e] at hg
    refine Ev.bind (frame_Low_ev 0 4 (by omega)) (ev_pos (by rw [bs_size, bs_size, lowL_length]; omega) ?_)
    rw [bs_append]
    exact Ev.congr (fun k => (hg k).symm) h
theorem frame_Put_ev (slot shard : Int) (s : List UInt8) (p : List Int) (hp : p.length ≤ 17592186044416) : Ev (fun k => frame_Put.f k slot shard (bsOf s) p) (putA slot shard s p) := by
  have no : Ev (fun k => frame_Put.j0 k slot shard (bsOf s) p true) (bsOf [], 1400) := by
    refine ev_succ ?_
    simp only [frame_Put.j0]
    exact ev_pos trivial (Ev.now _)
  unfold frame_Put.f putA
  simp only [frame_May_eq, Option.bind_some]
  by_cases h1 : 0 ≤ slot ∧ slot < 24 ∧ 0 ≤ shard ∧ shard < 6
  · refine ev_pos (decide_eq_true h1) ?_
    rw [bs_size]
    by_cases h2 : (s.length : Int) = 32
    · refine ev_pos h2 (Ev.bind (audit_Shares_ev p hp) ?_)
      by_cases h3 : p.length ≤ 3 ∧ allB p = true
      · rw [if_pos (by unfold PutOk; exact ⟨h1.1, h1.2.1, h1.2.2.1, h1.2.2.2, by omega, h3.1, (allB_iff p).mp h3.2⟩), decide_eq_true h3.1, h3.2]
        refine ev_succ ?_
        simp only [frame_Put.j0]
        refine ev_neg (by simp) ?_
        rw [show (⟨#[79]⟩ : ByteArray) = bsOf [79] from rfl]
        refine Ev.bind (frame_Low_ev slot 1 (by omega)) (ev_pos (by rw [bs_size, lowL_length]; omega) ?_)
        rw [bs_append]
        refine Ev.bind (frame_Low_ev shard 1 (by omega)) (ev_pos (by rw [bs_size, bs_size, List.length_append, lowL_length, lowL_length]; simp) ?_)
        rw [bs_append]
        refine Ev.bind (frame_Low_ev (p.length : Int) 1 (by omega)) (ev_pos (by rw [bs_size, bs_size, List.length_append, List.length_append, lowL_length, lowL_length, lowL_length]; simp) ?_)
        rw [bs_append]
        refine ev_pos (by rw [bs_size, bs_size]; simp only [List.length_append, lowL_length, List.length_cons, List.length_nil]; omega) ?_
        rw [bs_append]
        have fin : Ev (fun k => frame_Put.l0 k p (bsOf (bodyF slot shard s p)) ((3 : Nat) : Int)) (bsOf (frameF slot shard s p), 0) := by
          refine ev_succ ?_
          simp only [frame_Put.l0]
          refine ev_neg (by omega) ?_
          refine Ev.bind (frame_Sealed_ev _ (by rw [bodyF_length]; omega) (by rw [bodyF_length]; omega)) ?_
          simp only [blank_eq, Option.bind_some]
          have hsz : (sealedL (bodyF slot shard s p)).length = 52 := by rw [sealedL_length, bodyF_length]; omega
          rw [bs_size, bs_size, hsz, List.length_replicate, Int.toNat_natCast, bs_extract]
          have e12 : ((List.replicate 64 (0 : UInt8)).drop 52).take (64 - 52) = List.replicate 12 0 := by simp
          rw [e12]
          refine ev_pos (by omega) (ev_pos (by omega) (ev_pos (by rw [bs_size, List.length_replicate]; omega) ?_))
          rw [bs_append]
          exact Ev.now _
        refine low_at p 0 (by omega) _ (by simp only [List.length_append, lowL_length, List.length_cons, List.length_nil]; omega) (g := fun k => _) ?_ (fun k => rfl)
        refine low_at p 1 (by omega) _ (by simp only [List.length_append, lowL_length, List.length_cons, List.length_nil]; omega) (g := fun k => _) ?_ (fun k => rfl)
        refine low_at p 2 (by omega) _ (by simp only [List.length_append, lowL_length, List.length_cons, List.length_nil]; omega) (g := fun k => _) ?_ (fun k => rfl)
        exact fin
      · have e : (decide (p.length ≤ 3) && allB p) = false := by
          rw [Bool.eq_false_iff]; intro h; rw [Bool.and_eq_true, decide_eq_true_eq] at h; exact h3 h
        rw [if_neg (by unfold PutOk; intro h; exact h3 ⟨h.2.2.2.2.2.1, (allB_iff p).mpr h.2.2.2.2.2.2⟩), e]
        exact no
    · rw [if_neg (by unfold PutOk; omega)]
      exact ev_neg h2 no
  · rw [if_neg (by unfold PutOk; omega)]
    exact ev_neg (by simpa using h1) no
/-- a sector's shard -/
def shardOf (t : List UInt8) : List UInt8 := (t.drop 4).take 32
/-- a sector's path -/
def pathOf (t : List UInt8) : Nat → Nat → List Int
  | 0, _ => []
  | n + 1, i => numL ((t.drop (36 + 4 * i)).take 4) :: pathOf t n (i + 1)
theorem pathOf_length (t : List UInt8) : ∀ (n i : Nat), (pathOf t n i).length = n
  | 0, _ => rfl
  | n + 1, i => by rw [pathOf, List.length_cons, pathOf_length t n]
/-- how long a sector's path is -/
def lenOf (t : List UInt8) : Nat := (t.getD 3 0).toNat
/-- Get's answer -/
def getA (t : List UInt8) (slot shard : Int) : ByteArray × List Int × Int :=
  if t.length = 64 ∧ lenOf t ≤ 3 ∧ PutOk slot shard (shardOf t) (pathOf t (lenOf t) 0) ∧ frameF slot shard (shardOf t) (pathOf t (lenOf t) 0) = t then (bsOf (shardOf t), pathOf t (lenOf t) 0, 0) else (bsOf [], [], 1400)
theorem get_no {t : List UInt8} {slot shard : Int} (h : ¬ (t.length = 64 ∧ lenOf t ≤ 3 ∧ PutOk slot shard (shardOf t) (pathOf t (lenOf t) 0) ∧ frameF slot shard (shardOf t) (pathOf t (lenOf t) 0) = t)) : getA t slot shard = (bsOf [], [], 1400) := by unfold getA; rw [if_neg h]
theorem get_yes {t : List UInt8} {slot shard : Int} (h : t.length = 64 ∧ lenOf t ≤ 3 ∧ PutOk slot shard (shardOf t) (pathOf t (lenOf t) 0) ∧ frameF slot shard (shardOf t) (pathOf t (lenOf t) 0) = t) : getA t slot shard = (bsOf (shardOf t), pathOf t (lenOf t) 0, 0) := by unfold getA; rw [if_pos h]
theorem get_loop (t : List UInt8) (slot shard : Int) (ht : t.length = 64) (n : Nat) (hn : n ≤ 3) {r : ByteArray × List Int × Int}
    (h : Ev (fun k => (frame_Put.f k slot shard (bsOf (shardOf t)) (pathOf t n 0)).bind fun bt128 => (if bt128.2 = 0 then (if bt128.1.toList = (bsOf t).toList then (some (bsOf (shardOf t), pathOf t n 0, 0)) else (some ((⟨#[]⟩ : ByteArray), ([] : List Int), 1400))) else (some ((⟨#[]⟩ : ByteArray), ([] : List Int), 1400)))) r) :
    ∀ (d i : Nat) (pre : List Int), i + d = n → pre ++ pathOf t d i = pathOf t n 0 → pre.length ≤ 3 →
    Ev (fun k => frame_Get.l0 k (bsOf t) slot shard (bsOf (shardOf t)) (bsOf (t.drop (36 + 4 * i))) pre (n : Int) (i : Int)) r := by
  intro d
  induction d with
  | zero =>
    intro i pre hi hp _
    refine ev_succ ?_
    simp only [frame_Get.l0]
    refine ev_neg (by omega) ?_
    rw [pathOf, List.append_nil] at hp
    rw [hp]
    exact h
  | succ d ih =>
    intro i pre hi hp hl
    refine ev_succ ?_
    simp only [frame_Get.l0]
    refine ev_pos (by omega) (ev_pos (by omega) (ev_pos (by rw [bs_size, List.length_drop]; omega) ?_))
    rw [bs_extract, bs_extract, bs_size, w64 (by omega) (by omega), List.drop_zero]
    refine Ev.bind (frame_Number_ev _ (by rw [List.length_take]; omega)) (ev_pos (by omega) ?_)
    rw [List.take_of_length_le (by simp only [List.length_drop]; omega), List.drop_drop, show 36 + 4 * i + 4 = 36 + 4 * (i + 1) from by omega]
    refine ih (i + 1) _ (by omega) ?_ (by rw [List.length_append]; simp only [List.length_cons, List.length_nil]; have := congrArg List.length hp; rw [List.length_append, pathOf_length, pathOf_length] at this; omega)
    rw [← hp, pathOf, List.append_assoc, List.singleton_append]
theorem frame_Get_ev (t : List UInt8) (slot shard : Int) (ht : t.length ≤ 140737488351232) : Ev (fun k => frame_Get.f k (bsOf t) slot shard) (getA t slot shard) := by
  have no : Ev (fun k => frame_Get.j0 k (bsOf t) slot shard true) (bsOf [], [], 1400) := by
    refine ev_succ ?_
    simp only [frame_Get.j0]
    exact ev_pos trivial (Ev.now _)
  unfold frame_Get.f
  rw [bs_size]
  by_cases h1 : (t.length : Int) = 64
  · refine ev_pos h1 (ev_pos (by omega) ?_)
    have h3 : bt (bsOf t) 3 = (lenOf t : Int) := by
      have := bs_bt t 3 (by omega)
      rw [show ((3 : Nat) : Int) = 3 from rfl] at this
      rw [this]; unfold lenOf
      rw [List.getD_eq_getElem?_getD, List.getElem?_eq_getElem (by omega)]; rfl
    have hb : (lenOf t : Int) ≤ 255 := by have := u8_range (t.getD 3 0); unfold lenOf; omega
    rw [h3, w64 (by omega) (by omega)]
    by_cases h2 : lenOf t ≤ 3
    · rw [decide_eq_false (by omega)]
      refine ev_succ ?_
      simp only [frame_Get.j0]
      rw [bs_size, h3, w64 (by omega) (by omega), bs_extract, bs_extract]
      refine ev_neg (by simp) (ev_pos (by omega) (ev_pos (by omega) (ev_pos (by omega) ?_)))
      rw [List.take_of_length_le (l := t.drop 36) (by rw [List.length_drop]; omega)]
      refine get_loop t slot shard (by omega) (lenOf t) h2 ?_ (lenOf t) 0 [] (by omega) rfl (by simp)
      refine Ev.bind (frame_Put_ev slot shard (shardOf t) (pathOf t (lenOf t) 0) (by rw [pathOf_length]; omega)) ?_
      unfold putA
      by_cases h4 : PutOk slot shard (shardOf t) (pathOf t (lenOf t) 0)
      · rw [if_pos h4]
        refine ev_pos rfl ?_
        rw [bs_list, bs_list]
        by_cases h5 : frameF slot shard (shardOf t) (pathOf t (lenOf t) 0) = t
        · rw [get_yes ⟨by omega, h2, h4, h5⟩]; exact ev_pos h5 (Ev.now _)
        · rw [get_no (fun h => h5 h.2.2.2)]; exact ev_neg h5 (Ev.now _)
      · rw [if_neg h4, get_no (fun h => h4 h.2.2.1)]
        exact ev_neg (by simp) (Ev.now _)
    · rw [get_no (fun h => h2 h.2.1), decide_eq_true (by omega)]
      exact no
  · rw [get_no (fun h => by omega)]
    exact ev_neg h1 no

theorem lowL_one (x : Int) : lowL x 1 = [byteOf x] := rfl
theorem bodyF_cons (slot shard : Int) (s : List UInt8) (p : List Int) : bodyF slot shard s p = 79 :: byteOf slot :: byteOf shard :: byteOf (p.length : Int) :: (s ++ (lowL (pathAt p 0) 4 ++ (lowL (pathAt p 1) 4 ++ lowL (pathAt p 2) 4))) := by
  simp [bodyF, lowL_one, List.append_assoc]
theorem frameF_cons (slot shard : Int) (s : List UInt8) (p : List Int) : frameF slot shard s p = 79 :: byteOf slot :: byteOf shard :: byteOf (p.length : Int) :: (s ++ (lowL (pathAt p 0) 4 ++ (lowL (pathAt p 1) 4 ++ (lowL (pathAt p 2) 4 ++ (lowL (ofL (bodyF slot shard s p)) 4 ++ List.replicate 12 0))))) := by
  unfold frameF sealedL
  rw [bodyF_cons]
  simp [List.append_assoc]
theorem byteOf_inj {x y : Int} (h : byteOf x = byteOf y) : x % 256 = y % 256 := by
  rw [← byteOf_val, ← byteOf_val, h]
theorem put_no {slot shard : Int} {s : List UInt8} {p : List Int} (h : ¬ PutOk slot shard s p) : putA slot shard s p = (bsOf [], 1400) := by unfold putA; rw [if_neg h]
theorem put_yes {slot shard : Int} {s : List UInt8} {p : List Int} (h : PutOk slot shard s p) : putA slot shard s p = (bsOf (frameF slot shard s p), 0) := by unfold putA; rw [if_pos h]
theorem shardOf_frame {slot shard : Int} {s : List UInt8} {p : List Int} (hs : s.length = 32) : shardOf (frameF slot shard s p) = s := by
  unfold shardOf
  rw [frameF_cons]
  simp only [List.drop_succ_cons, List.drop_zero]
  rw [List.take_append_of_le_length (by omega), List.take_of_length_le (by omega)]
theorem lenOf_frame {slot shard : Int} {s : List UInt8} {p : List Int} (hp : p.length ≤ 3) : lenOf (frameF slot shard s p) = p.length := by
  unfold lenOf
  rw [frameF_cons]
  have := byteOf_val (p.length : Int)
  simp only [List.getD_cons_succ, List.getD_cons_zero]
  omega
theorem word_frame {slot shard : Int} {s : List UInt8} {p : List Int} (hs : s.length = 32) (i : Nat) (hi : i < 3) : ((frameF slot shard s p).drop (36 + 4 * i)).take 4 = lowL (pathAt p i) 4 := by
  rw [frameF_cons]
  have l0 := lowL_length 4 (pathAt p 0)
  have l1 := lowL_length 4 (pathAt p 1)
  have l2 := lowL_length 4 (pathAt p 2)
  have c3 : i = 0 ∨ i = 1 ∨ i = 2 := by omega
  rcases c3 with e | e | e <;> subst e
  · rw [show 36 + 4 * 0 = 32 + 4 from rfl]
    simp only [List.drop_succ_cons]
    rw [List.drop_append, List.drop_of_length_le (by omega), hs, List.nil_append, List.drop_zero, List.take_append_of_le_length (by omega), List.take_of_length_le (by omega)]
  · rw [show 36 + 4 * 1 = 36 + 4 from rfl]
    simp only [List.drop_succ_cons]
    rw [List.drop_append, List.drop_of_length_le (by omega), hs, List.nil_append, List.drop_append, List.drop_of_length_le (by omega), l0, List.nil_append, List.drop_zero, List.take_append_of_le_length (by omega), List.take_of_length_le (by omega)]
  · rw [show 36 + 4 * 2 = 40 + 4 from rfl]
    simp only [List.drop_succ_cons]
    rw [List.drop_append, List.drop_of_length_le (by omega), hs, List.nil_append, List.drop_append, List.drop_of_length_le (by omega), l0, List.nil_append, List.drop_append, List.drop_of_length_le (by omega), l1, List.nil_append, List.drop_zero, List.take_append_of_le_length (by omega), List.take_of_length_le (by omega)]
theorem numL_four {x : Int} (h0 : 0 ≤ x) (h1 : x < 2147483647) : numL (lowL x 4) = x := numL_low 4 x h0 (by omega)
theorem pathAt_seal {p : List Int} (hs : Seals01 p) (i : Nat) : 0 ≤ pathAt p i ∧ pathAt p i < 2147483647 := by
  rw [← rd_pathAt]; exact rd_range hs i
theorem pathOf_frame {slot shard : Int} {s : List UInt8} {p : List Int} (hs : s.length = 32) (hp : p.length ≤ 3) (hsl : Seals01 p) : pathOf (frameF slot shard s p) p.length 0 = p := by
  have w : ∀ i, i < 3 → numL (((frameF slot shard s p).drop (36 + 4 * i)).take 4) = pathAt p i := by
    intro i hi
    rw [word_frame hs i hi, numL_four (pathAt_seal hsl i).1 (pathAt_seal hsl i).2]
  have w0 := w 0 (by omega)
  have w1 := w 1 (by omega)
  have w2 := w 2 (by omega)
  generalize frameF slot shard s p = t at *
  match p, hp with
  | [], _ => rfl
  | [a], _ => simp only [List.length_cons, List.length_nil, pathOf, w0]; rfl
  | [a, b], _ => simp only [List.length_cons, List.length_nil, pathOf, w0, w1]; rfl
  | [a, b, c], _ => simp only [List.length_cons, List.length_nil, pathOf, w0, w1, w2]; rfl
theorem get_put {slot shard : Int} {s : List UInt8} {p : List Int} (h : PutOk slot shard s p) : getA (frameF slot shard s p) slot shard = (bsOf s, p, 0) := by
  have h' := h
  obtain ⟨a1, a2, a3, a4, hs, hp, hsl⟩ := h'
  have e1 := shardOf_frame (slot := slot) (shard := shard) (p := p) hs
  have e2 := lenOf_frame (slot := slot) (shard := shard) (s := s) hp
  have e3 := pathOf_frame (slot := slot) (shard := shard) hs hp hsl
  rw [get_yes ⟨by rw [frameF_length]; omega, by rw [e2]; exact hp, by rw [e1, e2, e3]; exact h, by rw [e1, e2, e3]⟩, e1, e2, e3]
theorem get_other {slot shard slot' shard' : Int} {s : List UInt8} {p : List Int} (h : PutOk slot shard s p) (hne : slot' ≠ slot ∨ shard' ≠ shard) : getA (frameF slot shard s p) slot' shard' = (bsOf [], [], 1400) := by
  obtain ⟨a1, a2, a3, a4, hs, hp, hsl⟩ := h
  refine get_no (fun hh => ?_)
  obtain ⟨_, _, h3, h4⟩ := hh
  have b := h3
  obtain ⟨b1, b2, b3, b4, _⟩ := b
  rw [frameF_cons, frameF_cons] at h4
  injection h4 with _ h4
  injection h4 with h5 h4
  injection h4 with h6 _
  have := byteOf_inj h5
  have := byteOf_inj h6
  omega
/-- the bytes that text fills -/
def fillI (b : Int) : Nat → Nat → List Int
  | 0, _ => []
  | d + 1, i => (b + (i : Int) % 256) % 256 :: fillI b d (i + 1)
/-- a shard of bytes -/
def textL (b : Int) : List UInt8 := (fillI b 32 0).map byteOf
theorem fillI_length (b : Int) : ∀ d i, (fillI b d i).length = d
  | 0, _ => rfl
  | d + 1, i => by rw [fillI, List.length_cons, fillI_length b d]
theorem fillI_range (b : Int) : ∀ d i x, x ∈ fillI b d i → 0 ≤ x ∧ x < 256
  | 0, _, x, h => by simp [fillI] at h
  | d + 1, i, x, h => by
    rw [fillI, List.mem_cons] at h
    rcases h with rfl | h
    · omega
    · exact fillI_range b d (i + 1) x h
theorem textL_length (b : Int) : (textL b).length = 32 := by unfold textL; rw [List.length_map, fillI_length]
theorem text_loop (b : Int) : ∀ (d i : Nat) (pre : List Int), pre.length = i → i + d = 32 → Ev (fun k => ossuarylaw14_text.l0 k b (pre ++ List.replicate d 0) (i : Int)) (strOfNums (pre ++ fillI b d i)) := by
  intro d
  induction d with
  | zero =>
    intro i pre hp hi
    refine ev_succ ?_
    simp only [ossuarylaw14_text.l0]
    refine ev_neg (by omega) ?_
    simp only [List.replicate_zero, fillI]
    exact Ev.now _
  | succ d ih =>
    intro i pre hp hi
    refine ev_succ ?_
    simp only [ossuarylaw14_text.l0]
    refine ev_pos (by omega) (ev_pos (by omega) (ev_pos (by rw [List.length_append, List.length_replicate]; omega) ?_))
    rw [w64 (by omega) (by omega), Int.toNat_natCast]
    have e : (pre ++ List.replicate (d + 1) 0).set i ((b + (i : Int) % 256) % 256) = (pre ++ [(b + (i : Int) % 256) % 256]) ++ List.replicate d 0 := by
      rw [List.set_append_right _ _ (by omega), hp, Nat.sub_self, List.replicate_succ, List.set_cons_zero, List.append_assoc, List.singleton_append]
    have e2 : pre ++ fillI b (d + 1) i = (pre ++ [(b + (i : Int) % 256) % 256]) ++ fillI b d (i + 1) := by
      rw [fillI, List.append_assoc, List.singleton_append]
    rw [e, e2]
    exact ih (i + 1) _ (by rw [List.length_append, hp]; rfl) (by omega)
theorem text_ev (b : Int) : Ev (fun k => ossuarylaw14_text.f k b) (bsOf (textL b)) := by
  unfold ossuarylaw14_text.f
  refine ev_pos (by omega) ?_
  have := text_loop b 32 0 [] rfl (by omega)
  rw [List.nil_append, List.nil_append, str_nums _ (fillI_range b 32 0)] at this
  exact this
theorem same_loop (l : List Int) (hl : l.length ≤ 17592186044416) : ∀ (d i : Nat), i + d = l.length → Ev (fun k => ossuarylaw0_SameInts.l0 k l l (i : Int)) true := by
  intro d
  induction d with
  | zero =>
    intro i hi
    refine ev_succ ?_
    simp only [ossuarylaw0_SameInts.l0]
    exact ev_neg (by omega) (Ev.now _)
  | succ d ih =>
    intro i hi
    refine ev_succ ?_
    simp only [ossuarylaw0_SameInts.l0]
    refine ev_pos (by omega) (ev_pos (by omega) (ev_pos (by omega) (ev_pos trivial ?_)))
    rw [w64 (by omega) (by omega)]
    exact ih (i + 1) (by omega)
theorem same_ev (l : List Int) (hl : l.length ≤ 17592186044416) : Ev (fun k => ossuarylaw0_SameInts.f k l l) true := by
  unfold ossuarylaw0_SameInts.f
  exact ev_pos rfl (same_loop l hl l.length 0 (by omega))
theorem ok31 : PutOk 3 1 (textL 97) [5, 6] := ⟨by omega, by omega, by omega, by omega, textL_length 97, by simp, by intro x hx; simp at hx; omega⟩
theorem awake14 : Ev (fun k => ossuarylaw14_awake.f k) true := by
  unfold ossuarylaw14_awake.f
  refine Ev.bind (text_ev 97) (Ev.bind (frame_Put_ev 3 1 (textL 97) [5, 6] (by simp)) ?_)
  rw [put_yes ok31]
  refine Ev.bind (frame_Get_ev _ 3 1 (by rw [frameF_length, textL_length]; omega)) (Ev.bind (frame_Get_ev _ 3 2 (by rw [frameF_length, textL_length]; omega)) ?_)
  rw [get_put ok31, get_other ok31 (by omega), show (⟨#[97]⟩ : ByteArray) = bsOf [97] from rfl]
  refine Ev.bind (frame_Put_ev 3 1 [97] [] (by simp)) ?_
  rw [put_no (by unfold PutOk; simp)]
  simp only [ossuarylaw0_Num.f, Option.bind_some, if_true, bs_list, bs_size, bs_extract]
  refine ev_pos (by rw [frameF_length, textL_length]; omega) (ev_pos (by omega) (ev_pos (by rw [frameF_length, textL_length]; omega) (ev_pos ?_ ?_)))
  · rw [frameF_cons]; rfl
  · refine Ev.bind (text_ev 97) (ev_pos (by rw [bs_list]) (Ev.bind (same_ev [5, 6] (by simp)) (ev_pos rfl ?_)))
    exact Ev.now true

theorem map_take_snoc (f : Int → Int) (l : List Int) (i : Nat) (h : i < l.length) : (l.take i).map f ++ [f l[i]] = (l.take (i + 1)).map f := by
  rw [List.take_succ_eq_append_getElem h, List.map_append, List.map_singleton]


/-- of a byte, with one other than 0 -/
theorem xor_byte (x : UInt8) (c : Nat) (h1 : 1 ≤ c) (h2 : c ≤ 255) : 0 ≤ bits .xor .u8 (x.toNat : Int) (c : Int) ∧ bits .xor .u8 (x.toNat : Int) (c : Int) < 256 ∧ bits .xor .u8 (x.toNat : Int) (c : Int) ≠ (x.toNat : Int) := by
  have e0 : bits .xor .u8 (x.toNat : Int) (c : Int) = IntKind.u8.wrap (((BitVec.ofInt 8 (x.toNat : Int) ^^^ BitVec.ofInt 8 (c : Int)).toNat : Nat) : Int) := rfl
  have hx := x.toNat_lt
  rw [e0, BitVec.ofInt_natCast, BitVec.ofInt_natCast, BitVec.toNat_xor, BitVec.toNat_ofNat, BitVec.toNat_ofNat, Nat.mod_eq_of_lt (by omega), Nat.mod_eq_of_lt (by omega)]
  have h3 : x.toNat ^^^ c < 2 ^ 8 := Nat.xor_lt_two_pow (by omega) (by omega)
  have h4 : x.toNat ^^^ c ≠ x.toNat := by
    intro h
    have : x.toNat ^^^ (x.toNat ^^^ c) = x.toNat ^^^ x.toNat := by rw [h]
    rw [Nat.xor_self, ← Nat.xor_assoc, Nat.xor_self, Nat.zero_xor] at this
    omega
  have e : IntKind.u8.wrap ((x.toNat ^^^ c : Nat) : Int) = ((x.toNat ^^^ c : Nat) : Int) := by
    simp [IntKind.wrap, IntKind.bits, IntKind.signed]; omega
  rw [e]; omega
theorem ofL_set_ne : ∀ (l : List UInt8) (i : Nat) (b : UInt8) (h : i < l.length), b ≠ l[i] → ofL (l.set i b) ≠ ofL l
  | [], _, _, h, _ => by simp at h
  | x :: l, 0, b, h, hb => by
    have h1 := ofL_range l
    have h2 := x.toNat_lt
    have h3 := b.toNat_lt
    have h4 : b.toNat ≠ x.toNat := fun e => hb (UInt8.toNat_inj.mp e)
    simp only [List.set, ofL]
    omega
  | x :: l, i + 1, b, h, hb => by
    have h0 := ofL_set_ne l i b (by simpa using h) (by simpa using hb)
    have h1 := ofL_range l
    have h2 := ofL_range (l.set i b)
    simp only [List.set, ofL]
    generalize ofL (l.set i b) = p at *
    generalize ofL l = q at *
    omega
theorem set_text (s : ByteArray) (i : Nat) (v : Int) (h : i < s.size) (h0 : 0 ≤ v) (h1 : v < 256) :
    strOfNums ((bytesOf s).set i v) = bsOf (s.data.toList.set i (byteOf v)) := by
  have e : bytesOf s = s.data.toList.map (fun b => (b.toNat : Int)) := by
    apply List.ext_getElem
    · rw [bytesOf_length, List.length_map, data_len]
    · intro j h1 h2
      have hj : j < s.size := by rw [bytesOf_length] at h1; exact h1
      have := rd_bytesOf s (j : Int)
      simp [rd, List.getD_eq_getElem?_getD, List.getElem?_eq_getElem h1] at this
      rw [this, bt_get s j (by rw [data_len]; exact hj)]; simp
  rw [e, str_nums]
  · congr 1
    rw [List.map_set, List.map_map]
    congr 1
    conv => rhs; rw [← List.map_id s.data.toList]
    apply List.map_congr_left
    intro b _
    exact byteOf_toNat b
  · intro x hx
    rcases List.mem_or_eq_of_mem_set hx with g | g
    · obtain ⟨b, _, rfl⟩ := List.mem_map.mp g
      have := u8_range b
      omega
    · omega

theorem turned_text (s : ByteArray) (i : Nat) (c : Int) (h : i < s.data.toList.length) (h1 : 1 ≤ c) (h2 : c ≤ 255) :
    ∃ b, b ≠ s.data.toList[i] ∧ strOfNums ((bytesOf s).set i (Go.bits .xor .u8 (rd (bytesOf s) (i : Int)) c)) = bsOf (s.data.toList.set i b) := by
  have hl := data_len s
  rw [rd_bytesOf, bt_get s i h]
  obtain ⟨n, rfl⟩ : ∃ n : Nat, c = (n : Int) := ⟨c.toNat, by omega⟩
  have hx := xor_byte (s.data.toList[i]) n (by omega) (by omega)
  refine ⟨byteOf (Go.bits .xor .u8 ((s.data.toList[i]).toNat : Int) (n : Int)), fun e => ?_, set_text s i _ (by omega) hx.1 hx.2.1⟩
  have := byteOf_val (Go.bits .xor .u8 ((s.data.toList[i]).toNat : Int) (n : Int))
  rw [e] at this
  omega
/-- one byte of a sealed text, and it is none -/
theorem sealed_turn (B B' Z : List UInt8) (hB : B.length = B'.length) (k : Nat) (b : UInt8) (hk : k < (sealedL B ++ Z).length) (hne : b ≠ (sealedL B ++ Z)[k]) : (sealedL B ++ Z).set k b ≠ sealedL B' ++ Z := by
  intro h
  unfold sealedL at h hk hne
  rw [List.append_assoc] at h
  by_cases g : k < B.length
  · rw [List.set_append_left _ _ g, List.append_assoc] at h
    obtain ⟨e1, e2⟩ := List.append_inj h (by rw [List.length_set]; exact hB)
    obtain ⟨e3, _⟩ := List.append_inj e2 (by rw [lowL_length, lowL_length])
    have r1 := ofL_range B
    have r2 := ofL_range B'
    have e4 : ofL B = ofL B' := by
      rw [← numL_low 4 (ofL B) r1.1 (by omega), e3, numL_low 4 (ofL B') r2.1 (by omega)]
    rw [← e1] at e4
    refine ofL_set_ne B k b g ?_ e4.symm
    intro e
    apply hne
    rw [e, List.getElem_append_left (by rw [List.length_append]; omega), List.getElem_append_left g]
  · have e0 : B = B' := by
      rw [List.set_append_right _ _ (by omega), List.append_assoc] at h
      exact (List.append_inj h hB).1
    rw [← e0, ← List.append_assoc] at h
    have e5 := congrArg (fun l => l[k]?) h
    simp only [List.getElem?_set_self hk, List.getElem?_eq_getElem hk, Option.some.injEq] at e5
    exact hne e5

theorem get_turned {slot shard : Int} {s : List UInt8} {p : List Int} (h : PutOk slot shard s p) (k : Nat) (b : UInt8) (hk : k < (frameF slot shard s p).length) (hne : b ≠ (frameF slot shard s p)[k]) :
    getA ((frameF slot shard s p).set k b) slot shard = (bsOf [], [], 1400) := by
  refine get_no (fun g => ?_)
  obtain ⟨g1, g2, g3, g4⟩ := g
  refine sealed_turn (bodyF slot shard s p) _ (List.replicate 12 0) ?_ k b hk hne g4.symm
  rw [bodyF_length, bodyF_length, g3.2.2.2.2.1, h.2.2.2.2.1]
theorem fturn_loop (b at_ by_ i j : Int) (l : List Int) (hl : l.length * 8 ≤ 140737488351232) (hj : Ev (fun k => ossuarylaw14_FrameTurned.j1 k b at_ by_ i j ((l.take 3).map quart)) true) :
    ∀ (d n : Nat), n + d = min l.length 3 → Ev (fun k => ossuarylaw14_FrameTurned.l0 k b l at_ by_ i j ((l.take n).map quart) (n : Int)) true := by
  intro d
  induction d with
  | zero =>
    intro n hn
    refine Ev.step (f := fun k => ossuarylaw14_FrameTurned.j1 k b at_ by_ i j ((l.take n).map quart)) (fun k => ?_) ?_
    · simp only [ossuarylaw14_FrameTurned.l0]
      by_cases g : (n : Int) < (l.length : Int)
      · rw [if_pos g, if_neg (by omega)]
      · rw [if_neg g]
    · rw [show l.take n = l.take 3 from by rw [List.take_eq_take_iff]; omega]; exact hj
  | succ d ih =>
    intro n hn
    have hlt : n < l.length := by omega
    refine Ev.step (f := fun k => ossuarylaw14_FrameTurned.l0 k b l at_ by_ i j ((l.take (n + 1)).map quart) ((n + 1 : Nat) : Int)) (fun k => ?_) (ih (n + 1) (by omega))
    simp only [ossuarylaw14_FrameTurned.l0]
    rw [if_pos (by omega), if_pos (by omega), if_pos (by omega), if_pos (by rw [List.length_map, List.length_take]; omega), rd_nat l n hlt, w64 (by omega) (by omega)]
    rw [show l[n] % 4294967296 / 4 = quart l[n] from rfl, map_take_snoc quart l n hlt]
    rfl
theorem FrameTurned : ossuarylaw14_FrameTurned.Pure := by
  intro slot shard b l at_ by_ _ _ _ hl hl8 _ _ _
  apply ex_of_ev
  unfold ossuarylaw14_FrameTurned.f
  rw [umod_lit slot 24 24 rfl (by omega) (by omega), umod_lit shard 6 6 rfl (by omega) (by omega)]
  have hi := umod_lt slot 24 (by omega)
  have hj := umod_lt shard 6 (by omega)
  generalize umod slot 24 = i at hi
  generalize umod shard 6 = j at hj
  refine Ev.bind awake14 (ev_pos rfl (fturn_loop b at_ by_ i j l hl8 ?_ (min l.length 3) 0 (by omega)))
  have hP : Seals01 ((l.take 3).map quart) := by
    intro x hx
    obtain ⟨y, _, rfl⟩ := List.mem_map.mp hx
    have := quart_range y
    omega
  have hPl : ((l.take 3).map quart).length ≤ 3 := by rw [List.length_map, List.length_take]; omega
  generalize (l.take 3).map quart = P at hP hPl
  have hok : PutOk (i : Int) (j : Int) (textL (b % 256)) P := ⟨by omega, by omega, by omega, by omega, textL_length _, hPl, hP⟩
  have hF : (frameF (i : Int) (j : Int) (textL (b % 256)) P).length = 64 := by rw [frameF_length, textL_length]
  refine ev_succ ?_
  simp only [ossuarylaw14_FrameTurned.j1]
  refine Ev.bind (text_ev (b % 256)) (Ev.bind (frame_Put_ev _ _ _ _ (by omega)) ?_)
  rw [put_yes hok]
  simp only [ossuarylaw0_Num.f, Option.bind_some, if_true]
  rw [bs_size, hF]
  refine ev_succ ?_
  simp only [ossuarylaw14_FrameTurned.j2]
  refine ev_neg (by decide) ?_
  have e1 : Int.tmod (wrap64 ((i : Int) + 1)) 24 ≠ (i : Int) := by rw [w64 (by omega) (by omega), tm _ (by omega)]; omega
  have e2 : Int.tmod (wrap64 ((j : Int) + 1)) 6 ≠ (j : Int) := by rw [w64 (by omega) (by omega), tm _ (by omega)]; omega
  refine Ev.bind (frame_Get_ev _ _ _ (by rw [hF]; omega)) (Ev.bind (frame_Get_ev _ _ _ (by rw [hF]; omega)) (Ev.bind (frame_Get_ev _ _ _ (by rw [hF]; omega)) ?_))
  rw [get_put hok, get_other hok (.inl e1), get_other hok (.inr e2)]
  refine ev_pos (by rw [bs_size, hF]; omega) ?_
  simp only [Option.bind_some]
  rw [umod_lit at_ 64 64 rfl (by omega) (by omega)]
  have hk := umod_lt at_ 64 (by omega)
  generalize umod at_ 64 = n at hk
  refine ev_pos (by omega) (ev_pos (by rw [bytesOf_length, bs_size, hF]; omega) ?_)
  have hc : wrap64 (1 + Go.bits .and .i64 by_ 127) % 256 = 1 + by_ % 128 := by
    rw [and_mask by_ 7 (by omega) 127 128 rfl rfl, w64 (by omega) (by omega)]; omega
  rw [hc, Int.toNat_natCast]
  obtain ⟨b', hne, he⟩ := turned_text (bsOf (frameF (i : Int) (j : Int) (textL (b % 256)) P)) n (1 + by_ % 128) (by rw [bs_data, hF]; omega) (by omega) (by omega)
  rw [he]
  simp only [bs_data] at hne ⊢
  refine Ev.bind (frame_Get_ev _ _ _ (by rw [List.length_set, hF]; omega)) ?_
  rw [get_turned hok n b' (by rw [hF]; omega) hne]
  refine Ev.bind (text_ev (b % 256)) (ev_pos rfl (Ev.bind (same_ev P (by omega)) (ev_pos rfl ?_)))
  simp only [ossuarylaw0_Num.f, Option.bind_some, bs_list, if_true, List.length_nil]
  exact ev_pos rfl (Ev.now _)

end Go.Proofs.Ytgfgehhmnogbpaa.Pure
