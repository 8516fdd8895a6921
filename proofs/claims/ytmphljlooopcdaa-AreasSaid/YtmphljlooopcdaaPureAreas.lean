/- Put and Get are those of the document, and they leave the sectors: no condition beyond the statement. -/
import Derived.Test.YtmphljlooopcdaaRAreas
namespace Go.Proofs.Ytmphljlooopcdaa.Pure
open Go.RowKit Go.Proofs.Ytmphljlooopcdaa.HAreas Go.Proofs.Ytmphljlooopcdaa.RAreas Go.Proofs.YtmphljlooopcdaaW.PrintWords Go.Proofs.YtmphljlooopcdaaW.PrintLast


set_option linter.unusedVariables false
set_option linter.unusedSimpArgs false
theorem wf64 {x : Int} (h : (Lit.int .i64 x).wf = true) : -9223372036854775808 ≤ x ∧ x ≤ 9223372036854775807 := by
  simp only [Lit.wf, Bool.and_eq_true, decide_eq_true_eq] at h
  have e1 : IntKind.i64.min = -9223372036854775808 := by decide
  have e2 : IntKind.i64.max = 9223372036854775807 := by decide
  omega
theorem w64 {x : Int} (h0 : -9223372036854775808 ≤ x) (h1 : x ≤ 9223372036854775807) : wrap64 x = x := by
  unfold wrap64; omega
theorem tm {x : Int} (m : Int) (h0 : 0 ≤ x) : Int.tmod x m = x % m := Int.tmod_eq_emod_of_nonneg h0
theorem data_len (s : ByteArray) : s.data.toList.length = s.size := by rw [Array.length_toList]; rfl
theorem bt_get (s : ByteArray) (n : Nat) (h : n < s.data.toList.length) : bt s (n : Int) = ((s.data.toList[n]'h).toNat : Int) := by
  have h' : n < s.size := by rw [data_len] at h; exact h
  unfold bt
  rw [dif_pos (show (n : Int).toNat < s.size from by simpa using h')]
  simp [ByteArray.getElem_eq_getElem_data]
/-- enough rounds -/
theorem ex_of_ev {α : Type} {g : Nat → Option α} {r : α} (h : Ev g r) : ∃ k, g k = some r := h.rounds
theorem ev_ge {α : Type} {g : Nat → Option α} {r : α} (K : Nat) (h : ∀ k, K ≤ k → g k = some r) : Ev g r := ⟨K, h⟩
theorem ev_const {α : Type} {g : Option α} {r : α} (h : g = some r) : Ev (fun _ => g) r := ⟨0, fun _ _ => h⟩
theorem ev_pos {α : Type} {c : Prop} [Decidable c] {f g : Nat → Option α} {r : α} (h : c) (hf : Ev f r) : Ev (fun k => if c then f k else g k) r := by
  simp only [if_pos h]; exact hf
theorem ev_neg {α : Type} {c : Prop} [Decidable c] {f g : Nat → Option α} {r : α} (h : ¬ c) (hg : Ev g r) : Ev (fun k => if c then f k else g k) r := by
  simp only [if_neg h]; exact hg
theorem ev_succ {α : Type} {g : Nat → Option α} {r : α} (h : Ev (fun k => g (k + 1)) r) : Ev g r := Ev.step (f := fun k => g (k + 1)) (fun _ => rfl) h

/-- the seal of a list of bytes -/
def ofL : List UInt8 → Int
  | [] => 0
  | b :: bs => (ofL bs + (b.toNat : Int) + 1) * 65537 % 2147483647
theorem ofL_range : ∀ l, 0 ≤ ofL l ∧ ofL l < 2147483647
  | [] => by simp [ofL]
  | b :: bs => by unfold ofL; omega
theorem of_step {x b : Int} (h0 : 0 ≤ x) (h1 : x < 2147483647) (b0 : 0 ≤ b) (b1 : b ≤ 255) :
    Int.tmod (wrap64 ((wrap64 ((wrap64 (x + (wrap64 b))) + 1)) * 65537)) 2147483647 = (x + b + 1) * 65537 % 2147483647 := by
  rw [w64 (x := b) (by omega) (by omega), w64 (x := x + b) (by omega) (by omega), w64 (x := x + b + 1) (by omega) (by omega), w64 (x := (x + b + 1) * 65537) (by omega) (by omega)]
  exact tm _ (by omega)
theorem seal_Of_loop (s : ByteArray) (hs : s.size ≤ 140737488351232) : ∀ (n k : Nat), n ≤ s.data.toList.length → n < k →
    seal_Of.l0 k s (ofL (s.data.toList.drop n)) ((n : Int) - 1) = some (ofL s.data.toList) := by
  intro n
  have hl := data_len s
  induction n with
  | zero =>
    intro k _ hk
    obtain ⟨k, rfl⟩ : ∃ m, k = m + 1 := ⟨k - 1, by omega⟩
    simp only [seal_Of.l0]
    rw [if_neg (by omega), List.drop_zero]
  | succ n ih =>
    intro k hn hk
    obtain ⟨k, rfl⟩ : ∃ m, k = m + 1 := ⟨k - 1, by omega⟩
    have hr := ofL_range (s.data.toList.drop (n + 1))
    have hb := bt_range s (n : Int)
    rw [show (((n + 1 : Nat) : Int) - 1) = (n : Int) from by omega]
    simp only [seal_Of.l0]
    rw [if_pos (by omega), if_pos (by omega), if_pos (by omega), of_step hr.1 hr.2 hb.1 hb.2, w64 (x := (n : Int) - 1) (by omega) (by omega), bt_get s n (by omega)]
    have := ih k (by omega) (by omega)
    rw [List.drop_eq_getElem_cons (by omega)] at this
    exact this
theorem seal_Of_at (s : ByteArray) (hs : s.size ≤ 140737488351232) (k : Nat) (hk : s.size < k) : seal_Of.f k s = some (ofL s.data.toList) := by
  have hl := data_len s
  have := seal_Of_loop s hs s.data.toList.length k (by omega) (by omega)
  rw [List.drop_length] at this
  unfold seal_Of.f
  rw [w64 (by omega) (by omega), ← hl]
  exact this
theorem seal_Of_ev (s : ByteArray) (hs : s.size ≤ 140737488351232) : Ev (fun k => seal_Of.f k s) (ofL s.data.toList) :=
  ev_ge (s.size + 1) (fun k hk => seal_Of_at s hs k (by omega))

theorem extr (s : ByteArray) (a b : Nat) : (s.extract a b).data.toList = (s.data.toList.drop a).take (b - a) := by
  rw [ByteArray.data_extract, Array.toList_extract, List.extract_eq_take_drop]
theorem extr_size (s : ByteArray) (a b : Nat) (h : b ≤ s.size) : (s.extract a b).size = b - a := by
  rw [ByteArray.size_extract]; omega
theorem mn_eq (a b : Int) : mn a b = min a b := by unfold mn; omega

theorem u64w (x : Int) : IntKind.u64.wrap x = x % 18446744073709551616 := by simp [IntKind.wrap, IntKind.bits, IntKind.signed]
theorem i64w (x : Int) : IntKind.i64.wrap x = (x + 9223372036854775808) % 18446744073709551616 - 9223372036854775808 := by
  simp [IntKind.wrap, IntKind.bits, IntKind.signed]
  split <;> omega
/-- x & (2^i - 1), whatever x -/
theorem and_mask (x : Int) (i : Nat) (hi : i ≤ 62) (m p : Int) (hm : m = ((2 ^ i - 1 : Nat) : Int)) (hp : p = ((2 ^ i : Nat) : Int)) : Go.bits .and .i64 x m = x % p := by
  subst hm hp
  have h2 : 2 ^ i ≤ 2 ^ 62 := Nat.pow_le_pow_right (by decide) hi
  have hpos : 0 < 2 ^ i := Nat.two_pow_pos i
  have e1 : (2 ^ i - 1) % 2 ^ 64 = 2 ^ i - 1 := Nat.mod_eq_of_lt (by omega)
  have hd : 2 ^ i ∣ 2 ^ 64 := Nat.pow_dvd_pow 2 (by omega)
  have e0 : Go.bits .and .i64 x ((2 ^ i - 1 : Nat) : Int) = IntKind.i64.wrap (((BitVec.ofInt 64 x &&& BitVec.ofInt 64 ((2 ^ i - 1 : Nat) : Int)).toNat : Nat) : Int) := rfl
  rw [e0, BitVec.ofInt_natCast, BitVec.toNat_and, BitVec.toNat_ofNat]
  rw [e1, Nat.and_two_pow_sub_one_eq_mod]
  have e2 : (BitVec.ofInt 64 x).toNat = (x % 18446744073709551616).toNat := by
    rw [BitVec.toNat_ofInt]; rfl
  rw [e2]
  have e3 : (((x % 18446744073709551616).toNat % 2 ^ i : Nat) : Int) = x % ((2 ^ i : Nat) : Int) := by
    rw [Int.natCast_emod, Int.toNat_of_nonneg (by omega)]
    have hd' : ((2 ^ i : Nat) : Int) ∣ (18446744073709551616 : Int) := Int.natCast_dvd_natCast (n := 18446744073709551616).mpr hd
    exact Int.emod_emod_of_dvd x hd'
  rw [e3]
  have h3 : 0 ≤ x % ((2 ^ i : Nat) : Int) := Int.emod_nonneg x (by omega)
  have h4 : x % ((2 ^ i : Nat) : Int) < ((2 ^ i : Nat) : Int) := Int.emod_lt_of_pos x (by omega)
  generalize x % ((2 ^ i : Nat) : Int) = y at *
  rw [i64w]; omega
/-- uint(a) % uint(n), as a place -/
def umod (a : Int) (n : Nat) : Nat := ((a % 18446744073709551616) % (n : Int)).toNat
theorem umod_lt (a : Int) (n : Nat) (h : 1 ≤ n) : umod a n < n := by
  unfold umod
  have h1 : 0 ≤ (a % 18446744073709551616) % (n : Int) := Int.emod_nonneg _ (by omega)
  have h2 : (a % 18446744073709551616) % (n : Int) < (n : Int) := Int.emod_lt_of_pos _ (by omega)
  omega
theorem umod_eq (a : Int) (n : Nat) (h : 1 ≤ n) (h' : n ≤ 4611686018427387904) : wrap64 (Int.tmod (IntKind.u64.wrap a) (IntKind.u64.wrap (n : Int))) = (umod a n : Int) := by
  have e : (n : Int) % 18446744073709551616 = (n : Int) := by omega
  rw [u64w, u64w, e, tm (x := a % 18446744073709551616) _ (by omega)]
  unfold umod
  have h1 : 0 ≤ (a % 18446744073709551616) % (n : Int) := Int.emod_nonneg _ (by omega)
  have h2 : (a % 18446744073709551616) % (n : Int) < (n : Int) := Int.emod_lt_of_pos _ (by omega)
  rw [w64 (by omega) (by omega)]; omega
theorem umod_lit (a : Int) (n : Nat) (m : Int) (hm : m = (n : Int)) (h : 1 ≤ n) (h' : n ≤ 4611686018427387904) : wrap64 (Int.tmod (IntKind.u64.wrap a) m) = (umod a n : Int) := by
  subst hm
  have := umod_eq a n h h'
  rwa [show IntKind.u64.wrap (n : Int) = (n : Int) from by rw [u64w]; omega] at this
/-- int(uint32(x) >> 2) -/
def quart (x : Int) : Int := x % 4294967296 / 4
theorem quart_range (x : Int) : 0 ≤ quart x ∧ quart x < 1073741824 := by unfold quart; omega

/-- a text of these bytes -/
def bsOf (l : List UInt8) : ByteArray := ⟨l.toArray⟩
theorem bs_list (l : List UInt8) : (bsOf l).toList = l := by unfold bsOf; simp
theorem bs_data (l : List UInt8) : (bsOf l).data.toList = l := by simp [bsOf]
theorem bs_size (l : List UInt8) : (bsOf l).size = l.length := by rw [← data_len, bs_data]
theorem bs_of (s : ByteArray) : bsOf s.data.toList = s := by simp [bsOf]
theorem bs_eta (s : ByteArray) : ∃ l, s = bsOf l ∧ l.length = s.size := ⟨s.data.toList, (bs_of s).symm, data_len s⟩
theorem ba_ext {a b : ByteArray} (h : a.data.toList = b.data.toList) : a = b := by rw [← bs_of a, ← bs_of b, h]
theorem bs_append (a b : List UInt8) : bsOf a ++ bsOf b = bsOf (a ++ b) := by
  apply ba_ext; simp [bs_data]
theorem bs_inj {a b : List UInt8} (h : bsOf a = bsOf b) : a = b := by rw [← bs_data a, ← bs_data b, h]
theorem bs_extract (l : List UInt8) (a b : Nat) : (bsOf l).extract a b = bsOf ((l.drop a).take (b - a)) := by
  apply ba_ext
  rw [bs_data, ByteArray.data_extract, Array.toList_extract, List.extract_eq_take_drop, bs_data]
theorem bs_bt (l : List UInt8) (i : Nat) (h : i < l.length) : bt (bsOf l) (i : Int) = (l[i].toNat : Int) := by
  have := bt_get (bsOf l) i (by rw [bs_data]; exact h)
  rw [this]; congr 2
theorem u8_range (b : UInt8) : 0 ≤ (b.toNat : Int) ∧ (b.toNat : Int) ≤ 255 := by
  have := b.toNat_lt; omega
/-- a byte of a number -/
def byteOf (x : Int) : UInt8 := UInt8.ofNat (x % 256).toNat
theorem byteOf_val (x : Int) : ((byteOf x).toNat : Int) = x % 256 := by
  unfold byteOf
  rw [UInt8.toNat_ofNat']
  omega
theorem byteOf_toNat (b : UInt8) : byteOf (b.toNat : Int) = b := by
  apply UInt8.toNat_inj.mp
  have h1 := byteOf_val (b.toNat : Int)
  have h2 := u8_range b
  omega
theorem str_nums (xs : List Int) (h : ∀ x, x ∈ xs → 0 ≤ x ∧ x < 256) : strOfNums xs = bsOf (xs.map byteOf) := by
  unfold strOfNums bsOf
  congr 2
  apply List.map_congr_left
  intro x hx
  have := h x hx
  unfold byteOf
  rw [Int.emod_eq_of_lt this.1 this.2]

/-- a number in so many bytes, the lowest one first -/
def lowL (x : Int) : Nat → List UInt8
  | 0 => []
  | n + 1 => byteOf x :: lowL (x / 256) n
theorem lowL_length : ∀ (n : Nat) (x : Int), (lowL x n).length = n
  | 0, _ => rfl
  | n + 1, x => by rw [lowL, List.length_cons, lowL_length n]
/-- the list that Low fills -/
def lowI (x : Int) : Nat → List Int
  | 0 => []
  | n + 1 => x % 256 :: lowI (x / 256) n
theorem lowI_length : ∀ (n : Nat) (x : Int), (lowI x n).length = n
  | 0, _ => rfl
  | n + 1, x => by rw [lowI, List.length_cons, lowI_length n]
theorem lowI_bytes : ∀ (n : Nat) (x : Int), (lowI x n).map byteOf = lowL x n
  | 0, _ => rfl
  | n + 1, x => by
    rw [lowI, lowL, List.map_cons, lowI_bytes n]
    congr 1
    unfold byteOf
    rw [Int.emod_emod_of_dvd _ (Int.dvd_refl 256)]
theorem lowI_range : ∀ (n : Nat) (x y : Int), y ∈ lowI x n → 0 ≤ y ∧ y < 256
  | 0, _, y, h => by simp [lowI] at h
  | n + 1, x, y, h => by
    rw [lowI, List.mem_cons] at h
    rcases h with rfl | h
    · omega
    · exact lowI_range n _ y h
theorem low_loop (N : Nat) (hN : N ≤ 1000) : ∀ (d i : Nat) (x : Int) (pre : List Int), pre.length = i → i + d = N → Ev (fun k => frame_Low.l0 k x (pre ++ List.replicate d 0) (N : Int) (i : Int)) (strOfNums (pre ++ lowI x d)) := by
  intro d
  induction d with
  | zero =>
    intro i x pre hp hi
    refine ev_succ ?_
    simp only [frame_Low.l0]
    refine ev_neg (by omega) ?_
    simp only [List.replicate_zero, lowI]
    exact Ev.now _
  | succ d ih =>
    intro i x pre hp hi
    refine ev_succ ?_
    simp only [frame_Low.l0]
    refine ev_pos (by omega) (ev_pos (by omega) (ev_pos (by rw [List.length_append, List.length_replicate]; omega) ?_))
    rw [w64 (by omega) (by omega), Int.toNat_natCast]
    have e : (pre ++ List.replicate (d + 1) 0).set i (x % 256) = (pre ++ [x % 256]) ++ List.replicate d 0 := by
      rw [List.set_append_right _ _ (by omega), hp, Nat.sub_self, List.replicate_succ, List.set_cons_zero, List.append_assoc, List.singleton_append]
    have e2 : pre ++ lowI x (d + 1) = (pre ++ [x % 256]) ++ lowI (x / 256) d := by
      rw [lowI, List.append_assoc, List.singleton_append]
    rw [e, e2]
    exact ih (i + 1) (x / 256) (pre ++ [x % 256]) (by rw [List.length_append, hp]; rfl) (by omega)
theorem frame_Low_ev (x : Int) (n : Nat) (hn : n ≤ 1000) : Ev (fun k => frame_Low.f k x (n : Int)) (bsOf (lowL x n)) := by
  unfold frame_Low.f
  refine ev_pos (by omega) ?_
  rw [Int.toNat_natCast]
  refine ev_pos (by omega) ?_
  simp only [Option.bind_some, List.length_replicate]
  have := low_loop n hn n 0 x [] rfl (by omega)
  rw [List.nil_append, List.nil_append, str_nums _ (lowI_range n x), lowI_bytes] at this
  exact this
/-- the number of some bytes, the lowest one first -/
def numL : List UInt8 → Int
  | [] => 0
  | b :: bs => numL bs * 256 + (b.toNat : Int)
theorem numL_range : ∀ (l : List UInt8), 0 ≤ numL l ∧ numL l < 256 ^ l.length
  | [] => by simp [numL]
  | b :: bs => by
    have h1 := numL_range bs
    have h2 := u8_range b
    rw [numL, List.length_cons, Int.pow_succ]
    omega
theorem numL_low : ∀ (n : Nat) (x : Int), 0 ≤ x → x < 256 ^ n → numL (lowL x n) = x
  | 0, x, h0, h1 => by simp at h1; simp [lowL, numL]; omega
  | n + 1, x, h0, h1 => by
    rw [Int.pow_succ] at h1
    rw [lowL, numL, numL_low n (x / 256) (by omega) (by omega), byteOf_val]; omega
theorem low_num : ∀ (l : List UInt8), lowL (numL l) l.length = l
  | [] => rfl
  | b :: bs => by
    have h2 := u8_range b
    have e : (numL bs * 256 + (b.toNat : Int)) / 256 = numL bs := by omega
    rw [numL, List.length_cons, lowL, e, low_num bs]
    congr 1
    unfold byteOf
    rw [show (numL bs * 256 + (b.toNat : Int)) % 256 = (b.toNat : Int) % 256 from by omega]
    exact byteOf_toNat b
theorem or_byte (x b : Int) (x0 : 0 ≤ x) (x1 : x < 72057594037927936) (b0 : 0 ≤ b) (b1 : b ≤ 255) : Go.bits .or .i64 (wrap64 (x * 256)) (wrap64 b) = x * 256 + b ∨ 36028797018963968 ≤ x := by
  by_cases h : 36028797018963968 ≤ x
  · exact Or.inr h
  · left
    rw [w64 (x := x * 256) (by omega) (by omega), w64 (x := b) (by omega) (by omega)]
    have hk : ∀ n : Int, 0 ≤ n → n < 2 ^ 63 → IntKind.i64.wrap n = n := by
      intro n h0 h1; rw [i64w]; omega
    exact Go.bits_join .i64 63 (by decide) hk 8 (x * 256) b (by omega) (by omega) (by omega) b0 (by omega) (by omega)
theorem pow256 (m : Nat) (h : m ≤ 6) : (256 : Int) ^ m ≤ 256 ^ 6 := by
  have c : m = 0 ∨ m = 1 ∨ m = 2 ∨ m = 3 ∨ m = 4 ∨ m = 5 ∨ m = 6 := by omega
  rcases c with e | e | e | e | e | e | e <;> subst e <;> decide
theorem num_loop (l : List UInt8) (hl : l.length ≤ 6) : ∀ (n : Nat), n ≤ l.length → Ev (fun k => frame_Number.l0 k (bsOf l) (numL (l.drop n)) ((n : Int) - 1)) (numL l) := by
  intro n
  induction n with
  | zero =>
    intro _
    refine ev_succ ?_
    simp only [frame_Number.l0]
    rw [List.drop_zero]
    exact ev_neg (by omega) (Ev.now _)
  | succ n ih =>
    intro hn
    have hlt : n < l.length := by omega
    have hr := numL_range (l.drop (n + 1))
    have hp : (256 : Int) ^ (l.drop (n + 1)).length ≤ 256 ^ 6 := pow256 _ (by rw [List.length_drop]; omega)
    have hb := u8_range l[n]
    refine ev_succ ?_
    simp only [frame_Number.l0]
    rw [show (((n + 1 : Nat) : Int) - 1) = (n : Int) from by omega]
    refine ev_pos (by omega) (ev_pos (by omega) (ev_pos (by rw [bs_size]; omega) ?_))
    rw [bs_bt l n hlt, w64 (x := (n : Int) - 1) (by omega) (by omega)]
    have h := or_byte (numL (l.drop (n + 1))) (l[n].toNat : Int) hr.1 (by omega) hb.1 hb.2
    rw [h.resolve_right (by omega)]
    have := ih (by omega)
    rw [List.drop_eq_getElem_cons hlt, numL] at this
    exact this
theorem frame_Number_ev (l : List UInt8) (hl : l.length ≤ 6) : Ev (fun k => frame_Number.f k (bsOf l)) (numL l) := by
  unfold frame_Number.f
  rw [bs_size, w64 (by omega) (by omega)]
  have := num_loop l hl l.length (by omega)
  rw [List.drop_length] at this
  exact this

theorem rep_zero : ∀ n, Lib.repeatL [0] n = List.replicate n 0
  | 0 => rfl
  | n + 1 => by rw [Lib.repeatL, rep_zero n]; rfl
theorem blank_eq : disk_Blank.f = some (bsOf (List.replicate 64 0)) := by
  unfold disk_Blank.f strings_Repeat.f
  rw [if_pos (by refine ⟨by omega, by omega, ?_⟩; decide)]
  simp only [Option.bind_some]
  rw [show (64 : Int).toNat = 64 from rfl, rep_zero]
  rfl
theorem seal_Of_bs (l : List UInt8) (h : l.length ≤ 140737488351232) : Ev (fun k => seal_Of.f k (bsOf l)) (ofL l) := by
  have := seal_Of_ev (bsOf l) (by rw [bs_size]; exact h)
  rwa [bs_data] at this
/-- a text with its seal behind -/
def sealedL (l : List UInt8) : List UInt8 := l ++ lowL (ofL l) 4
theorem sealedL_length (l : List UInt8) : (sealedL l).length = l.length + 4 := by
  unfold sealedL; rw [List.length_append, lowL_length]
theorem frame_Sealed_ev (l : List UInt8) (h : l.length ≤ 4611686018427387904) (h' : l.length ≤ 140737488351232) : Ev (fun k => frame_Sealed.f k (bsOf l)) (bsOf (sealedL l)) := by
  unfold frame_Sealed.f
  refine Ev.bind (seal_Of_bs l h') (Ev.bind (frame_Low_ev (ofL l) 4 (by omega)) ?_)
  refine ev_pos (by rw [bs_size, bs_size, lowL_length]; omega) ?_
  rw [bs_append]; exact Ev.now _

/-- the sectors of a text, behind what all of them begin with -/
def secsA (whole : List UInt8) : Nat → Nat → List UInt8 → List (List UInt8)
  | 0, _, _ => []
  | d + 1, i, s => sealedL ([77] ++ lowL (i : Int) 1 ++ whole ++ (s.take 52 ++ List.replicate (52 - s.length) 0)) :: secsA whole d (i + 1) (s.drop 52)
/-- what a sector has of an area's number and size -/
def wholeA (seq : Int) (n : Nat) : List UInt8 := lowL (n : Int) 2 ++ lowL seq 4
/-- an area's sectors -/
def areaL (seq : Int) (s : List UInt8) : List (List UInt8) := secsA (wholeA seq s.length) 24 0 s
/-- may there be such an area? -/
def AreaOk (seq : Int) (s : List UInt8) : Prop := 0 ≤ seq ∧ seq ≤ 1048576 ∧ s.length ≤ 1248
instance (seq : Int) (s : List UInt8) : Decidable (AreaOk seq s) := by unfold AreaOk; infer_instance
/-- Put's answer -/
def aputA (seq : Int) (s : List UInt8) : List ByteArray × Int := if AreaOk seq s then ((areaL seq s).map bsOf, 0) else ([], 1500)
theorem wholeA_length (seq : Int) (n : Nat) : (wholeA seq n).length = 6 := by unfold wholeA; rw [List.length_append, lowL_length, lowL_length]
theorem secsA_length (whole : List UInt8) : ∀ (d i : Nat) (s : List UInt8), (secsA whole d i s).length = d
  | 0, _, _ => rfl
  | d + 1, i, s => by rw [secsA, List.length_cons, secsA_length whole d]
theorem areaL_length (seq : Int) (s : List UInt8) : (areaL seq s).length = 24 := secsA_length _ _ _ _
theorem aput_no {seq : Int} {s : List UInt8} (h : ¬ AreaOk seq s) : aputA seq s = ([], 1500) := by unfold aputA; rw [if_neg h]
theorem aput_yes {seq : Int} {s : List UInt8} (h : AreaOk seq s) : aputA seq s = ((areaL seq s).map bsOf, 0) := by unfold aputA; rw [if_pos h]
theorem aput_loop (whole : List UInt8) (hw : whole.length = 6) : ∀ (d i : Nat) (s : List UInt8) (pre : List (List UInt8)), i + d = 24 → pre.length = i → s.length ≤ 2000 →
    Ev (fun k => area_Put.l0 k (bsOf s) (bsOf whole) (pre.map bsOf) (i : Int)) ((pre ++ secsA whole d i s).map bsOf, 0) := by
  intro d
  induction d with
  | zero =>
    intro i s pre hi hp hs
    refine ev_succ ?_
    simp only [area_Put.l0]
    refine ev_neg (by omega) ?_
    rw [secsA, List.append_nil]
    exact Ev.now _
  | succ d ih =>
    intro i s pre hi hp hs
    refine ev_succ ?_
    simp only [area_Put.l0, blank_eq, Option.bind_some]
    have hm : mn 52 ((bsOf s).size : Int) = ((min 52 s.length : Nat) : Int) := by rw [mn_eq, bs_size]; omega
    have hz : (52 : Int) - ((min 52 s.length : Nat) : Int) = ((52 - s.length : Nat) : Int) := by omega
    rw [hm, hz, Int.toNat_natCast, Int.toNat_natCast, bs_extract, bs_extract, bs_extract, bs_size, bs_size]
    have e1 : (s.drop 0).take (min 52 s.length - 0) = s.take 52 := by
      rw [List.drop_zero, Nat.sub_zero, List.take_eq_take_iff]; omega
    have e2 : ((List.replicate 64 (0 : UInt8)).drop 0).take (52 - s.length - 0) = List.replicate (52 - s.length) 0 := by
      rw [List.drop_zero, Nat.sub_zero, List.take_replicate, Nat.min_eq_left (by omega)]
    have e3 : (s.drop (min 52 s.length)).take (s.length - min 52 s.length) = s.drop 52 := by
      rw [List.take_of_length_le (by rw [List.length_drop]; omega)]
      by_cases g : 52 ≤ s.length
      · rw [Nat.min_eq_left g]
      · rw [List.drop_of_length_le (by omega), List.drop_of_length_le (by omega)]
    rw [e1, e2, e3, List.length_replicate, bs_size, bs_size, bs_append, List.length_take, List.length_replicate, show (⟨#[77]⟩ : ByteArray) = bsOf [77] from rfl]
    refine ev_pos (by omega) (ev_pos (by omega) (ev_pos (by omega) (ev_pos (by omega) (ev_pos (by omega) (ev_pos (by omega) ?_)))))
    refine Ev.bind (frame_Low_ev (i : Int) 1 (by omega)) (ev_pos (by rw [bs_size, lowL_length]; omega) ?_)
    rw [bs_append, bs_append, bs_append, bs_size, bs_size, bs_size, bs_size]
    have hl : ([77] ++ lowL (i : Int) 1 ++ whole ++ (s.take 52 ++ List.replicate (52 - s.length) 0)).length = 60 := by
      simp only [List.length_append, lowL_length, List.length_cons, List.length_nil, List.length_take, List.length_replicate, hw]; omega
    refine ev_pos (by simp only [List.length_append, lowL_length, List.length_cons, List.length_nil, hw]; omega) (ev_pos (by simp only [List.length_append, lowL_length, List.length_cons, List.length_nil, List.length_take, List.length_replicate, hw]; omega) ?_)
    refine Ev.bind (frame_Sealed_ev _ (by rw [hl]; omega) (by rw [hl]; omega)) (ev_pos (by rw [List.length_map]; omega) ?_)
    rw [w64 (by omega) (by omega), show pre.map bsOf ++ [bsOf (sealedL ([77] ++ lowL (i : Int) 1 ++ whole ++ (s.take 52 ++ List.replicate (52 - s.length) 0)))] = (pre ++ [sealedL ([77] ++ lowL (i : Int) 1 ++ whole ++ (s.take 52 ++ List.replicate (52 - s.length) 0))]).map bsOf from by rw [List.map_append]; rfl]
    have := ih (i + 1) (s.drop 52) (pre ++ [sealedL ([77] ++ lowL (i : Int) 1 ++ whole ++ (s.take 52 ++ List.replicate (52 - s.length) 0))]) (by omega) (by rw [List.length_append, hp]; rfl) (by rw [List.length_drop]; omega)
    rw [secsA]
    generalize sealedL ([77] ++ lowL (i : Int) 1 ++ whole ++ (s.take 52 ++ List.replicate (52 - s.length) 0)) = X at this ⊢
    rw [List.append_assoc, List.singleton_append] at this
    exact this
theorem area_Put_ev (seq : Int) (s : List UInt8) (hs : s.length ≤ 140737488351232) : Ev (fun k => area_Put.f k seq (bsOf s)) (aputA seq s) := by
  have no : Ev (fun k => area_Put.j0 k seq (bsOf s) true) ([], 1500) := by
    refine ev_succ ?_
    simp only [area_Put.j0]
    exact ev_pos trivial (Ev.now _)
  unfold area_Put.f
  by_cases h1 : seq < 0
  · rw [aput_no (by unfold AreaOk; omega)]; exact ev_pos h1 no
  refine ev_neg h1 ?_
  by_cases h2 : seq > 1048576
  · rw [aput_no (by unfold AreaOk; omega)]; exact ev_pos h2 no
  refine ev_neg h2 ?_
  rw [bs_size]
  by_cases h3 : (s.length : Int) > 1248
  · rw [aput_no (by unfold AreaOk; omega), decide_eq_true h3]; exact no
  · rw [aput_yes (by unfold AreaOk; omega), decide_eq_false h3]
    refine ev_succ ?_
    simp only [area_Put.j0]
    refine ev_neg (by simp) ?_
    rw [bs_size]
    refine Ev.bind (frame_Low_ev (s.length : Int) 2 (by omega)) (Ev.bind (frame_Low_ev seq 4 (by omega)) (ev_pos (by rw [bs_size, bs_size, lowL_length, lowL_length]; omega) ?_))
    rw [bs_append]
    exact aput_loop (wholeA seq s.length) (wholeA_length _ _) 24 0 s [] (by omega) rfl (by omega)
/-- what stands in sectors of a text -/
def textOf : List (List UInt8) → List UInt8
  | [] => []
  | t :: r => (t.drop 8).take 52 ++ textOf r
/-- an area's size -/
def sizeOfA (l : List (List UInt8)) : Int := numL (((l.headD []).drop 2).take 2)
/-- an area's number -/
def seqOfA (l : List (List UInt8)) : Int := numL (((l.headD []).drop 4).take 4)
/-- are sectors an area's? -/
def GetOk (l : List (List UInt8)) : Prop := l.length = 24 ∧ (∀ t, t ∈ l → t.length = 64) ∧ sizeOfA l ≤ ((textOf l).length : Int) ∧ AreaOk (seqOfA l) ((textOf l).take (sizeOfA l).toNat) ∧ areaL (seqOfA l) ((textOf l).take (sizeOfA l).toNat) = l
open Classical in
/-- Get's answer -/
noncomputable def agetA (l : List (List UInt8)) : Int × ByteArray × Int := if GetOk l then (seqOfA l, bsOf ((textOf l).take (sizeOfA l).toNat), 0) else (0, bsOf [], 1500)
theorem aget_no {l : List (List UInt8)} (h : ¬ GetOk l) : agetA l = (0, bsOf [], 1500) := by unfold agetA; rw [if_neg h]
theorem aget_yes {l : List (List UInt8)} (h : GetOk l) : agetA l = (seqOfA l, bsOf ((textOf l).take (sizeOfA l).toNat), 0) := by unfold agetA; rw [if_pos h]
theorem rdOf_map (l : List (List UInt8)) (i : Nat) (h : i < l.length) : rdOf ByteArray.empty (l.map bsOf) (i : Int) = bsOf l[i] := by
  simp [rdOf, List.getD_eq_getElem?_getD, List.getElem?_eq_getElem h]
theorem rdOf_head {l : List (List UInt8)} (h : 1 ≤ l.length) : rdOf ByteArray.empty (l.map bsOf) 0 = bsOf (l.headD []) := by
  match l, h with
  | t :: r, _ => rfl
theorem head_mem {l : List (List UInt8)} (h : 1 ≤ l.length) : l.headD [] ∈ l := by
  match l, h with
  | t :: r, _ => simp
theorem map_bs_inj : ∀ {a b : List (List UInt8)}, a.map bsOf = b.map bsOf → a = b
  | [], [], _ => rfl
  | [], _ :: _, h => by simp at h
  | _ :: _, [], h => by simp at h
  | x :: a, y :: b, h => by
    rw [List.map_cons, List.map_cons] at h
    injection h with h1 h2
    rw [bs_inj h1, map_bs_inj h2]
theorem equal_loop (a b : List (List UInt8)) (hl : a.length = b.length) (hb : a.length ≤ 1000000) : ∀ (d i : Nat), i + d = a.length → (a.take i = b.take i) →
    Ev (fun k => slices_Equal_string_string.l0 k (a.map bsOf) (b.map bsOf) (a.length : Int) (i : Int)) (decide (a = b)) := by
  intro d
  induction d with
  | zero =>
    intro i hi he
    refine ev_succ ?_
    simp only [slices_Equal_string_string.l0]
    refine ev_neg (by omega) ?_
    rw [List.take_of_length_le (by omega), List.take_of_length_le (by omega)] at he
    rw [decide_eq_true he]
    exact Ev.now true
  | succ d ih =>
    intro i hi he
    have h1 : i < a.length := by omega
    have h2 : i < b.length := by omega
    refine ev_succ ?_
    simp only [slices_Equal_string_string.l0]
    rw [List.length_map, List.length_map, rdOf_map a i h1, rdOf_map b i h2, bs_list, bs_list, w64 (by omega) (by omega)]
    refine ev_pos (by omega) (ev_pos (by omega) (ev_pos (by omega) (ev_pos (by omega) ?_)))
    by_cases g : a[i] = b[i]
    · refine ev_pos g (ih (i + 1) (by omega) ?_)
      rw [List.take_succ_eq_append_getElem h1, List.take_succ_eq_append_getElem h2, he, g]
    · refine ev_neg g ?_
      rw [decide_eq_false (by intro h; subst h; exact g rfl)]
      exact Ev.now false
theorem equal_ev (a b : List (List UInt8)) (hl : a.length ≤ 1000000) : Ev (fun k => slices_Equal_string_string.f k (a.map bsOf) (b.map bsOf)) (decide (a = b)) := by
  unfold slices_Equal_string_string.f
  rw [List.length_map, List.length_map]
  by_cases h : a.length = b.length
  · exact ev_pos (by omega) (equal_loop a b h hl a.length 0 (by omega) rfl)
  · rw [decide_eq_false (by intro e; subst e; exact h rfl)]
    exact ev_neg (by omega) (Ev.now false)
theorem textOf_append : ∀ (a b : List (List UInt8)), textOf (a ++ b) = textOf a ++ textOf b
  | [], b => rfl
  | t :: a, b => by rw [List.cons_append, textOf, textOf, textOf_append a b, List.append_assoc]
theorem textOf_length : ∀ (l : List (List UInt8)), (∀ t, t ∈ l → t.length = 64) → (textOf l).length = 52 * l.length
  | [], _ => rfl
  | t :: l, h => by
    have h1 := h t (by simp)
    have h2 := textOf_length l (fun x hx => h x (by simp [hx]))
    rw [textOf, List.length_append, h2, List.length_take, List.length_drop, List.length_cons]; omega
theorem aget_last (l : List (List UInt8)) (h24 : l.length = 24) (h64 : ∀ t, t ∈ l → t.length = 64) :
    Ev (fun k => area_Get.l0 k (l.map bsOf) (bsOf (textOf l)) (l.map bsOf) ((l.map bsOf).length : Int) ((24 : Nat) : Int)) (agetA l) := by
  have h0 : (l.headD []).length = 64 := h64 _ (head_mem (by omega))
  have htl := textOf_length l h64
  have hr := rdOf_head (l := l) (by omega)
  refine ev_succ ?_
  simp only [area_Get.l0, List.length_map, hr, bs_size, bs_extract, h0]
  rw [h24]
  refine ev_neg (by omega) (ev_pos (by omega) (ev_pos (by omega) (ev_pos (by omega) ?_)))
  have es : numL (((l.headD []).drop 2).take (4 - 2)) = sizeOfA l := rfl
  have eq : numL (((l.headD []).drop 4).take (8 - 4)) = seqOfA l := rfl
  have hsz := numL_range (((l.headD []).drop 2).take (4 - 2))
  have hln : (((l.headD []).drop 2).take (4 - 2)).length = 2 := by rw [List.length_take, List.length_drop]; omega
  rw [es] at hsz
  refine Ev.bind (frame_Number_ev _ (by omega)) (ev_pos (by omega) (ev_pos (by omega) (Ev.bind (frame_Number_ev _ (by rw [List.length_take]; omega)) ?_)))
  rw [es, eq]
  by_cases h1 : sizeOfA l > ((textOf l).length : Int)
  · rw [aget_no (fun h => by have := h.2.2.1; omega)]
    exact ev_pos h1 (Ev.now _)
  refine ev_neg h1 (ev_pos hsz.1 (ev_pos (by omega) ?_))
  rw [List.drop_zero, Nat.sub_zero]
  refine Ev.bind (area_Put_ev (seqOfA l) ((textOf l).take (sizeOfA l).toNat) (by rw [List.length_take]; omega)) ?_
  by_cases h2 : AreaOk (seqOfA l) ((textOf l).take (sizeOfA l).toNat)
  · rw [aput_yes h2]
    refine ev_pos rfl (Ev.bind (equal_ev (areaL (seqOfA l) ((textOf l).take (sizeOfA l).toNat)) l (by rw [areaL_length]; omega)) ?_)
    by_cases h3 : areaL (seqOfA l) ((textOf l).take (sizeOfA l).toNat) = l
    · rw [decide_eq_true h3, aget_yes ⟨h24, h64, by omega, h2, h3⟩]
      exact ev_pos rfl (Ev.now _)
    · rw [decide_eq_false h3, aget_no (fun h => h3 h.2.2.2.2)]
      exact ev_neg (by simp) (Ev.now _)
  · rw [aput_no h2, aget_no (fun h => h2 h.2.2.2.1)]
    exact ev_neg (by simp) (Ev.now _)
theorem aget_loop (l : List (List UInt8)) (h24 : l.length = 24) : ∀ (d i : Nat), i + d = 24 → (∀ t, t ∈ l.take i → t.length = 64) →
    Ev (fun k => area_Get.l0 k (l.map bsOf) (bsOf (textOf (l.take i))) (l.map bsOf) ((l.map bsOf).length : Int) (i : Int)) (agetA l) := by
  intro d
  induction d with
  | zero =>
    intro i hi h
    rw [List.take_of_length_le (by omega)] at h
    rw [List.take_of_length_le (by omega), show i = 24 from by omega]
    exact aget_last l h24 h
  | succ d ih =>
    intro i hi h
    have hlt : i < l.length := by omega
    have htl := textOf_length (l.take i) h
    have hmin : (l.take i).length = i := by rw [List.length_take]; omega
    refine ev_succ ?_
    simp only [area_Get.l0]
    rw [List.length_map, rdOf_map l i hlt, bs_size]
    refine ev_pos (by omega) (ev_pos (by omega) (ev_pos (by omega) ?_))
    by_cases g : (l[i].length : Int) = 64
    · rw [bs_extract, bs_size, bs_size, bs_append, w64 (by omega) (by omega)]
      refine ev_pos g (ev_pos (by omega) (ev_pos (by omega) (ev_pos (by simp only [htl, List.length_take, List.length_drop]; omega) ?_)))
      have e : textOf (l.take i) ++ (l[i].drop 8).take (60 - 8) = textOf (l.take (i + 1)) := by
        rw [List.take_succ_eq_append_getElem hlt, textOf_append]; simp [textOf]
      rw [e]
      have := ih (i + 1) (by omega) (by
        intro t ht
        rw [List.take_succ_eq_append_getElem hlt, List.mem_append, List.mem_singleton] at ht
        rcases ht with ht | rfl
        · exact h t ht
        · omega)
      rw [List.length_map] at this
      exact this
    · rw [aget_no (fun hh => g (by have := hh.2.1 _ (List.getElem_mem hlt); omega))]
      exact ev_neg g (Ev.now _)
theorem area_Get_ev (l : List (List UInt8)) (hl : l.length ≤ 1000000) : Ev (fun k => area_Get.f k (l.map bsOf)) (agetA l) := by
  unfold area_Get.f
  by_cases h : l.length = 24
  · refine ev_pos (by rw [List.length_map]; omega) ?_
    exact aget_loop l h 24 0 (by omega) (by simp)
  · rw [aget_no (fun hh => h hh.1)]
    exact ev_neg (by rw [List.length_map]; omega) (Ev.now _)
theorem secsA_mem (seq : Int) (n : Nat) : ∀ (d i : Nat) (s t : List UInt8), t ∈ secsA (wholeA seq n) d i s → t.length = 64 ∧ (t.drop 2).take 2 = lowL (n : Int) 2 ∧ (t.drop 4).take 4 = lowL seq 4
  | 0, _, _, t, h => by simp [secsA] at h
  | d + 1, i, s, t, h => by
    rw [secsA, List.mem_cons] at h
    rcases h with rfl | h
    · refine ⟨?_, ?_, ?_⟩
      · rw [sealedL_length]
        simp only [List.length_append, lowL_length, List.length_cons, List.length_nil, List.length_take, List.length_replicate, wholeA_length]; omega
      · unfold sealedL wholeA
        rw [show lowL (i : Int) 1 = [byteOf i] from rfl]
        simp only [List.append_assoc, List.cons_append, List.nil_append, List.drop_succ_cons, List.drop_zero]
        rw [List.take_append_of_le_length (by rw [lowL_length]; omega), List.take_of_length_le (by rw [lowL_length]; omega)]
      · unfold sealedL wholeA
        rw [show lowL (i : Int) 1 = [byteOf i] from rfl, show (4 : Nat) = 2 + 1 + 1 from rfl]
        simp only [List.append_assoc, List.cons_append, List.nil_append, List.drop_succ_cons]
        rw [List.drop_append, List.drop_of_length_le (by rw [lowL_length]; omega), lowL_length, List.nil_append]
        simp only [Nat.sub_self, List.drop_zero]
        rw [List.take_append_of_le_length (by rw [lowL_length]; omega), List.take_of_length_le (by rw [lowL_length]; omega)]
    · exact secsA_mem seq n d (i + 1) _ t h
theorem secsA_text (seq : Int) (n : Nat) : ∀ (d i : Nat) (s : List UInt8), textOf (secsA (wholeA seq n) d i s) = s.take (52 * d) ++ List.replicate (52 * d - s.length) 0
  | 0, _, s => by simp [secsA, textOf]
  | d + 1, i, s => by
    rw [secsA, textOf, secsA_text seq n d (i + 1) (s.drop 52)]
    have hl : (s.take 52 ++ List.replicate (52 - s.length) (0 : UInt8)).length = 52 := by
      rw [List.length_append, List.length_take, List.length_replicate]; omega
    have e : ((sealedL ([77] ++ lowL (i : Int) 1 ++ wholeA seq n ++ (s.take 52 ++ List.replicate (52 - s.length) 0))).drop 8).take 52 = s.take 52 ++ List.replicate (52 - s.length) 0 := by
      unfold sealedL
      have h8 : ([77] ++ lowL (i : Int) 1 ++ wholeA seq n).length = 8 := by
        simp only [List.length_append, lowL_length, List.length_cons, List.length_nil, wholeA_length]
      rw [List.append_assoc, List.drop_append, List.drop_of_length_le (by omega), h8, List.nil_append, Nat.sub_self, List.drop_zero, List.take_append_of_le_length (by omega), List.take_of_length_le (by omega)]
    rw [e]
    by_cases g : 52 ≤ s.length
    · rw [show 52 - s.length = 0 from by omega, List.replicate_zero, List.append_nil, ← List.append_assoc, ← List.take_add, List.length_drop, show 52 + 52 * d = 52 * (d + 1) from by omega, show 52 * d - (s.length - 52) = 52 * (d + 1) - s.length from by omega]
    · rw [List.drop_of_length_le (l := s) (by omega), List.take_nil, List.nil_append, List.length_nil, List.append_assoc, List.replicate_append_replicate, List.take_of_length_le (by omega), List.take_of_length_le (by omega), show 52 - s.length + (52 * d - 0) = 52 * (d + 1) - s.length from by omega]
theorem areaL_head (seq : Int) (s : List UInt8) : (areaL seq s).headD [] ∈ areaL seq s := by
  have h := areaL_length seq s
  match areaL seq s, h with
  | t :: r, _ => simp
theorem aget_put {seq : Int} {s : List UInt8} (h : AreaOk seq s) : agetA (areaL seq s) = (seq, bsOf s, 0) := by
  have hm := secsA_mem seq s.length 24 0 s _ (areaL_head seq s)
  obtain ⟨h1, h2, h3⟩ := h
  have hsz : sizeOfA (areaL seq s) = (s.length : Int) := by
    unfold sizeOfA
    rw [hm.2.1]
    exact numL_low 2 (s.length : Int) (by omega) (by omega)
  have hsq : seqOfA (areaL seq s) = seq := by
    unfold seqOfA
    rw [hm.2.2]
    exact numL_low 4 seq (by omega) (by omega)
  have htx : textOf (areaL seq s) = s ++ List.replicate (1248 - s.length) 0 := by
    unfold areaL
    rw [secsA_text, List.take_of_length_le (by omega)]
  have htk : (textOf (areaL seq s)).take (sizeOfA (areaL seq s)).toNat = s := by
    rw [htx, hsz, Int.toNat_natCast, List.take_append_of_le_length (by omega), List.take_of_length_le (by omega)]
  have ok : GetOk (areaL seq s) := ⟨areaL_length seq s, fun t ht => (secsA_mem seq s.length 24 0 s t ht).1, by rw [hsz, htx, List.length_append]; omega, by rw [hsq, htk]; exact ⟨h1, h2, h3⟩, by rw [hsq, htk]⟩
  rw [aget_yes ok, hsq, htk]
/-- the bytes that long fills -/
def longI (b : Int) : Nat → Nat → List Int
  | 0, _ => []
  | d + 1, i => (b + (i : Int) % 7 % 256) % 256 :: longI b d (i + 1)
/-- a text of so many bytes -/
def longL (n : Nat) (b : Int) : List UInt8 := (longI b n 0).map byteOf
theorem longI_length (b : Int) : ∀ d i, (longI b d i).length = d
  | 0, _ => rfl
  | d + 1, i => by rw [longI, List.length_cons, longI_length b d]
theorem longI_range (b : Int) : ∀ d i x, x ∈ longI b d i → 0 ≤ x ∧ x < 256
  | 0, _, x, h => by simp [longI] at h
  | d + 1, i, x, h => by
    rw [longI, List.mem_cons] at h
    rcases h with rfl | h
    · omega
    · exact longI_range b d (i + 1) x h
theorem longL_length (n : Nat) (b : Int) : (longL n b).length = n := by unfold longL; rw [List.length_map, longI_length]
theorem long_loop (n : Nat) (hn : n ≤ 1000000) (b : Int) : ∀ (d i : Nat) (pre : List Int), pre.length = i → i + d = n → Ev (fun k => ossuarylaw15_long.l0 k (n : Int) b (pre ++ List.replicate d 0) (i : Int)) (strOfNums (pre ++ longI b d i)) := by
  intro d
  induction d with
  | zero =>
    intro i pre hp hi
    refine ev_succ ?_
    simp only [ossuarylaw15_long.l0]
    refine ev_neg (by omega) ?_
    simp only [List.replicate_zero, longI]
    exact Ev.now _
  | succ d ih =>
    intro i pre hp hi
    refine ev_succ ?_
    simp only [ossuarylaw15_long.l0]
    refine ev_pos (by omega) (ev_pos (by omega) (ev_pos (by rw [List.length_append, List.length_replicate]; omega) ?_))
    rw [w64 (by omega) (by omega), Int.toNat_natCast, tm (x := (i : Int)) 7 (by omega)]
    have e : (pre ++ List.replicate (d + 1) 0).set i ((b + (i : Int) % 7 % 256) % 256) = (pre ++ [(b + (i : Int) % 7 % 256) % 256]) ++ List.replicate d 0 := by
      rw [List.set_append_right _ _ (by omega), hp, Nat.sub_self, List.replicate_succ, List.set_cons_zero, List.append_assoc, List.singleton_append]
    have e2 : pre ++ longI b (d + 1) i = (pre ++ [(b + (i : Int) % 7 % 256) % 256]) ++ longI b d (i + 1) := by
      rw [longI, List.append_assoc, List.singleton_append]
    rw [e, e2]
    exact ih (i + 1) _ (by rw [List.length_append, hp]; rfl) (by omega)
theorem long_ev (n : Nat) (hn : n ≤ 1000000) (b : Int) : Ev (fun k => ossuarylaw15_long.f k (n : Int) b) (bsOf (longL n b)) := by
  unfold ossuarylaw15_long.f
  refine ev_pos (by omega) ?_
  rw [Int.toNat_natCast]
  refine ev_pos (by omega) ?_
  have := long_loop n hn b n 0 [] rfl (by omega)
  rw [List.nil_append, List.nil_append, str_nums _ (longI_range b n 0)] at this
  exact this
theorem abc_ok : AreaOk 7 [97, 98, 99] := ⟨by omega, by omega, by decide⟩
theorem awake15 : Ev (fun k => ossuarylaw15_awake.f k) true := by
  unfold ossuarylaw15_awake.f
  rw [show (⟨#[97, 98, 99]⟩ : ByteArray) = bsOf [97, 98, 99] from rfl]
  refine Ev.bind (area_Put_ev 7 [97, 98, 99] (by decide)) ?_
  rw [aput_yes abc_ok]
  have hl := areaL_length 7 [97, 98, 99]
  refine Ev.bind (area_Get_ev _ (by rw [hl]; omega)) ?_
  rw [aget_put abc_ok]
  have hm : mn (((areaL 7 [97, 98, 99]).map bsOf).length : Int) 3 = ((3 : Nat) : Int) := by rw [mn_eq, List.length_map, hl]; omega
  simp only [hm, Int.toNat_natCast]
  rw [← List.map_take]
  refine ev_pos (by omega) (ev_pos (by rw [List.length_map, hl]; omega) ?_)
  refine Ev.bind (area_Get_ev _ (by rw [List.length_take, hl]; omega)) ?_
  rw [aget_no (fun h => by have := h.1; rw [List.length_take, hl] at this; omega)]
  refine Ev.bind (long_ev 1249 (by omega) 97) (Ev.bind (area_Put_ev 7 _ (by rw [longL_length]; omega)) ?_)
  rw [aput_no (by unfold AreaOk; rw [longL_length]; omega)]
  simp only [ossuarylaw0_Num.f, Option.bind_some, if_true]
  have hr := rdOf_head (l := areaL 7 [97, 98, 99]) (by rw [hl]; omega)
  have h64 := (secsA_mem 7 3 24 0 [97, 98, 99] _ (head_mem (l := areaL 7 [97, 98, 99]) (by rw [hl]; omega))).1
  simp only [hr, bs_size, bs_extract, bs_list, List.length_map, hl, h64]
  refine ev_pos (by omega) (ev_pos (by omega) (ev_pos (by omega) (ev_pos (by omega) (ev_pos (by omega) (ev_pos ?_ (ev_pos trivial ?_))))))
  · rfl
  · exact Ev.now true

theorem ref_Of_loop (s : ByteArray) (hs : s.size ≤ 140737488351232) : ∀ (n k : Nat), n ≤ s.data.toList.length → n < k →
    ossuaryref1_Of.l0 k s (ofL (s.data.toList.drop n)) ((n : Int) - 1) = some (ofL s.data.toList) := by
  intro n
  have hl := data_len s
  induction n with
  | zero =>
    intro k _ hk
    obtain ⟨k, rfl⟩ : ∃ m, k = m + 1 := ⟨k - 1, by omega⟩
    simp only [ossuaryref1_Of.l0]
    rw [if_neg (by omega), List.drop_zero]
  | succ n ih =>
    intro k hn hk
    obtain ⟨k, rfl⟩ : ∃ m, k = m + 1 := ⟨k - 1, by omega⟩
    have hr := ofL_range (s.data.toList.drop (n + 1))
    have hb := bt_range s (n : Int)
    rw [show (((n + 1 : Nat) : Int) - 1) = (n : Int) from by omega]
    simp only [ossuaryref1_Of.l0]
    rw [if_pos (by omega), if_pos (by omega), if_pos (by omega), of_step hr.1 hr.2 hb.1 hb.2, w64 (x := (n : Int) - 1) (by omega) (by omega), bt_get s n (by omega)]
    have := ih k (by omega) (by omega)
    rw [List.drop_eq_getElem_cons (by omega)] at this
    exact this
theorem ref_Of_at (s : ByteArray) (hs : s.size ≤ 140737488351232) (k : Nat) (hk : s.size < k) : ossuaryref1_Of.f k s = some (ofL s.data.toList) := by
  have hl := data_len s
  have := ref_Of_loop s hs s.data.toList.length k (by omega) (by omega)
  rw [List.drop_length] at this
  unfold ossuaryref1_Of.f
  rw [w64 (by omega) (by omega), ← hl]
  exact this
theorem ref_Of_ev (s : ByteArray) (hs : s.size ≤ 140737488351232) : Ev (fun k => ossuaryref1_Of.f k s) (ofL s.data.toList) :=
  ev_ge (s.size + 1) (fun k hk => ref_Of_at s hs k (by omega))

theorem div256 (x : Int) (i : Nat) (h : i ≤ 6) : x / 256 ^ i / 256 = x / 256 ^ (i + 1) := by
  have c : i = 0 ∨ i = 1 ∨ i = 2 ∨ i = 3 ∨ i = 4 ∨ i = 5 ∨ i = 6 := by omega
  rcases c with e | e | e | e | e | e | e <;> subst e <;> simp only [Int.reducePow, Nat.reduceAdd] <;> omega
theorem shr_byte (x : Int) (i : Nat) (h : i ≤ 6) : shr .i64 x (wrap64 (8 * (i : Int))) % 256 = x / 256 ^ i % 256 := by
  have e : (2 : Int) ^ min (wrap64 (8 * (i : Int))).toNat IntKind.i64.bits = 256 ^ i := by
    have c : i = 0 ∨ i = 1 ∨ i = 2 ∨ i = 3 ∨ i = 4 ∨ i = 5 ∨ i = 6 := by omega
    rcases c with e | e | e | e | e | e | e <;> subst e <;> decide +kernel
  unfold shr
  rw [e]
theorem rbytes_loop (x : Int) (N : Nat) (hN : N ≤ 6) : ∀ (d i : Nat) (pre : List Int), pre.length = i → i + d = N → Ev (fun k => ossuaryref13_bytes.l0 k x (N : Int) pre (i : Int)) (strOfNums (pre ++ lowI (x / 256 ^ i) d)) := by
  intro d
  induction d with
  | zero =>
    intro i pre hp hi
    refine ev_succ ?_
    simp only [ossuaryref13_bytes.l0]
    refine ev_neg (by omega) ?_
    rw [lowI, List.append_nil]
    exact Ev.now _
  | succ d ih =>
    intro i pre hp hi
    refine ev_succ ?_
    simp only [ossuaryref13_bytes.l0]
    rw [shr_byte x i (by omega)]
    refine ev_pos (by omega) (ev_pos (by rw [w64 (by omega) (by omega)]; omega) (ev_pos (by omega) ?_))
    rw [w64 (x := (i : Int) + 1) (by omega) (by omega)]
    have e2 : pre ++ lowI (x / 256 ^ i) (d + 1) = (pre ++ [x / 256 ^ i % 256]) ++ lowI (x / 256 ^ (i + 1)) d := by
      rw [lowI, List.append_assoc, List.singleton_append, div256 x i (by omega)]
    rw [e2]
    exact ih (i + 1) _ (by rw [List.length_append, hp]; rfl) (by omega)
theorem ref_bytes_ev (x : Int) (n : Nat) (hn : n ≤ 6) : Ev (fun k => ossuaryref13_bytes.f k x (n : Int)) (bsOf (lowL x n)) := by
  unfold ossuaryref13_bytes.f
  have := rbytes_loop x n hn n 0 [] rfl (by omega)
  rw [List.nil_append, str_nums _ (lowI_range n _), lowI_bytes] at this
  simpa using this
theorem ref_zeros_eq (n : Nat) (h : n ≤ 1000000) : ossuaryref13_zeros.f (n : Int) = some (bsOf (List.replicate n 0)) := by
  unfold ossuaryref13_zeros.f
  rw [if_pos (by omega), Int.toNat_natCast, if_pos (by omega), str_nums _ (by intro x hx; have := (List.mem_replicate.mp hx).2; omega)]
  rw [List.map_replicate]
  rfl
theorem rnum_loop (l : List UInt8) (hl : l.length ≤ 6) : ∀ (n : Nat), n ≤ l.length → Ev (fun k => ossuaryref13_number.l0 k (bsOf l) (numL (l.drop n)) ((n : Int) - 1)) (numL l) := by
  intro n
  induction n with
  | zero =>
    intro _
    refine ev_succ ?_
    simp only [ossuaryref13_number.l0]
    rw [List.drop_zero]
    exact ev_neg (by omega) (Ev.now _)
  | succ n ih =>
    intro hn
    have hlt : n < l.length := by omega
    have hr := numL_range (l.drop (n + 1))
    have hp : (256 : Int) ^ (l.drop (n + 1)).length ≤ 256 ^ 6 := pow256 _ (by rw [List.length_drop]; omega)
    have hb := u8_range l[n]
    refine ev_succ ?_
    simp only [ossuaryref13_number.l0]
    rw [show (((n + 1 : Nat) : Int) - 1) = (n : Int) from by omega]
    refine ev_pos (by omega) (ev_pos (by omega) (ev_pos (by rw [bs_size]; omega) ?_))
    rw [bs_bt l n hlt, w64 (x := (n : Int) - 1) (by omega) (by omega)]
    have h := or_byte (numL (l.drop (n + 1))) (l[n].toNat : Int) hr.1 (by omega) hb.1 hb.2
    rw [h.resolve_right (by omega)]
    have := ih (by omega)
    rw [List.drop_eq_getElem_cons hlt, numL] at this
    exact this
theorem ref_number_ev (l : List UInt8) (hl : l.length ≤ 6) : Ev (fun k => ossuaryref13_number.f k (bsOf l)) (numL l) := by
  unfold ossuaryref13_number.f
  rw [bs_size, w64 (by omega) (by omega)]
  have := rnum_loop l hl l.length (by omega)
  rw [List.drop_length] at this
  exact this

theorem ref_put_loop (seq : Int) (s : List UInt8) (hs : s.length ≤ 1248) : ∀ (d i : Nat) (pre : List (List UInt8)), i + d = 24 → pre.length = i →
    Ev (fun k => ossuaryref13_PutArea.l0 k seq (bsOf s) (pre.map bsOf) (i : Int)) ((pre ++ secsA (wholeA seq s.length) d i (s.drop (52 * i))).map bsOf, 0) := by
  intro d
  induction d with
  | zero =>
    intro i pre hi hp
    refine ev_succ ?_
    simp only [ossuaryref13_PutArea.l0]
    refine ev_neg (by omega) ?_
    rw [secsA, List.append_nil]
    exact Ev.now _
  | succ d ih =>
    intro i pre hi hp
    refine ev_succ ?_
    simp only [ossuaryref13_PutArea.l0]
    have w52 : wrap64 (52 * (i : Int)) = 52 * (i : Int) := w64 (by omega) (by omega)
    have h1 : mn (wrap64 (52 * (i : Int))) ((bsOf s).size : Int) = ((min (52 * i) s.length : Nat) : Int) := by rw [mn_eq, bs_size, w52]; omega
    have h2 : mn (wrap64 ((wrap64 (52 * (i : Int))) + 52)) ((bsOf s).size : Int) = ((min (52 * i + 52) s.length : Nat) : Int) := by rw [mn_eq, bs_size, w52, w64 (by omega) (by omega)]; omega
    have e1 : (s.drop (min (52 * i) s.length)).take (min (52 * i + 52) s.length - min (52 * i) s.length) = (s.drop (52 * i)).take 52 := by
      by_cases g : 52 * i ≤ s.length
      · rw [Nat.min_eq_left g, List.take_eq_take_iff, List.length_drop]; omega
      · have a1 : s.drop (min (52 * i) s.length) = [] := List.drop_of_length_le (by omega)
        have a2 : s.drop (52 * i) = [] := List.drop_of_length_le (by omega)
        rw [a1, a2]; simp
    rw [h1, h2, Int.toNat_natCast, Int.toNat_natCast, bs_extract, e1, bs_size]
    have hpl : ((s.drop (52 * i)).take 52).length = min 52 (s.length - 52 * i) := by rw [List.length_take, List.length_drop]
    have hdl : (s.drop (52 * i)).length = s.length - 52 * i := List.length_drop
    have ihs := ih (i + 1)
    rw [show 52 * (i + 1) = 52 * i + 52 from by omega, ← List.drop_drop] at ihs
    rw [secsA]
    generalize s.drop (52 * i) = u at *
    generalize hP : u.take 52 = pc at *
    rw [show (⟨#[77]⟩ : ByteArray) = bsOf [77] from rfl]
    refine ev_pos (by omega) ?_
    refine Ev.bind (ref_bytes_ev (i : Int) 1 (by omega)) ?_
    refine ev_pos (by rw [bs_size, lowL_length]; omega) ?_
    refine Ev.bind (ref_bytes_ev (s.length : Int) 2 (by omega)) ?_
    rw [bs_append]
    refine ev_pos (by rw [bs_size, bs_size]; simp only [List.length_append, lowL_length, List.length_cons, List.length_nil]; omega) ?_
    refine Ev.bind (ref_bytes_ev seq 4 (by omega)) ?_
    rw [bs_append]
    refine ev_pos (by rw [bs_size, bs_size]; simp only [List.length_append, lowL_length, List.length_cons, List.length_nil]; omega) ?_
    rw [bs_append]
    refine ev_pos (by omega) (ev_pos (by omega) (ev_pos (by omega) (ev_pos (by rw [bs_size, bs_size]; simp only [List.length_append, lowL_length, List.length_cons, List.length_nil]; omega) ?_)))
    rw [bs_append]
    have hb : ([77] ++ lowL (i : Int) 1 ++ lowL (s.length : Int) 2 ++ lowL seq 4 ++ pc).length = 8 + pc.length := by
      simp only [List.length_append, lowL_length, List.length_cons, List.length_nil]
    generalize hB : [77] ++ lowL (i : Int) 1 ++ lowL (s.length : Int) 2 ++ lowL seq 4 ++ pc = body at *
    rw [bs_size, hb, show wrap64 (60 - ((8 + pc.length : Nat) : Int)) = ((52 - pc.length : Nat) : Int) from by rw [w64 (by omega) (by omega)]; omega, ref_zeros_eq _ (by omega)]
    refine Ev.bind (Ev.now _) ?_
    rw [bs_append, bs_size]
    refine ev_pos (by rw [List.length_replicate]; omega) ?_
    have hf : (body ++ List.replicate (52 - pc.length) (0 : UInt8)).length = 60 := by rw [List.length_append, List.length_replicate, hb]; omega
    have hsec : sealedL ([77] ++ lowL (i : Int) 1 ++ wholeA seq s.length ++ (pc ++ List.replicate (52 - u.length) 0)) = sealedL (body ++ List.replicate (52 - pc.length) 0) := by
      rw [← hB]
      unfold wholeA
      have e : 52 - u.length = 52 - pc.length := by omega
      rw [e]
      simp only [List.append_assoc]
    rw [hsec]
    generalize body ++ List.replicate (52 - pc.length) (0 : UInt8) = full at *
    refine Ev.bind (ref_Of_ev _ (by rw [bs_size]; omega)) ?_
    rw [bs_data]
    refine Ev.bind (ref_bytes_ev (ofL full) 4 (by omega)) ?_
    refine ev_pos (by rw [bs_size, bs_size, lowL_length]; omega) ?_
    refine ev_pos (by rw [List.length_map]; omega) ?_
    rw [bs_append, w64 (by omega) (by omega), show pre.map bsOf ++ [bsOf (full ++ lowL (ofL full) 4)] = (pre ++ [sealedL full]).map bsOf from by rw [List.map_append]; rfl]
    have := ihs (pre ++ [sealedL full]) (by omega) (by rw [List.length_append, hp]; rfl)
    rw [List.append_assoc, List.singleton_append] at this
    exact this
theorem ref_PutArea_ev (seq : Int) (s : List UInt8) : Ev (fun k => ossuaryref13_PutArea.f k seq (bsOf s)) (aputA seq s) := by
  have no : Ev (fun k => ossuaryref13_PutArea.j0 k seq (bsOf s) true) ([], 1500) := by
    refine ev_succ ?_
    simp only [ossuaryref13_PutArea.j0]
    exact ev_pos trivial (Ev.now _)
  unfold ossuaryref13_PutArea.f
  by_cases h1 : seq < 0
  · rw [aput_no (by unfold AreaOk; omega)]; exact ev_pos h1 no
  refine ev_neg h1 ?_
  by_cases h2 : seq > 1048576
  · rw [aput_no (by unfold AreaOk; omega)]; exact ev_pos h2 no
  refine ev_neg h2 ?_
  rw [bs_size]
  by_cases h3 : (s.length : Int) > 1248
  · rw [aput_no (by unfold AreaOk; omega), decide_eq_true h3]; exact no
  · rw [aput_yes (by unfold AreaOk; omega), decide_eq_false h3]
    refine ev_succ ?_
    simp only [ossuaryref13_PutArea.j0]
    refine ev_neg (by simp) ?_
    exact ref_put_loop seq s (by omega) 24 0 [] (by omega) rfl
theorem ref_get_cmp (l b : List (List UInt8)) (text : ByteArray) (size q : Int) (h0 : 0 ≤ size) (h1 : size ≤ (text.size : Int)) (hl : b.length = l.length) (hb : l.length ≤ 1000) : ∀ (d i : Nat), i + d = l.length → b.take i = l.take i →
    Ev (fun k => ossuaryref13_GetArea.l1 k (l.map bsOf) text size q (b.map bsOf) (i : Int)) (if b = l then (q, text.extract 0 size.toNat, 0) else (0, bsOf [], 1500)) := by
  intro d
  induction d with
  | zero =>
    intro i hi he
    refine ev_succ ?_
    simp only [ossuaryref13_GetArea.l1]
    rw [List.take_of_length_le (by omega), List.take_of_length_le (by omega)] at he
    rw [if_pos he, List.length_map]
    exact ev_neg (by omega) (ev_pos h0 (ev_pos h1 (Ev.now _)))
  | succ d ih =>
    intro i hi he
    have g1 : i < b.length := by omega
    have g2 : i < l.length := by omega
    refine ev_succ ?_
    simp only [ossuaryref13_GetArea.l1]
    rw [List.length_map, List.length_map, rdOf_map b i g1, rdOf_map l i g2, bs_list, bs_list, w64 (by omega) (by omega)]
    refine ev_pos (by omega) (ev_pos (by omega) (ev_pos (by omega) ?_))
    by_cases g : b[i] = l[i]
    · refine ev_pos g (ih (i + 1) (by omega) ?_)
      rw [List.take_succ_eq_append_getElem g1, List.take_succ_eq_append_getElem g2, he, g]
    · refine ev_neg g ?_
      rw [if_neg (by intro h; subst h; exact g rfl)]
      exact Ev.now _
theorem ref_get_last (l : List (List UInt8)) (h24 : l.length = 24) (h64 : ∀ t, t ∈ l → t.length = 64) :
    Ev (fun k => ossuaryref13_GetArea.l0 k (l.map bsOf) (bsOf (textOf l)) ((24 : Nat) : Int)) (agetA l) := by
  have h0 : (l.headD []).length = 64 := h64 _ (head_mem (by omega))
  have htl := textOf_length l h64
  have hr := rdOf_head (l := l) (by omega)
  refine ev_succ ?_
  simp only [ossuaryref13_GetArea.l0, List.length_map, hr, bs_size, bs_extract, h0]
  rw [h24]
  refine ev_neg (by omega) (ev_pos (by omega) (ev_pos (by omega) (ev_pos (by omega) ?_)))
  have es : numL (((l.headD []).drop 2).take (4 - 2)) = sizeOfA l := rfl
  have eq : numL (((l.headD []).drop 4).take (8 - 4)) = seqOfA l := rfl
  have hsz := numL_range (((l.headD []).drop 2).take (4 - 2))
  have hln : (((l.headD []).drop 2).take (4 - 2)).length = 2 := by rw [List.length_take, List.length_drop]; omega
  rw [es] at hsz
  refine Ev.bind (ref_number_ev _ (by omega)) (ev_pos (by omega) (ev_pos (by omega) (Ev.bind (ref_number_ev _ (by rw [List.length_take]; omega)) ?_)))
  rw [es, eq]
  by_cases h1 : sizeOfA l > ((textOf l).length : Int)
  · rw [aget_no (fun h => by have := h.2.2.1; omega)]
    exact ev_pos h1 (Ev.now _)
  refine ev_neg h1 (ev_pos hsz.1 (ev_pos (by omega) ?_))
  rw [List.drop_zero, Nat.sub_zero]
  refine Ev.bind (ref_PutArea_ev (seqOfA l) ((textOf l).take (sizeOfA l).toNat)) ?_
  by_cases h2 : AreaOk (seqOfA l) ((textOf l).take (sizeOfA l).toNat)
  · rw [aput_yes h2]
    refine ev_pos rfl ?_
    have hc := ref_get_cmp l (areaL (seqOfA l) ((textOf l).take (sizeOfA l).toNat)) (bsOf (textOf l)) (sizeOfA l) (seqOfA l) hsz.1 (by rw [bs_size]; omega) (by rw [areaL_length, h24]) (by omega) 24 0 (by omega) rfl
    rw [bs_extract, List.drop_zero, Nat.sub_zero] at hc
    by_cases h3 : areaL (seqOfA l) ((textOf l).take (sizeOfA l).toNat) = l
    · rw [if_pos h3] at hc
      rw [aget_yes ⟨h24, h64, by omega, h2, h3⟩]
      exact hc
    · rw [if_neg h3] at hc
      rw [aget_no (fun h => h3 h.2.2.2.2)]
      exact hc
  · rw [aput_no h2, aget_no (fun h => h2 h.2.2.2.1)]
    exact ev_neg (by simp) (Ev.now _)
theorem ref_get_loop (l : List (List UInt8)) (h24 : l.length = 24) : ∀ (d i : Nat), i + d = 24 → (∀ t, t ∈ l.take i → t.length = 64) →
    Ev (fun k => ossuaryref13_GetArea.l0 k (l.map bsOf) (bsOf (textOf (l.take i))) (i : Int)) (agetA l) := by
  intro d
  induction d with
  | zero =>
    intro i hi h
    rw [List.take_of_length_le (by omega)] at h
    rw [List.take_of_length_le (by omega), show i = 24 from by omega]
    exact ref_get_last l h24 h
  | succ d ih =>
    intro i hi h
    have hlt : i < l.length := by omega
    have htl := textOf_length (l.take i) h
    have hmin : (l.take i).length = i := by rw [List.length_take]; omega
    refine ev_succ ?_
    simp only [ossuaryref13_GetArea.l0]
    rw [List.length_map, rdOf_map l i hlt, bs_size]
    refine ev_pos (by omega) (ev_pos (by omega) ?_)
    by_cases g : (l[i].length : Int) = 64
    · rw [bs_extract, bs_size, bs_size, bs_append, w64 (by omega) (by omega)]
      refine ev_pos g (ev_pos (by omega) (ev_pos (by omega) (ev_pos (by simp only [htl, List.length_take, List.length_drop]; omega) ?_)))
      have e : textOf (l.take i) ++ (l[i].drop 8).take (60 - 8) = textOf (l.take (i + 1)) := by
        rw [List.take_succ_eq_append_getElem hlt, textOf_append]; simp [textOf]
      rw [e]
      have := ih (i + 1) (by omega) (by
        intro t ht
        rw [List.take_succ_eq_append_getElem hlt, List.mem_append, List.mem_singleton] at ht
        rcases ht with ht | rfl
        · exact h t ht
        · omega)
      exact this
    · rw [aget_no (fun hh => g (by have := hh.2.1 _ (List.getElem_mem hlt); omega))]
      exact ev_neg g (Ev.now _)
theorem ref_GetArea_ev (l : List (List UInt8)) : Ev (fun k => ossuaryref13_GetArea.f k (l.map bsOf)) (agetA l) := by
  unfold ossuaryref13_GetArea.f
  have no : Ev (fun k => ossuaryref13_GetArea.j0 k (l.map bsOf) true) (0, bsOf [], 1500) := by
    refine ev_succ ?_
    simp only [ossuaryref13_GetArea.j0]
    exact ev_pos trivial (Ev.now _)
  rw [List.length_map]
  by_cases h : l.length = 24
  · refine ev_pos (by omega) (ev_pos (by omega) ?_)
    rw [rdOf_head (by omega), bs_size]
    by_cases g : (l.headD []).length = 64
    · rw [show (((l.headD []).length : Int) != 64) = false from by rw [bne_eq_false_iff_eq]; omega]
      refine ev_succ ?_
      simp only [ossuaryref13_GetArea.j0]
      refine ev_neg (by simp) ?_
      exact ref_get_loop l h 24 0 (by omega) (by simp)
    · rw [show (((l.headD []).length : Int) != 64) = true from by rw [bne_iff_ne]; omega, aget_no (fun hh => g (hh.2.1 _ (head_mem (by omega))))]
      exact no
  · rw [aget_no (fun hh => h hh.1)]
    exact ev_neg (by omega) no
theorem area_Get_any (l : List (List UInt8)) : Ev (fun k => area_Get.f k (l.map bsOf)) (agetA l) := by
  by_cases h : l.length = 24
  · exact area_Get_ev l (by omega)
  · unfold area_Get.f
    rw [aget_no (fun hh => h hh.1)]
    exact ev_neg (by rw [List.length_map]; omega) (Ev.now _)

theorem sameT_loop (l : List ByteArray) (hl : l.length ≤ 8796093022208) : ∀ (d i : Nat), i + d = l.length → Ev (fun k => ossuarylaw0_SameTexts.l0 k l l (i : Int)) true := by
  intro d
  induction d with
  | zero =>
    intro i hi
    refine ev_succ ?_
    simp only [ossuarylaw0_SameTexts.l0]
    exact ev_neg (by omega) (Ev.now _)
  | succ d ih =>
    intro i hi
    refine ev_succ ?_
    simp only [ossuarylaw0_SameTexts.l0]
    refine ev_pos (by omega) (ev_pos (by omega) (ev_pos (by omega) (ev_pos trivial ?_)))
    rw [w64 (by omega) (by omega)]
    exact ih (i + 1) (by omega)
theorem sameT_ev (l : List ByteArray) (hl : l.length ≤ 8796093022208) : Ev (fun k => ossuarylaw0_SameTexts.f k l l) true := by
  unfold ossuarylaw0_SameTexts.f
  exact ev_pos rfl (sameT_loop l hl l.length 0 (by omega))

theorem spoilT_loop : ∀ (d i : Nat) (l : List ByteArray), l.length ≤ 8796093022208 → i + d = l.length → (∀ j, i ≤ j → j < l.length → (l.getD j ByteArray.empty).size ≤ 1000000000) → ∃ r, Ev (fun k => ossuarylaw0_SpoilTexts.l0 k l (i : Int)) r := by
  intro d
  induction d with
  | zero =>
    intro i l hl hi _
    refine ⟨l, ev_succ ?_⟩
    simp only [ossuarylaw0_SpoilTexts.l0]
    exact ev_neg (by omega) (Ev.now _)
  | succ d ih =>
    intro i l hl hi hs
    have h := hs i (Nat.le_refl _) (by omega)
    obtain ⟨r, hr⟩ := ih (i + 1) (l.set (i : Int).toNat ((⟨#[126]⟩ : ByteArray) ++ rdOf ByteArray.empty l (i : Int))) (by rw [List.length_set]; exact hl) (by rw [List.length_set]; omega) (by
      intro j hj hjl
      rw [List.length_set] at hjl
      rw [List.getD_eq_getElem?_getD, List.getElem?_set_ne (by omega), ← List.getD_eq_getElem?_getD]
      exact hs j (by omega) hjl)
    refine ⟨r, ev_succ ?_⟩
    simp only [ossuarylaw0_SpoilTexts.l0]
    rw [w64 (x := (i : Int) + 1) (by omega) (by omega)]
    refine ev_pos (by omega) (ev_pos (by omega) (ev_pos ?_ hr))
    have e : rdOf ByteArray.empty l (i : Int) = l.getD i ByteArray.empty := rfl
    rw [e]; omega
theorem spoilT_ev (l : List ByteArray) (hl : l.length ≤ 8796093022208) (hs : ∀ t ∈ l, t.size ≤ 1000000000) : ∃ r, Ev (fun k => ossuarylaw0_SpoilTexts.f k l) r := by
  obtain ⟨r, hr⟩ := spoilT_loop l.length 0 l hl (by omega) (by
    intro j _ hj
    rw [List.getD_eq_getElem?_getD, List.getElem?_eq_getElem hj]
    exact hs _ (List.getElem_mem hj))
  exact ⟨r, hr⟩

theorem aputA_sizes (seq : Int) (s : List UInt8) : (aputA seq s).1.length ≤ 24 ∧ ∀ t ∈ (aputA seq s).1, t.size ≤ 1000000000 := by
  unfold aputA
  split
  · refine ⟨by rw [List.length_map, areaL_length]; exact Nat.le_refl _, fun t ht => ?_⟩
    obtain ⟨u, hu, rfl⟩ := List.mem_map.1 ht
    rw [bs_size]
    have := (secsA_mem seq s.length 24 0 s u hu).1
    omega
  · exact ⟨by simp, by simp⟩
theorem Areas : RAreas.Pure := by
  intro seq s ts _ hs hl _ _
  apply ex_of_ev
  obtain ⟨s, rfl, hs'⟩ := bs_eta s
  have hts : ts = (ts.map (fun t => t.data.toList)).map bsOf := by
    rw [List.map_map]
    conv => lhs; rw [← List.map_id ts]
    exact List.map_congr_left (fun t _ => (bs_of t).symm)
  have hlen : (ts.map (fun t => t.data.toList)).length = ts.length := List.length_map _
  generalize ts.map (fun t => t.data.toList) = l at hts hlen
  subst hts
  rw [List.length_map] at *
  rename_i hl16 _ 
  unfold ossuarylaw15_Areas.f
  have hsz := aputA_sizes seq s
  refine Ev.bind (area_Put_ev seq s (by omega)) (Ev.bind (ref_PutArea_ev seq s) ?_)
  simp only [Option.bind_some, List.nil_append, List.length_nil]
  rw [List.length_map]
  refine ev_pos (by omega) ?_
  refine Ev.bind (area_Get_any l) (Ev.bind (ref_GetArea_ev l) (Ev.bind (sameT_ev _ (by omega)) (ev_pos rfl ?_)))
  simp only [ossuarylaw0_Num.f, Option.bind_some, if_true]
  rw [show ((agetA l).2.2 != (agetA l).2.2) = false from by simp]
  obtain ⟨r, hr⟩ := spoilT_ev _ (show (aputA seq s).1.length ≤ _ by omega) hsz.2
  refine ev_succ ?_
  simp only [ossuarylaw15_Areas.j0]
  refine ev_neg (by simp) (Ev.bind hr (Ev.bind (sameT_ev _ (by rw [List.length_map]; omega)) (ev_pos rfl (Ev.bind awake15 (Ev.now _)))))

end Go.Proofs.Ytmphljlooopcdaa.Pure
