/- The walk of the law SealTurned: of texts that differ in one byte seals are unlike; of pairs that differ in one number too: no condition beyond the statement. -/
import Derived.Test.YtfjkehpcgiolhaaHSealTurnedx1
import Derived.Outline
namespace Go.Proofs.Ytfjkehpcgiolhaa.Hand
open Go.RowKit Go.Proofs.Ytfjkehpcgiolhaa.HSealTurned Go.Proofs.YtfjkehpcgiolhaaW.PrintWords Go.Proofs.YtfjkehpcgiolhaaW.PrintLast Go.Proofs.YtfjkehpcgiolhaaW.PrintMore
set_option linter.unusedVariables false
set_option linter.unusedSimpArgs false
theorem wf64 {x : Int} (h : (Lit.int .i64 x).wf = true) : -9223372036854775808 ≤ x ∧ x ≤ 9223372036854775807 := by
  simp only [Lit.wf, Bool.and_eq_true, decide_eq_true_eq] at h
  have e1 : IntKind.i64.min = -9223372036854775808 := by decide
  have e2 : IntKind.i64.max = 9223372036854775807 := by decide
  omega
theorem w64 {x : Int} (h0 : -9223372036854775808 ≤ x) (h1 : x ≤ 9223372036854775807) : wrap64 x = x := by
  unfold wrap64; omega
theorem tm {x : Int} (m : Int) (h0 : 0 ≤ x) : Int.tmod x m = x % m := Int.tmod_eq_emod_of_nonneg h0
theorem data_len (s : ByteArray) : s.data.toList.length = s.size := by rw [Array.length_toList]; rfl
theorem bt_get (s : ByteArray) (n : Nat) (h : n < s.data.toList.length) : bt s (n : Int) = ((s.data.toList[n]'h).toNat : Int) := by
  have h' : n < s.size := by rw [data_len] at h; exact h
  unfold bt
  rw [dif_pos (show (n : Int).toNat < s.size from by simpa using h')]
  simp [ByteArray.getElem_eq_getElem_data]
/-- enough rounds -/
theorem ex_of_ev {α : Type} {g : Nat → Option α} {r : α} (h : Ev g r) : ∃ k, g k = some r := h.rounds
theorem ev_ge {α : Type} {g : Nat → Option α} {r : α} (K : Nat) (h : ∀ k, K ≤ k → g k = some r) : Ev g r := ⟨K, h⟩
theorem ev_const {α : Type} {g : Option α} {r : α} (h : g = some r) : Ev (fun _ => g) r := ⟨0, fun _ _ => h⟩
theorem ev_pos {α : Type} {c : Prop} [Decidable c] {f g : Nat → Option α} {r : α} (h : c) (hf : Ev f r) : Ev (fun k => if c then f k else g k) r := by
  simp only [if_pos h]; exact hf
theorem ev_neg {α : Type} {c : Prop} [Decidable c] {f g : Nat → Option α} {r : α} (h : ¬ c) (hg : Ev g r) : Ev (fun k => if c then f k else g k) r := by
  simp only [if_neg h]; exact hg
theorem ev_succ {α : Type} {g : Nat → Option α} {r : α} (h : Ev (fun k => g (k + 1)) r) : Ev g r := Ev.step (f := fun k => g (k + 1)) (fun _ => rfl) h

/-- the seal of a list of bytes -/
def ofL : List UInt8 → Int
  | [] => 0
  | b :: bs => (ofL bs + (b.toNat : Int) + 1) * 65537 % 2147483647
theorem ofL_range : ∀ l, 0 ≤ ofL l ∧ ofL l < 2147483647
  | [] => by simp [ofL]
  | b :: bs => by unfold ofL; omega
theorem of_step {x b : Int} (h0 : 0 ≤ x) (h1 : x < 2147483647) (b0 : 0 ≤ b) (b1 : b ≤ 255) :
    Int.tmod (wrap64 ((wrap64 ((wrap64 (x + (wrap64 b))) + 1)) * 65537)) 2147483647 = (x + b + 1) * 65537 % 2147483647 := by
  rw [w64 (x := b) (by omega) (by omega), w64 (x := x + b) (by omega) (by omega), w64 (x := x + b + 1) (by omega) (by omega), w64 (x := (x + b + 1) * 65537) (by omega) (by omega)]
  exact tm _ (by omega)
theorem seal_Of_loop (s : ByteArray) (hs : s.size ≤ 140737488351232) : ∀ (n k : Nat), n ≤ s.data.toList.length → n < k →
    seal_Of.l0 k s (ofL (s.data.toList.drop n)) ((n : Int) - 1) = some (ofL s.data.toList) := by
  intro n
  have hl := data_len s
  induction n with
  | zero =>
    intro k _ hk
    obtain ⟨k, rfl⟩ : ∃ m, k = m + 1 := ⟨k - 1, by omega⟩
    simp only [seal_Of.l0]
    rw [if_neg (by omega), List.drop_zero]
  | succ n ih =>
    intro k hn hk
    obtain ⟨k, rfl⟩ : ∃ m, k = m + 1 := ⟨k - 1, by omega⟩
    have hr := ofL_range (s.data.toList.drop (n + 1))
    have hb := bt_range s (n : Int)
    rw [show (((n + 1 : Nat) : Int) - 1) = (n : Int) from by omega]
    simp only [seal_Of.l0]
    rw [if_pos (by omega), if_pos (by omega), if_pos (by omega), of_step hr.1 hr.2 hb.1 hb.2, w64 (x := (n : Int) - 1) (by omega) (by omega), bt_get s n (by omega)]
    have := ih k (by omega) (by omega)
    rw [List.drop_eq_getElem_cons (by omega)] at this
    exact this
theorem seal_Of_at (s : ByteArray) (hs : s.size ≤ 140737488351232) (k : Nat) (hk : s.size < k) : seal_Of.f k s = some (ofL s.data.toList) := by
  have hl := data_len s
  have := seal_Of_loop s hs s.data.toList.length k (by omega) (by omega)
  rw [List.drop_length] at this
  unfold seal_Of.f
  rw [w64 (by omega) (by omega), ← hl]
  exact this
theorem seal_Of_ev (s : ByteArray) (hs : s.size ≤ 140737488351232) : Ev (fun k => seal_Of.f k s) (ofL s.data.toList) :=
  ev_ge (s.size + 1) (fun k hk => seal_Of_at s hs k (by omega))

/-- the seal of two seals -/
def pairS (a b : Int) : Int := (911 + a % 2147483647 * 65537 + b % 2147483647 * 65537 * 65537) % 2147483647
theorem pairS_range (a b : Int) : 0 ≤ pairS a b ∧ pairS a b < 2147483647 := by unfold pairS; omega
theorem tm_neg {a : Int} (h : a < 0) : Int.tmod a 2147483647 = -((-a) % 2147483647) := by
  have := Int.neg_tmod (a := -a) (b := 2147483647)
  rw [Int.neg_neg] at this
  rw [this, tm _ (by omega)]
theorem seal_taken_eq (a : Int) : seal_taken.f a = some (a % 2147483647) := by
  unfold seal_taken.f
  by_cases h : 0 ≤ a
  · rw [tm _ h, if_neg (by omega)]
  · rw [tm_neg (by omega)]
    by_cases g : -((-a) % 2147483647) < 0
    · rw [if_pos g, w64 (by omega) (by omega)]
      congr 1; omega
    · rw [if_neg g]
      congr 1; omega
theorem seal_Pair_eq (a b : Int) : seal_Pair.f a b = some (pairS a b) := by
  unfold seal_Pair.f
  rw [seal_taken_eq, seal_taken_eq]
  simp only [Option.bind_some]
  congr 1
  have ha : 0 ≤ a % 2147483647 ∧ a % 2147483647 < 2147483647 := by omega
  have hb : 0 ≤ b % 2147483647 ∧ b % 2147483647 < 2147483647 := by omega
  rw [w64 (x := b % 2147483647 * 65537) (by omega) (by omega), tm (x := b % 2147483647 * 65537) _ (by omega)]
  have hc : 0 ≤ b % 2147483647 * 65537 % 2147483647 ∧ b % 2147483647 * 65537 % 2147483647 < 2147483647 := by omega
  rw [w64 (x := b % 2147483647 * 65537 % 2147483647 + a % 2147483647) (by omega) (by omega), w64 (x := (b % 2147483647 * 65537 % 2147483647 + a % 2147483647) * 65537) (by omega) (by omega), w64 (x := (b % 2147483647 * 65537 % 2147483647 + a % 2147483647) * 65537 + 911) (by omega) (by omega), tm _ (by omega)]
  unfold pairS
  omega

theorem awake9 : Ev (fun k => ossuarylaw9_awake.f k) true :=
  Ev.of (k := 10) ossuarylaw9_awake.mono (by decide +kernel)

theorem u64w (x : Int) : IntKind.u64.wrap x = x % 18446744073709551616 := by simp [IntKind.wrap, IntKind.bits, IntKind.signed]
theorem i64w (x : Int) : IntKind.i64.wrap x = (x + 9223372036854775808) % 18446744073709551616 - 9223372036854775808 := by
  simp [IntKind.wrap, IntKind.bits, IntKind.signed]
  split <;> omega
/-- x & (2^i - 1), whatever x -/
theorem and_mask (x : Int) (i : Nat) (hi : i ≤ 62) (m p : Int) (hm : m = ((2 ^ i - 1 : Nat) : Int)) (hp : p = ((2 ^ i : Nat) : Int)) : Go.bits .and .i64 x m = x % p := by
  subst hm hp
  have h2 : 2 ^ i ≤ 2 ^ 62 := Nat.pow_le_pow_right (by decide) hi
  have hpos : 0 < 2 ^ i := Nat.two_pow_pos i
  have e1 : (2 ^ i - 1) % 2 ^ 64 = 2 ^ i - 1 := Nat.mod_eq_of_lt (by omega)
  have hd : 2 ^ i ∣ 2 ^ 64 := Nat.pow_dvd_pow 2 (by omega)
  have e0 : Go.bits .and .i64 x ((2 ^ i - 1 : Nat) : Int) = IntKind.i64.wrap (((BitVec.ofInt 64 x &&& BitVec.ofInt 64 ((2 ^ i - 1 : Nat) : Int)).toNat : Nat) : Int) := rfl
  rw [e0, BitVec.ofInt_natCast, BitVec.toNat_and, BitVec.toNat_ofNat]
  rw [e1, Nat.and_two_pow_sub_one_eq_mod]
  have e2 : (BitVec.ofInt 64 x).toNat = (x % 18446744073709551616).toNat := by
    rw [BitVec.toNat_ofInt]; rfl
  rw [e2]
  have e3 : (((x % 18446744073709551616).toNat % 2 ^ i : Nat) : Int) = x % ((2 ^ i : Nat) : Int) := by
    rw [Int.natCast_emod, Int.toNat_of_nonneg (by omega)]
    have hd' : ((2 ^ i : Nat) : Int) ∣ (18446744073709551616 : Int) := Int.natCast_dvd_natCast (n := 18446744073709551616).mpr hd
    exact Int.emod_emod_of_dvd x hd'
  rw [e3]
  have h3 : 0 ≤ x % ((2 ^ i : Nat) : Int) := Int.emod_nonneg x (by omega)
  have h4 : x % ((2 ^ i : Nat) : Int) < ((2 ^ i : Nat) : Int) := Int.emod_lt_of_pos x (by omega)
  generalize x % ((2 ^ i : Nat) : Int) = y at *
  rw [i64w]; omega
/-- uint(a) % uint(n), as a place -/
def umod (a : Int) (n : Nat) : Nat := ((a % 18446744073709551616) % (n : Int)).toNat
theorem umod_lt (a : Int) (n : Nat) (h : 1 ≤ n) : umod a n < n := by
  unfold umod
  have h1 : 0 ≤ (a % 18446744073709551616) % (n : Int) := Int.emod_nonneg _ (by omega)
  have h2 : (a % 18446744073709551616) % (n : Int) < (n : Int) := Int.emod_lt_of_pos _ (by omega)
  omega
theorem umod_eq (a : Int) (n : Nat) (h : 1 ≤ n) (h' : n ≤ 4611686018427387904) : wrap64 (Int.tmod (IntKind.u64.wrap a) (IntKind.u64.wrap (n : Int))) = (umod a n : Int) := by
  have e : (n : Int) % 18446744073709551616 = (n : Int) := by omega
  rw [u64w, u64w, e, tm (x := a % 18446744073709551616) _ (by omega)]
  unfold umod
  have h1 : 0 ≤ (a % 18446744073709551616) % (n : Int) := Int.emod_nonneg _ (by omega)
  have h2 : (a % 18446744073709551616) % (n : Int) < (n : Int) := Int.emod_lt_of_pos _ (by omega)
  rw [w64 (by omega) (by omega)]; omega
theorem umod_lit (a : Int) (n : Nat) (m : Int) (hm : m = (n : Int)) (h : 1 ≤ n) (h' : n ≤ 4611686018427387904) : wrap64 (Int.tmod (IntKind.u64.wrap a) m) = (umod a n : Int) := by
  subst hm
  have := umod_eq a n h h'
  rwa [show IntKind.u64.wrap (n : Int) = (n : Int) from by rw [u64w]; omega] at this
/-- int(uint32(x) >> 2) -/
def quart (x : Int) : Int := x % 4294967296 / 4
theorem quart_range (x : Int) : 0 ≤ quart x ∧ quart x < 1073741824 := by unfold quart; omega

/-- a text of these bytes -/
def bsOf (l : List UInt8) : ByteArray := ⟨l.toArray⟩
theorem bs_list (l : List UInt8) : (bsOf l).toList = l := by unfold bsOf; simp
theorem bs_data (l : List UInt8) : (bsOf l).data.toList = l := by simp [bsOf]
theorem bs_size (l : List UInt8) : (bsOf l).size = l.length := by rw [← data_len, bs_data]
theorem bs_of (s : ByteArray) : bsOf s.data.toList = s := by simp [bsOf]
theorem bs_eta (s : ByteArray) : ∃ l, s = bsOf l ∧ l.length = s.size := ⟨s.data.toList, (bs_of s).symm, data_len s⟩
theorem ba_ext {a b : ByteArray} (h : a.data.toList = b.data.toList) : a = b := by rw [← bs_of a, ← bs_of b, h]
theorem bs_append (a b : List UInt8) : bsOf a ++ bsOf b = bsOf (a ++ b) := by
  apply ba_ext; simp [bs_data]
theorem bs_inj {a b : List UInt8} (h : bsOf a = bsOf b) : a = b := by rw [← bs_data a, ← bs_data b, h]
theorem bs_extract (l : List UInt8) (a b : Nat) : (bsOf l).extract a b = bsOf ((l.drop a).take (b - a)) := by
  apply ba_ext
  rw [bs_data, ByteArray.data_extract, Array.toList_extract, List.extract_eq_take_drop, bs_data]
theorem bs_bt (l : List UInt8) (i : Nat) (h : i < l.length) : bt (bsOf l) (i : Int) = (l[i].toNat : Int) := by
  have := bt_get (bsOf l) i (by rw [bs_data]; exact h)
  rw [this]; congr 2
theorem u8_range (b : UInt8) : 0 ≤ (b.toNat : Int) ∧ (b.toNat : Int) ≤ 255 := by
  have := b.toNat_lt; omega
/-- a byte of a number -/
def byteOf (x : Int) : UInt8 := UInt8.ofNat (x % 256).toNat
theorem byteOf_val (x : Int) : ((byteOf x).toNat : Int) = x % 256 := by
  unfold byteOf
  rw [UInt8.toNat_ofNat']
  omega
theorem byteOf_toNat (b : UInt8) : byteOf (b.toNat : Int) = b := by
  apply UInt8.toNat_inj.mp
  have h1 := byteOf_val (b.toNat : Int)
  have h2 := u8_range b
  omega
theorem str_nums (xs : List Int) (h : ∀ x, x ∈ xs → 0 ≤ x ∧ x < 256) : strOfNums xs = bsOf (xs.map byteOf) := by
  unfold strOfNums bsOf
  congr 2
  apply List.map_congr_left
  intro x hx
  have := h x hx
  unfold byteOf
  rw [Int.emod_eq_of_lt this.1 this.2]

theorem bytes_frozen (W : World) (e : TypeId) (s : ByteArray) (i : Nat) (h : i < s.size) : (Lib.bytesWorld W e s).frozen? ⟨W.heap.size, i, none⟩ = false := by
  have hs : s.size ≤ (Lib.bytesCells W e s).size := by
    have hl := data_len s
    unfold Lib.bytesCells
    simp
  simp [World.frozen?, Lib.bytesWorld_at_new]
  omega
theorem bytes_cell (W : World) (e : TypeId) (s : ByteArray) (i : Nat) (h : i < s.size) : (Lib.bytesWorld W e s).cell? ⟨W.heap.size, i, none⟩ = some (.int .u8 (bt s (i : Int))) := by
  rw [Lib.bytesWorld_cell W e s i h, bt_get s i (by rw [data_len]; exact h)]
  simp [List.getD_eq_getElem?_getD, List.getElem?_eq_getElem (show i < s.data.toList.length by rw [data_len]; exact h)]
/-- what stands in the bytes' place behind one store -/
theorem bytes_set_cells (W : World) (e : TypeId) (s : ByteArray) (i : Nat) (v : Int) (h : i < s.size) (n : Nat) : ∀ j, j < s.size →
    (((Lib.bytesWorld W e s).setCell ⟨W.heap.size, i, none⟩ (.int .u8 v)).drewN n).cell? ⟨W.heap.size, 0 + j, none⟩ = some (.int .u8 (((bytesOf s).set i v).getD j 0)) := by
  intro j hj
  have hl := bytesOf_length s
  rw [Nat.zero_add]
  show ((Lib.bytesWorld W e s).setCell ⟨W.heap.size, i, none⟩ (.int .u8 v)).cell? ⟨W.heap.size, j, none⟩ = _
  by_cases g : j = i
  · subst g
    rw [World.cell?_setCell_same _ _ _ (bytes_cell W e s j hj)]
    simp [List.getD_eq_getElem?_getD, List.getElem?_set, hl, hj]
  · rw [World.cell?_setCell_other _ _ _ _ (by intro he; injection he with _ h2 _; exact g h2.symm), bytes_cell W e s j hj]
    rw [← rd_bytesOf]
    simp [rd, List.getD_eq_getElem?_getD, List.getElem?_set, Ne.symm g]
theorem bytes_back {P : Program} (W : World) (src e dst : TypeId) (s : ByteArray) (i : Nat) (v : Int) (h : i < s.size) (hs : P.underlying src = some (.slice e)) (he : P.underlying e = some (.int .u8)) (hd : P.underlying dst = some .string) (n c : Nat) :
    (convert src dst (.slice (some ⟨W.heap.size, 0, none⟩) s.size c)).run P (((Lib.bytesWorld W e s).setCell ⟨W.heap.size, i, none⟩ (.int .u8 v)).drewN n) = .ok (.string (strOfNums ((bytesOf s).set i v))) (((Lib.bytesWorld W e s).setCell ⟨W.heap.size, i, none⟩ (.int .u8 v)).drewN n) :=
  run_convert_bytes_arg _ src e hs he W.heap.size 0 s.size c _ (by rw [List.length_set, bytesOf_length]) (fun j hj => bytes_set_cells W e s i v h n j hj) dst hd

/-- of a byte, with one other than 0 -/
theorem xor_byte (x : UInt8) (c : Nat) (h1 : 1 ≤ c) (h2 : c ≤ 255) : 0 ≤ bits .xor .u8 (x.toNat : Int) (c : Int) ∧ bits .xor .u8 (x.toNat : Int) (c : Int) < 256 ∧ bits .xor .u8 (x.toNat : Int) (c : Int) ≠ (x.toNat : Int) := by
  have e0 : bits .xor .u8 (x.toNat : Int) (c : Int) = IntKind.u8.wrap (((BitVec.ofInt 8 (x.toNat : Int) ^^^ BitVec.ofInt 8 (c : Int)).toNat : Nat) : Int) := rfl
  have hx := x.toNat_lt
  rw [e0, BitVec.ofInt_natCast, BitVec.ofInt_natCast, BitVec.toNat_xor, BitVec.toNat_ofNat, BitVec.toNat_ofNat, Nat.mod_eq_of_lt (by omega), Nat.mod_eq_of_lt (by omega)]
  have h3 : x.toNat ^^^ c < 2 ^ 8 := Nat.xor_lt_two_pow (by omega) (by omega)
  have h4 : x.toNat ^^^ c ≠ x.toNat := by
    intro h
    have : x.toNat ^^^ (x.toNat ^^^ c) = x.toNat ^^^ x.toNat := by rw [h]
    rw [Nat.xor_self, ← Nat.xor_assoc, Nat.xor_self, Nat.zero_xor] at this
    omega
  have e : IntKind.u8.wrap ((x.toNat ^^^ c : Nat) : Int) = ((x.toNat ^^^ c : Nat) : Int) := by
    simp [IntKind.wrap, IntKind.bits, IntKind.signed]; omega
  rw [e]; omega
theorem ofL_set_ne : ∀ (l : List UInt8) (i : Nat) (b : UInt8) (h : i < l.length), b ≠ l[i] → ofL (l.set i b) ≠ ofL l
  | [], _, _, h, _ => by simp at h
  | x :: l, 0, b, h, hb => by
    have h1 := ofL_range l
    have h2 := x.toNat_lt
    have h3 := b.toNat_lt
    have h4 : b.toNat ≠ x.toNat := fun e => hb (UInt8.toNat_inj.mp e)
    simp only [List.set, ofL]
    omega
  | x :: l, i + 1, b, h, hb => by
    have h0 := ofL_set_ne l i b (by simpa using h) (by simpa using hb)
    have h1 := ofL_range l
    have h2 := ofL_range (l.set i b)
    simp only [List.set, ofL]
    generalize ofL (l.set i b) = p at *
    generalize ofL l = q at *
    omega
theorem set_text (s : ByteArray) (i : Nat) (v : Int) (h : i < s.size) (h0 : 0 ≤ v) (h1 : v < 256) :
    strOfNums ((bytesOf s).set i v) = bsOf (s.data.toList.set i (byteOf v)) := by
  have e : bytesOf s = s.data.toList.map (fun b => (b.toNat : Int)) := by
    apply List.ext_getElem
    · rw [bytesOf_length, List.length_map, data_len]
    · intro j h1 h2
      have hj : j < s.size := by rw [bytesOf_length] at h1; exact h1
      have := rd_bytesOf s (j : Int)
      simp [rd, List.getD_eq_getElem?_getD, List.getElem?_eq_getElem h1] at this
      rw [this, bt_get s j (by rw [data_len]; exact hj)]; simp
  rw [e, str_nums]
  · congr 1
    rw [List.map_set, List.map_map]
    congr 1
    conv => rhs; rw [← List.map_id s.data.toList]
    apply List.map_congr_left
    intro b _
    exact byteOf_toNat b
  · intro x hx
    rcases List.mem_or_eq_of_mem_set hx with g | g
    · obtain ⟨b, _, rfl⟩ := List.mem_map.mp g
      have := u8_range b
      omega
    · omega
/-- .. and the seal of a text with one byte that is another one -/
theorem turned_seal (s : ByteArray) (i : Nat) (c : Int) (h : i < s.size) (h1 : 1 ≤ c) (h2 : c ≤ 255) :
    ofL (strOfNums ((bytesOf s).set i (bits .xor .u8 (bt s (i : Int)) c))).data.toList ≠ ofL s.data.toList := by
  have hl := data_len s
  rw [bt_get s i (by omega)]
  obtain ⟨n, rfl⟩ : ∃ n : Nat, c = (n : Int) := ⟨c.toNat, by omega⟩
  have hx := xor_byte (s.data.toList[i]'(by omega)) n (by omega) (by omega)
  rw [set_text s i _ h hx.1 hx.2.1, bs_data]
  apply ofL_set_ne _ _ _ (by omega)
  intro e
  have := byteOf_val (bits .xor .u8 ((s.data.toList[i]'(by omega)).toNat : Int) (n : Int))
  rw [e] at this
  omega

theorem pair_calls (a b : Int) (w : World) : Calls Try.prog 11 #[.int .i64 a, .int .i64 b] w fun e w' => e = .returned (.int .i64 (pairS a b)) ∧ Drawn0 w w' :=
  seal_Pair.calls a b (pairS a b) w (seal_Pair_eq a b)
theorem seal_calls (s : ByteArray) (w : World) (hs : s.size ≤ 140737488351232) : Calls Try.prog 9 #[.string s] w fun e w' => e = .returned (.int .i64 (ofL s.data.toList)) ∧ Drawn0 w w' :=
  seal_Of.calls (s.size + 1) s _ w (seal_Of_at s hs _ (by omega))
set_option maxHeartbeats 1600000 in
set_option maxRecDepth 100000 in
theorem walk_ne (s : ByteArray) (at_ by_ a b : Int) (w : World) (hs : s.size ≤ 140737488351232) (k : Nat) (hk : ossuarylaw9_awake.f k = some true)
    (e1 : (pairS (a % 4294967296 / 4) (b % 4294967296 / 4) == pairS (a % 4294967296 / 4 + 1) (b % 4294967296 / 4)) = false)
    (e2 : (pairS (a % 4294967296 / 4) (b % 4294967296 / 4) == pairS (a % 4294967296 / 4) (b % 4294967296 / 4 + 1)) = false)
    (e3 : (a % 4294967296 / 4 != b % 4294967296 / 4) = true)
    (e4 : (pairS (a % 4294967296 / 4) (a % 4294967296 / 4) == pairS (a % 4294967296 / 4) (b % 4294967296 / 4)) = false)
    (e5 : (pairS (a % 4294967296 / 4) (a % 4294967296 / 4) == pairS (b % 4294967296 / 4) (a % 4294967296 / 4)) = false)
    (h1 : 1 ≤ s.size) (h5 : s.size ≤ 5000) (i : Nat) (hi : i < s.size) (hi2 : wrap64 (Int.tmod (IntKind.u64.wrap at_) (s.size : Int)) = (i : Int)) :
    Calls Try.prog 4 #[.string s, .int .i64 at_, .int .i64 by_, .int .i64 a, .int .i64 b] w fun e w' => e = .returned (.bool true) ∧ Below w.heap.size w w' := by
  have kb := fun W => print_bytes (P := Try.prog) 9 28 5 Try.underlying9 Try.underlying28 Try.underlying5 s W
  have kc : ∀ n, (Lib.bytesWorld (w.drewN n) 5 s).cell? ⟨w.heap.size, i, none⟩ = some (.int .u8 (bt s (i : Int))) := fun n => bytes_cell (w.drewN n) 5 s i hi
  have kf : ∀ n, (Lib.bytesWorld (w.drewN n) 5 s).frozen? ⟨w.heap.size, i, none⟩ = false := fun n => bytes_frozen (w.drewN n) 5 s i hi
  have kd : ∀ N n c, (convert 28 9 (.slice (some ⟨w.heap.size, 0, none⟩) s.size c)).run Try.prog (((Lib.bytesWorld (w.drewN N) 5 s).setCell ⟨w.heap.size, i, none⟩ (.int .u8 (bits .xor .u8 (bt s (i : Int)) (wrap64 (1 + bits .and .i64 by_ 127) % 256)))).drewN n) = .ok (.string (strOfNums ((bytesOf s).set i (bits .xor .u8 (bt s (i : Int)) (wrap64 (1 + bits .and .i64 by_ 127) % 256))))) (((Lib.bytesWorld (w.drewN N) 5 s).setCell ⟨w.heap.size, i, none⟩ (.int .u8 (bits .xor .u8 (bt s (i : Int)) (wrap64 (1 + bits .and .i64 by_ 127) % 256)))).drewN n) :=
    fun N n c => bytes_back (P := Try.prog) (w.drewN N) 28 5 9 s i (bits .xor .u8 (bt s (i : Int)) (wrap64 (1 + bits .and .i64 by_ 127) % 256)) hi Try.underlying28 Try.underlying5 Try.underlying9 n c
  have hs2 : (strOfNums ((bytesOf s).set i (bits .xor .u8 (bt s (i : Int)) (wrap64 (1 + bits .and .i64 by_ 127) % 256)))).size ≤ 140737488351232 := by
    rw [strOfNums_size, List.length_set, bytesOf_length]; exact hs
  have hne : ofL (strOfNums ((bytesOf s).set i (bits .xor .u8 (bt s (i : Int)) (wrap64 (1 + bits .and .i64 by_ 127) % 256)))).data.toList ≠ ofL s.data.toList := by
    rw [and_mask by_ 7 (by omega) 127 128 rfl rfl]
    refine turned_seal s i _ hi ?_ ?_ <;> rw [w64 (by omega) (by omega)] <;> omega
  have hr1 := ofL_range s.data.toList
  have hr2 := ofL_range (strOfNums ((bytesOf s).set i (bits .xor .u8 (bt s (i : Int)) (wrap64 (1 + bits .and .i64 by_ 127) % 256)))).data.toList
  go_enter Try.func4, Try.ntmps4
  go_wp2_with (first | (go_at_call 13; refine (ossuarylaw9_awake.calls _ true _ (by assumption)).mono ?_; rintro e w' ⟨rfl, ⟨nd, rfl⟩⟩) | (go_at_call 11; refine (pair_calls _ _ _).mono ?_; rintro e w' ⟨rfl, ⟨nd, rfl⟩⟩))
  all_goals try (go_quiet (first | (go_at_call 9; refine (seal_calls _ _ (by assumption)).mono ?_; rintro e w' ⟨rfl, ⟨nd, rfl⟩⟩; (try first | exact ⟨rfl, _, World.drewN_drewN _ _ _⟩ | exact ⟨rfl, _, Eq.trans (World.drewN_drewN _ _ _) (congrArg (World.drewN _) (Nat.add_assoc _ _ _))⟩))); go_wp2)
  all_goals first
    | (exfalso; omega)
    | (go_ret; exact ⟨by first | rfl | (simp [*]; done), by repeat (first | exact Below.refl _ _ | apply pw_below_drewN | (refine Below.setCell ?_ (by exact Nat.le_refl _) _) | (refine bytes_below ?_ (by exact Nat.le_refl _) _ _))⟩)
set_option maxHeartbeats 1600000 in
set_option maxRecDepth 100000 in
theorem walk_eq (s : ByteArray) (at_ by_ a b : Int) (w : World) (hs : s.size ≤ 140737488351232) (k : Nat) (hk : ossuarylaw9_awake.f k = some true)
    (e1 : (pairS (a % 4294967296 / 4) (b % 4294967296 / 4) == pairS (a % 4294967296 / 4 + 1) (b % 4294967296 / 4)) = false)
    (e2 : (pairS (a % 4294967296 / 4) (b % 4294967296 / 4) == pairS (a % 4294967296 / 4) (b % 4294967296 / 4 + 1)) = false)
    (e3 : (a % 4294967296 / 4 != b % 4294967296 / 4) = false)
    (h1 : 1 ≤ s.size) (h5 : s.size ≤ 5000) (i : Nat) (hi : i < s.size) (hi2 : wrap64 (Int.tmod (IntKind.u64.wrap at_) (s.size : Int)) = (i : Int)) :
    Calls Try.prog 4 #[.string s, .int .i64 at_, .int .i64 by_, .int .i64 a, .int .i64 b] w fun e w' => e = .returned (.bool true) ∧ Below w.heap.size w w' := by
  have kb := fun W => print_bytes (P := Try.prog) 9 28 5 Try.underlying9 Try.underlying28 Try.underlying5 s W
  have kc : ∀ n, (Lib.bytesWorld (w.drewN n) 5 s).cell? ⟨w.heap.size, i, none⟩ = some (.int .u8 (bt s (i : Int))) := fun n => bytes_cell (w.drewN n) 5 s i hi
  have kf : ∀ n, (Lib.bytesWorld (w.drewN n) 5 s).frozen? ⟨w.heap.size, i, none⟩ = false := fun n => bytes_frozen (w.drewN n) 5 s i hi
  have kd : ∀ N n c, (convert 28 9 (.slice (some ⟨w.heap.size, 0, none⟩) s.size c)).run Try.prog (((Lib.bytesWorld (w.drewN N) 5 s).setCell ⟨w.heap.size, i, none⟩ (.int .u8 (bits .xor .u8 (bt s (i : Int)) (wrap64 (1 + bits .and .i64 by_ 127) % 256)))).drewN n) = .ok (.string (strOfNums ((bytesOf s).set i (bits .xor .u8 (bt s (i : Int)) (wrap64 (1 + bits .and .i64 by_ 127) % 256))))) (((Lib.bytesWorld (w.drewN N) 5 s).setCell ⟨w.heap.size, i, none⟩ (.int .u8 (bits .xor .u8 (bt s (i : Int)) (wrap64 (1 + bits .and .i64 by_ 127) % 256)))).drewN n) :=
    fun N n c => bytes_back (P := Try.prog) (w.drewN N) 28 5 9 s i (bits .xor .u8 (bt s (i : Int)) (wrap64 (1 + bits .and .i64 by_ 127) % 256)) hi Try.underlying28 Try.underlying5 Try.underlying9 n c
  have hs2 : (strOfNums ((bytesOf s).set i (bits .xor .u8 (bt s (i : Int)) (wrap64 (1 + bits .and .i64 by_ 127) % 256)))).size ≤ 140737488351232 := by
    rw [strOfNums_size, List.length_set, bytesOf_length]; exact hs
  have hne : ofL (strOfNums ((bytesOf s).set i (bits .xor .u8 (bt s (i : Int)) (wrap64 (1 + bits .and .i64 by_ 127) % 256)))).data.toList ≠ ofL s.data.toList := by
    rw [and_mask by_ 7 (by omega) 127 128 rfl rfl]
    refine turned_seal s i _ hi ?_ ?_ <;> rw [w64 (by omega) (by omega)] <;> omega
  have hr1 := ofL_range s.data.toList
  have hr2 := ofL_range (strOfNums ((bytesOf s).set i (bits .xor .u8 (bt s (i : Int)) (wrap64 (1 + bits .and .i64 by_ 127) % 256)))).data.toList
  go_enter Try.func4, Try.ntmps4
  go_wp2_with (first | (go_at_call 13; refine (ossuarylaw9_awake.calls _ true _ (by assumption)).mono ?_; rintro e w' ⟨rfl, ⟨nd, rfl⟩⟩) | (go_at_call 11; refine (pair_calls _ _ _).mono ?_; rintro e w' ⟨rfl, ⟨nd, rfl⟩⟩))
  all_goals try (go_quiet (first | (go_at_call 9; refine (seal_calls _ _ (by assumption)).mono ?_; rintro e w' ⟨rfl, ⟨nd, rfl⟩⟩; (try first | exact ⟨rfl, _, World.drewN_drewN _ _ _⟩ | exact ⟨rfl, _, Eq.trans (World.drewN_drewN _ _ _) (congrArg (World.drewN _) (Nat.add_assoc _ _ _))⟩))); go_wp2)
  all_goals first
    | (exfalso; omega)
    | (go_ret; exact ⟨by first | rfl | (simp [*]; done), by repeat (first | exact Below.refl _ _ | apply pw_below_drewN | (refine Below.setCell ?_ (by exact Nat.le_refl _) _) | (refine bytes_below ?_ (by exact Nat.le_refl _) _ _))⟩)
set_option maxHeartbeats 1600000 in
set_option maxRecDepth 100000 in
theorem walk_nes (s : ByteArray) (at_ by_ a b : Int) (w : World) (hs : s.size ≤ 140737488351232) (k : Nat) (hk : ossuarylaw9_awake.f k = some true)
    (e1 : (pairS (a % 4294967296 / 4) (b % 4294967296 / 4) == pairS (a % 4294967296 / 4 + 1) (b % 4294967296 / 4)) = false)
    (e2 : (pairS (a % 4294967296 / 4) (b % 4294967296 / 4) == pairS (a % 4294967296 / 4) (b % 4294967296 / 4 + 1)) = false)
    (e3 : (a % 4294967296 / 4 != b % 4294967296 / 4) = true)
    (e4 : (pairS (a % 4294967296 / 4) (a % 4294967296 / 4) == pairS (a % 4294967296 / 4) (b % 4294967296 / 4)) = false)
    (e5 : (pairS (a % 4294967296 / 4) (a % 4294967296 / 4) == pairS (b % 4294967296 / 4) (a % 4294967296 / 4)) = false)
    (h15 : s.size < 1 ∨ 5000 < s.size) :
    Calls Try.prog 4 #[.string s, .int .i64 at_, .int .i64 by_, .int .i64 a, .int .i64 b] w fun e w' => e = .returned (.bool true) ∧ Below w.heap.size w w' := by
  go_enter Try.func4, Try.ntmps4
  go_wp2_with (first | (go_at_call 13; refine (ossuarylaw9_awake.calls _ true _ (by assumption)).mono ?_; rintro e w' ⟨rfl, ⟨nd, rfl⟩⟩) | (go_at_call 11; refine (pair_calls _ _ _).mono ?_; rintro e w' ⟨rfl, ⟨nd, rfl⟩⟩))
  all_goals try (go_quiet (first | (go_at_call 9; refine (seal_calls _ _ (by assumption)).mono ?_; rintro e w' ⟨rfl, ⟨nd, rfl⟩⟩; (try first | exact ⟨rfl, _, World.drewN_drewN _ _ _⟩ | exact ⟨rfl, _, Eq.trans (World.drewN_drewN _ _ _) (congrArg (World.drewN _) (Nat.add_assoc _ _ _))⟩))); go_wp2)
  all_goals first
    | (exfalso; omega)
    | (go_ret; exact ⟨by first | rfl | (simp [*]; done), by repeat (first | exact Below.refl _ _ | apply pw_below_drewN | (refine Below.setCell ?_ (by exact Nat.le_refl _) _) | (refine bytes_below ?_ (by exact Nat.le_refl _) _ _))⟩)
set_option maxHeartbeats 1600000 in
set_option maxRecDepth 100000 in
theorem walk_eqs (s : ByteArray) (at_ by_ a b : Int) (w : World) (hs : s.size ≤ 140737488351232) (k : Nat) (hk : ossuarylaw9_awake.f k = some true)
    (e1 : (pairS (a % 4294967296 / 4) (b % 4294967296 / 4) == pairS (a % 4294967296 / 4 + 1) (b % 4294967296 / 4)) = false)
    (e2 : (pairS (a % 4294967296 / 4) (b % 4294967296 / 4) == pairS (a % 4294967296 / 4) (b % 4294967296 / 4 + 1)) = false)
    (e3 : (a % 4294967296 / 4 != b % 4294967296 / 4) = false)
    (h15 : s.size < 1 ∨ 5000 < s.size) :
    Calls Try.prog 4 #[.string s, .int .i64 at_, .int .i64 by_, .int .i64 a, .int .i64 b] w fun e w' => e = .returned (.bool true) ∧ Below w.heap.size w w' := by
  go_enter Try.func4, Try.ntmps4
  go_wp2_with (first | (go_at_call 13; refine (ossuarylaw9_awake.calls _ true _ (by assumption)).mono ?_; rintro e w' ⟨rfl, ⟨nd, rfl⟩⟩) | (go_at_call 11; refine (pair_calls _ _ _).mono ?_; rintro e w' ⟨rfl, ⟨nd, rfl⟩⟩))
  all_goals try (go_quiet (first | (go_at_call 9; refine (seal_calls _ _ (by assumption)).mono ?_; rintro e w' ⟨rfl, ⟨nd, rfl⟩⟩; (try first | exact ⟨rfl, _, World.drewN_drewN _ _ _⟩ | exact ⟨rfl, _, Eq.trans (World.drewN_drewN _ _ _) (congrArg (World.drewN _) (Nat.add_assoc _ _ _))⟩))); go_wp2)
  all_goals first
    | (exfalso; omega)
    | (go_ret; exact ⟨by first | rfl | (simp [*]; done), by repeat (first | exact Below.refl _ _ | apply pw_below_drewN | (refine Below.setCell ?_ (by exact Nat.le_refl _) _) | (refine bytes_below ?_ (by exact Nat.le_refl _) _ _))⟩)
theorem pair_ne1 (a b : Int) : (pairS (a % 4294967296 / 4) (b % 4294967296 / 4) == pairS (a % 4294967296 / 4 + 1) (b % 4294967296 / 4)) = false := by
  rw [beq_eq_false_iff_ne]; unfold pairS; omega
theorem pair_ne2 (a b : Int) : (pairS (a % 4294967296 / 4) (b % 4294967296 / 4) == pairS (a % 4294967296 / 4) (b % 4294967296 / 4 + 1)) = false := by
  rw [beq_eq_false_iff_ne]; unfold pairS; omega
theorem pair_ne4 (x y : Int) (hx : 0 ≤ x ∧ x < 2147483647) (hy : 0 ≤ y ∧ y < 2147483647) (h : x ≠ y) : (pairS x x == pairS x y) = false := by
  rw [beq_eq_false_iff_ne]; unfold pairS; omega
theorem pair_ne5 (x y : Int) (hx : 0 ≤ x ∧ x < 2147483647) (hy : 0 ≤ y ∧ y < 2147483647) (h : x ≠ y) : (pairS x x == pairS y x) = false := by
  rw [beq_eq_false_iff_ne]; unfold pairS; omega
theorem SealTurned.walk (s : ByteArray) (at_ by_ a b : Int) (w : World) (hs : s.size ≤ 140737488351232) (h1 : (Lit.int .i64 at_).wf = true) (h2 : (Lit.int .i64 by_).wf = true) (h3 : (Lit.int .i64 a).wf = true) (h4 : (Lit.int .i64 b).wf = true) :
    Calls Try.prog 4 #[.string s, .int .i64 at_, .int .i64 by_, .int .i64 a, .int .i64 b] w fun e w' => e = .returned (.bool true) ∧ Below w.heap.size w w' := by
  obtain ⟨k, hk⟩ := ex_of_ev awake9
  have hx : 0 ≤ a % 4294967296 / 4 ∧ a % 4294967296 / 4 < 2147483647 := by omega
  have hy : 0 ≤ b % 4294967296 / 4 ∧ b % 4294967296 / 4 < 2147483647 := by omega
  by_cases g : a % 4294967296 / 4 = b % 4294967296 / 4
  · have e3 : (a % 4294967296 / 4 != b % 4294967296 / 4) = false := by rw [bne_eq_false_iff_eq]; exact g
    by_cases h15 : s.size < 1 ∨ 5000 < s.size
    · exact walk_eqs s at_ by_ a b w hs k hk (pair_ne1 a b) (pair_ne2 a b) e3 h15
    · have hu := umod_lit at_ s.size (s.size : Int) rfl (by omega) (by omega)
      exact walk_eq s at_ by_ a b w hs k hk (pair_ne1 a b) (pair_ne2 a b) e3 (by omega) (by omega) _ (umod_lt at_ s.size (by omega)) hu
  · have e3 : (a % 4294967296 / 4 != b % 4294967296 / 4) = true := by rw [bne_iff_ne]; exact g
    have e4 := pair_ne4 _ _ hx hy g
    have e5 := pair_ne5 _ _ hx hy g
    by_cases h15 : s.size < 1 ∨ 5000 < s.size
    · exact walk_nes s at_ by_ a b w hs k hk (pair_ne1 a b) (pair_ne2 a b) e3 e4 e5 h15
    · have hu := umod_lit at_ s.size (s.size : Int) rfl (by omega) (by omega)
      exact walk_ne s at_ by_ a b w hs k hk (pair_ne1 a b) (pair_ne2 a b) e3 e4 e5 (by omega) (by omega) _ (umod_lt at_ s.size (by omega)) hu
end Go.Proofs.Ytfjkehpcgiolhaa.Hand
