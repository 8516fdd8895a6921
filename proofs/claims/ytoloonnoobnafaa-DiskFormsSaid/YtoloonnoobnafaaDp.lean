/- What the calls over disks answer, in plain words: no condition beyond each theorem's own. -/
import Derived.Test.YtoloonnoobnafaaHDiskGonex5
namespace Go.Proofs.Ytoloonnoobnafaa.Dp
open Go.RowKit Go.Proofs.Ytoloonnoobnafaa.HDiskGone Go.Proofs.YtoloonnoobnafaaW.PrintWords Go.Proofs.YtoloonnoobnafaaW.PrintLast
set_option linter.unusedVariables false
set_option linter.unusedSimpArgs false
theorem wf64 {x : Int} (h : (Lit.int .i64 x).wf = true) : -9223372036854775808 ≤ x ∧ x ≤ 9223372036854775807 := by
  simp only [Lit.wf, Bool.and_eq_true, decide_eq_true_eq] at h
  have e1 : IntKind.i64.min = -9223372036854775808 := by decide
  have e2 : IntKind.i64.max = 9223372036854775807 := by decide
  omega
theorem w64 {x : Int} (h0 : -9223372036854775808 ≤ x) (h1 : x ≤ 9223372036854775807) : wrap64 x = x := by
  unfold wrap64; omega
theorem tm {x : Int} (m : Int) (h0 : 0 ≤ x) : Int.tmod x m = x % m := Int.tmod_eq_emod_of_nonneg h0
theorem data_len (s : ByteArray) : s.data.toList.length = s.size := by rw [Array.length_toList]; rfl
theorem bt_get (s : ByteArray) (n : Nat) (h : n < s.data.toList.length) : bt s (n : Int) = ((s.data.toList[n]'h).toNat : Int) := by
  have h' : n < s.size := by rw [data_len] at h; exact h
  unfold bt
  rw [dif_pos (show (n : Int).toNat < s.size from by simpa using h')]
  simp [ByteArray.getElem_eq_getElem_data]
/-- enough rounds -/
theorem ex_of_ev {α : Type} {g : Nat → Option α} {r : α} (h : Ev g r) : ∃ k, g k = some r := h.rounds
theorem ev_ge {α : Type} {g : Nat → Option α} {r : α} (K : Nat) (h : ∀ k, K ≤ k → g k = some r) : Ev g r := ⟨K, h⟩
theorem ev_const {α : Type} {g : Option α} {r : α} (h : g = some r) : Ev (fun _ => g) r := ⟨0, fun _ _ => h⟩
theorem ev_pos {α : Type} {c : Prop} [Decidable c] {f g : Nat → Option α} {r : α} (h : c) (hf : Ev f r) : Ev (fun k => if c then f k else g k) r := by
  simp only [if_pos h]; exact hf
theorem ev_neg {α : Type} {c : Prop} [Decidable c] {f g : Nat → Option α} {r : α} (h : ¬ c) (hg : Ev g r) : Ev (fun k => if c then f k else g k) r := by
  simp only [if_neg h]; exact hg
theorem ev_succ {α : Type} {g : Nat → Option α} {r : α} (h : Ev (fun k => g (k + 1)) r) : Ev g r := Ev.step (f := fun k => g (k + 1)) (fun _ => rfl) h

theorem u64w (x : Int) : IntKind.u64.wrap x = x % 18446744073709551616 := by simp [IntKind.wrap, IntKind.bits, IntKind.signed]
theorem i64w (x : Int) : IntKind.i64.wrap x = (x + 9223372036854775808) % 18446744073709551616 - 9223372036854775808 := by
  simp [IntKind.wrap, IntKind.bits, IntKind.signed]
  split <;> omega
/-- x & (2^i - 1), whatever x -/
theorem and_mask (x : Int) (i : Nat) (hi : i ≤ 62) (m p : Int) (hm : m = ((2 ^ i - 1 : Nat) : Int)) (hp : p = ((2 ^ i : Nat) : Int)) : Go.bits .and .i64 x m = x % p := by
  subst hm hp
  have h2 : 2 ^ i ≤ 2 ^ 62 := Nat.pow_le_pow_right (by decide) hi
  have hpos : 0 < 2 ^ i := Nat.two_pow_pos i
  have e1 : (2 ^ i - 1) % 2 ^ 64 = 2 ^ i - 1 := Nat.mod_eq_of_lt (by omega)
  have hd : 2 ^ i ∣ 2 ^ 64 := Nat.pow_dvd_pow 2 (by omega)
  have e0 : Go.bits .and .i64 x ((2 ^ i - 1 : Nat) : Int) = IntKind.i64.wrap (((BitVec.ofInt 64 x &&& BitVec.ofInt 64 ((2 ^ i - 1 : Nat) : Int)).toNat : Nat) : Int) := rfl
  rw [e0, BitVec.ofInt_natCast, BitVec.toNat_and, BitVec.toNat_ofNat]
  rw [e1, Nat.and_two_pow_sub_one_eq_mod]
  have e2 : (BitVec.ofInt 64 x).toNat = (x % 18446744073709551616).toNat := by
    rw [BitVec.toNat_ofInt]; rfl
  rw [e2]
  have e3 : (((x % 18446744073709551616).toNat % 2 ^ i : Nat) : Int) = x % ((2 ^ i : Nat) : Int) := by
    rw [Int.natCast_emod, Int.toNat_of_nonneg (by omega)]
    have hd' : ((2 ^ i : Nat) : Int) ∣ (18446744073709551616 : Int) := Int.natCast_dvd_natCast (n := 18446744073709551616).mpr hd
    exact Int.emod_emod_of_dvd x hd'
  rw [e3]
  have h3 : 0 ≤ x % ((2 ^ i : Nat) : Int) := Int.emod_nonneg x (by omega)
  have h4 : x % ((2 ^ i : Nat) : Int) < ((2 ^ i : Nat) : Int) := Int.emod_lt_of_pos x (by omega)
  generalize x % ((2 ^ i : Nat) : Int) = y at *
  rw [i64w]; omega
/-- uint(a) % uint(n), as a place -/
def umod (a : Int) (n : Nat) : Nat := ((a % 18446744073709551616) % (n : Int)).toNat
theorem umod_lt (a : Int) (n : Nat) (h : 1 ≤ n) : umod a n < n := by
  unfold umod
  have h1 : 0 ≤ (a % 18446744073709551616) % (n : Int) := Int.emod_nonneg _ (by omega)
  have h2 : (a % 18446744073709551616) % (n : Int) < (n : Int) := Int.emod_lt_of_pos _ (by omega)
  omega
theorem umod_eq (a : Int) (n : Nat) (h : 1 ≤ n) (h' : n ≤ 4611686018427387904) : wrap64 (Int.tmod (IntKind.u64.wrap a) (IntKind.u64.wrap (n : Int))) = (umod a n : Int) := by
  have e : (n : Int) % 18446744073709551616 = (n : Int) := by omega
  rw [u64w, u64w, e, tm (x := a % 18446744073709551616) _ (by omega)]
  unfold umod
  have h1 : 0 ≤ (a % 18446744073709551616) % (n : Int) := Int.emod_nonneg _ (by omega)
  have h2 : (a % 18446744073709551616) % (n : Int) < (n : Int) := Int.emod_lt_of_pos _ (by omega)
  rw [w64 (by omega) (by omega)]; omega
theorem umod_lit (a : Int) (n : Nat) (m : Int) (hm : m = (n : Int)) (h : 1 ≤ n) (h' : n ≤ 4611686018427387904) : wrap64 (Int.tmod (IntKind.u64.wrap a) m) = (umod a n : Int) := by
  subst hm
  have := umod_eq a n h h'
  rwa [show IntKind.u64.wrap (n : Int) = (n : Int) from by rw [u64w]; omega] at this
/-- int(uint32(x) >> 2) -/
def quart (x : Int) : Int := x % 4294967296 / 4
theorem quart_range (x : Int) : 0 ≤ quart x ∧ quart x < 1073741824 := by unfold quart; omega

/-- a text of these bytes -/
def bsOf (l : List UInt8) : ByteArray := ⟨l.toArray⟩
theorem bs_list (l : List UInt8) : (bsOf l).toList = l := by unfold bsOf; simp
theorem bs_data (l : List UInt8) : (bsOf l).data.toList = l := by simp [bsOf]
theorem bs_size (l : List UInt8) : (bsOf l).size = l.length := by rw [← data_len, bs_data]
theorem bs_of (s : ByteArray) : bsOf s.data.toList = s := by simp [bsOf]
theorem bs_eta (s : ByteArray) : ∃ l, s = bsOf l ∧ l.length = s.size := ⟨s.data.toList, (bs_of s).symm, data_len s⟩
theorem ba_ext {a b : ByteArray} (h : a.data.toList = b.data.toList) : a = b := by rw [← bs_of a, ← bs_of b, h]
theorem bs_append (a b : List UInt8) : bsOf a ++ bsOf b = bsOf (a ++ b) := by
  apply ba_ext; simp [bs_data]
theorem bs_inj {a b : List UInt8} (h : bsOf a = bsOf b) : a = b := by rw [← bs_data a, ← bs_data b, h]
theorem bs_extract (l : List UInt8) (a b : Nat) : (bsOf l).extract a b = bsOf ((l.drop a).take (b - a)) := by
  apply ba_ext
  rw [bs_data, ByteArray.data_extract, Array.toList_extract, List.extract_eq_take_drop, bs_data]
theorem bs_bt (l : List UInt8) (i : Nat) (h : i < l.length) : bt (bsOf l) (i : Int) = (l[i].toNat : Int) := by
  have := bt_get (bsOf l) i (by rw [bs_data]; exact h)
  rw [this]; congr 2
theorem u8_range (b : UInt8) : 0 ≤ (b.toNat : Int) ∧ (b.toNat : Int) ≤ 255 := by
  have := b.toNat_lt; omega
/-- a byte of a number -/
def byteOf (x : Int) : UInt8 := UInt8.ofNat (x % 256).toNat
theorem byteOf_val (x : Int) : ((byteOf x).toNat : Int) = x % 256 := by
  unfold byteOf
  rw [UInt8.toNat_ofNat']
  omega
theorem byteOf_toNat (b : UInt8) : byteOf (b.toNat : Int) = b := by
  apply UInt8.toNat_inj.mp
  have h1 := byteOf_val (b.toNat : Int)
  have h2 := u8_range b
  omega
theorem str_nums (xs : List Int) (h : ∀ x, x ∈ xs → 0 ≤ x ∧ x < 256) : strOfNums xs = bsOf (xs.map byteOf) := by
  unfold strOfNums bsOf
  congr 2
  apply List.map_congr_left
  intro x hx
  have := h x hx
  unfold byteOf
  rw [Int.emod_eq_of_lt this.1 this.2]

theorem rep_zero : ∀ n, Lib.repeatL [0] n = List.replicate n 0
  | 0 => rfl
  | n + 1 => by rw [Lib.repeatL, rep_zero n]; rfl
theorem repeat_eq (m : Nat) (h : m ≤ 1000000) : strings_Repeat.f (⟨#[0]⟩ : ByteArray) (m : Int) = some (bsOf (List.replicate m 0)) := by
  unfold strings_Repeat.f
  rw [if_pos (by refine ⟨by omega, by omega, ?_⟩; rw [Int.toNat_natCast, show (⟨#[0]⟩ : ByteArray).size = 1 from rfl]; omega), Int.toNat_natCast, rep_zero]
  rfl

/-- a disk that may be, not lost -/
def Valid (l1 : List ByteArray) (l2 : List S62) : Prop := 1 ≤ l1.length ∧ l1.length ≤ 72 ∧ l2.length ≤ 256 ∧ (∀ s, s ∈ l1 → s.size = 64) ∧ (∀ w, w ∈ l2 → 0 ≤ w.f0 ∧ w.f0 < (l1.length : Int) ∧ w.f1.size = 64)
theorem mem_getD {α : Type} (l : List α) (z : α) (j : Nat) (h : j < l.length) : l.getD j z ∈ l := by
  rw [List.getD_eq_getElem?_getD, List.getElem?_eq_getElem h]
  exact List.getElem_mem h
theorem may_valid {l1 : List ByteArray} {l2 : List S62} (h : Valid l1 l2) : disk_May.f false l1 l2 = some true := by
  obtain ⟨h1, h2, h3, h4, h5⟩ := h
  unfold disk_May.f disk_May.v
  rw [if_pos (by omega)]
  unfold Go.Proofs.YtoloonnoobnafaaMay.mayB
  have a1 : (List.range l1.length).any (fun j => ((l1.getD j ⟨#[]⟩).size : Int) != 64) = false := by
    rw [List.any_eq_false]
    intro j hj
    have := h4 _ (mem_getD l1 ⟨#[]⟩ j (List.mem_range.1 hj))
    rw [this]; decide
  have a2 : (List.range l2.length).any (fun j => Go.Proofs.YtoloonnoobnafaaMay.badB (l2.getD j z62).f0 l1.length (l2.getD j z62).f1) = false := by
    rw [List.any_eq_false]
    intro j hj
    obtain ⟨b1, b2, b3⟩ := h5 _ (mem_getD l2 z62 j (List.mem_range.1 hj))
    unfold Go.Proofs.YtoloonnoobnafaaMay.badB
    rw [b3, decide_eq_false (by omega), decide_eq_false (by omega)]; decide
  rw [a1, a2, decide_eq_true h1, decide_eq_true h2, decide_eq_true h3]; rfl
theorem may_lost : disk_May.f true [] [] = some true := rfl
theorem may_none : disk_May.f false [] [] = some false := rfl
theorem there_valid {l1 : List ByteArray} {l2 : List S62} (h : Valid l1 l2) : disk_there.f false l1 l2 = some 0 := by
  unfold disk_there.f
  rw [may_valid h, Option.bind_some, if_pos rfl, if_neg (by decide)]
theorem there_lost : disk_there.f true [] [] = some 1301 := rfl
/-- what was written last there -/
def lastS (l2 : List S62) (a : Int) : Option ByteArray := Go.Proofs.YtoloonnoobnafaaMay.lastN (fun j => (l2.getD j z62).f0) (fun j => (l2.getD j z62).f1) a l2.length
theorem lastN_congr {p q : Nat → Int} {f g : Nat → ByteArray} (a : Int) : ∀ n, (∀ j, j < n → p j = q j ∧ f j = g j) → Go.Proofs.YtoloonnoobnafaaMay.lastN p f a n = Go.Proofs.YtoloonnoobnafaaMay.lastN q g a n
  | 0, _ => rfl
  | n + 1, h => by
    rw [Go.Proofs.YtoloonnoobnafaaMay.lastN, Go.Proofs.YtoloonnoobnafaaMay.lastN, (h n (Nat.lt_succ_self n)).1, (h n (Nat.lt_succ_self n)).2, lastN_congr a n (fun j hj => h j (Nat.lt_succ_of_lt hj))]
theorem lastS_nil (a : Int) : lastS [] a = none := rfl
theorem lastS_snoc (l2 : List S62) (w : S62) (a : Int) : lastS (l2 ++ [w]) a = if w.f0 = a then some w.f1 else lastS l2 a := by
  unfold lastS
  rw [List.length_append, List.length_singleton, Go.Proofs.YtoloonnoobnafaaMay.lastN]
  have e : (l2 ++ [w]).getD l2.length z62 = w := by
    rw [List.getD_eq_getElem?_getD, List.getElem?_append_right (Nat.le_refl _), Nat.sub_self]; rfl
  rw [e, lastN_congr a l2.length]
  intro j hj
  have : (l2 ++ [w]).getD j z62 = l2.getD j z62 := by
    rw [List.getD_eq_getElem?_getD, List.getD_eq_getElem?_getD, List.getElem?_append_left hj]
  rw [this]; exact ⟨rfl, rfl⟩
/-- what stands there -/
def peekS (l1 : List ByteArray) (l2 : List S62) (a : Int) : ByteArray := (lastS l2 a).getD (l1.getD a.toNat ⟨#[]⟩)
theorem at_eq {l1 : List ByteArray} {l2 : List S62} (b : Bool) (a : Int) (h0 : 0 ≤ a) (h1 : a < (l1.length : Int)) (h2 : l2.length ≤ 256) : disk_At.f b l1 l2 a = some (peekS l1 l2 a) := by
  unfold disk_At.f Go.Proofs.YtoloonnoobnafaaMay.atB
  rw [if_pos (by omega)]
  show (match lastS l2 a with | some s => some s | none => if 0 ≤ a ∧ a < (l1.length : Int) then some (l1.getD a.toNat ⟨#[]⟩) else none) = _
  unfold peekS
  cases lastS l2 a with
  | none => show (if _ then _ else _) = _; rw [if_pos ⟨h0, h1⟩]; rfl
  | some s => rfl
theorem read_eq {l1 : List ByteArray} {l2 : List S62} (h : Valid l1 l2) (a : Int) (h0 : 0 ≤ a) (h1 : a < (l1.length : Int)) : disk_Read.f false l1 l2 a = some (peekS l1 l2 a, 0) := by
  unfold disk_Read.f
  rw [there_valid h, Option.bind_some, if_pos rfl, if_neg (by omega), if_neg (by omega), at_eq false a h0 h1 h.2.2.1]; rfl
theorem read_lost (a : Int) : disk_Read.f true [] [] a = some ((⟨#[]⟩ : ByteArray), 1301) := rfl
theorem copy_eq (b : Bool) (l1 : List ByteArray) (l2 : List S62) (h1 : l1.length ≤ 72) (h2 : l2.length ≤ 256) : disk_Copy.f b l1 l2 = some (b, l1, l2) := by
  unfold disk_Copy.f slices_Clone_string_string.f api_Write_55.f
  rw [if_pos (by omega), Option.bind_some, if_pos (by omega)]; rfl
theorem write_eq {l1 : List ByteArray} {l2 : List S62} (h : Valid l1 l2) (a : Int) (s : ByteArray) (h0 : 0 ≤ a) (h1 : a < (l1.length : Int)) (hs : s.size = 64) (h2 : l2.length < 256) : disk_Write.f false l1 l2 a s = some (false, l1, l2 ++ [⟨a, s⟩], 0) := by
  unfold disk_Write.f
  rw [there_valid h, Option.bind_some, if_pos rfl, if_neg (by omega), if_neg (by omega), if_pos (by omega), if_neg (by omega), copy_eq false l1 l2 h.2.1 h.2.2.1, Option.bind_some, if_pos (by show l2.length < _; omega)]
theorem write_lost (a : Int) (s : ByteArray) : disk_Write.f true [] [] a s = some (false, [], [], 1301) := rfl
theorem write_valid {l1 : List ByteArray} {l2 : List S62} (h : Valid l1 l2) (a : Int) (s : ByteArray) (h0 : 0 ≤ a) (h1 : a < (l1.length : Int)) (hs : s.size = 64) (h2 : l2.length < 256) : Valid l1 (l2 ++ [⟨a, s⟩]) := by
  refine ⟨h.1, h.2.1, by simp; omega, h.2.2.2.1, ?_⟩
  intro w hw
  rcases List.mem_append.1 hw with hw | hw
  · exact h.2.2.2.2 w hw
  · obtain rfl := List.mem_singleton.1 hw
    exact ⟨h0, h1, hs⟩
/-- writes that last -/
def settleS (p : Nat → Bool) : Nat → List S62 → List ByteArray → List ByteArray
  | _, [], s => s
  | i, w :: l, s => settleS p (i + 1) l (if p i = true then s.set w.f0.toNat w.f1 else s)
theorem settle_len (p : Nat → Bool) : ∀ (l : List S62) (i : Nat) (s : List ByteArray), (settleS p i l s).length = s.length
  | [], _, _ => rfl
  | w :: l, i, s => by
    rw [settleS, settle_len p l]
    split
    · rw [List.length_set]
    · rfl
theorem settle_size (p : Nat → Bool) : ∀ (l : List S62) (i : Nat) (s : List ByteArray), (∀ w, w ∈ l → w.f1.size = 64) → (∀ x, x ∈ s → x.size = 64) → ∀ x, x ∈ settleS p i l s → x.size = 64
  | [], _, _, _, hs => hs
  | w :: l, i, s, hl, hs => by
    rw [settleS]
    refine settle_size p l (i + 1) _ (fun x hx => hl x (List.mem_cons_of_mem _ hx)) ?_
    intro x hx
    split at hx
    · rcases List.mem_or_eq_of_mem_set hx with hx | hx
      · exact hs x hx
      · rw [hx]; exact hl w List.mem_cons_self
    · exact hs x hx
theorem settle_valid {l1 : List ByteArray} {l2 : List S62} (h : Valid l1 l2) (p : Nat → Bool) : Valid (settleS p 0 l2 l1) [] :=
  ⟨by rw [settle_len]; exact h.1, by rw [settle_len]; exact h.2.1, by simp, settle_size p l2 0 l1 (fun w hw => (h.2.2.2.2 w hw).2.2) h.2.2.2.1, by simp⟩
theorem rd_drop (l2 : List S62) (i : Nat) (h : i < l2.length) : l2.drop i = rd_T62 l2 (i : Int) :: l2.drop (i + 1) := by
  rw [List.drop_eq_getElem_cons h]
  congr 1
  unfold rd_T62
  rw [Int.toNat_natCast, List.getD_eq_getElem?_getD, List.getElem?_eq_getElem h]; rfl
theorem rd_mem (l2 : List S62) (i : Nat) (h : i < l2.length) : rd_T62 l2 (i : Int) ∈ l2 := by
  unfold rd_T62; rw [Int.toNat_natCast]; exact mem_getD l2 z62 i h
theorem flush_loop (b : Bool) (l2 l3 : List S62) (N : Nat) (h : ∀ w, w ∈ l2 → 0 ≤ w.f0 ∧ w.f0 < (N : Int)) (hn : l2.length ≤ 256) : ∀ (d i : Nat) (s : List ByteArray), i + d = l2.length → s.length = N → Ev (fun k => disk_settled_flush.l0 k l2 (l2.length : Int) (i : Int) b s l3) (b, settleS (fun _ => true) i (l2.drop i) s, []) := by
  intro d
  induction d with
  | zero =>
    intro i s hi hs
    refine ev_succ ?_
    simp only [disk_settled_flush.l0]
    rw [List.drop_eq_nil_of_le (by omega)]
    exact ev_neg (by omega) (Ev.now _)
  | succ d ih =>
    intro i s hi hs
    obtain ⟨a1, a2⟩ := h _ (rd_mem l2 i (by omega))
    refine ev_succ ?_
    simp only [disk_settled_flush.l0, disk_Flush_1.f, Option.bind_some, if_true]
    refine ev_pos (by omega) (ev_pos (by omega) (ev_pos (by omega) (ev_pos a1 (ev_pos (by rw [hs]; exact a2) ?_))))
    rw [w64 (by omega) (by omega), rd_drop l2 i (by omega), settleS, if_pos rfl]
    exact ih (i + 1) _ (by omega) (by rw [List.length_set]; exact hs)
theorem flush_eq {l1 : List ByteArray} {l2 : List S62} (h : Valid l1 l2) : Ev (fun k => disk_Flush.f k false l1 l2) (false, settleS (fun _ => true) 0 l2 l1, [], 0) := by
  unfold disk_Flush.f disk_settled_flush.f
  rw [there_valid h]
  simp only [Option.bind_some, if_true]
  rw [copy_eq false l1 l2 h.2.1 h.2.2.1]
  simp only [Option.bind_some]
  refine Ev.bind (flush_loop false l2 l2 l1.length (fun w hw => ⟨(h.2.2.2.2 w hw).1, (h.2.2.2.2 w hw).2.1⟩) h.2.2.1 l2.length 0 l1 (by omega) rfl) ?_
  exact Ev.now _
theorem flush_lost : Ev (fun k => disk_Flush.f k true [] []) (false, [], [], 1301) := Ev.now _
/-- does a write last? -/
def lastsB (keep : Int) (i : Nat) : Bool := Go.bits .and .i64 (keep / 2 ^ ((i : Int) % 16).toNat) 1 == 1
theorem crash_loop (keep : Int) (b : Bool) (l2 l3 : List S62) (N : Nat) (h : ∀ w, w ∈ l2 → 0 ≤ w.f0 ∧ w.f0 < (N : Int)) (hn : l2.length ≤ 256) : ∀ (d i : Nat) (s : List ByteArray), i + d = l2.length → s.length = N → Ev (fun k => disk_settled_crash.l0 k keep l2 (l2.length : Int) (i : Int) b s l3) (b, settleS (lastsB keep) i (l2.drop i) s, []) := by
  intro d
  induction d with
  | zero =>
    intro i s hi hs
    refine ev_succ ?_
    simp only [disk_settled_crash.l0]
    rw [List.drop_eq_nil_of_le (by omega)]
    exact ev_neg (by omega) (Ev.now _)
  | succ d ih =>
    intro i s hi hs
    obtain ⟨a1, a2⟩ := h _ (rd_mem l2 i (by omega))
    have hc : disk_Crash_1.f (i : Int) keep = some (lastsB keep i) := by unfold disk_Crash_1.f; rw [if_pos (by omega)]; rfl
    refine ev_succ ?_
    simp only [disk_settled_crash.l0, hc, Option.bind_some]
    refine ev_pos (by omega) (ev_pos (by omega) (ev_pos (by omega) ?_))
    rw [w64 (by omega) (by omega), rd_drop l2 i (by omega), settleS]
    by_cases hp : lastsB keep i = true
    · rw [if_pos hp]
      refine ev_pos hp (ev_pos a1 (ev_pos (by rw [hs]; exact a2) ?_))
      exact ih (i + 1) _ (by omega) (by rw [List.length_set]; exact hs)
    · rw [if_neg hp]
      refine ev_neg hp ?_
      exact ih (i + 1) _ (by omega) hs
theorem crash_eq {l1 : List ByteArray} {l2 : List S62} (h : Valid l1 l2) (keep : Int) : Ev (fun k => disk_Crash.f k false l1 l2 keep) (false, settleS (lastsB keep) 0 l2 l1, [], 0) := by
  unfold disk_Crash.f disk_settled_crash.f
  rw [there_valid h]
  simp only [Option.bind_some, if_true]
  rw [copy_eq false l1 l2 h.2.1 h.2.2.1]
  simp only [Option.bind_some]
  refine Ev.bind (crash_loop keep false l2 l2 l1.length (fun w hw => ⟨(h.2.2.2.2 w hw).1, (h.2.2.2.2 w hw).2.1⟩) h.2.2.1 l2.length 0 l1 (by omega) rfl) ?_
  exact Ev.now _
theorem crash_lost (keep : Int) : Ev (fun k => disk_Crash.f k true [] [] keep) (false, [], [], 1301) := Ev.now _
/-- a sector with a byte turned -/
def rotS (s : ByteArray) (p : Int) (y : Int) : ByteArray := strOfNums ((bytesOf s).set p.toNat (Go.bits .xor .u8 (rd (bytesOf s) p) (y % 256)))
theorem rot_eq {l1 : List ByteArray} {l2 : List S62} (h : Valid l1 l2) (a p y : Int) (h0 : 0 ≤ a) (h1 : a < (l1.length : Int)) (p0 : 0 ≤ p) (p1 : p < 64) (y0 : 1 ≤ y) (y1 : y ≤ 255) : disk_Rot.f false l1 l2 a p y = some (false, l1.set a.toNat (rotS (rdOf ByteArray.empty l1 a) p y), l2, 0) := by
  have hs : (rdOf ByteArray.empty l1 a).size = 64 := by
    unfold rdOf
    exact h.2.2.2.1 _ (mem_getD l1 _ a.toNat (by omega))
  unfold disk_Rot.f rotS
  rw [there_valid h, Option.bind_some, if_pos rfl, if_neg (by omega), if_neg (by omega), if_neg (by omega), if_neg (by omega), if_neg (by omega), if_neg (by omega), copy_eq false l1 l2 h.2.1 h.2.2.1, Option.bind_some, if_pos h0, if_pos h1, if_pos (by rw [hs]; decide), Option.bind_some, if_pos p0, if_pos (by rw [bytesOf_length, hs]; omega)]
theorem rot_lost (a p y : Int) : disk_Rot.f true [] [] a p y = some (false, [], [], 1301) := rfl
theorem lose_valid {l1 : List ByteArray} {l2 : List S62} (h : Valid l1 l2) : disk_Lose.f false l1 l2 = some (true, [], [], 0) := by
  unfold disk_Lose.f
  rw [may_valid h]; rfl
theorem lose_lost : disk_Lose.f true [] [] = some (true, [], [], 0) := rfl
/-- a sector of one byte -/
def fullS (b : Int) : ByteArray := bsOf (List.replicate 64 (byteOf b))
theorem full_size (b : Int) : (fullS b).size = 64 := by unfold fullS; rw [bs_size, List.length_replicate]
theorem full_loop (b : Int) : ∀ (d i : Nat), i + d = 64 → Ev (fun k => ossuarylaw13_full.l0 k b (List.replicate i b ++ List.replicate d 0) (i : Int)) (strOfNums (List.replicate 64 b)) := by
  intro d
  induction d with
  | zero =>
    intro i hi
    obtain rfl : i = 64 := by omega
    refine ev_succ ?_
    simp only [ossuarylaw13_full.l0]
    refine ev_neg (by omega) ?_
    rw [List.replicate_zero, List.append_nil]
    exact Ev.now _
  | succ d ih =>
    intro i hi
    refine ev_succ ?_
    simp only [ossuarylaw13_full.l0]
    refine ev_pos (by omega) (ev_pos (by omega) (ev_pos (by simp; omega) ?_))
    rw [w64 (by omega) (by omega), Int.toNat_natCast]
    have e : (List.replicate i b ++ List.replicate (d + 1) 0).set i b = List.replicate (i + 1) b ++ List.replicate d 0 := by
      rw [List.set_append_right _ _ (by simp), List.length_replicate, Nat.sub_self, List.replicate_succ, List.set_cons_zero, List.replicate_succ', List.append_assoc]; rfl
    rw [e]
    exact ih (i + 1) (by omega)
theorem full_ev (b : Int) (h0 : 0 ≤ b) (h1 : b < 256) : Ev (fun k => ossuarylaw13_full.f k b) (fullS b) := by
  unfold ossuarylaw13_full.f
  refine ev_pos (by omega) ?_
  have := full_loop b 64 0 (by omega)
  rw [str_nums _ (fun x hx => by rw [List.eq_of_mem_replicate hx]; exact ⟨h0, h1⟩), List.map_replicate] at this
  exact this
def blankS : ByteArray := bsOf (List.replicate 64 0)
theorem blank_size : blankS.size = 64 := by unfold blankS; rw [bs_size, List.length_replicate]
theorem blank_eq : disk_Blank.f = some blankS := by
  unfold disk_Blank.f
  rw [show (64 : Int) = ((64 : Nat) : Int) from rfl, repeat_eq 64 (by omega)]; rfl
theorem new_ev (n : Nat) (h0 : 1 ≤ n) (h1 : n ≤ 72) : Ev (fun k => disk_New.f k (n : Int)) (false, List.replicate n blankS, [], 0) := by
  unfold disk_New.f
  refine ev_neg (by omega) (ev_succ ?_)
  simp only [disk_New.j0]
  refine ev_neg (by simp; omega) ?_
  rw [blank_eq, Option.bind_some]
  unfold slices_Repeat_string_string.f
  rw [if_pos ⟨rfl, by omega, by omega⟩, Option.bind_some, Int.toNat_natCast]
  exact Ev.now _
theorem new_no (n : Int) (h : n < 1 ∨ 72 < n) : Ev (fun k => disk_New.f k n) (false, [], [], 1300) := by
  unfold disk_New.f
  by_cases c : n < 1
  · refine ev_pos c (ev_succ ?_)
    simp only [disk_New.j0]
    exact ev_pos (by trivial) (Ev.now _)
  · refine ev_neg c (ev_succ ?_)
    simp only [disk_New.j0]
    exact ev_pos (by simp; omega) (Ev.now _)
theorem new_valid (n : Nat) (h0 : 1 ≤ n) (h1 : n ≤ 72) : Valid (List.replicate n blankS) [] :=
  ⟨by simpa using h0, by simpa using h1, by simp, fun s hs => by rw [List.eq_of_mem_replicate hs]; exact blank_size, by simp⟩

theorem strn_size (xs : List Int) : (strOfNums xs).size = xs.length := by
  rw [← data_len]; unfold strOfNums; simp
theorem rot_size (s : ByteArray) (p y : Int) : (rotS s p y).size = s.size := by
  unfold rotS; rw [strn_size, List.length_set, bytesOf_length]
theorem rot_valid {l1 : List ByteArray} {l2 : List S62} (h : Valid l1 l2) (a p y : Int) : Valid (l1.set a.toNat (rotS (rdOf ByteArray.empty l1 a) p y)) l2 := by
  refine ⟨by rw [List.length_set]; exact h.1, by rw [List.length_set]; exact h.2.1, h.2.2.1, ?_, by rw [List.length_set]; exact h.2.2.2.2⟩
  intro s hs
  by_cases c : a.toNat < l1.length
  · rcases List.mem_or_eq_of_mem_set hs with hs | hs
    · exact h.2.2.2.1 s hs
    · rw [hs, rot_size]; unfold rdOf; exact h.2.2.2.1 _ (mem_getD l1 _ a.toNat c)
  · rw [List.set_eq_of_length_le (by omega)] at hs
    exact h.2.2.2.1 s hs
theorem rot98 : rotS (fullS 98) 0 1 = bsOf (byteOf 99 :: List.replicate 63 (byteOf 98)) := by decide +kernel
theorem ev_eq {α β : Type} {x : α} {g : Option α} {f : α → Nat → Option β} {r : β} (h : g = some x) (hf : Ev (f x) r) : Ev (fun k => g.bind fun y => f y k) r := by
  rw [h]; exact hf
theorem awake13 : Ev (fun k => ossuarylaw13_awake.f k) true := by
  unfold ossuarylaw13_awake.f
  have v0 := new_valid 2 (by omega) (by omega)
  have L0 : (List.replicate 2 blankS).length = 2 := rfl
  have v1 := write_valid v0 1 (fullS 97) (by omega) (by rw [L0]; decide) (full_size _) (by decide)
  have v2 := write_valid v1 1 (fullS 98) (by omega) (by rw [L0]; decide) (full_size _) (by decide)
  have v3 := settle_valid v2 (lastsB 1)
  have v4 := settle_valid v2 (fun _ => true)
  have s3 : settleS (lastsB 1) 0 (([] ++ [(⟨1, fullS 97⟩ : S62)]) ++ [⟨1, fullS 98⟩]) (List.replicate 2 blankS) = [blankS, fullS 97] := by
    have l0 : lastsB 1 0 = true := by decide
    have l1 : lastsB 1 1 = false := by decide
    simp only [List.nil_append, List.singleton_append, settleS, l0, l1, if_true]
    rfl
  have s4 : settleS (fun _ => true) 0 (([] ++ [(⟨1, fullS 97⟩ : S62)]) ++ [⟨1, fullS 98⟩]) (List.replicate 2 blankS) = [blankS, fullS 98] := rfl
  rw [s3] at v3
  rw [s4] at v4
  have rb : rdOf ByteArray.empty [blankS, fullS 98] 1 = fullS 98 := rfl
  refine Ev.bind (new_ev 2 (by omega) (by omega)) ?_
  refine Ev.bind (full_ev 97 (by omega) (by omega)) ?_
  refine ev_eq (write_eq v0 1 _ (by omega) (by rw [L0]; decide) (full_size _) (by decide)) ?_
  refine Ev.bind (full_ev 98 (by omega) (by omega)) ?_
  refine ev_eq (write_eq v1 1 _ (by omega) (by rw [L0]; decide) (full_size _) (by decide)) ?_
  refine ev_eq (read_eq v2 1 (by omega) (by rw [L0]; decide)) ?_
  refine Ev.bind (crash_eq v2 1) ?_
  rw [s3]
  refine ev_eq (read_eq v3 1 (by omega) (by decide)) ?_
  refine Ev.bind (flush_eq v2) ?_
  rw [s4]
  refine ev_eq (read_eq v4 1 (by omega) (by decide)) ?_
  refine ev_eq (rot_eq v4 1 0 1 (by omega) (by decide) (by omega) (by omega) (by omega) (by omega)) ?_
  have r5 : [blankS, fullS 98].set (1 : Int).toNat (rotS (rdOf ByteArray.empty [blankS, fullS 98] 1) 0 1) = [blankS, rotS (fullS 98) 0 1] := rfl
  rw [r5]
  have v5 : Valid [blankS, rotS (fullS 98) 0 1] [] := by
    have := rot_valid v4 1 0 1
    rw [r5] at this
    exact this
  refine ev_eq (read_eq v5 1 (by omega) (by decide)) ?_
  refine ev_eq (lose_valid v2) ?_
  refine ev_eq (read_lost 1) ?_
  refine Ev.bind (new_no 0 (by omega)) ?_
  have p2 : peekS (List.replicate 2 blankS) (([] ++ [(⟨1, fullS 97⟩ : S62)]) ++ [⟨1, fullS 98⟩]) 1 = fullS 98 := by
    unfold peekS
    rw [lastS_snoc, if_pos rfl]; rfl
  have p3 : peekS [blankS, fullS 97] [] 1 = fullS 97 := rfl
  have p4 : peekS [blankS, fullS 98] [] 1 = fullS 98 := rfl
  have p5 : peekS [blankS, rotS (fullS 98) 0 1] [] 1 = bsOf (byteOf 99 :: List.replicate 63 (byteOf 98)) := rot98
  have hb : bt (bsOf (byteOf 99 :: List.replicate 63 (byteOf 98))) 0 = 99 := by
    rw [show (0 : Int) = ((0 : Nat) : Int) from rfl, bs_bt _ 0 (by decide)]; decide
  have hz : (bsOf (byteOf 99 :: List.replicate 63 (byteOf 98))).size = 64 := by rw [bs_size]; rfl
  simp only [ossuarylaw0_Num.f, Option.bind_some, p2, p3, p4, p5, hb, hz, may_valid v2, may_none]
  refine ev_pos (by trivial) (ev_pos (by trivial) (ev_pos (by trivial) ?_))
  refine Ev.bind (full_ev 98 (by omega) (by omega)) ?_
  refine ev_pos (by trivial) (ev_pos (by trivial) (ev_pos (by trivial) ?_))
  refine Ev.bind (full_ev 97 (by omega) (by omega)) ?_
  refine ev_pos (by trivial) (ev_pos (by trivial) (ev_pos (by trivial) ?_))
  refine Ev.bind (full_ev 98 (by omega) (by omega)) ?_
  refine ev_pos (by trivial) (ev_pos (by trivial) (ev_pos (by trivial) (ev_pos (by trivial) (ev_pos (by decide) (ev_pos (by trivial) (ev_pos (by trivial) (ev_pos (by trivial) (ev_pos (by trivial) (ev_pos (by trivial) (ev_pos (by trivial) (ev_pos (by trivial) (Ev.now _))))))))))))

theorem sameT_loop (l : List ByteArray) (hl : l.length ≤ 8796093022208) : ∀ (d i : Nat), i + d = l.length → Ev (fun k => ossuarylaw0_SameTexts.l0 k l l (i : Int)) true := by
  intro d
  induction d with
  | zero =>
    intro i hi
    refine ev_succ ?_
    simp only [ossuarylaw0_SameTexts.l0]
    exact ev_neg (by omega) (Ev.now _)
  | succ d ih =>
    intro i hi
    refine ev_succ ?_
    simp only [ossuarylaw0_SameTexts.l0]
    refine ev_pos (by omega) (ev_pos (by omega) (ev_pos (by omega) (ev_pos trivial ?_)))
    rw [w64 (by omega) (by omega)]
    exact ih (i + 1) (by omega)
theorem sameT_ev (l : List ByteArray) (hl : l.length ≤ 8796093022208) : Ev (fun k => ossuarylaw0_SameTexts.f k l l) true := by
  unfold ossuarylaw0_SameTexts.f
  exact ev_pos rfl (sameT_loop l hl l.length 0 (by omega))

theorem bytes_strn (xs : List Int) (h : ∀ x, x ∈ xs → 0 ≤ x ∧ x < 256) : bytesOf (strOfNums xs) = xs := by
  rw [str_nums xs h]
  unfold bytesOf
  rw [bs_data, List.map_map]
  have : ∀ x, x ∈ xs → ((fun b : UInt8 => (b.toNat : Int)) ∘ byteOf) x = x := by
    intro x hx
    have := h x hx
    show ((byteOf x).toNat : Int) = x
    rw [byteOf_val, Int.emod_eq_of_lt this.1 this.2]
  rw [List.map_congr_left this, List.map_id']
theorem zero_range (n : Nat) : ∀ x, x ∈ List.replicate n (0 : Int) → 0 ≤ x ∧ x < 256 := fun x hx => by rw [List.eq_of_mem_replicate hx]; omega
theorem set_range {xs : List Int} (h : ∀ x, x ∈ xs → 0 ≤ x ∧ x < 256) (j : Nat) (k : Int) (h0 : 0 ≤ k) (h1 : k < 256) : ∀ x, x ∈ xs.set j k → 0 ≤ x ∧ x < 256 := by
  intro x hx
  rcases List.mem_or_eq_of_mem_set hx with hx | hx
  · exact h x hx
  · rw [hx]; exact ⟨h0, h1⟩
theorem blank_nums : blankS = strOfNums (List.replicate 64 0) := by
  rw [str_nums _ (zero_range 64), List.map_replicate]; rfl
theorem x8 : ∀ k : Fin 256, Go.bits .xor .u8 0 (k.val : Int) = (k.val : Int) ∧ Go.bits .xor .u8 (k.val : Int) (k.val : Int) = 0 := by decide +kernel
/-- the blank sector with a byte turned -/
def turnL (j k : Nat) : List Int := (List.replicate 64 0).set j (k : Int)
theorem turn_range (j k : Nat) (hk : k < 256) : ∀ x, x ∈ turnL j k → 0 ≤ x ∧ x < 256 := set_range (zero_range 64) j _ (by omega) (by omega)
theorem turn_len (j k : Nat) : (turnL j k).length = 64 := by unfold turnL; rw [List.length_set, List.length_replicate]
theorem turn_get (j k q : Nat) (hq : q < 64) : (turnL j k).getD q 0 = if q = j then (k : Int) else 0 := by
  unfold turnL
  rw [List.getD_eq_getElem?_getD, List.getElem?_set]
  by_cases e : j = q
  · subst e; rw [if_pos rfl, if_pos (by simpa using hq), if_pos rfl]; rfl
  · rw [if_neg e, if_neg (fun h => e h.symm), List.getElem?_replicate, if_pos hq]; rfl
theorem rot_blank (j k : Nat) (hj : j < 64) (hk : k < 256) : rotS blankS (j : Int) (k : Int) = strOfNums (turnL j k) := by
  have e0 : rd (List.replicate 64 (0 : Int)) (j : Int) = 0 := by
    unfold rd
    rw [Int.toNat_natCast, List.getD_eq_getElem?_getD, List.getElem?_replicate, if_pos hj]; rfl
  unfold rotS turnL
  rw [blank_nums, bytes_strn _ (zero_range 64), e0, Int.toNat_natCast, Int.emod_eq_of_lt (by omega) (by omega), (x8 ⟨k, hk⟩).1]
theorem rot_turn (j k : Nat) (hj : j < 64) (hk : k < 256) : rotS (strOfNums (turnL j k)) (j : Int) (k : Int) = blankS := by
  have e0 : rd (turnL j k) (j : Int) = (k : Int) := by
    have := turn_get j k j hj
    rw [if_pos rfl] at this
    unfold rd
    rw [Int.toNat_natCast]; exact this
  unfold rotS
  rw [bytes_strn _ (turn_range j k hk), e0, Int.toNat_natCast, Int.emod_eq_of_lt (by omega) (by omega), (x8 ⟨k, hk⟩).2, blank_nums]
  unfold turnL
  rw [List.set_set]
  congr 1
  apply List.ext_getElem?
  intro n
  rw [List.getElem?_set, List.getElem?_replicate]
  by_cases e : j = n
  · subst e; rw [if_pos rfl, if_pos (by simpa using hj), if_pos hj]
  · rw [if_neg e]
theorem bt_strn (xs : List Int) (h : ∀ x, x ∈ xs → 0 ≤ x ∧ x < 256) (q : Nat) (hq : q < xs.length) : bt (strOfNums xs) (q : Int) = xs.getD q 0 := by
  rw [str_nums xs h, bs_bt _ q (by simpa using hq)]
  have hx := h xs[q] (List.getElem_mem hq)
  rw [List.getElem_map, byteOf_val, Int.emod_eq_of_lt hx.1 hx.2, List.getD_eq_getElem?_getD, List.getElem?_eq_getElem hq]; rfl
theorem sameD_ev (l : List ByteArray) (hl : l.length ≤ 72) : Ev (fun k => ossuarylaw0_SameDisk.f k false l [] false l []) true := by
  unfold ossuarylaw0_SameDisk.f ossuarylaw0_SameWrites.f
  refine ev_pos (by trivial) (Ev.bind (sameT_ev l (by omega)) (ev_pos (by trivial) (Ev.bind (ev_pos (by trivial) (ev_succ ?_)) (Ev.now _))))
  simp only [ossuarylaw0_SameWrites.l0]; exact ev_neg (by decide) (Ev.now _)

theorem settle_snoc (p : Nat → Bool) (w : S62) : ∀ (l : List S62) (i : Nat) (s : List ByteArray), settleS p i (l ++ [w]) s = if p (i + l.length) = true then (settleS p i l s).set w.f0.toNat w.f1 else settleS p i l s
  | [], i, s => by simp only [List.nil_append, settleS, List.length_nil, Nat.add_zero]
  | x :: l, i, s => by
    rw [List.cons_append, settleS, settleS, settle_snoc p w l, List.length_cons, show i + 1 + l.length = i + (l.length + 1) from by omega]

theorem settle_none (p : Nat → Bool) (hp : ∀ i, p i = false) : ∀ (l : List S62) (i : Nat) (s : List ByteArray), settleS p i l s = s
  | [], _, _ => rfl
  | w :: l, i, s => by rw [settleS, hp i, if_neg (by decide), settle_none p hp l]
theorem settle_all (p : Nat → Bool) (hp : ∀ i, p i = true) : ∀ (l : List S62) (i : Nat) (s : List ByteArray), settleS p i l s = settleS (fun _ => true) i l s
  | [], _, _ => rfl
  | w :: l, i, s => by rw [settleS, settleS, hp i, settle_all p hp l]
theorem settle_any (p : Nat → Bool) (z : ByteArray) (j : Nat) : ∀ (l : List S62) (i : Nat) (s : List ByteArray), j < s.length → (settleS p i l s).getD j z = s.getD j z ∨ ∃ w, w ∈ l ∧ w.f0.toNat = j ∧ (settleS p i l s).getD j z = w.f1
  | [], _, _, _ => .inl rfl
  | w :: l, i, s, hj => by
    rw [settleS]
    by_cases hp : p i = true
    · rw [if_pos hp]
      rcases settle_any p z j l (i + 1) (s.set w.f0.toNat w.f1) (by rw [List.length_set]; exact hj) with h | ⟨v, hv, h1, h2⟩
      · by_cases he : w.f0.toNat = j
        · refine .inr ⟨w, List.mem_cons_self, he, ?_⟩
          rw [h, he, List.getD_eq_getElem?_getD, List.getElem?_set_self (by omega)]; rfl
        · refine .inl ?_
          rw [h, List.getD_eq_getElem?_getD, List.getD_eq_getElem?_getD, List.getElem?_set_ne he]
      · exact .inr ⟨v, List.mem_cons_of_mem _ hv, h1, h2⟩
    · rw [if_neg hp]
      rcases settle_any p z j l (i + 1) s hj with h | ⟨v, hv, h1, h2⟩
      · exact .inl h
      · exact .inr ⟨v, List.mem_cons_of_mem _ hv, h1, h2⟩
theorem lasts_zero (i : Nat) : lastsB 0 i = false := by
  unfold lastsB
  rw [Int.zero_ediv]; decide
theorem lasts_16 : ∀ m : Fin 16, (Go.bits .and .i64 (65535 / 2 ^ m.val) 1 == 1) = true := by decide +kernel
theorem lasts_all (i : Nat) : lastsB 65535 i = true := by
  unfold lastsB
  have h : ((i : Int) % 16).toNat < 16 := by omega
  exact lasts_16 ⟨_, h⟩
theorem blank_full : blankS = fullS 0 := rfl
/-- What there is behind so many writes. -/
def CI (i : Nat) (s : List ByteArray) (c : List S62) (old : List Int) (may : Nat → Bool) : Prop :=
  s.length = 3 ∧ c.length ≤ i ∧ old.length = 3 ∧ (∀ x, x ∈ old → 0 ≤ x ∧ x < 256) ∧ (∀ j, j < 3 → s.getD j ⟨#[]⟩ = fullS (old.getD j 0)) ∧ ∀ w, w ∈ c → ∃ k b : Nat, k < 3 ∧ 1 ≤ b ∧ b ≤ 16 ∧ w = ⟨(k : Int), fullS (b : Int)⟩ ∧ may (k * 256 + b) = true
theorem getD_mem {l : List Int} {j : Nat} (h : j < l.length) : l.getD j 0 ∈ l := mem_getD l 0 j h
theorem CI.valid {i : Nat} {s : List ByteArray} {c : List S62} {old : List Int} {may : Nat → Bool} (h : CI i s c old may) (hi : i ≤ 16) : Valid s c := by
  obtain ⟨h1, h2, h3, h4, h5, h6⟩ := h
  refine ⟨by omega, by omega, by omega, ?_, ?_⟩
  · intro x hx
    obtain ⟨j, hj, rfl⟩ := List.getElem_of_mem hx
    have := h5 j (by omega)
    rw [List.getD_eq_getElem?_getD, List.getElem?_eq_getElem hj, Option.getD_some] at this
    rw [this]; exact full_size _
  · intro w hw
    obtain ⟨k, b, a1, a2, a3, rfl, _⟩ := h6 w hw
    exact ⟨by show (0 : Int) ≤ k; omega, by show (k : Int) < _; omega, full_size _⟩
theorem CI.start : CI 0 (List.replicate 3 blankS) [] [0, 0, 0] (fun _ => false) := by
  refine ⟨by simp, by simp, rfl, ?_, ?_, by simp⟩
  · intro x hx; simp at hx; omega
  · intro j hj
    have : j = 0 ∨ j = 1 ∨ j = 2 := by omega
    rcases this with rfl | rfl | rfl <;> rfl
theorem CI.write {i : Nat} {s : List ByteArray} {c : List S62} {old : List Int} {may : Nat → Bool} (h : CI i s c old may) (hi : i < 16) (k : Nat) (hk : k < 3) :
    CI (i + 1) s (c ++ [⟨(k : Int), fullS (1 + (i : Int))⟩]) old (fun x => if x = k * 256 + (1 + i) then true else may x) := by
  obtain ⟨h1, h2, h3, h4, h5, h6⟩ := h
  refine ⟨h1, by simp; omega, h3, h4, h5, ?_⟩
  intro w hw
  rcases List.mem_append.1 hw with hw | hw
  · obtain ⟨k', b, a1, a2, a3, a4, a5⟩ := h6 w hw
    refine ⟨k', b, a1, a2, a3, a4, ?_⟩
    dsimp only
    split
    · rfl
    · exact a5
  · obtain rfl := List.mem_singleton.1 hw
    exact ⟨k, 1 + i, hk, by omega, by omega, by rw [Int.natCast_add]; rfl, if_pos rfl⟩
/-- Each sector that lasts, or was let last, is full of one byte. -/
theorem CI.settled {i : Nat} {s : List ByteArray} {c : List S62} {old : List Int} {may : Nat → Bool} (h : CI i s c old may) (p : Nat → Bool) (j : Nat) (hj : j < 3) :
    ∃ b : Int, 0 ≤ b ∧ b < 256 ∧ (settleS p 0 c s).getD j ⟨#[]⟩ = fullS b ∧ (b = old.getD j 0 ∨ may (j * 256 + b.toNat) = true) := by
  obtain ⟨h1, h2, h3, h4, h5, h6⟩ := h
  rcases settle_any p ⟨#[]⟩ j c 0 s (by omega) with e | ⟨w, hw, e1, e2⟩
  · obtain ⟨b1, b2⟩ := h4 _ (getD_mem (show j < old.length by omega))
    exact ⟨old.getD j 0, b1, b2, by rw [e, h5 j hj], .inl rfl⟩
  · obtain ⟨k, b, a1, a2, a3, rfl, a5⟩ := h6 w hw
    have : k = j := by have : (k : Int).toNat = j := e1; omega
    subst this
    exact ⟨(b : Int), by omega, by omega, e2, .inr (by simpa using a5)⟩
theorem CI.flushed {i : Nat} {s : List ByteArray} {old : List Int} (h1 : s.length = 3) (h3 : old.length = 3) (h4 : ∀ x, x ∈ old → 0 ≤ x ∧ x < 256) (h5 : ∀ j, j < 3 → s.getD j ⟨#[]⟩ = fullS (old.getD j 0)) : CI i s [] old (fun _ => false) :=
  ⟨h1, by simp, h3, h4, h5, by simp⟩
theorem peek_nil (s : List ByteArray) (j : Nat) : peekS s [] (j : Int) = s.getD j ⟨#[]⟩ := by
  unfold peekS
  rw [lastS_nil, Int.toNat_natCast]; rfl
theorem crash_none {s : List ByteArray} {c : List S62} (h : Valid s c) : Ev (fun k => disk_Crash.f k false s c 0) (false, s, [], 0) := by
  have := crash_eq h 0
  rwa [settle_none _ lasts_zero] at this
theorem crash_all {s : List ByteArray} {c : List S62} (h : Valid s c) : Ev (fun k => disk_Crash.f k false s c 65535) (false, settleS (fun _ => true) 0 c s, [], 0) := by
  have := crash_eq h 65535
  rwa [settle_all _ lasts_all] at this
theorem full_first (b : Int) (h0 : 0 ≤ b) (h1 : b < 256) : 0 < (fullS b).size ∧ ∀ h : 0 < (fullS b).size, (((fullS b)[0]'h).toNat : Int) = b := by
  refine ⟨by rw [full_size]; decide, fun h => ?_⟩
  have e : (fullS b)[0]'h = byteOf b := by
    unfold fullS bsOf
    simp [ByteArray.getElem_eq_getElem_data]
  rw [e]
  unfold byteOf
  rw [UInt8.toNat_ofNat']
  omega

end Go.Proofs.Ytoloonnoobnafaa.Dp
