/- What the calls over disks answer, the program's and the reference's, in plain words: no condition beyond each theorem's own. -/
import Derived.Test.YtoloonnoobnafaaHDisksx9
namespace Go.Proofs.Ytoloonnoobnafaa.Dp
open Go.RowKit Go.Proofs.Ytoloonnoobnafaa.HDisks Go.Proofs.YtoloonnoobnafaaW.PrintWords Go.Proofs.YtoloonnoobnafaaW.PrintLast
set_option linter.unusedVariables false
set_option linter.unusedSimpArgs false
theorem wf64 {x : Int} (h : (Lit.int .i64 x).wf = true) : -9223372036854775808 ≤ x ∧ x ≤ 9223372036854775807 := by
  simp only [Lit.wf, Bool.and_eq_true, decide_eq_true_eq] at h
  have e1 : IntKind.i64.min = -9223372036854775808 := by decide
  have e2 : IntKind.i64.max = 9223372036854775807 := by decide
  omega
theorem w64 {x : Int} (h0 : -9223372036854775808 ≤ x) (h1 : x ≤ 9223372036854775807) : wrap64 x = x := by
  unfold wrap64; omega
theorem tm {x : Int} (m : Int) (h0 : 0 ≤ x) : Int.tmod x m = x % m := Int.tmod_eq_emod_of_nonneg h0
theorem data_len (s : ByteArray) : s.data.toList.length = s.size := by rw [Array.length_toList]; rfl
theorem bt_get (s : ByteArray) (n : Nat) (h : n < s.data.toList.length) : bt s (n : Int) = ((s.data.toList[n]'h).toNat : Int) := by
  have h' : n < s.size := by rw [data_len] at h; exact h
  unfold bt
  rw [dif_pos (show (n : Int).toNat < s.size from by simpa using h')]
  simp [ByteArray.getElem_eq_getElem_data]
/-- enough rounds -/
theorem ex_of_ev {α : Type} {g : Nat → Option α} {r : α} (h : Ev g r) : ∃ k, g k = some r := h.rounds
theorem ev_ge {α : Type} {g : Nat → Option α} {r : α} (K : Nat) (h : ∀ k, K ≤ k → g k = some r) : Ev g r := ⟨K, h⟩
theorem ev_const {α : Type} {g : Option α} {r : α} (h : g = some r) : Ev (fun _ => g) r := ⟨0, fun _ _ => h⟩
theorem ev_pos {α : Type} {c : Prop} [Decidable c] {f g : Nat → Option α} {r : α} (h : c) (hf : Ev f r) : Ev (fun k => if c then f k else g k) r := by
  simp only [if_pos h]; exact hf
theorem ev_neg {α : Type} {c : Prop} [Decidable c] {f g : Nat → Option α} {r : α} (h : ¬ c) (hg : Ev g r) : Ev (fun k => if c then f k else g k) r := by
  simp only [if_neg h]; exact hg
theorem ev_succ {α : Type} {g : Nat → Option α} {r : α} (h : Ev (fun k => g (k + 1)) r) : Ev g r := Ev.step (f := fun k => g (k + 1)) (fun _ => rfl) h

theorem u64w (x : Int) : IntKind.u64.wrap x = x % 18446744073709551616 := by simp [IntKind.wrap, IntKind.bits, IntKind.signed]
theorem i64w (x : Int) : IntKind.i64.wrap x = (x + 9223372036854775808) % 18446744073709551616 - 9223372036854775808 := by
  simp [IntKind.wrap, IntKind.bits, IntKind.signed]
  split <;> omega
/-- x & (2^i - 1), whatever x -/
theorem and_mask (x : Int) (i : Nat) (hi : i ≤ 62) (m p : Int) (hm : m = ((2 ^ i - 1 : Nat) : Int)) (hp : p = ((2 ^ i : Nat) : Int)) : Go.bits .and .i64 x m = x % p := by
  subst hm hp
  have h2 : 2 ^ i ≤ 2 ^ 62 := Nat.pow_le_pow_right (by decide) hi
  have hpos : 0 < 2 ^ i := Nat.two_pow_pos i
  have e1 : (2 ^ i - 1) % 2 ^ 64 = 2 ^ i - 1 := Nat.mod_eq_of_lt (by omega)
  have hd : 2 ^ i ∣ 2 ^ 64 := Nat.pow_dvd_pow 2 (by omega)
  have e0 : Go.bits .and .i64 x ((2 ^ i - 1 : Nat) : Int) = IntKind.i64.wrap (((BitVec.ofInt 64 x &&& BitVec.ofInt 64 ((2 ^ i - 1 : Nat) : Int)).toNat : Nat) : Int) := rfl
  rw [e0, BitVec.ofInt_natCast, BitVec.toNat_and, BitVec.toNat_ofNat]
  rw [e1, Nat.and_two_pow_sub_one_eq_mod]
  have e2 : (BitVec.ofInt 64 x).toNat = (x % 18446744073709551616).toNat := by
    rw [BitVec.toNat_ofInt]; rfl
  rw [e2]
  have e3 : (((x % 18446744073709551616).toNat % 2 ^ i : Nat) : Int) = x % ((2 ^ i : Nat) : Int) := by
    rw [Int.natCast_emod, Int.toNat_of_nonneg (by omega)]
    have hd' : ((2 ^ i : Nat) : Int) ∣ (18446744073709551616 : Int) := Int.natCast_dvd_natCast (n := 18446744073709551616).mpr hd
    exact Int.emod_emod_of_dvd x hd'
  rw [e3]
  have h3 : 0 ≤ x % ((2 ^ i : Nat) : Int) := Int.emod_nonneg x (by omega)
  have h4 : x % ((2 ^ i : Nat) : Int) < ((2 ^ i : Nat) : Int) := Int.emod_lt_of_pos x (by omega)
  generalize x % ((2 ^ i : Nat) : Int) = y at *
  rw [i64w]; omega
/-- uint(a) % uint(n), as a place -/
def umod (a : Int) (n : Nat) : Nat := ((a % 18446744073709551616) % (n : Int)).toNat
theorem umod_lt (a : Int) (n : Nat) (h : 1 ≤ n) : umod a n < n := by
  unfold umod
  have h1 : 0 ≤ (a % 18446744073709551616) % (n : Int) := Int.emod_nonneg _ (by omega)
  have h2 : (a % 18446744073709551616) % (n : Int) < (n : Int) := Int.emod_lt_of_pos _ (by omega)
  omega
theorem umod_eq (a : Int) (n : Nat) (h : 1 ≤ n) (h' : n ≤ 4611686018427387904) : wrap64 (Int.tmod (IntKind.u64.wrap a) (IntKind.u64.wrap (n : Int))) = (umod a n : Int) := by
  have e : (n : Int) % 18446744073709551616 = (n : Int) := by omega
  rw [u64w, u64w, e, tm (x := a % 18446744073709551616) _ (by omega)]
  unfold umod
  have h1 : 0 ≤ (a % 18446744073709551616) % (n : Int) := Int.emod_nonneg _ (by omega)
  have h2 : (a % 18446744073709551616) % (n : Int) < (n : Int) := Int.emod_lt_of_pos _ (by omega)
  rw [w64 (by omega) (by omega)]; omega
theorem umod_lit (a : Int) (n : Nat) (m : Int) (hm : m = (n : Int)) (h : 1 ≤ n) (h' : n ≤ 4611686018427387904) : wrap64 (Int.tmod (IntKind.u64.wrap a) m) = (umod a n : Int) := by
  subst hm
  have := umod_eq a n h h'
  rwa [show IntKind.u64.wrap (n : Int) = (n : Int) from by rw [u64w]; omega] at this
/-- int(uint32(x) >> 2) -/
def quart (x : Int) : Int := x % 4294967296 / 4
theorem quart_range (x : Int) : 0 ≤ quart x ∧ quart x < 1073741824 := by unfold quart; omega

/-- a text of these bytes -/
def bsOf (l : List UInt8) : ByteArray := ⟨l.toArray⟩
theorem bs_list (l : List UInt8) : (bsOf l).toList = l := by unfold bsOf; simp
theorem bs_data (l : List UInt8) : (bsOf l).data.toList = l := by simp [bsOf]
theorem bs_size (l : List UInt8) : (bsOf l).size = l.length := by rw [← data_len, bs_data]
theorem bs_of (s : ByteArray) : bsOf s.data.toList = s := by simp [bsOf]
theorem bs_eta (s : ByteArray) : ∃ l, s = bsOf l ∧ l.length = s.size := ⟨s.data.toList, (bs_of s).symm, data_len s⟩
theorem ba_ext {a b : ByteArray} (h : a.data.toList = b.data.toList) : a = b := by rw [← bs_of a, ← bs_of b, h]
theorem bs_append (a b : List UInt8) : bsOf a ++ bsOf b = bsOf (a ++ b) := by
  apply ba_ext; simp [bs_data]
theorem bs_inj {a b : List UInt8} (h : bsOf a = bsOf b) : a = b := by rw [← bs_data a, ← bs_data b, h]
theorem bs_extract (l : List UInt8) (a b : Nat) : (bsOf l).extract a b = bsOf ((l.drop a).take (b - a)) := by
  apply ba_ext
  rw [bs_data, ByteArray.data_extract, Array.toList_extract, List.extract_eq_take_drop, bs_data]
theorem bs_bt (l : List UInt8) (i : Nat) (h : i < l.length) : bt (bsOf l) (i : Int) = (l[i].toNat : Int) := by
  have := bt_get (bsOf l) i (by rw [bs_data]; exact h)
  rw [this]; congr 2
theorem u8_range (b : UInt8) : 0 ≤ (b.toNat : Int) ∧ (b.toNat : Int) ≤ 255 := by
  have := b.toNat_lt; omega
/-- a byte of a number -/
def byteOf (x : Int) : UInt8 := UInt8.ofNat (x % 256).toNat
theorem byteOf_val (x : Int) : ((byteOf x).toNat : Int) = x % 256 := by
  unfold byteOf
  rw [UInt8.toNat_ofNat']
  omega
theorem byteOf_toNat (b : UInt8) : byteOf (b.toNat : Int) = b := by
  apply UInt8.toNat_inj.mp
  have h1 := byteOf_val (b.toNat : Int)
  have h2 := u8_range b
  omega
theorem str_nums (xs : List Int) (h : ∀ x, x ∈ xs → 0 ≤ x ∧ x < 256) : strOfNums xs = bsOf (xs.map byteOf) := by
  unfold strOfNums bsOf
  congr 2
  apply List.map_congr_left
  intro x hx
  have := h x hx
  unfold byteOf
  rw [Int.emod_eq_of_lt this.1 this.2]

theorem rep_zero : ∀ n, Lib.repeatL [0] n = List.replicate n 0
  | 0 => rfl
  | n + 1 => by rw [Lib.repeatL, rep_zero n]; rfl
theorem repeat_eq (m : Nat) (h : m ≤ 1000000) : strings_Repeat.f (⟨#[0]⟩ : ByteArray) (m : Int) = some (bsOf (List.replicate m 0)) := by
  unfold strings_Repeat.f
  rw [if_pos (by refine ⟨by omega, by omega, ?_⟩; rw [Int.toNat_natCast, show (⟨#[0]⟩ : ByteArray).size = 1 from rfl]; omega), Int.toNat_natCast, rep_zero]
  rfl

/-- a disk that may be, not lost -/
def Valid (l1 : List ByteArray) (l2 : List S62) : Prop := 1 ≤ l1.length ∧ l1.length ≤ 72 ∧ l2.length ≤ 256 ∧ (∀ s, s ∈ l1 → s.size = 64) ∧ (∀ w, w ∈ l2 → 0 ≤ w.f0 ∧ w.f0 < (l1.length : Int) ∧ w.f1.size = 64)
theorem mem_getD {α : Type} (l : List α) (z : α) (j : Nat) (h : j < l.length) : l.getD j z ∈ l := by
  rw [List.getD_eq_getElem?_getD, List.getElem?_eq_getElem h]
  exact List.getElem_mem h
theorem may_valid {l1 : List ByteArray} {l2 : List S62} (h : Valid l1 l2) : disk_May.f false l1 l2 = some true := by
  obtain ⟨h1, h2, h3, h4, h5⟩ := h
  unfold disk_May.f disk_May.v
  rw [if_pos (by omega)]
  unfold Go.Proofs.YtoloonnoobnafaaMay.mayB
  have a1 : (List.range l1.length).any (fun j => ((l1.getD j ⟨#[]⟩).size : Int) != 64) = false := by
    rw [List.any_eq_false]
    intro j hj
    have := h4 _ (mem_getD l1 ⟨#[]⟩ j (List.mem_range.1 hj))
    rw [this]; decide
  have a2 : (List.range l2.length).any (fun j => Go.Proofs.YtoloonnoobnafaaMay.badB (l2.getD j z62).f0 l1.length (l2.getD j z62).f1) = false := by
    rw [List.any_eq_false]
    intro j hj
    obtain ⟨b1, b2, b3⟩ := h5 _ (mem_getD l2 z62 j (List.mem_range.1 hj))
    unfold Go.Proofs.YtoloonnoobnafaaMay.badB
    rw [b3, decide_eq_false (by omega), decide_eq_false (by omega)]; decide
  rw [a1, a2, decide_eq_true h1, decide_eq_true h2, decide_eq_true h3]; rfl
theorem may_lost : disk_May.f true [] [] = some true := rfl
theorem may_none : disk_May.f false [] [] = some false := rfl
theorem there_valid {l1 : List ByteArray} {l2 : List S62} (h : Valid l1 l2) : disk_there.f false l1 l2 = some 0 := by
  unfold disk_there.f
  rw [may_valid h, Option.bind_some, if_pos rfl, if_neg (by decide)]
theorem there_lost : disk_there.f true [] [] = some 1301 := rfl
/-- what was written last there -/
def lastS (l2 : List S62) (a : Int) : Option ByteArray := Go.Proofs.YtoloonnoobnafaaMay.lastN (fun j => (l2.getD j z62).f0) (fun j => (l2.getD j z62).f1) a l2.length
theorem lastN_congr {p q : Nat → Int} {f g : Nat → ByteArray} (a : Int) : ∀ n, (∀ j, j < n → p j = q j ∧ f j = g j) → Go.Proofs.YtoloonnoobnafaaMay.lastN p f a n = Go.Proofs.YtoloonnoobnafaaMay.lastN q g a n
  | 0, _ => rfl
  | n + 1, h => by
    rw [Go.Proofs.YtoloonnoobnafaaMay.lastN, Go.Proofs.YtoloonnoobnafaaMay.lastN, (h n (Nat.lt_succ_self n)).1, (h n (Nat.lt_succ_self n)).2, lastN_congr a n (fun j hj => h j (Nat.lt_succ_of_lt hj))]
theorem lastS_nil (a : Int) : lastS [] a = none := rfl
theorem lastS_snoc (l2 : List S62) (w : S62) (a : Int) : lastS (l2 ++ [w]) a = if w.f0 = a then some w.f1 else lastS l2 a := by
  unfold lastS
  rw [List.length_append, List.length_singleton, Go.Proofs.YtoloonnoobnafaaMay.lastN]
  have e : (l2 ++ [w]).getD l2.length z62 = w := by
    rw [List.getD_eq_getElem?_getD, List.getElem?_append_right (Nat.le_refl _), Nat.sub_self]; rfl
  rw [e, lastN_congr a l2.length]
  intro j hj
  have : (l2 ++ [w]).getD j z62 = l2.getD j z62 := by
    rw [List.getD_eq_getElem?_getD, List.getD_eq_getElem?_getD, List.getElem?_append_left hj]
  rw [this]; exact ⟨rfl, rfl⟩
/-- what stands there -/
def peekS (l1 : List ByteArray) (l2 : List S62) (a : Int) : ByteArray := (lastS l2 a).getD (l1.getD a.toNat ⟨#[]⟩)
theorem at_eq {l1 : List ByteArray} {l2 : List S62} (b : Bool) (a : Int) (h0 : 0 ≤ a) (h1 : a < (l1.length : Int)) (h2 : l2.length ≤ 256) : disk_At.f b l1 l2 a = some (peekS l1 l2 a) := by
  unfold disk_At.f Go.Proofs.YtoloonnoobnafaaMay.atB
  rw [if_pos (by omega)]
  show (match lastS l2 a with | some s => some s | none => if 0 ≤ a ∧ a < (l1.length : Int) then some (l1.getD a.toNat ⟨#[]⟩) else none) = _
  unfold peekS
  cases lastS l2 a with
  | none => show (if _ then _ else _) = _; rw [if_pos ⟨h0, h1⟩]; rfl
  | some s => rfl
theorem read_eq {l1 : List ByteArray} {l2 : List S62} (h : Valid l1 l2) (a : Int) (h0 : 0 ≤ a) (h1 : a < (l1.length : Int)) : disk_Read.f false l1 l2 a = some (peekS l1 l2 a, 0) := by
  unfold disk_Read.f
  rw [there_valid h, Option.bind_some, if_pos rfl, if_neg (by omega), if_neg (by omega), at_eq false a h0 h1 h.2.2.1]; rfl
theorem read_lost (a : Int) : disk_Read.f true [] [] a = some ((⟨#[]⟩ : ByteArray), 1301) := rfl
theorem copy_eq (b : Bool) (l1 : List ByteArray) (l2 : List S62) (h1 : l1.length ≤ 72) (h2 : l2.length ≤ 256) : disk_Copy.f b l1 l2 = some (b, l1, l2) := by
  unfold disk_Copy.f slices_Clone_string_string.f api_Write_55.f
  rw [if_pos (by omega), Option.bind_some, if_pos (by omega)]; rfl
theorem write_eq {l1 : List ByteArray} {l2 : List S62} (h : Valid l1 l2) (a : Int) (s : ByteArray) (h0 : 0 ≤ a) (h1 : a < (l1.length : Int)) (hs : s.size = 64) (h2 : l2.length < 256) : disk_Write.f false l1 l2 a s = some (false, l1, l2 ++ [⟨a, s⟩], 0) := by
  unfold disk_Write.f
  rw [there_valid h, Option.bind_some, if_pos rfl, if_neg (by omega), if_neg (by omega), if_pos (by omega), if_neg (by omega), copy_eq false l1 l2 h.2.1 h.2.2.1, Option.bind_some, if_pos (by show l2.length < _; omega)]
theorem write_lost (a : Int) (s : ByteArray) : disk_Write.f true [] [] a s = some (false, [], [], 1301) := rfl
theorem write_valid {l1 : List ByteArray} {l2 : List S62} (h : Valid l1 l2) (a : Int) (s : ByteArray) (h0 : 0 ≤ a) (h1 : a < (l1.length : Int)) (hs : s.size = 64) (h2 : l2.length < 256) : Valid l1 (l2 ++ [⟨a, s⟩]) := by
  refine ⟨h.1, h.2.1, by simp; omega, h.2.2.2.1, ?_⟩
  intro w hw
  rcases List.mem_append.1 hw with hw | hw
  · exact h.2.2.2.2 w hw
  · obtain rfl := List.mem_singleton.1 hw
    exact ⟨h0, h1, hs⟩
/-- writes that last -/
def settleS (p : Nat → Bool) : Nat → List S62 → List ByteArray → List ByteArray
  | _, [], s => s
  | i, w :: l, s => settleS p (i + 1) l (if p i = true then s.set w.f0.toNat w.f1 else s)
theorem settle_len (p : Nat → Bool) : ∀ (l : List S62) (i : Nat) (s : List ByteArray), (settleS p i l s).length = s.length
  | [], _, _ => rfl
  | w :: l, i, s => by
    rw [settleS, settle_len p l]
    split
    · rw [List.length_set]
    · rfl
theorem settle_size (p : Nat → Bool) : ∀ (l : List S62) (i : Nat) (s : List ByteArray), (∀ w, w ∈ l → w.f1.size = 64) → (∀ x, x ∈ s → x.size = 64) → ∀ x, x ∈ settleS p i l s → x.size = 64
  | [], _, _, _, hs => hs
  | w :: l, i, s, hl, hs => by
    rw [settleS]
    refine settle_size p l (i + 1) _ (fun x hx => hl x (List.mem_cons_of_mem _ hx)) ?_
    intro x hx
    split at hx
    · rcases List.mem_or_eq_of_mem_set hx with hx | hx
      · exact hs x hx
      · rw [hx]; exact hl w List.mem_cons_self
    · exact hs x hx
theorem settle_valid {l1 : List ByteArray} {l2 : List S62} (h : Valid l1 l2) (p : Nat → Bool) : Valid (settleS p 0 l2 l1) [] :=
  ⟨by rw [settle_len]; exact h.1, by rw [settle_len]; exact h.2.1, by simp, settle_size p l2 0 l1 (fun w hw => (h.2.2.2.2 w hw).2.2) h.2.2.2.1, by simp⟩
theorem rd_drop (l2 : List S62) (i : Nat) (h : i < l2.length) : l2.drop i = rd_T62 l2 (i : Int) :: l2.drop (i + 1) := by
  rw [List.drop_eq_getElem_cons h]
  congr 1
  unfold rd_T62
  rw [Int.toNat_natCast, List.getD_eq_getElem?_getD, List.getElem?_eq_getElem h]; rfl
theorem rd_mem (l2 : List S62) (i : Nat) (h : i < l2.length) : rd_T62 l2 (i : Int) ∈ l2 := by
  unfold rd_T62; rw [Int.toNat_natCast]; exact mem_getD l2 z62 i h
theorem flush_loop (b : Bool) (l2 l3 : List S62) (N : Nat) (h : ∀ w, w ∈ l2 → 0 ≤ w.f0 ∧ w.f0 < (N : Int)) (hn : l2.length ≤ 256) : ∀ (d i : Nat) (s : List ByteArray), i + d = l2.length → s.length = N → Ev (fun k => disk_settled_flush.l0 k l2 (l2.length : Int) (i : Int) b s l3) (b, settleS (fun _ => true) i (l2.drop i) s, []) := by
  intro d
  induction d with
  | zero =>
    intro i s hi hs
    refine ev_succ ?_
    simp only [disk_settled_flush.l0]
    rw [List.drop_eq_nil_of_le (by omega)]
    exact ev_neg (by omega) (Ev.now _)
  | succ d ih =>
    intro i s hi hs
    obtain ⟨a1, a2⟩ := h _ (rd_mem l2 i (by omega))
    refine ev_succ ?_
    simp only [disk_settled_flush.l0, disk_Flush_1.f, Option.bind_some, if_true]
    refine ev_pos (by omega) (ev_pos (by omega) (ev_pos (by omega) (ev_pos a1 (ev_pos (by rw [hs]; exact a2) ?_))))
    rw [w64 (by omega) (by omega), rd_drop l2 i (by omega), settleS, if_pos rfl]
    exact ih (i + 1) _ (by omega) (by rw [List.length_set]; exact hs)
theorem flush_eq {l1 : List ByteArray} {l2 : List S62} (h : Valid l1 l2) : Ev (fun k => disk_Flush.f k false l1 l2) (false, settleS (fun _ => true) 0 l2 l1, [], 0) := by
  unfold disk_Flush.f disk_settled_flush.f
  rw [there_valid h]
  simp only [Option.bind_some, if_true]
  rw [copy_eq false l1 l2 h.2.1 h.2.2.1]
  simp only [Option.bind_some]
  refine Ev.bind (flush_loop false l2 l2 l1.length (fun w hw => ⟨(h.2.2.2.2 w hw).1, (h.2.2.2.2 w hw).2.1⟩) h.2.2.1 l2.length 0 l1 (by omega) rfl) ?_
  exact Ev.now _
theorem flush_lost : Ev (fun k => disk_Flush.f k true [] []) (false, [], [], 1301) := Ev.now _
/-- does a write last? -/
def lastsB (keep : Int) (i : Nat) : Bool := Go.bits .and .i64 (keep / 2 ^ ((i : Int) % 16).toNat) 1 == 1
theorem crash_loop (keep : Int) (b : Bool) (l2 l3 : List S62) (N : Nat) (h : ∀ w, w ∈ l2 → 0 ≤ w.f0 ∧ w.f0 < (N : Int)) (hn : l2.length ≤ 256) : ∀ (d i : Nat) (s : List ByteArray), i + d = l2.length → s.length = N → Ev (fun k => disk_settled_crash.l0 k keep l2 (l2.length : Int) (i : Int) b s l3) (b, settleS (lastsB keep) i (l2.drop i) s, []) := by
  intro d
  induction d with
  | zero =>
    intro i s hi hs
    refine ev_succ ?_
    simp only [disk_settled_crash.l0]
    rw [List.drop_eq_nil_of_le (by omega)]
    exact ev_neg (by omega) (Ev.now _)
  | succ d ih =>
    intro i s hi hs
    obtain ⟨a1, a2⟩ := h _ (rd_mem l2 i (by omega))
    have hc : disk_Crash_1.f (i : Int) keep = some (lastsB keep i) := by unfold disk_Crash_1.f; rw [if_pos (by omega)]; rfl
    refine ev_succ ?_
    simp only [disk_settled_crash.l0, hc, Option.bind_some]
    refine ev_pos (by omega) (ev_pos (by omega) (ev_pos (by omega) ?_))
    rw [w64 (by omega) (by omega), rd_drop l2 i (by omega), settleS]
    by_cases hp : lastsB keep i = true
    · rw [if_pos hp]
      refine ev_pos hp (ev_pos a1 (ev_pos (by rw [hs]; exact a2) ?_))
      exact ih (i + 1) _ (by omega) (by rw [List.length_set]; exact hs)
    · rw [if_neg hp]
      refine ev_neg hp ?_
      exact ih (i + 1) _ (by omega) hs
theorem crash_eq {l1 : List ByteArray} {l2 : List S62} (h : Valid l1 l2) (keep : Int) : Ev (fun k => disk_Crash.f k false l1 l2 keep) (false, settleS (lastsB keep) 0 l2 l1, [], 0) := by
  unfold disk_Crash.f disk_settled_crash.f
  rw [there_valid h]
  simp only [Option.bind_some, if_true]
  rw [copy_eq false l1 l2 h.2.1 h.2.2.1]
  simp only [Option.bind_some]
  refine Ev.bind (crash_loop keep false l2 l2 l1.length (fun w hw => ⟨(h.2.2.2.2 w hw).1, (h.2.2.2.2 w hw).2.1⟩) h.2.2.1 l2.length 0 l1 (by omega) rfl) ?_
  exact Ev.now _
theorem crash_lost (keep : Int) : Ev (fun k => disk_Crash.f k true [] [] keep) (false, [], [], 1301) := Ev.now _
/-- a sector with a byte turned -/
def rotS (s : ByteArray) (p : Int) (y : Int) : ByteArray := strOfNums ((bytesOf s).set p.toNat (Go.bits .xor .u8 (rd (bytesOf s) p) (y % 256)))
theorem rot_eq {l1 : List ByteArray} {l2 : List S62} (h : Valid l1 l2) (a p y : Int) (h0 : 0 ≤ a) (h1 : a < (l1.length : Int)) (p0 : 0 ≤ p) (p1 : p < 64) (y0 : 1 ≤ y) (y1 : y ≤ 255) : disk_Rot.f false l1 l2 a p y = some (false, l1.set a.toNat (rotS (rdOf ByteArray.empty l1 a) p y), l2, 0) := by
  have hs : (rdOf ByteArray.empty l1 a).size = 64 := by
    unfold rdOf
    exact h.2.2.2.1 _ (mem_getD l1 _ a.toNat (by omega))
  unfold disk_Rot.f rotS
  rw [there_valid h, Option.bind_some, if_pos rfl, if_neg (by omega), if_neg (by omega), if_neg (by omega), if_neg (by omega), if_neg (by omega), if_neg (by omega), copy_eq false l1 l2 h.2.1 h.2.2.1, Option.bind_some, if_pos h0, if_pos h1, if_pos (by rw [hs]; decide), Option.bind_some, if_pos p0, if_pos (by rw [bytesOf_length, hs]; omega)]
theorem rot_lost (a p y : Int) : disk_Rot.f true [] [] a p y = some (false, [], [], 1301) := rfl
theorem lose_valid {l1 : List ByteArray} {l2 : List S62} (h : Valid l1 l2) : disk_Lose.f false l1 l2 = some (true, [], [], 0) := by
  unfold disk_Lose.f
  rw [may_valid h]; rfl
theorem lose_lost : disk_Lose.f true [] [] = some (true, [], [], 0) := rfl
/-- a sector of one byte -/
def fullS (b : Int) : ByteArray := bsOf (List.replicate 64 (byteOf b))
theorem full_size (b : Int) : (fullS b).size = 64 := by unfold fullS; rw [bs_size, List.length_replicate]
theorem full_loop (b : Int) : ∀ (d i : Nat), i + d = 64 → Ev (fun k => ossuarylaw13_full.l0 k b (List.replicate i b ++ List.replicate d 0) (i : Int)) (strOfNums (List.replicate 64 b)) := by
  intro d
  induction d with
  | zero =>
    intro i hi
    obtain rfl : i = 64 := by omega
    refine ev_succ ?_
    simp only [ossuarylaw13_full.l0]
    refine ev_neg (by omega) ?_
    rw [List.replicate_zero, List.append_nil]
    exact Ev.now _
  | succ d ih =>
    intro i hi
    refine ev_succ ?_
    simp only [ossuarylaw13_full.l0]
    refine ev_pos (by omega) (ev_pos (by omega) (ev_pos (by simp; omega) ?_))
    rw [w64 (by omega) (by omega), Int.toNat_natCast]
    have e : (List.replicate i b ++ List.replicate (d + 1) 0).set i b = List.replicate (i + 1) b ++ List.replicate d 0 := by
      rw [List.set_append_right _ _ (by simp), List.length_replicate, Nat.sub_self, List.replicate_succ, List.set_cons_zero, List.replicate_succ', List.append_assoc]; rfl
    rw [e]
    exact ih (i + 1) (by omega)
theorem full_ev (b : Int) (h0 : 0 ≤ b) (h1 : b < 256) : Ev (fun k => ossuarylaw13_full.f k b) (fullS b) := by
  unfold ossuarylaw13_full.f
  refine ev_pos (by omega) ?_
  have := full_loop b 64 0 (by omega)
  rw [str_nums _ (fun x hx => by rw [List.eq_of_mem_replicate hx]; exact ⟨h0, h1⟩), List.map_replicate] at this
  exact this
def blankS : ByteArray := bsOf (List.replicate 64 0)
theorem blank_size : blankS.size = 64 := by unfold blankS; rw [bs_size, List.length_replicate]
theorem blank_eq : disk_Blank.f = some blankS := by
  unfold disk_Blank.f
  rw [show (64 : Int) = ((64 : Nat) : Int) from rfl, repeat_eq 64 (by omega)]; rfl
theorem new_ev (n : Nat) (h0 : 1 ≤ n) (h1 : n ≤ 72) : Ev (fun k => disk_New.f k (n : Int)) (false, List.replicate n blankS, [], 0) := by
  unfold disk_New.f
  refine ev_neg (by omega) (ev_succ ?_)
  simp only [disk_New.j0]
  refine ev_neg (by simp; omega) ?_
  rw [blank_eq, Option.bind_some]
  unfold slices_Repeat_string_string.f
  rw [if_pos ⟨rfl, by omega, by omega⟩, Option.bind_some, Int.toNat_natCast]
  exact Ev.now _
theorem new_no (n : Int) (h : n < 1 ∨ 72 < n) : Ev (fun k => disk_New.f k n) (false, [], [], 1300) := by
  unfold disk_New.f
  by_cases c : n < 1
  · refine ev_pos c (ev_succ ?_)
    simp only [disk_New.j0]
    exact ev_pos (by trivial) (Ev.now _)
  · refine ev_neg c (ev_succ ?_)
    simp only [disk_New.j0]
    exact ev_pos (by simp; omega) (Ev.now _)
theorem new_valid (n : Nat) (h0 : 1 ≤ n) (h1 : n ≤ 72) : Valid (List.replicate n blankS) [] :=
  ⟨by simpa using h0, by simpa using h1, by simp, fun s hs => by rw [List.eq_of_mem_replicate hs]; exact blank_size, by simp⟩

theorem strn_size (xs : List Int) : (strOfNums xs).size = xs.length := by
  rw [← data_len]; unfold strOfNums; simp
theorem rot_size (s : ByteArray) (p y : Int) : (rotS s p y).size = s.size := by
  unfold rotS; rw [strn_size, List.length_set, bytesOf_length]
theorem rot_valid {l1 : List ByteArray} {l2 : List S62} (h : Valid l1 l2) (a p y : Int) : Valid (l1.set a.toNat (rotS (rdOf ByteArray.empty l1 a) p y)) l2 := by
  refine ⟨by rw [List.length_set]; exact h.1, by rw [List.length_set]; exact h.2.1, h.2.2.1, ?_, by rw [List.length_set]; exact h.2.2.2.2⟩
  intro s hs
  by_cases c : a.toNat < l1.length
  · rcases List.mem_or_eq_of_mem_set hs with hs | hs
    · exact h.2.2.2.1 s hs
    · rw [hs, rot_size]; unfold rdOf; exact h.2.2.2.1 _ (mem_getD l1 _ a.toNat c)
  · rw [List.set_eq_of_length_le (by omega)] at hs
    exact h.2.2.2.1 s hs
theorem rot98 : rotS (fullS 98) 0 1 = bsOf (byteOf 99 :: List.replicate 63 (byteOf 98)) := by decide +kernel
theorem ev_eq {α β : Type} {x : α} {g : Option α} {f : α → Nat → Option β} {r : β} (h : g = some x) (hf : Ev (f x) r) : Ev (fun k => g.bind fun y => f y k) r := by
  rw [h]; exact hf
theorem awake13 : Ev (fun k => ossuarylaw13_awake.f k) true := by
  unfold ossuarylaw13_awake.f
  have v0 := new_valid 2 (by omega) (by omega)
  have L0 : (List.replicate 2 blankS).length = 2 := rfl
  have v1 := write_valid v0 1 (fullS 97) (by omega) (by rw [L0]; decide) (full_size _) (by decide)
  have v2 := write_valid v1 1 (fullS 98) (by omega) (by rw [L0]; decide) (full_size _) (by decide)
  have v3 := settle_valid v2 (lastsB 1)
  have v4 := settle_valid v2 (fun _ => true)
  have s3 : settleS (lastsB 1) 0 (([] ++ [(⟨1, fullS 97⟩ : S62)]) ++ [⟨1, fullS 98⟩]) (List.replicate 2 blankS) = [blankS, fullS 97] := by
    have l0 : lastsB 1 0 = true := by decide
    have l1 : lastsB 1 1 = false := by decide
    simp only [List.nil_append, List.singleton_append, settleS, l0, l1, if_true]
    rfl
  have s4 : settleS (fun _ => true) 0 (([] ++ [(⟨1, fullS 97⟩ : S62)]) ++ [⟨1, fullS 98⟩]) (List.replicate 2 blankS) = [blankS, fullS 98] := rfl
  rw [s3] at v3
  rw [s4] at v4
  have rb : rdOf ByteArray.empty [blankS, fullS 98] 1 = fullS 98 := rfl
  refine Ev.bind (new_ev 2 (by omega) (by omega)) ?_
  refine Ev.bind (full_ev 97 (by omega) (by omega)) ?_
  refine ev_eq (write_eq v0 1 _ (by omega) (by rw [L0]; decide) (full_size _) (by decide)) ?_
  refine Ev.bind (full_ev 98 (by omega) (by omega)) ?_
  refine ev_eq (write_eq v1 1 _ (by omega) (by rw [L0]; decide) (full_size _) (by decide)) ?_
  refine ev_eq (read_eq v2 1 (by omega) (by rw [L0]; decide)) ?_
  refine Ev.bind (crash_eq v2 1) ?_
  rw [s3]
  refine ev_eq (read_eq v3 1 (by omega) (by decide)) ?_
  refine Ev.bind (flush_eq v2) ?_
  rw [s4]
  refine ev_eq (read_eq v4 1 (by omega) (by decide)) ?_
  refine ev_eq (rot_eq v4 1 0 1 (by omega) (by decide) (by omega) (by omega) (by omega) (by omega)) ?_
  have r5 : [blankS, fullS 98].set (1 : Int).toNat (rotS (rdOf ByteArray.empty [blankS, fullS 98] 1) 0 1) = [blankS, rotS (fullS 98) 0 1] := rfl
  rw [r5]
  have v5 : Valid [blankS, rotS (fullS 98) 0 1] [] := by
    have := rot_valid v4 1 0 1
    rw [r5] at this
    exact this
  refine ev_eq (read_eq v5 1 (by omega) (by decide)) ?_
  refine ev_eq (lose_valid v2) ?_
  refine ev_eq (read_lost 1) ?_
  refine Ev.bind (new_no 0 (by omega)) ?_
  have p2 : peekS (List.replicate 2 blankS) (([] ++ [(⟨1, fullS 97⟩ : S62)]) ++ [⟨1, fullS 98⟩]) 1 = fullS 98 := by
    unfold peekS
    rw [lastS_snoc, if_pos rfl]; rfl
  have p3 : peekS [blankS, fullS 97] [] 1 = fullS 97 := rfl
  have p4 : peekS [blankS, fullS 98] [] 1 = fullS 98 := rfl
  have p5 : peekS [blankS, rotS (fullS 98) 0 1] [] 1 = bsOf (byteOf 99 :: List.replicate 63 (byteOf 98)) := rot98
  have hb : bt (bsOf (byteOf 99 :: List.replicate 63 (byteOf 98))) 0 = 99 := by
    rw [show (0 : Int) = ((0 : Nat) : Int) from rfl, bs_bt _ 0 (by decide)]; decide
  have hz : (bsOf (byteOf 99 :: List.replicate 63 (byteOf 98))).size = 64 := by rw [bs_size]; rfl
  simp only [ossuarylaw0_Num.f, Option.bind_some, p2, p3, p4, p5, hb, hz, may_valid v2, may_none]
  refine ev_pos (by trivial) (ev_pos (by trivial) (ev_pos (by trivial) ?_))
  refine Ev.bind (full_ev 98 (by omega) (by omega)) ?_
  refine ev_pos (by trivial) (ev_pos (by trivial) (ev_pos (by trivial) ?_))
  refine Ev.bind (full_ev 97 (by omega) (by omega)) ?_
  refine ev_pos (by trivial) (ev_pos (by trivial) (ev_pos (by trivial) ?_))
  refine Ev.bind (full_ev 98 (by omega) (by omega)) ?_
  refine ev_pos (by trivial) (ev_pos (by trivial) (ev_pos (by trivial) (ev_pos (by trivial) (ev_pos (by decide) (ev_pos (by trivial) (ev_pos (by trivial) (ev_pos (by trivial) (ev_pos (by trivial) (ev_pos (by trivial) (ev_pos (by trivial) (ev_pos (by trivial) (Ev.now _))))))))))))

theorem sameT_loop (l : List ByteArray) (hl : l.length ≤ 8796093022208) : ∀ (d i : Nat), i + d = l.length → Ev (fun k => ossuarylaw0_SameTexts.l0 k l l (i : Int)) true := by
  intro d
  induction d with
  | zero =>
    intro i hi
    refine ev_succ ?_
    simp only [ossuarylaw0_SameTexts.l0]
    exact ev_neg (by omega) (Ev.now _)
  | succ d ih =>
    intro i hi
    refine ev_succ ?_
    simp only [ossuarylaw0_SameTexts.l0]
    refine ev_pos (by omega) (ev_pos (by omega) (ev_pos (by omega) (ev_pos trivial ?_)))
    rw [w64 (by omega) (by omega)]
    exact ih (i + 1) (by omega)
theorem sameT_ev (l : List ByteArray) (hl : l.length ≤ 8796093022208) : Ev (fun k => ossuarylaw0_SameTexts.f k l l) true := by
  unfold ossuarylaw0_SameTexts.f
  exact ev_pos rfl (sameT_loop l hl l.length 0 (by omega))

theorem there_no {b : Bool} {l1 : List ByteArray} {l2 : List S62} (h : disk_May.f b l1 l2 = some false) : disk_there.f b l1 l2 = some 1300 := by
  unfold disk_there.f
  rw [h, Option.bind_some, if_neg (by decide)]
theorem read_no {b : Bool} {l1 : List ByteArray} {l2 : List S62} (h : disk_May.f b l1 l2 = some false) (x : Int) : disk_Read.f b l1 l2 x = some (⟨#[]⟩, 1300) := by
  unfold disk_Read.f
  rw [there_no h, Option.bind_some, if_neg (by decide)]
theorem write_no {b : Bool} {l1 : List ByteArray} {l2 : List S62} (h : disk_May.f b l1 l2 = some false) (x : Int) (t : ByteArray) : disk_Write.f b l1 l2 x t = some (false, [], [], 1300) := by
  unfold disk_Write.f
  rw [there_no h, Option.bind_some, if_neg (by decide)]
theorem flush_no {b : Bool} {l1 : List ByteArray} {l2 : List S62} (h : disk_May.f b l1 l2 = some false) (k : Nat) : disk_Flush.f k b l1 l2 = some (false, [], [], 1300) := by
  unfold disk_Flush.f
  rw [there_no h, Option.bind_some, if_neg (by decide)]
theorem crash_no {b : Bool} {l1 : List ByteArray} {l2 : List S62} (h : disk_May.f b l1 l2 = some false) (k : Nat) (x : Int) : disk_Crash.f k b l1 l2 x = some (false, [], [], 1300) := by
  unfold disk_Crash.f
  rw [there_no h, Option.bind_some, if_neg (by decide)]
theorem rot_no {b : Bool} {l1 : List ByteArray} {l2 : List S62} (h : disk_May.f b l1 l2 = some false) (x y z : Int) : disk_Rot.f b l1 l2 x y z = some (false, [], [], 1300) := by
  unfold disk_Rot.f
  rw [there_no h, Option.bind_some, if_neg (by decide)]
theorem lose_no {b : Bool} {l1 : List ByteArray} {l2 : List S62} (h : disk_May.f b l1 l2 = some false) : disk_Lose.f b l1 l2 = some (false, [], [], 1300) := by
  unfold disk_Lose.f
  rw [h, Option.bind_some, if_neg (by decide)]
theorem read_out {l1 : List ByteArray} {l2 : List S62} (h : Valid l1 l2) (x : Int) (hx : x < 0 ∨ (l1.length : Int) ≤ x) : disk_Read.f false l1 l2 x = some (⟨#[]⟩, 1300) := by
  unfold disk_Read.f
  rw [there_valid h, Option.bind_some, if_pos rfl]
  by_cases h0 : x < 0
  · rw [if_pos h0]
  · rw [if_neg h0, if_pos (by omega)]
theorem write_out {l1 : List ByteArray} {l2 : List S62} (h : Valid l1 l2) (x : Int) (t : ByteArray) (hx : x < 0 ∨ (l1.length : Int) ≤ x ∨ t.size ≠ 64) : disk_Write.f false l1 l2 x t = some (false, [], [], 1300) := by
  unfold disk_Write.f
  rw [there_valid h, Option.bind_some, if_pos rfl]
  by_cases h0 : x < 0
  · rw [if_pos h0]
  · rw [if_neg h0]
    by_cases h1 : x ≥ (l1.length : Int)
    · rw [if_pos h1]
    · rw [if_neg h1, if_neg (by omega)]
theorem rot_out {l1 : List ByteArray} {l2 : List S62} (h : Valid l1 l2) (x y z : Int) (hx : x < 0 ∨ (l1.length : Int) ≤ x ∨ y < 0 ∨ 64 ≤ y ∨ z < 1 ∨ 255 < z) : disk_Rot.f false l1 l2 x y z = some (false, [], [], 1300) := by
  unfold disk_Rot.f
  rw [there_valid h, Option.bind_some, if_pos rfl]
  by_cases h0 : x < 0
  · rw [if_pos h0]
  rw [if_neg h0]
  by_cases h1 : x ≥ (l1.length : Int)
  · rw [if_pos h1]
  rw [if_neg h1]
  by_cases h2 : y < 0
  · rw [if_pos h2]
  rw [if_neg h2]
  by_cases h3 : y ≥ 64
  · rw [if_pos h3]
  rw [if_neg h3]
  by_cases h4 : z < 1
  · rw [if_pos h4]
  rw [if_neg h4, if_pos (by omega)]
/-- A disk that may not be: by how many sectors, by one of them, by one of its writes. -/
theorem may_lostful {l1 : List ByteArray} {l2 : List S62} (h : 0 < l1.length + l2.length) (hl1 : l1.length ≤ 100000) (hl2 : l2.length ≤ 100000) : disk_May.f true l1 l2 = some false := by
  unfold disk_May.f disk_May.v
  rw [if_pos (by omega)]
  unfold Go.Proofs.YtoloonnoobnafaaMay.mayB
  rw [if_pos rfl]
  by_cases h1 : l1.length = 0
  · rw [decide_eq_true h1, decide_eq_false (show ¬ l2.length = 0 by omega)]; rfl
  · rw [decide_eq_false h1]; rfl
theorem may_many {l1 : List ByteArray} {l2 : List S62} (h : l1.length < 1 ∨ 72 < l1.length) (hl1 : l1.length ≤ 100000) (hl2 : l2.length ≤ 100000) : disk_May.f false l1 l2 = some false := by
  unfold disk_May.f disk_May.v
  rw [if_pos (by omega)]
  unfold Go.Proofs.YtoloonnoobnafaaMay.mayB
  rcases h with h | h
  · simp [decide_eq_false (show ¬ 1 ≤ l1.length by omega)]
  · simp; omega
theorem may_short {l1 : List ByteArray} {l2 : List S62} (j : Nat) (hj : j < l1.length) (h : (l1.getD j ⟨#[]⟩).size ≠ 64) (hl1 : l1.length ≤ 100000) (hl2 : l2.length ≤ 100000) : disk_May.f false l1 l2 = some false := by
  unfold disk_May.f disk_May.v
  rw [if_pos (by omega)]
  unfold Go.Proofs.YtoloonnoobnafaaMay.mayB
  have a1 : (List.range l1.length).any (fun j => ((l1.getD j ⟨#[]⟩).size : Int) != 64) = true := by
    rw [List.any_eq_true]
    exact ⟨j, List.mem_range.2 hj, by rw [bne_iff_ne]; omega⟩
  rw [a1]; simp
theorem may_bad {l1 : List ByteArray} {l2 : List S62} (j : Nat) (hj : j < l2.length) (h : (l2.getD j z62).f0 < 0 ∨ (l1.length : Int) ≤ (l2.getD j z62).f0 ∨ (l2.getD j z62).f1.size ≠ 64) (hl1 : l1.length ≤ 100000) (hl2 : l2.length ≤ 100000) : disk_May.f false l1 l2 = some false := by
  unfold disk_May.f disk_May.v
  rw [if_pos (by omega)]
  unfold Go.Proofs.YtoloonnoobnafaaMay.mayB
  have a1 : (List.range l2.length).any (fun j => Go.Proofs.YtoloonnoobnafaaMay.badB (l2.getD j z62).f0 l1.length (l2.getD j z62).f1) = true := by
    rw [List.any_eq_true]
    refine ⟨j, List.mem_range.2 hj, ?_⟩
    unfold Go.Proofs.YtoloonnoobnafaaMay.badB
    rcases h with h | h | h
    · rw [decide_eq_true h]; rfl
    · rw [decide_eq_true h, Bool.or_true]; rfl
    · rw [show (((l2.getD j z62).f1.size : Int) != 64) = true from by rw [bne_iff_ne]; omega, Bool.or_true]
  rw [a1]; simp

/-- May a disk be? -/
def mayV (b : Bool) (l1 : List ByteArray) (l2 : List S62) : Bool := disk_May.v b l1 l2
def shortB (l1 : List ByteArray) (j : Nat) : Bool := ((l1.getD j ⟨#[]⟩).size : Int) != 64
def badW (l1 : List ByteArray) (l2 : List S62) (j : Nat) : Bool := Go.Proofs.YtoloonnoobnafaaMay.badB (l2.getD j z62).f0 l1.length (l2.getD j z62).f1
theorem any_step (p : Nat → Bool) (i d : Nat) : (List.range (d + 1)).any (fun j => p (i + j)) = (p i || (List.range d).any (fun j => p (i + 1 + j))) := by
  rw [List.range_succ_eq_map, List.any_cons, List.any_map]
  congr 1
  congr 1
  funext j
  simp [Function.comp, Nat.add_comm j 1, Nat.add_assoc]
theorem refMay_l1 (b : Bool) (l1 : List ByteArray) (l2 : List S62) (h2 : l2.length ≤ 8796093022208) : ∀ (d i : Nat), i + d = l2.length → Ev (fun k => ossuaryref13_DiskMay.l1 k (i : Int) b l1 l2) (!(List.range d).any fun j => badW l1 l2 (i + j)) := by
  intro d
  induction d with
  | zero =>
    intro i hi
    refine ev_succ ?_
    simp only [ossuaryref13_DiskMay.l1]
    exact ev_neg (by omega) (Ev.now _)
  | succ d ih =>
    intro i hi
    have e : rd_T62 l2 (i : Int) = l2.getD i z62 := by unfold rd_T62; rw [Int.toNat_natCast]
    rw [any_step]
    refine ev_succ ?_
    simp only [ossuaryref13_DiskMay.l1]
    refine ev_pos (by omega) (ev_pos (by omega) ?_)
    rw [e, w64 (by omega) (by omega)]
    have hb : badW l1 l2 i = (decide ((l2.getD i z62).f0 < 0) || decide ((l1.length : Int) ≤ (l2.getD i z62).f0) || (((l2.getD i z62).f1.size : Int) != 64)) := rfl
    by_cases c1 : (l2.getD i z62).f0 < 0
    · rw [hb, decide_eq_true c1]
      exact ev_pos c1 (Ev.now _)
    refine ev_neg c1 ?_
    by_cases c2 : (l2.getD i z62).f0 ≥ (l1.length : Int)
    · rw [hb, decide_eq_true (show (l1.length : Int) ≤ (l2.getD i z62).f0 from c2), Bool.or_true]
      exact ev_pos c2 (Ev.now _)
    refine ev_neg c2 ?_
    by_cases c3 : ((l2.getD i z62).f1.size : Int) = 64
    · rw [hb, decide_eq_false c1, decide_eq_false c2, show (((l2.getD i z62).f1.size : Int) != 64) = false from bne_eq_false_iff_eq.mpr c3]
      exact ev_pos c3 (ih (i + 1) (by omega))
    · rw [hb, show (((l2.getD i z62).f1.size : Int) != 64) = true from bne_iff_ne.mpr c3, Bool.or_true]
      exact ev_neg c3 (Ev.now _)
theorem refMay_l0 (b : Bool) (l1 : List ByteArray) (l2 : List S62) (h1 : l1.length ≤ 8796093022208) (h2 : l2.length ≤ 8796093022208) : ∀ (d i : Nat), i + d = l1.length →
    Ev (fun k => ossuaryref13_DiskMay.l0 k (i : Int) b l1 l2) (!((List.range d).any fun j => shortB l1 (i + j)) && !((List.range l2.length).any fun j => badW l1 l2 j)) := by
  intro d
  induction d with
  | zero =>
    intro i hi
    refine ev_succ ?_
    simp only [ossuaryref13_DiskMay.l0]
    refine ev_neg (by omega) ?_
    have := refMay_l1 b l1 l2 h2 l2.length 0 (by omega)
    simpa using this
  | succ d ih =>
    intro i hi
    have e : rdOf ByteArray.empty l1 (i : Int) = l1.getD i ⟨#[]⟩ := by unfold rdOf; rw [Int.toNat_natCast]; rfl
    rw [any_step]
    refine ev_succ ?_
    simp only [ossuaryref13_DiskMay.l0]
    refine ev_pos (by omega) (ev_pos (by omega) ?_)
    rw [e, w64 (by omega) (by omega)]
    by_cases c3 : ((l1.getD i ⟨#[]⟩).size : Int) = 64
    · rw [show shortB l1 i = false from bne_eq_false_iff_eq.mpr c3, Bool.false_or]
      exact ev_pos c3 (ih (i + 1) (by omega))
    · rw [show shortB l1 i = true from bne_iff_ne.mpr c3, Bool.true_or]
      exact ev_neg c3 (Ev.now _)
theorem refMay_ev (b : Bool) (l1 : List ByteArray) (l2 : List S62) (h1 : l1.length ≤ 8796093022208) (h2 : l2.length ≤ 8796093022208) : Ev (fun k => ossuaryref13_DiskMay.f k b l1 l2) (mayV b l1 l2) := by
  unfold ossuaryref13_DiskMay.f mayV disk_May.v Go.Proofs.YtoloonnoobnafaaMay.mayB
  cases b with
  | true =>
    refine ev_pos rfl ?_
    rw [if_pos rfl]
    by_cases c : l1.length = 0
    · refine ev_pos (by omega) ?_
      rw [decide_eq_true c, Bool.true_and]
      have e : ((l2.length : Int) == 0) = decide (l2.length = 0) := by
        by_cases c2 : l2.length = 0
        · rw [decide_eq_true c2, beq_iff_eq.mpr (by omega)]
        · rw [decide_eq_false c2, beq_eq_false_iff_ne.mpr (by omega)]
      rw [e]
      exact Ev.now _
    · refine ev_neg (by omega) ?_
      rw [decide_eq_false c, Bool.false_and]
      exact Ev.now _
  | false =>
    refine ev_neg (by decide) ?_
    rw [if_neg (by decide)]
    by_cases c1 : (l1.length : Int) < 1
    · refine ev_pos c1 (ev_succ ?_)
      simp only [ossuaryref13_DiskMay.j0]
      rw [decide_eq_false (show ¬ 1 ≤ l1.length by omega), Bool.false_and]
      exact Ev.now _
    refine ev_neg c1 ?_
    rw [decide_eq_true (show 1 ≤ l1.length by omega), Bool.true_and]
    by_cases c2 : (l1.length : Int) > 72
    · refine ev_pos c2 (ev_succ ?_)
      simp only [ossuaryref13_DiskMay.j0]
      rw [decide_eq_false (show ¬ l1.length ≤ 72 by omega), Bool.false_and]
      exact Ev.now _
    refine ev_neg c2 (ev_succ ?_)
    simp only [ossuaryref13_DiskMay.j0]
    rw [decide_eq_true (show l1.length ≤ 72 by omega), Bool.true_and]
    by_cases c3 : (l2.length : Int) > 256
    · refine ev_pos (by simpa using c3) ?_
      rw [decide_eq_false (show ¬ l2.length ≤ 256 by omega), Bool.false_and]
      exact Ev.now _
    refine ev_neg (by simpa using c3) ?_
    rw [decide_eq_true (show l2.length ≤ 256 by omega), Bool.true_and]
    have := refMay_l0 false l1 l2 h1 h2 l1.length 0 (by omega)
    simpa [shortB, badW] using this
theorem may_some (b : Bool) (l1 : List ByteArray) (l2 : List S62) (h1 : l1.length ≤ 8796093022208) (h2 : l2.length ≤ 8796093022208) : disk_May.f b l1 l2 = some (mayV b l1 l2) := by
  unfold disk_May.f
  rw [if_pos (by omega)]; rfl
theorem valid_of {l1 : List ByteArray} {l2 : List S62} (h : mayV false l1 l2 = true) : Valid l1 l2 := by
  unfold mayV disk_May.v Go.Proofs.YtoloonnoobnafaaMay.mayB at h
  rw [if_neg (by decide)] at h
  simp only [Bool.and_eq_true, decide_eq_true_eq, Bool.not_eq_true'] at h
  obtain ⟨h1, h2, h3, h4, h5⟩ := h
  rw [List.any_eq_false] at h4 h5
  refine ⟨h1, h2, h3, ?_, ?_⟩
  · intro s hs
    obtain ⟨j, hj, rfl⟩ := List.getElem_of_mem hs
    have := h4 j (List.mem_range.2 hj)
    rw [List.getD_eq_getElem?_getD, List.getElem?_eq_getElem hj, Option.getD_some] at this
    simp at this
    omega
  · intro w hw
    obtain ⟨j, hj, rfl⟩ := List.getElem_of_mem hw
    have := h5 j (List.mem_range.2 hj)
    unfold Go.Proofs.YtoloonnoobnafaaMay.badB at this
    rw [List.getD_eq_getElem?_getD, List.getElem?_eq_getElem hj, Option.getD_some] at this
    simp at this
    omega
theorem lost_of {l1 : List ByteArray} {l2 : List S62} (h : mayV true l1 l2 = true) : l1 = [] ∧ l2 = [] := by
  unfold mayV disk_May.v Go.Proofs.YtoloonnoobnafaaMay.mayB at h
  rw [if_pos rfl] at h
  simp only [Bool.and_eq_true, decide_eq_true_eq] at h
  exact ⟨List.eq_nil_of_length_eq_zero h.1, List.eq_nil_of_length_eq_zero h.2⟩
theorem valid_may {l1 : List ByteArray} {l2 : List S62} (h : Valid l1 l2) : mayV false l1 l2 = true := by
  have h1 := may_valid h
  rw [may_some false l1 l2 (by have := h.2.1; omega) (by have := h.2.2.1; omega)] at h1
  exact Option.some.inj h1
theorem refState_ev (b : Bool) (l1 : List ByteArray) (l2 : List S62) (h1 : l1.length ≤ 8796093022208) (h2 : l2.length ≤ 8796093022208) : Ev (fun k => ossuaryref13_state.f k b l1 l2) (if mayV b l1 l2 = true then (if b = true then 1301 else 0) else 1300) := by
  unfold ossuaryref13_state.f
  refine Ev.bind (refMay_ev b l1 l2 h1 h2) ?_
  by_cases c : mayV b l1 l2 = true
  · refine ev_pos c ?_
    rw [if_pos c]
    cases b
    · exact Ev.now _
    · exact Ev.now _
  · refine ev_neg c ?_
    rw [if_neg c]
    exact Ev.now _
theorem refCopy_eq (b : Bool) (l1 : List ByteArray) (l2 : List S62) (h1 : l1.length ≤ 72) (h2 : l2.length ≤ 256) : ossuaryref13_CopyDisk.f b l1 l2 = some (b, l1, l2) := by
  unfold ossuaryref13_CopyDisk.f
  rw [Option.bind_some, if_pos (by simp; omega), Option.bind_some, if_pos (by simp; omega)]; rfl
theorem lawCopy_eq (b : Bool) (l1 : List ByteArray) (l2 : List S62) (h1 : l1.length < 8796093022208) (h2 : l2.length < 5864062014805) : ossuarylaw0_CopyDisk.f b l1 l2 = some (b, l1, l2) := by
  unfold ossuarylaw0_CopyDisk.f
  rw [Option.bind_some, if_pos (by simp; omega), Option.bind_some, if_pos (by simp; omega)]; rfl
theorem refPeek_loop (b : Bool) (l1 : List ByteArray) (l2 : List S62) (x : Int) (h0 : 0 ≤ x) (h1 : x < (l1.length : Int)) (h2 : l2.length ≤ 256) : ∀ (n : Nat), n ≤ l2.length →
    Ev (fun k => ossuaryref13_peek.l0 k x ((n : Int) - 1) b l1 l2) ((Go.Proofs.YtoloonnoobnafaaMay.lastN (fun j => (l2.getD j z62).f0) (fun j => (l2.getD j z62).f1) x n).getD (l1.getD x.toNat ⟨#[]⟩)) := by
  intro n
  induction n with
  | zero =>
    intro hn
    refine ev_succ ?_
    simp only [ossuaryref13_peek.l0]
    refine ev_neg (by omega) (ev_pos h0 (ev_pos h1 ?_))
    exact Ev.now _
  | succ n ih =>
    intro hn
    have e : rd_T62 l2 (((n + 1 : Nat) : Int) - 1) = l2.getD n z62 := by unfold rd_T62; rw [show (((n + 1 : Nat) : Int) - 1).toNat = n by omega]
    refine ev_succ ?_
    simp only [ossuaryref13_peek.l0]
    refine ev_pos (by omega) (ev_pos (by omega) (ev_pos (by omega) ?_))
    rw [e, Go.Proofs.YtoloonnoobnafaaMay.lastN]
    by_cases c : (l2.getD n z62).f0 = x
    · refine ev_pos c ?_
      rw [if_pos c]
      exact Ev.now _
    · refine ev_neg c ?_
      rw [if_neg c, w64 (by omega) (by omega), show ((n + 1 : Nat) : Int) - 1 - 1 = (n : Int) - 1 by omega]
      exact ih (by omega)
theorem refPeek_ev (b : Bool) (l1 : List ByteArray) (l2 : List S62) (x : Int) (h0 : 0 ≤ x) (h1 : x < (l1.length : Int)) (h2 : l2.length ≤ 256) : Ev (fun k => ossuaryref13_peek.f k b l1 l2 x) (peekS l1 l2 x) := by
  unfold ossuaryref13_peek.f
  rw [w64 (by omega) (by omega)]
  exact refPeek_loop b l1 l2 x h0 h1 h2 l2.length (Nat.le_refl _)
theorem shr_min1 : ∀ m : Fin 16, (Go.bits .and .i64 (shr .i64 (-1) (m.val : Int)) 1 = 1) := by decide +kernel
theorem refLasts_loop (keep : Int) (p : Nat → Bool) (b : Bool) (l1 : List ByteArray) (l2 l3 : List S62) (N : Nat) (hp : ∀ i : Nat, i < 256 → ((Go.bits .and .i64 (shr .i64 keep (Go.bits .and .i64 (i : Int) 15)) 1 = 1) ↔ p i = true))
    (h : ∀ w, w ∈ l2 → 0 ≤ w.f0 ∧ w.f0 < (N : Int)) (hn : l2.length ≤ 256) : ∀ (d i : Nat) (s : List ByteArray), i + d = l2.length → s.length = N → Ev (fun k => ossuaryref13_lasts.l0 k keep (i : Int) b l1 l2 b s l3) (b, settleS p i (l2.drop i) s, []) := by
  intro d
  induction d with
  | zero =>
    intro i s hi hs
    refine ev_succ ?_
    simp only [ossuaryref13_lasts.l0]
    rw [List.drop_eq_nil_of_le (by omega)]
    exact ev_neg (by omega) (Ev.now _)
  | succ d ih =>
    intro i s hi hs
    obtain ⟨a1, a2⟩ := h _ (rd_mem l2 i (by omega))
    have ha : 0 ≤ Go.bits .and .i64 (i : Int) 15 := by
      rw [and_mask (i : Int) 4 (by decide) 15 16 (by decide) (by decide)]; omega
    refine ev_succ ?_
    simp only [ossuaryref13_lasts.l0]
    refine ev_pos (by omega) (ev_pos ha ?_)
    rw [w64 (by omega) (by omega), rd_drop l2 i (by omega), settleS]
    by_cases c : p i = true
    · rw [if_pos c]
      refine ev_pos ((hp i (by omega)).2 c) (ev_pos (by omega) (ev_pos a1 (ev_pos (by rw [hs]; exact a2) ?_)))
      exact ih (i + 1) _ (by omega) (by rw [List.length_set]; exact hs)
    · rw [if_neg c]
      refine ev_neg (fun hh => c ((hp i (by omega)).1 hh)) ?_
      exact ih (i + 1) _ (by omega) hs
theorem and15 (i : Nat) (h : i < 256) : Go.bits .and .i64 (i : Int) 15 = ((i % 16 : Nat) : Int) := by
  rw [and_mask (i : Int) 4 (by decide) 15 16 (by decide) (by decide)]; omega
theorem lasts_ref (keep : Int) (i : Nat) (h : i < 256) : (Go.bits .and .i64 (shr .i64 keep (Go.bits .and .i64 (i : Int) 15)) 1 = 1) ↔ lastsB keep i = true := by
  rw [and15 i h]
  unfold lastsB
  have e : shr .i64 keep ((i % 16 : Nat) : Int) = keep / 2 ^ ((i : Int) % 16).toNat := by
    unfold shr
    rw [Int.toNat_natCast, show IntKind.i64.bits = 64 from rfl, Nat.min_eq_left (by omega)]
    congr 2
  rw [e, beq_iff_eq]
theorem lasts_min1 (i : Nat) (h : i < 256) : (Go.bits .and .i64 (shr .i64 (-1) (Go.bits .and .i64 (i : Int) 15)) 1 = 1) ↔ (fun _ : Nat => true) i = true := by
  rw [and15 i h]
  exact ⟨fun _ => rfl, fun _ => shr_min1 ⟨i % 16, by omega⟩⟩
theorem refLasts_ev {l1 : List ByteArray} {l2 : List S62} (h : Valid l1 l2) (keep : Int) (p : Nat → Bool) (hp : ∀ i : Nat, i < 256 → ((Go.bits .and .i64 (shr .i64 keep (Go.bits .and .i64 (i : Int) 15)) 1 = 1) ↔ p i = true)) :
    Ev (fun k => ossuaryref13_lasts.f k false l1 l2 keep) (false, settleS p 0 l2 l1, []) := by
  unfold ossuaryref13_lasts.f
  rw [refCopy_eq false l1 l2 h.2.1 h.2.2.1, ]
  simp only [Option.bind_some]
  exact refLasts_loop keep p false l1 l2 l2 l1.length hp (fun w hw => ⟨(h.2.2.2.2 w hw).1, (h.2.2.2.2 w hw).2.1⟩) h.2.2.1 l2.length 0 l1 (by omega) rfl
theorem sameW_loop (l : List S62) (hl : l.length ≤ 8796093022208) : ∀ (d i : Nat), i + d = l.length → Ev (fun k => ossuarylaw0_SameWrites.l0 k l l (i : Int)) true := by
  intro d
  induction d with
  | zero =>
    intro i hi
    refine ev_succ ?_
    simp only [ossuarylaw0_SameWrites.l0]
    exact ev_neg (by omega) (Ev.now _)
  | succ d ih =>
    intro i hi
    refine ev_succ ?_
    simp only [ossuarylaw0_SameWrites.l0]
    refine ev_pos (by omega) (ev_pos (by omega) (ev_pos (by omega) (ev_neg (by simp) ?_)))
    rw [w64 (by omega) (by omega)]
    exact ih (i + 1) (by omega)
theorem sameAll_ev (b : Bool) (l1 : List ByteArray) (l2 : List S62) (h1 : l1.length ≤ 8796093022208) (h2 : l2.length ≤ 8796093022208) : Ev (fun k => ossuarylaw0_SameDisk.f k b l1 l2 b l1 l2) true := by
  unfold ossuarylaw0_SameDisk.f
  refine ev_pos (by simp) (Ev.bind (sameT_ev l1 h1) (ev_pos rfl (Ev.bind (r := true) ?_ (Ev.now _))))
  unfold ossuarylaw0_SameWrites.f
  exact ev_pos rfl (sameW_loop l2 h2 l2.length 0 (by omega))
theorem spoilT_loop : ∀ (d i : Nat) (l : List ByteArray), i + d = l.length → l.length ≤ 8796093022208 → (∀ j, i ≤ j → j < l.length → (l.getD j ByteArray.empty).size ≤ 1000) → ∃ r, Ev (fun k => ossuarylaw0_SpoilTexts.l0 k l (i : Int)) r := by
  intro d
  induction d with
  | zero =>
    intro i l hi hl hs
    refine ⟨l, ev_succ ?_⟩
    simp only [ossuarylaw0_SpoilTexts.l0]
    exact ev_neg (by omega) (Ev.now _)
  | succ d ih =>
    intro i l hi hl hs
    have hb : (rdOf ByteArray.empty l (i : Int)).size ≤ 1000 := by
      unfold rdOf
      rw [Int.toNat_natCast]
      exact hs i (Nat.le_refl _) (by omega)
    obtain ⟨r, hr⟩ := ih (i + 1) (l.set i ((⟨#[126]⟩ : ByteArray) ++ rdOf ByteArray.empty l (i : Int))) (by rw [List.length_set]; omega) (by rw [List.length_set]; exact hl) (fun j hj hjl => by
      rw [List.length_set] at hjl
      rw [List.getD_eq_getElem?_getD, List.getElem?_set_ne (by omega), ← List.getD_eq_getElem?_getD]
      exact hs j (by omega) hjl)
    refine ⟨r, ev_succ ?_⟩
    simp only [ossuarylaw0_SpoilTexts.l0]
    refine ev_pos (by omega) (ev_pos (by omega) (ev_pos (by omega) ?_))
    rw [w64 (by omega) (by omega), Int.toNat_natCast]
    exact hr
theorem spoilW_loop : ∀ (d i : Nat) (l : List S62), i + d = l.length → l.length ≤ 8796093022208 → ∃ r, Ev (fun k => ossuarylaw0_SpoilWrites.l0 k l (i : Int)) r := by
  intro d
  induction d with
  | zero =>
    intro i l hi hl
    refine ⟨l, ev_succ ?_⟩
    simp only [ossuarylaw0_SpoilWrites.l0]
    exact ev_neg (by omega) (Ev.now _)
  | succ d ih =>
    intro i l hi hl
    obtain ⟨r, hr⟩ := ih (i + 1) (l.set i (⟨Go.bits .xor .i64 ((rd_T62 l (i : Int)).f0) 90, (rd_T62 l (i : Int)).f1⟩ : S62)) (by rw [List.length_set]; omega) (by rw [List.length_set]; exact hl)
    refine ⟨r, ev_succ ?_⟩
    simp only [ossuarylaw0_SpoilWrites.l0]
    refine ev_pos (by omega) (ev_pos (by omega) ?_)
    rw [w64 (by omega) (by omega), Int.toNat_natCast]
    exact hr
theorem spoil_ev (b : Bool) (l1 : List ByteArray) (l2 : List S62) (h1 : l1.length ≤ 8796093022208) (h2 : l2.length ≤ 8796093022208) (hs : ∀ s, s ∈ l1 → s.size ≤ 1000) : ∃ r, Ev (fun k => ossuarylaw0_SpoilDisk.f k b l1 l2) r := by
  obtain ⟨r1, e1⟩ := spoilT_loop l1.length 0 l1 (by omega) h1 (fun j _ hj => hs _ (mem_getD l1 _ j hj))
  obtain ⟨r2, e2⟩ := spoilW_loop l2.length 0 l2 (by omega) h2
  refine ⟨(r1, r2), ?_⟩
  unfold ossuarylaw0_SpoilDisk.f ossuarylaw0_SpoilTexts.f ossuarylaw0_SpoilWrites.f
  exact Ev.bind e1 (Ev.bind e2 (Ev.now _))
theorem refZeros : ossuaryref13_zeros.f 64 = some blankS := by
  have e : blankS = strOfNums (List.replicate 64 0) := by decide +kernel
  rw [e]; rfl
theorem refNew_loop (n : Nat) (hn : n ≤ 72) : ∀ (d i : Nat), i + d = n → Ev (fun k => ossuaryref13_NewDisk.l0 k (n : Int) (i : Int) false (List.replicate i blankS)) (false, List.replicate n blankS, [], 0) := by
  intro d
  induction d with
  | zero =>
    intro i hi
    obtain rfl : i = n := by omega
    refine ev_succ ?_
    simp only [ossuaryref13_NewDisk.l0]
    exact ev_neg (by omega) (Ev.now _)
  | succ d ih =>
    intro i hi
    refine ev_succ ?_
    simp only [ossuaryref13_NewDisk.l0]
    refine ev_pos (by omega) ?_
    simp only [refZeros, Option.bind_some]
    refine ev_pos (by rw [List.length_replicate]; omega) ?_
    rw [w64 (by omega) (by omega), ← List.replicate_succ']
    exact ih (i + 1) (by omega)
theorem refNew_ev (n : Nat) (h0 : 1 ≤ n) (h1 : n ≤ 72) : Ev (fun k => ossuaryref13_NewDisk.f k (n : Int)) (false, List.replicate n blankS, [], 0) := by
  unfold ossuaryref13_NewDisk.f
  refine ev_neg (by omega) (ev_succ ?_)
  simp only [ossuaryref13_NewDisk.j0]
  refine ev_neg (by simp; omega) ?_
  exact refNew_loop n h1 n 0 (by omega)
theorem refNew_no (n : Int) (h : n < 1 ∨ 72 < n) : Ev (fun k => ossuaryref13_NewDisk.f k n) (false, [], [], 1300) := by
  unfold ossuaryref13_NewDisk.f
  by_cases c : n < 1
  · refine ev_pos c (ev_succ ?_)
    simp only [ossuaryref13_NewDisk.j0]
    exact ev_pos (by trivial) (Ev.now _)
  · refine ev_neg c (ev_succ ?_)
    simp only [ossuaryref13_NewDisk.j0]
    exact ev_pos (by simp; omega) (Ev.now _)

end Go.Proofs.Ytoloonnoobnafaa.Dp
