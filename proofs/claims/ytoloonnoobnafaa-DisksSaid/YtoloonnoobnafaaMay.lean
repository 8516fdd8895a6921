/- disk.May, walked: the two searches with a function value, and the whole. -/
import Derived.Test.YtoloonnoobnafaaProg
import Derived.Test.YtoloonnoobnafaaVDisksWords
import Derived.Test.YtoloonnoobnafaaVDisksLast
import Derived.Test.YtoloonnoobnafaaVDisksMore
import Derived.Below
import Derived.WalkKit
import Derived.KernelRfl
import Derived.Lib.Hide
import Derived.Tactics
import Derived.RowKit3
import Derived.Deep.Draws
import Derived.BigQuiet
namespace Go.Proofs.YtoloonnoobnafaaMay
open Go Go.RowKit Go.Proofs.YtoloonnoobnafaaW.PrintWords Go.Proofs.YtoloonnoobnafaaW.PrintLast Go.Proofs.YtoloonnoobnafaaW.PrintMore
set_option linter.unusedVariables false
theorem run_store_fn (P : Program) (w : World) (a : Addr) (m : Mode) (f : Fn) (x y : Array Value) : (store a (.func f x y) m).run P w = stored P w a (.func f x y) m := run_store P w a _ m rfl
theorem short_walk (s : ByteArray) (w : World) : Calls Try.prog 46 #[.string s] w fun e w' => e = .returned (.bool ((s.size : Int) != 64)) ∧ w = w' := by
  go_enter Try.func46, Try.ntmps46
  go_wp2
  go_ret
  exact ⟨rfl, rfl⟩
/-- Is a write none? -/
def badB (at_ : Int) (n : Nat) (s : ByteArray) : Bool := decide (at_ < 0) || decide ((n : Int) ≤ at_) || ((s.size : Int) != 64)
set_option maxRecDepth 100000 in
theorem bad_walk (at_ : Int) (s : ByteArray) (g h : Nat) (lost : Value) (A : Option Addr) (n c : Nat) (u : Value) (w : World)
    (hg : w.heap[g]? = some (.cells #[lost, .slice A n c, u] 25 (0, 0))) (hh : w.heap[h]? = some (.cells #[.func (.func 46) #[] #[]] 79 (0, 0))) :
    Calls Try.prog 47 #[.agg #[.int .i64 at_, .string s], .pointer (some ⟨g, 0, none⟩), .pointer (some ⟨h, 0, none⟩)] w fun e w' => e = .returned (.bool (badB at_ n s)) ∧ Below w.heap.size w w' := by
  have HG := Lib.hid hg
  have HH := Lib.hid hh
  clear hg hh
  have hu62 := Try.underlying62
  have hu25 := Try.underlying25
  by_cases c1 : at_ < 0
  all_goals by_cases c2 : (n : Int) ≤ at_
  all_goals try (exfalso; omega)
  all_goals cases c3 : ((s.size : Int) != 64)
  all_goals
    first
      | have d1 : decide (at_ < 0) = true := decide_eq_true c1
      | have d1 : decide (at_ < 0) = false := decide_eq_false c1
    first
      | have d2 : decide ((n : Int) ≤ at_) = true := decide_eq_true c2
      | have d2 : decide ((n : Int) ≤ at_) = false := decide_eq_false c2
    have C3 := Lib.hid c3
    go_enter Try.func47, Try.ntmps47
    go_wp2_with (first
      | ((with_reducible refine gate_dst (N := 3) rfl ?_); refine box_event ?hg (N := 3) ?hd (cs := #[.int .i64 at_, .string s]) (t := 62) ?hr ?_; (case hd => rfl); (case hg => rfl); (case hr => first | (go_simp; done) | (go_simp; rfl)); intro gb hgb w2 hbox hb; have q1 : w2.cell? ⟨gb, 0, none⟩ = some (.int .i64 at_) := (blk_cell hbox 0).trans rfl; have q2 : w2.cell? ⟨gb, 1, none⟩ = some (.string s) := (blk_cell hbox 1).trans rfl; have q3 : w2.cell? ⟨g, 1, none⟩ = some (.slice A n c) := (blk_cell (blk_below HG.out hb) 1).trans rfl; have q4 : w2.cell? ⟨h, 0, none⟩ = some (.func (.func 46) #[] #[]) := (blk_cell (blk_below HH.out hb) 0).trans rfl; clear hbox hgb)
      | (go_at_call 46; refine (short_walk s _).mono ?_; rintro e w' ⟨rfl, rfl⟩))
    go_ret
    exact ⟨by unfold badB; rw [d1, d2, C3.out]; rfl, hb⟩
/-- The least number of a place where something is so, or one less than 0. -/
def findP (p : Nat → Bool) : Nat → Nat → Int
  | 0, _ => -1
  | d + 1, i => if p i then (i : Int) else findP p d (i + 1)
theorem findP_ge (p : Nat → Bool) : ∀ (d i : Nat), decide (findP p d i ≥ 0) = (List.range d).any (fun j => p (i + j))
  | 0, _ => rfl
  | d + 1, i => by
    rw [findP, List.range_succ_eq_map, List.any_cons, List.any_map]
    by_cases h : p i = true
    · rw [if_pos h, show p (i + 0) = true from h, Bool.true_or, decide_eq_true (by omega)]
    · rw [if_neg h, show p (i + 0) = false from by simpa using h, Bool.false_or, findP_ge p d (i + 1)]
      congr 1
      funext j
      simp [Function.comp, Nat.add_assoc, Nat.add_comm 1 j]
theorem findP_lt (p : Nat → Bool) : ∀ (d i : Nat), -1 ≤ findP p d i
  | 0, _ => by simp [findP]
  | d + 1, i => by
    rw [findP]; split
    · omega
    · exact findP_lt p d (i + 1)
/-- Up to here nothing was found. -/
def Sought (p : Nat → Bool) (n : Nat) (i : Value) : Prop := ∃ k : Nat, k ≤ n ∧ i = .int .i64 (k : Int) ∧ Hid (findP p n 0 = findP p (n - k) k)
theorem idxs_walk (A : Option Addr) (n c : Nat) (f : Nat → ByteArray) (w : World) (hn : n ≤ 9223372036854775807) (hc : ∀ j, j < n → ∃ ad, A = some ad ∧ w.cell? (ad.add j) = some (.string (f j))) :
    Calls Try.prog 56 #[.slice A n c, .func (.func 46) #[] #[]] w fun e w' => e = .returned (.int .i64 (findP (fun j => ((f j).size : Int) != 64) n 0)) ∧ w = w' := by
  have HC := Lib.hid hc
  clear hc
  go_enter Try.func56, Try.ntmps56
  go_wp2
  go_loop [8] (fun i => Sought (fun j => ((f j).size : Int) != 64) n i) (fun i => n - (intOf i).toNat)
  case atStart => exact ⟨0, Nat.zero_le _, rfl, Lib.hid rfl⟩
  case round =>
    obtain ⟨k, hk, rfl, hs⟩ := hrel
    by_cases hlt : k < n
    · obtain ⟨ad, rfl, hcell⟩ := HC.out k hlt
      cases hp : ((f k).size : Int) != 64
      all_goals
        have HP := Lib.hid hp
        go_wp2_with (go_at_call 46; refine (short_walk _ _).mono ?_; rintro e w' ⟨rfl, rfl⟩)
        first
          | (go_ret; refine ⟨congrArg (fun z => Ending.returned (.int .i64 z)) ?_, rfl⟩; rw [hs.out, show n - k = (n - k - 1) + 1 from by omega, findP, if_pos HP.out])
          | (go_round; (case rel => exact ⟨k + 1, by omega, by go_num, Lib.hid (by rw [hs.out, show n - k = (n - (k + 1)) + 1 from by omega, findP, if_neg (by rw [HP.out]; simp)])⟩); (case measure => simp [intOf]; omega))
    · obtain rfl : k = n := by omega
      go_wp2
      go_ret
      exact ⟨congrArg (fun z => Ending.returned (.int .i64 z)) (by rw [hs.out, Nat.sub_self]; rfl), rfl⟩
theorem hass_walk (A : Option Addr) (n c : Nat) (f : Nat → ByteArray) (w : World) (hn : n ≤ 9223372036854775807) (hc : ∀ j, j < n → ∃ ad, A = some ad ∧ w.cell? (ad.add j) = some (.string (f j))) :
    Calls Try.prog 48 #[.slice A n c, .func (.func 46) #[] #[]] w fun e w' => e = .returned (.bool ((List.range n).any fun j => ((f j).size : Int) != 64)) ∧ w = w' := by
  have h1 := findP_ge (fun j => ((f j).size : Int) != 64) n 0
  simp only [Nat.zero_add] at h1
  have H1 := Lib.hid h1
  have HC := Lib.hid hc
  clear hc h1
  go_enter Try.func48, Try.ntmps48
  go_wp2_with (go_at_call 56; refine (idxs_walk A n c f _ hn HC.out).mono ?_; rintro e w' ⟨rfl, rfl⟩)
  go_ret
  exact ⟨by rw [← H1.out]; rfl, rfl⟩
/-- Up to here nothing was found; what lay there stands. -/
def SoughtW (p : Nat → Bool) (n : Nat) (w : World) (i : Value) (W : World) : Prop := ∃ k : Nat, k ≤ n ∧ i = .int .i64 (k : Int) ∧ Hid (findP p n 0 = findP p (n - k) k) ∧ Below w.heap.size w W
theorem cell2_below {w W : World} {ad : Addr} {j : Nat} {a b : Value} (hb : Below w.heap.size w W) (h0 : w.cell? (ad.add (j * 2)) = some a) (h1 : w.cell? ⟨(ad.add (j * 2)).block, (ad.add (j * 2)).off + 1, none⟩ = some b) :
    W.cell? (ad.add (j * 2)) = some a ∧ W.cell? ⟨(ad.add (j * 2)).block, (ad.add (j * 2)).off + 1, none⟩ = some b := ⟨pw_cell_below hb h0, pw_cell_below hb h1⟩
set_option maxRecDepth 100000 in
theorem idxw_walk (A2 : Option Addr) (n c2 : Nat) (at_ : Nat → Int) (tx : Nat → ByteArray) (g h : Nat) (lost : Value) (A : Option Addr) (m c : Nat) (u : Value) (w : World) (hn : n ≤ 9223372036854775807)
    (hc : ∀ j, j < n → ∃ ad, A2 = some ad ∧ w.cell? (ad.add (j * 2)) = some (.int .i64 (at_ j)) ∧ w.cell? ⟨(ad.add (j * 2)).block, (ad.add (j * 2)).off + 1, none⟩ = some (.string (tx j)))
    (hg : w.heap[g]? = some (.cells #[lost, .slice A m c, u] 25 (0, 0))) (hh : w.heap[h]? = some (.cells #[.func (.func 46) #[] #[]] 79 (0, 0))) :
    Calls Try.prog 57 #[.slice A2 n c2, .func (.func 47) #[] #[.pointer (some ⟨g, 0, none⟩), .pointer (some ⟨h, 0, none⟩)]] w fun e w' => e = .returned (.int .i64 (findP (fun j => badB (at_ j) m (tx j)) n 0)) ∧ Below w.heap.size w w' := by
  have HC := Lib.hid hc
  have HG := Lib.hid hg
  have HH := Lib.hid hh
  have hu62 := Try.underlying62
  clear hc hg hh
  go_enter Try.func57, Try.ntmps57
  go_wp2
  go_loopw [8] (fun i W => SoughtW (fun j => badB (at_ j) m (tx j)) n w i W) (fun i _ => n - (intOf i).toNat)
  case atStart => exact ⟨0, Nat.zero_le _, rfl, Lib.hid rfl, Below.refl _ _⟩
  case round =>
    obtain ⟨k, hk, rfl, hs, hbw⟩ := hrel
    by_cases hlt : k < n
    · obtain ⟨ad, rfl, hx0, hx1⟩ := HC.out k hlt
      obtain ⟨hy0, hy1⟩ := cell2_below hbw hx0 hx1
      clear hx0 hx1
      cases hp : badB (at_ k) m (tx k)
      all_goals
        have HP := Lib.hid hp
        have hcall := fun W' (hb : Below w.heap.size w W') => bad_walk (at_ k) (tx k) g h lost A m c u W' (blk_below HG.out hb) (blk_below HH.out hb)
        rw [hp] at hcall
        have HCALL := Lib.hid hcall
        clear hcall hp
        go_wp2_with (go_at_call 47; refine (HCALL.out _ (by first | exact hbw | exact below_drew1 hbw)).mono ?_; rintro e w4 ⟨rfl, hb4⟩)
        first
          | (go_ret; refine ⟨congrArg (fun z => Ending.returned (.int .i64 z)) ?_, below_step hbw hb4⟩; rw [hs.out, show n - k = (n - k - 1) + 1 from by omega, findP, if_pos HP.out])
          | (go_roundw; (case rel => exact ⟨k + 1, by omega, by go_num, Lib.hid (by rw [hs.out, show n - k = (n - (k + 1)) + 1 from by omega, findP, if_neg (by rw [HP.out]; simp)]), below_step hbw hb4⟩); (case measure => simp [intOf]; omega))
    · obtain rfl : k = n := by omega
      go_wp2
      go_ret
      exact ⟨congrArg (fun z => Ending.returned (.int .i64 z)) (by rw [hs.out, Nat.sub_self]; rfl), by first | exact hbw | exact below_drew1 hbw⟩
theorem hasw_walk (A2 : Option Addr) (n c2 : Nat) (at_ : Nat → Int) (tx : Nat → ByteArray) (g h : Nat) (lost : Value) (A : Option Addr) (m c : Nat) (u : Value) (w : World) (hn : n ≤ 9223372036854775807)
    (hc : ∀ j, j < n → ∃ ad, A2 = some ad ∧ w.cell? (ad.add (j * 2)) = some (.int .i64 (at_ j)) ∧ w.cell? ⟨(ad.add (j * 2)).block, (ad.add (j * 2)).off + 1, none⟩ = some (.string (tx j)))
    (hg : w.heap[g]? = some (.cells #[lost, .slice A m c, u] 25 (0, 0))) (hh : w.heap[h]? = some (.cells #[.func (.func 46) #[] #[]] 79 (0, 0))) :
    Calls Try.prog 49 #[.slice A2 n c2, .func (.func 47) #[] #[.pointer (some ⟨g, 0, none⟩), .pointer (some ⟨h, 0, none⟩)]] w fun e w' => e = .returned (.bool ((List.range n).any fun j => badB (at_ j) m (tx j))) ∧ Below w.heap.size w w' := by
  have h1 := findP_ge (fun j => badB (at_ j) m (tx j)) n 0
  simp only [Nat.zero_add] at h1
  have H1 := Lib.hid h1
  have HI := Lib.hid (idxw_walk A2 n c2 at_ tx g h lost A m c u w hn hc hg hh)
  clear hc h1 hg hh
  go_enter Try.func49, Try.ntmps49
  go_wp2_with (go_at_call 57; refine HI.out.mono ?_; rintro e w1 ⟨rfl, hb⟩)
  go_ret
  exact ⟨by rw [← H1.out]; rfl, hb⟩
theorem cells1_below {w W : World} {A : Option Addr} {n : Nat} {f : Nat → ByteArray} (hb : Below w.heap.size w W) (h : ∀ j, j < n → ∃ ad, A = some ad ∧ w.cell? (ad.add j) = some (.string (f j))) : ∀ j, j < n → ∃ ad, A = some ad ∧ W.cell? (ad.add j) = some (.string (f j)) := by
  intro j hj
  obtain ⟨ad, e, hc⟩ := h j hj
  exact ⟨ad, e, pw_cell_below hb hc⟩
theorem cells2_below {w W : World} {A : Option Addr} {n : Nat} {at_ : Nat → Int} {tx : Nat → ByteArray} (hb : Below w.heap.size w W) (h : ∀ j, j < n → ∃ ad, A = some ad ∧ w.cell? (ad.add (j * 2)) = some (.int .i64 (at_ j)) ∧ w.cell? ⟨(ad.add (j * 2)).block, (ad.add (j * 2)).off + 1, none⟩ = some (.string (tx j))) :
    ∀ j, j < n → ∃ ad, A = some ad ∧ W.cell? (ad.add (j * 2)) = some (.int .i64 (at_ j)) ∧ W.cell? ⟨(ad.add (j * 2)).block, (ad.add (j * 2)).off + 1, none⟩ = some (.string (tx j)) := by
  intro j hj
  obtain ⟨ad, e, h0, h1⟩ := h j hj
  exact ⟨ad, e, pw_cell_below hb h0, pw_cell_below hb h1⟩
/-- May such a disk be? -/
def mayB (lost : Bool) (n1 : Nat) (f : Nat → ByteArray) (n2 : Nat) (at_ : Nat → Int) (tx : Nat → ByteArray) : Bool :=
  if lost then decide (n1 = 0) && decide (n2 = 0)
  else decide (1 ≤ n1) && (decide (n1 ≤ 72) && (decide (n2 ≤ 256) && (!(List.range n1).any (fun j => ((f j).size : Int) != 64) && !(List.range n2).any fun j => badB (at_ j) n1 (tx j))))
theorem may_set {w w2 w3 : World} {gb gh : Nat} {cs : Array Value} (hbox : w2.heap[gb]? = some (.cells cs 25 (0, 0))) (hb2 : Below w.heap.size w w2) (hb3 : Below w2.heap.size w2 w3) (hgh : gh = w2.heap.size) (hh : w3.heap[gh]? = some (.cells #[.nilFunc] 79 (0, 0))) :
    (w3.setCell ⟨gh, 0, none⟩ (.func (.func 46) #[] #[])).heap[gb]? = some (.cells cs 25 (0, 0)) ∧ (w3.setCell ⟨gh, 0, none⟩ (.func (.func 46) #[] #[])).heap[gh]? = some (.cells #[.func (.func 46) #[] #[]] 79 (0, 0)) ∧ Below w.heap.size w (w3.setCell ⟨gh, 0, none⟩ (.func (.func 46) #[] #[])) := by
  have h1 := blk_lt hbox
  have h2 := hb2.size
  refine ⟨blk_far (blk_below hbox hb3) (by show gb ≠ gh; omega) _, blk_put hh 0 _ rfl, below_set (below_step hb2 hb3) (by show w.heap.size ≤ gh; omega)⟩
set_option maxRecDepth 100000 in
set_option maxHeartbeats 1000000 in
theorem may_walk (lost : Bool) (A1 : Option Addr) (n1 c1 : Nat) (f : Nat → ByteArray) (A2 : Option Addr) (n2 c2 : Nat) (at_ : Nat → Int) (tx : Nat → ByteArray) (w : World) (hn1 : n1 ≤ 9223372036854775807) (hn2 : n2 ≤ 9223372036854775807)
    (hc1 : ∀ j, j < n1 → ∃ ad, A1 = some ad ∧ w.cell? (ad.add j) = some (.string (f j)))
    (hc2 : ∀ j, j < n2 → ∃ ad, A2 = some ad ∧ w.cell? (ad.add (j * 2)) = some (.int .i64 (at_ j)) ∧ w.cell? ⟨(ad.add (j * 2)).block, (ad.add (j * 2)).off + 1, none⟩ = some (.string (tx j))) :
    Calls Try.prog 26 #[.agg #[.bool lost, .slice A1 n1 c1, .slice A2 n2 c2]] w fun e w' => e = .returned (.bool (mayB lost n1 f n2 at_ tx)) ∧ Below w.heap.size w w' := by
  have HC1 := Lib.hid hc1
  have HC2 := Lib.hid hc2
  have hu25 := Try.underlying25
  clear hc1 hc2
  cases lost with
  | true =>
    by_cases e1 : n1 = 0
    · have d1 : ((n1 : Int) == 0) = true := by rw [beq_iff_eq]; omega
      have D : mayB true n1 f n2 at_ tx = ((n2 : Int) == 0) := by
        unfold mayB
        rw [if_pos rfl, decide_eq_true e1, Bool.true_and]
        by_cases e2 : n2 = 0
        · rw [decide_eq_true e2]; symm; rw [beq_iff_eq]; omega
        · rw [decide_eq_false e2]; symm; rw [beq_eq_false_iff_ne]; omega
      have D := Lib.hid D
      have E1 := Lib.hid e1
      clear e1
      go_enter Try.func26, Try.ntmps26
      go_wp2_with (first
        | ((with_reducible refine gate_dst (N := 1) rfl ?_); refine box_event ?hg (N := 1) ?hd (cs := #[.bool true, .slice A1 n1 c1, .slice A2 n2 c2]) (t := 25) ?hr ?_; (case hd => rfl); (case hg => rfl); (case hr => first | (go_simp; done) | (go_simp; rfl)); intro gb hgb w2 hbox hb; have q0 : w2.cell? ⟨gb, 0, none⟩ = some (.bool true) := (blk_cell hbox 0).trans rfl; have q1 : w2.cell? ⟨gb, 1, none⟩ = some (.slice A1 n1 c1) := (blk_cell hbox 1).trans rfl; have q2 : w2.cell? ⟨gb, 2, none⟩ = some (.slice A2 n2 c2) := (blk_cell hbox 2).trans rfl; have HBOX := Lib.hid hbox; clear hbox hgb))
      go_ret
      exact ⟨by rw [D.out]; rfl, hb⟩
    · have d1 : ((n1 : Int) == 0) = false := by rw [beq_eq_false_iff_ne]; omega
      have D : mayB true n1 f n2 at_ tx = false := by
        unfold mayB
        rw [if_pos rfl, decide_eq_false e1, Bool.false_and]
      have D := Lib.hid D
      have E1 := Lib.hid e1
      clear e1
      go_enter Try.func26, Try.ntmps26
      go_wp2_with (first
        | ((with_reducible refine gate_dst (N := 1) rfl ?_); refine box_event ?hg (N := 1) ?hd (cs := #[.bool true, .slice A1 n1 c1, .slice A2 n2 c2]) (t := 25) ?hr ?_; (case hd => rfl); (case hg => rfl); (case hr => first | (go_simp; done) | (go_simp; rfl)); intro gb hgb w2 hbox hb; have q0 : w2.cell? ⟨gb, 0, none⟩ = some (.bool true) := (blk_cell hbox 0).trans rfl; have q1 : w2.cell? ⟨gb, 1, none⟩ = some (.slice A1 n1 c1) := (blk_cell hbox 1).trans rfl; have q2 : w2.cell? ⟨gb, 2, none⟩ = some (.slice A2 n2 c2) := (blk_cell hbox 2).trans rfl; have HBOX := Lib.hid hbox; clear hbox hgb))
      go_ret
      exact ⟨by rw [D.out]; rfl, hb⟩
  | false =>
    have D0 : mayB false n1 f n2 at_ tx = (decide (1 ≤ n1) && (decide (n1 ≤ 72) && (decide (n2 ≤ 256) && (!(List.range n1).any (fun j => ((f j).size : Int) != 64) && !(List.range n2).any (fun j => badB (at_ j) n1 (tx j)))))) := by unfold mayB; rfl
    by_cases e1 : 1 ≤ n1
    · by_cases e2 : n1 ≤ 72
      · by_cases e3 : n2 ≤ 256
        · cases e4 : (List.range n1).any (fun j => ((f j).size : Int) != 64)
          · cases e5 : (List.range n2).any (fun j => badB (at_ j) n1 (tx j))
            · have h48 := fun (W : World) (hb : Below w.heap.size w W) => hass_walk A1 n1 c1 f W hn1 (cells1_below hb HC1.out)
              rw [e4] at h48
              have H48 := Lib.hid h48
              clear h48
              have h49 := fun (W : World) (g h : Nat) (hb : Below w.heap.size w W) (hg : W.heap[g]? = some (.cells #[.bool false, .slice A1 n1 c1, .slice A2 n2 c2] 25 (0, 0))) (hh : W.heap[h]? = some (.cells #[.func (.func 46) #[] #[]] 79 (0, 0))) => hasw_walk A2 n2 c2 at_ tx g h (.bool false) A1 n1 c1 (.slice A2 n2 c2) W hn2 (cells2_below hb HC2.out) hg hh
              rw [e5] at h49
              have H49 := Lib.hid h49
              clear h49
              have d1 : decide ((1 : Int) ≤ (n1 : Int)) = true := decide_eq_true (by omega)
              have d2 : decide ((n1 : Int) ≤ 72) = true := decide_eq_true (by omega)
              have d3 : decide ((n2 : Int) ≤ 256) = true := decide_eq_true (by omega)
              have D : mayB false n1 f n2 at_ tx = true := by rw [D0, decide_eq_true e1, decide_eq_true e2, decide_eq_true e3, e4, e5]; simp
              have D := Lib.hid D
              clear D0 hn1 hn2 e4 e5
              have E1 := Lib.hid e1
              clear e1
              have E2 := Lib.hid e2
              clear e2
              have E3 := Lib.hid e3
              clear e3
              go_enter Try.func26, Try.ntmps26
              go_wp2_with (first
                | ((with_reducible refine gate_dst (N := 1) rfl ?_); refine box_event ?hg (N := 1) ?hd (cs := #[.bool false, .slice A1 n1 c1, .slice A2 n2 c2]) (t := 25) ?hr ?_; (case hd => rfl); (case hg => rfl); (case hr => first | (go_simp; done) | (go_simp; rfl)); intro gb hgb w2 hbox hb2; have q0 : w2.cell? ⟨gb, 0, none⟩ = some (.bool false) := (blk_cell hbox 0).trans rfl; have HBOX := Lib.hid hbox; have HGB := Lib.hid hgb; clear hbox hgb)
                | ((with_reducible refine gate_dst (N := 3) rfl ?_); refine box_event ?hg (N := 3) ?hd (cs := #[.nilFunc]) (t := 79) ?hr ?_; (case hd => rfl); (case hg => rfl); (case hr => first | (go_simp; done) | (go_simp; rfl)); intro gh hgh w3 hbox3 hb3; have HBOX3 := Lib.hid hbox3; have HGH := Lib.hid hgh; have HB3 := Lib.hid hb3; have HB2 := Lib.hid hb2; have hq : w3.cell? ⟨gh, 0, none⟩ = some .nilFunc := (blk_cell hbox3 0).trans rfl; have hz : w3.frozen? ⟨gh, 0, none⟩ = false := blk_frozen hbox3 0; clear hbox3 hgh q0)
                | ((with_reducible refine gate_store (t := 79) (p := 3) rfl ?_); refine store_event (t := 79) (p := 3) (v := .func 46) (w1 := w3.setCell ⟨gh, 0, none⟩ (.func (.func 46) #[] #[])) rfl rfl rfl ?hrr ?_; (case hrr => first | (go_simp; done) | (go_simp; rw [run_store_fn]; done) | (go_simp; rw [run_store_fn]; go_simp; done)); intro w4 hw4; clear hq hz; obtain ⟨hbox4, hh4, hb4⟩ := may_set HBOX.out HB2.out HB3.out HGH.out HBOX3.out; rw [← hw4] at hbox4 hh4 hb4; have q1 : w4.cell? ⟨gb, 1, none⟩ = some (.slice A1 n1 c1) := (blk_cell hbox4 1).trans rfl; have q2 : w4.cell? ⟨gb, 2, none⟩ = some (.slice A2 n2 c2) := (blk_cell hbox4 2).trans rfl; have q3 : w4.cell? ⟨gh, 0, none⟩ = some (.func (.func 46) #[] #[]) := (blk_cell hh4 0).trans rfl; have HX4 := Lib.hid hbox4; have HH4 := Lib.hid hh4; have HB4 := Lib.hid hb4; clear hw4 hbox4 hh4 hb4 hb3 hb2)
                | (go_at_call 48; refine (H48.out _ HB4.out).mono ?_; rintro e w' ⟨rfl, rfl⟩)
                | (go_at_call 49; refine (H49.out _ gb gh HB4.out HX4.out HH4.out).mono ?_; rintro e w5 ⟨rfl, hb5⟩))
              go_ret
              exact ⟨by rw [D.out]; rfl, below_step HB4.out hb5⟩
            · have h48 := fun (W : World) (hb : Below w.heap.size w W) => hass_walk A1 n1 c1 f W hn1 (cells1_below hb HC1.out)
              rw [e4] at h48
              have H48 := Lib.hid h48
              clear h48
              have h49 := fun (W : World) (g h : Nat) (hb : Below w.heap.size w W) (hg : W.heap[g]? = some (.cells #[.bool false, .slice A1 n1 c1, .slice A2 n2 c2] 25 (0, 0))) (hh : W.heap[h]? = some (.cells #[.func (.func 46) #[] #[]] 79 (0, 0))) => hasw_walk A2 n2 c2 at_ tx g h (.bool false) A1 n1 c1 (.slice A2 n2 c2) W hn2 (cells2_below hb HC2.out) hg hh
              rw [e5] at h49
              have H49 := Lib.hid h49
              clear h49
              have d1 : decide ((1 : Int) ≤ (n1 : Int)) = true := decide_eq_true (by omega)
              have d2 : decide ((n1 : Int) ≤ 72) = true := decide_eq_true (by omega)
              have d3 : decide ((n2 : Int) ≤ 256) = true := decide_eq_true (by omega)
              have D : mayB false n1 f n2 at_ tx = false := by rw [D0, decide_eq_true e1, decide_eq_true e2, decide_eq_true e3, e4, e5]; simp
              have D := Lib.hid D
              clear D0 hn1 hn2 e4 e5
              have E1 := Lib.hid e1
              clear e1
              have E2 := Lib.hid e2
              clear e2
              have E3 := Lib.hid e3
              clear e3
              go_enter Try.func26, Try.ntmps26
              go_wp2_with (first
                | ((with_reducible refine gate_dst (N := 1) rfl ?_); refine box_event ?hg (N := 1) ?hd (cs := #[.bool false, .slice A1 n1 c1, .slice A2 n2 c2]) (t := 25) ?hr ?_; (case hd => rfl); (case hg => rfl); (case hr => first | (go_simp; done) | (go_simp; rfl)); intro gb hgb w2 hbox hb2; have q0 : w2.cell? ⟨gb, 0, none⟩ = some (.bool false) := (blk_cell hbox 0).trans rfl; have HBOX := Lib.hid hbox; have HGB := Lib.hid hgb; clear hbox hgb)
                | ((with_reducible refine gate_dst (N := 3) rfl ?_); refine box_event ?hg (N := 3) ?hd (cs := #[.nilFunc]) (t := 79) ?hr ?_; (case hd => rfl); (case hg => rfl); (case hr => first | (go_simp; done) | (go_simp; rfl)); intro gh hgh w3 hbox3 hb3; have HBOX3 := Lib.hid hbox3; have HGH := Lib.hid hgh; have HB3 := Lib.hid hb3; have HB2 := Lib.hid hb2; have hq : w3.cell? ⟨gh, 0, none⟩ = some .nilFunc := (blk_cell hbox3 0).trans rfl; have hz : w3.frozen? ⟨gh, 0, none⟩ = false := blk_frozen hbox3 0; clear hbox3 hgh q0)
                | ((with_reducible refine gate_store (t := 79) (p := 3) rfl ?_); refine store_event (t := 79) (p := 3) (v := .func 46) (w1 := w3.setCell ⟨gh, 0, none⟩ (.func (.func 46) #[] #[])) rfl rfl rfl ?hrr ?_; (case hrr => first | (go_simp; done) | (go_simp; rw [run_store_fn]; done) | (go_simp; rw [run_store_fn]; go_simp; done)); intro w4 hw4; clear hq hz; obtain ⟨hbox4, hh4, hb4⟩ := may_set HBOX.out HB2.out HB3.out HGH.out HBOX3.out; rw [← hw4] at hbox4 hh4 hb4; have q1 : w4.cell? ⟨gb, 1, none⟩ = some (.slice A1 n1 c1) := (blk_cell hbox4 1).trans rfl; have q2 : w4.cell? ⟨gb, 2, none⟩ = some (.slice A2 n2 c2) := (blk_cell hbox4 2).trans rfl; have q3 : w4.cell? ⟨gh, 0, none⟩ = some (.func (.func 46) #[] #[]) := (blk_cell hh4 0).trans rfl; have HX4 := Lib.hid hbox4; have HH4 := Lib.hid hh4; have HB4 := Lib.hid hb4; clear hw4 hbox4 hh4 hb4 hb3 hb2)
                | (go_at_call 48; refine (H48.out _ HB4.out).mono ?_; rintro e w' ⟨rfl, rfl⟩)
                | (go_at_call 49; refine (H49.out _ gb gh HB4.out HX4.out HH4.out).mono ?_; rintro e w5 ⟨rfl, hb5⟩))
              go_ret
              exact ⟨by rw [D.out]; rfl, below_step HB4.out hb5⟩
          · have h48 := fun (W : World) (hb : Below w.heap.size w W) => hass_walk A1 n1 c1 f W hn1 (cells1_below hb HC1.out)
            rw [e4] at h48
            have H48 := Lib.hid h48
            clear h48
            have d1 : decide ((1 : Int) ≤ (n1 : Int)) = true := decide_eq_true (by omega)
            have d2 : decide ((n1 : Int) ≤ 72) = true := decide_eq_true (by omega)
            have d3 : decide ((n2 : Int) ≤ 256) = true := decide_eq_true (by omega)
            have D : mayB false n1 f n2 at_ tx = false := by rw [D0, decide_eq_true e1, decide_eq_true e2, decide_eq_true e3, e4]; simp
            have D := Lib.hid D
            clear D0 hn1 hn2 e4
            have E1 := Lib.hid e1
            clear e1
            have E2 := Lib.hid e2
            clear e2
            have E3 := Lib.hid e3
            clear e3
            go_enter Try.func26, Try.ntmps26
            go_wp2_with (first
              | ((with_reducible refine gate_dst (N := 1) rfl ?_); refine box_event ?hg (N := 1) ?hd (cs := #[.bool false, .slice A1 n1 c1, .slice A2 n2 c2]) (t := 25) ?hr ?_; (case hd => rfl); (case hg => rfl); (case hr => first | (go_simp; done) | (go_simp; rfl)); intro gb hgb w2 hbox hb2; have q0 : w2.cell? ⟨gb, 0, none⟩ = some (.bool false) := (blk_cell hbox 0).trans rfl; have HBOX := Lib.hid hbox; have HGB := Lib.hid hgb; clear hbox hgb)
              | ((with_reducible refine gate_dst (N := 3) rfl ?_); refine box_event ?hg (N := 3) ?hd (cs := #[.nilFunc]) (t := 79) ?hr ?_; (case hd => rfl); (case hg => rfl); (case hr => first | (go_simp; done) | (go_simp; rfl)); intro gh hgh w3 hbox3 hb3; have HBOX3 := Lib.hid hbox3; have HGH := Lib.hid hgh; have HB3 := Lib.hid hb3; have HB2 := Lib.hid hb2; have hq : w3.cell? ⟨gh, 0, none⟩ = some .nilFunc := (blk_cell hbox3 0).trans rfl; have hz : w3.frozen? ⟨gh, 0, none⟩ = false := blk_frozen hbox3 0; clear hbox3 hgh q0)
              | ((with_reducible refine gate_store (t := 79) (p := 3) rfl ?_); refine store_event (t := 79) (p := 3) (v := .func 46) (w1 := w3.setCell ⟨gh, 0, none⟩ (.func (.func 46) #[] #[])) rfl rfl rfl ?hrr ?_; (case hrr => first | (go_simp; done) | (go_simp; rw [run_store_fn]; done) | (go_simp; rw [run_store_fn]; go_simp; done)); intro w4 hw4; clear hq hz; obtain ⟨hbox4, hh4, hb4⟩ := may_set HBOX.out HB2.out HB3.out HGH.out HBOX3.out; rw [← hw4] at hbox4 hh4 hb4; have q1 : w4.cell? ⟨gb, 1, none⟩ = some (.slice A1 n1 c1) := (blk_cell hbox4 1).trans rfl; have q2 : w4.cell? ⟨gb, 2, none⟩ = some (.slice A2 n2 c2) := (blk_cell hbox4 2).trans rfl; have q3 : w4.cell? ⟨gh, 0, none⟩ = some (.func (.func 46) #[] #[]) := (blk_cell hh4 0).trans rfl; have HX4 := Lib.hid hbox4; have HH4 := Lib.hid hh4; have HB4 := Lib.hid hb4; clear hw4 hbox4 hh4 hb4 hb3 hb2)
              | (go_at_call 48; refine (H48.out _ HB4.out).mono ?_; rintro e w' ⟨rfl, rfl⟩))
            go_ret
            exact ⟨by rw [D.out]; rfl, HB4.out⟩
        · have d1 : decide ((1 : Int) ≤ (n1 : Int)) = true := decide_eq_true (by omega)
          have d2 : decide ((n1 : Int) ≤ 72) = true := decide_eq_true (by omega)
          have d3 : decide ((n2 : Int) ≤ 256) = false := decide_eq_false (by omega)
          have D : mayB false n1 f n2 at_ tx = false := by rw [D0, decide_eq_true e1, decide_eq_true e2, decide_eq_false e3]; simp
          have D := Lib.hid D
          clear D0 hn1 hn2
          have E1 := Lib.hid e1
          clear e1
          have E2 := Lib.hid e2
          clear e2
          have E3 := Lib.hid e3
          clear e3
          go_enter Try.func26, Try.ntmps26
          go_wp2_with (first
            | ((with_reducible refine gate_dst (N := 1) rfl ?_); refine box_event ?hg (N := 1) ?hd (cs := #[.bool false, .slice A1 n1 c1, .slice A2 n2 c2]) (t := 25) ?hr ?_; (case hd => rfl); (case hg => rfl); (case hr => first | (go_simp; done) | (go_simp; rfl)); intro gb hgb w2 hbox hb2; have q0 : w2.cell? ⟨gb, 0, none⟩ = some (.bool false) := (blk_cell hbox 0).trans rfl; have HBOX := Lib.hid hbox; have HGB := Lib.hid hgb; clear hbox hgb)
            | ((with_reducible refine gate_dst (N := 3) rfl ?_); refine box_event ?hg (N := 3) ?hd (cs := #[.nilFunc]) (t := 79) ?hr ?_; (case hd => rfl); (case hg => rfl); (case hr => first | (go_simp; done) | (go_simp; rfl)); intro gh hgh w3 hbox3 hb3; have HBOX3 := Lib.hid hbox3; have HGH := Lib.hid hgh; have HB3 := Lib.hid hb3; have HB2 := Lib.hid hb2; have hq : w3.cell? ⟨gh, 0, none⟩ = some .nilFunc := (blk_cell hbox3 0).trans rfl; have hz : w3.frozen? ⟨gh, 0, none⟩ = false := blk_frozen hbox3 0; clear hbox3 hgh q0)
            | ((with_reducible refine gate_store (t := 79) (p := 3) rfl ?_); refine store_event (t := 79) (p := 3) (v := .func 46) (w1 := w3.setCell ⟨gh, 0, none⟩ (.func (.func 46) #[] #[])) rfl rfl rfl ?hrr ?_; (case hrr => first | (go_simp; done) | (go_simp; rw [run_store_fn]; done) | (go_simp; rw [run_store_fn]; go_simp; done)); intro w4 hw4; clear hq hz; obtain ⟨hbox4, hh4, hb4⟩ := may_set HBOX.out HB2.out HB3.out HGH.out HBOX3.out; rw [← hw4] at hbox4 hh4 hb4; have q1 : w4.cell? ⟨gb, 1, none⟩ = some (.slice A1 n1 c1) := (blk_cell hbox4 1).trans rfl; have q2 : w4.cell? ⟨gb, 2, none⟩ = some (.slice A2 n2 c2) := (blk_cell hbox4 2).trans rfl; have q3 : w4.cell? ⟨gh, 0, none⟩ = some (.func (.func 46) #[] #[]) := (blk_cell hh4 0).trans rfl; have HX4 := Lib.hid hbox4; have HH4 := Lib.hid hh4; have HB4 := Lib.hid hb4; clear hw4 hbox4 hh4 hb4 hb3 hb2))
          go_ret
          exact ⟨by rw [D.out]; rfl, HB4.out⟩
      · have d1 : decide ((1 : Int) ≤ (n1 : Int)) = true := decide_eq_true (by omega)
        have d2 : decide ((n1 : Int) ≤ 72) = false := decide_eq_false (by omega)
        have D : mayB false n1 f n2 at_ tx = false := by rw [D0, decide_eq_true e1, decide_eq_false e2]; simp
        have D := Lib.hid D
        clear D0 hn1 hn2
        have E1 := Lib.hid e1
        clear e1
        have E2 := Lib.hid e2
        clear e2
        go_enter Try.func26, Try.ntmps26
        go_wp2_with (first
          | ((with_reducible refine gate_dst (N := 1) rfl ?_); refine box_event ?hg (N := 1) ?hd (cs := #[.bool false, .slice A1 n1 c1, .slice A2 n2 c2]) (t := 25) ?hr ?_; (case hd => rfl); (case hg => rfl); (case hr => first | (go_simp; done) | (go_simp; rfl)); intro gb hgb w2 hbox hb2; have q0 : w2.cell? ⟨gb, 0, none⟩ = some (.bool false) := (blk_cell hbox 0).trans rfl; have HBOX := Lib.hid hbox; have HGB := Lib.hid hgb; clear hbox hgb)
          | ((with_reducible refine gate_dst (N := 3) rfl ?_); refine box_event ?hg (N := 3) ?hd (cs := #[.nilFunc]) (t := 79) ?hr ?_; (case hd => rfl); (case hg => rfl); (case hr => first | (go_simp; done) | (go_simp; rfl)); intro gh hgh w3 hbox3 hb3; have HBOX3 := Lib.hid hbox3; have HGH := Lib.hid hgh; have HB3 := Lib.hid hb3; have HB2 := Lib.hid hb2; have hq : w3.cell? ⟨gh, 0, none⟩ = some .nilFunc := (blk_cell hbox3 0).trans rfl; have hz : w3.frozen? ⟨gh, 0, none⟩ = false := blk_frozen hbox3 0; clear hbox3 hgh q0)
          | ((with_reducible refine gate_store (t := 79) (p := 3) rfl ?_); refine store_event (t := 79) (p := 3) (v := .func 46) (w1 := w3.setCell ⟨gh, 0, none⟩ (.func (.func 46) #[] #[])) rfl rfl rfl ?hrr ?_; (case hrr => first | (go_simp; done) | (go_simp; rw [run_store_fn]; done) | (go_simp; rw [run_store_fn]; go_simp; done)); intro w4 hw4; clear hq hz; obtain ⟨hbox4, hh4, hb4⟩ := may_set HBOX.out HB2.out HB3.out HGH.out HBOX3.out; rw [← hw4] at hbox4 hh4 hb4; have q1 : w4.cell? ⟨gb, 1, none⟩ = some (.slice A1 n1 c1) := (blk_cell hbox4 1).trans rfl; have q2 : w4.cell? ⟨gb, 2, none⟩ = some (.slice A2 n2 c2) := (blk_cell hbox4 2).trans rfl; have q3 : w4.cell? ⟨gh, 0, none⟩ = some (.func (.func 46) #[] #[]) := (blk_cell hh4 0).trans rfl; have HX4 := Lib.hid hbox4; have HH4 := Lib.hid hh4; have HB4 := Lib.hid hb4; clear hw4 hbox4 hh4 hb4 hb3 hb2))
        go_ret
        exact ⟨by rw [D.out]; rfl, HB4.out⟩
    · have d1 : decide ((1 : Int) ≤ (n1 : Int)) = false := decide_eq_false (by omega)
      have D : mayB false n1 f n2 at_ tx = false := by rw [D0, decide_eq_false e1]; simp
      have D := Lib.hid D
      clear D0 hn1 hn2
      have E1 := Lib.hid e1
      clear e1
      go_enter Try.func26, Try.ntmps26
      go_wp2_with (first
        | ((with_reducible refine gate_dst (N := 1) rfl ?_); refine box_event ?hg (N := 1) ?hd (cs := #[.bool false, .slice A1 n1 c1, .slice A2 n2 c2]) (t := 25) ?hr ?_; (case hd => rfl); (case hg => rfl); (case hr => first | (go_simp; done) | (go_simp; rfl)); intro gb hgb w2 hbox hb2; have q0 : w2.cell? ⟨gb, 0, none⟩ = some (.bool false) := (blk_cell hbox 0).trans rfl; have HBOX := Lib.hid hbox; have HGB := Lib.hid hgb; clear hbox hgb)
        | ((with_reducible refine gate_dst (N := 3) rfl ?_); refine box_event ?hg (N := 3) ?hd (cs := #[.nilFunc]) (t := 79) ?hr ?_; (case hd => rfl); (case hg => rfl); (case hr => first | (go_simp; done) | (go_simp; rfl)); intro gh hgh w3 hbox3 hb3; have HBOX3 := Lib.hid hbox3; have HGH := Lib.hid hgh; have HB3 := Lib.hid hb3; have HB2 := Lib.hid hb2; have hq : w3.cell? ⟨gh, 0, none⟩ = some .nilFunc := (blk_cell hbox3 0).trans rfl; have hz : w3.frozen? ⟨gh, 0, none⟩ = false := blk_frozen hbox3 0; clear hbox3 hgh q0)
        | ((with_reducible refine gate_store (t := 79) (p := 3) rfl ?_); refine store_event (t := 79) (p := 3) (v := .func 46) (w1 := w3.setCell ⟨gh, 0, none⟩ (.func (.func 46) #[] #[])) rfl rfl rfl ?hrr ?_; (case hrr => first | (go_simp; done) | (go_simp; rw [run_store_fn]; done) | (go_simp; rw [run_store_fn]; go_simp; done)); intro w4 hw4; clear hq hz; obtain ⟨hbox4, hh4, hb4⟩ := may_set HBOX.out HB2.out HB3.out HGH.out HBOX3.out; rw [← hw4] at hbox4 hh4 hb4; have q1 : w4.cell? ⟨gb, 1, none⟩ = some (.slice A1 n1 c1) := (blk_cell hbox4 1).trans rfl; have q2 : w4.cell? ⟨gb, 2, none⟩ = some (.slice A2 n2 c2) := (blk_cell hbox4 2).trans rfl; have q3 : w4.cell? ⟨gh, 0, none⟩ = some (.func (.func 46) #[] #[]) := (blk_cell hh4 0).trans rfl; have HX4 := Lib.hid hbox4; have HH4 := Lib.hid hh4; have HB4 := Lib.hid hb4; clear hw4 hbox4 hh4 hb4 hb3 hb2))
      go_ret
      exact ⟨by rw [D.out]; rfl, HB4.out⟩
/-- What was written last at a place, among the first so many writes. -/
def lastN (at_ : Nat → Int) (tx : Nat → ByteArray) (a : Int) : Nat → Option ByteArray
  | 0 => none
  | n + 1 => if at_ n = a then some (tx n) else lastN at_ tx a n
/-- What stands at a place. -/
def atB (n1 : Nat) (f : Nat → ByteArray) (n2 : Nat) (at_ : Nat → Int) (tx : Nat → ByteArray) (a : Int) : Option ByteArray :=
  match lastN at_ tx a n2 with
  | some s => some s
  | none => if 0 ≤ a ∧ a < (n1 : Int) then some (f a.toNat) else none
def SoughtA (at_ : Nat → Int) (tx : Nat → ByteArray) (a : Int) (n : Nat) (w : World) (i : Value) (W : World) : Prop := ∃ k : Nat, k ≤ n ∧ i = .int .i64 ((k : Int) - 1) ∧ Hid (lastN at_ tx a n = lastN at_ tx a k) ∧ Below w.heap.size w W
theorem cell1_below {w W : World} {ad : Addr} {a : Value} (hb : Below w.heap.size w W) (h0 : w.cell? ad = some a) : W.cell? ad = some a := pw_cell_below hb h0
set_option maxRecDepth 100000 in
set_option maxHeartbeats 1000000 in
theorem at_walk (lost : Bool) (A1 : Option Addr) (n1 c1 : Nat) (f : Nat → ByteArray) (A2 : Option Addr) (n2 c2 : Nat) (at_ : Nat → Int) (tx : Nat → ByteArray) (a : Int) (r : ByteArray) (g : Nat) (w : World) (hn2 : n2 ≤ 9223372036854775807)
    (hc1 : ∀ j, j < n1 → ∃ ad, A1 = some ad ∧ w.cell? (ad.add j) = some (.string (f j)))
    (hc2 : ∀ j, j < n2 → ∃ ad, A2 = some ad ∧ w.cell? (ad.add (j * 2)) = some (.int .i64 (at_ j)) ∧ w.cell? ⟨(ad.add (j * 2)).block, (ad.add (j * 2)).off + 1, none⟩ = some (.string (tx j)))
    (hg : w.heap[g]? = some (.cells #[.bool lost, .slice A1 n1 c1, .slice A2 n2 c2] 25 (0, 0))) (hr : atB n1 f n2 at_ tx a = some r) :
    Calls Try.prog 37 #[.pointer (some ⟨g, 0, none⟩), .int .i64 a] w fun e w' => e = .returned (.string r) ∧ Below w.heap.size w w' := by
  have HC1 := Lib.hid hc1
  have HC2 := Lib.hid hc2
  have HG := Lib.hid hg
  have HR := Lib.hid hr
  have hu25 := Try.underlying25
  have hu62 := Try.underlying62
  have q2 : w.cell? ⟨g, 2, none⟩ = some (.slice A2 n2 c2) := (blk_cell hg 2).trans rfl
  have hw0 : IntKind.i64.wrap ((n2 : Int) - 1) = (n2 : Int) - 1 := by rw [IntKind.wrap_i64]; omega
  clear hc1 hc2 hg hr
  go_enter Try.func37, Try.ntmps37
  go_wp2
  clear q2
  go_loopw [5] (fun i W => SoughtA at_ tx a n2 w i W) (fun i _ => (intOf i + 1).toNat)
  case atStart => exact ⟨n2, Nat.le_refl _, by first | rfl | exact congrArg (Value.int .i64) hw0, Lib.hid rfl, Below.refl _ _⟩
  case round =>
    obtain ⟨k, hk, rfl, hs, hbw⟩ := hrel
    cases k with
    | zero =>
      have hd : decide (((0 : Nat) : Int) - 1 ≥ 0) = false := by decide
      have hd' : decide (0 ≤ ((0 : Nat) : Int) - 1) = false := by decide
      have hr := HR.out
      unfold atB at hr
      rw [hs.out] at hr
      simp only [lastN] at hr
      split at hr
      · rename_i ha
        obtain rfl := Option.some.inj hr
        obtain ⟨j, rfl⟩ := Int.eq_ofNat_of_zero_le ha.1
        obtain ⟨ad, rfl, hx⟩ := HC1.out j (by omega)
        have hy := cell1_below hbw hx
        have hjn : j < n1 := by omega
        have q1 : wr.cell? ⟨g, 1, none⟩ = some (.slice (some ad) n1 c1) := (blk_cell (blk_below HG.out hbw) 1).trans rfl
        clear hx hr
        go_wp2
        go_ret
        exact ⟨by first | rfl | (simp; done), by first | exact hbw | exact below_drew1 hbw⟩
      · cases hr
    | succ m =>
      obtain ⟨ad, rfl, hx0, hx1⟩ := HC2.out m (by omega)
      obtain ⟨hy0, hy1⟩ := cell2_below hbw hx0 hx1
      have hi : ((m + 1 : Nat) : Int) - 1 = (m : Int) := by omega
      rw [hi]
      have q2 : wr.cell? ⟨g, 2, none⟩ = some (.slice (some ad) n2 c2) := (blk_cell (blk_below HG.out hbw) 2).trans rfl
      have hmn : m < n2 := by omega
      clear hx0 hx1
      have hs' := hs.out
      simp only [lastN] at hs'
      by_cases e : at_ m = a
      · rw [if_pos e] at hs'
        have e1 : (at_ m == a) = true := beq_iff_eq.2 e
        have hr := HR.out
        unfold atB at hr
        rw [hs'] at hr
        have ER := Lib.hid (Option.some.inj hr)
        clear hr hs' e
        go_wp2
        go_ret
        exact ⟨by rw [← ER.out]; rfl, by first | exact hbw | exact below_drew1 hbw⟩
      · rw [if_neg e] at hs'
        have e1 : (at_ m == a) = false := beq_eq_false_iff_ne.2 e
        have HS := Lib.hid hs'
        have hw1 : IntKind.i64.wrap ((m : Int) - 1) = (m : Int) - 1 := by rw [IntKind.wrap_i64]; omega
        clear hs' e
        go_wp2
        go_roundw
        case rel => exact ⟨m, by omega, by first | rfl | exact congrArg (Value.int .i64) hw1, HS, by first | exact hbw | exact below_drew1 hbw⟩
        case measure => simp [intOf] <;> omega
end Go.Proofs.YtoloonnoobnafaaMay
