/- slices.Repeat at one text, walked: a row of so many texts that are that one. -/
import Derived.Test.YtoloonnoobnafaaProg
import Derived.Test.YtoloonnoobnafaaShelf
import Derived.Test.YtoloonnoobnafaaVDisksWords
import Derived.Test.YtoloonnoobnafaaVDisksLast
import Derived.Below
import Derived.WalkKit
import Derived.KernelRfl
import Derived.Laws.CopyOwn
import Derived.Deep.RegionLaw
import Derived.Lib.Hide
import Derived.Tactics
namespace Go.Proofs.YtoloonnoobnafaaRep
open Go Go.RowKit Go.Proofs.YtoloonnoobnafaaW.PrintWords Go.Proofs.YtoloonnoobnafaaW.PrintLast
set_option linter.unusedVariables false
theorem info9 : (Try.prog.info? 9).map (fun i => (i.zero, i.size, i.bytes)) = some (some (.string ⟨#[]⟩), 1, 16) := by kernel_rfl
theorem mul_one_ (n : Nat) (h : n < 18446744073709551616) (w : World) : Calls Try.prog 52 #[.int .u64 1, .int .u64 (n : Int)] w fun e w' => e = .returned (.tuple #[.int .u64 0, .int .u64 (n : Int)]) ∧ w = w' := by
  refine (Try.bits_Mul 1 n (by omega) h w).mono ?_
  rintro e w' ⟨rfl, rfl⟩
  rw [Nat.one_mul, Nat.div_eq_of_lt h, Nat.mod_eq_of_lt h]
  exact ⟨rfl, rfl⟩
/-- The first cells of a row hold one text. -/
def Filled (W0 : World) (g cap n : Nat) (s : ByteArray) (i : Value) (W : World) : Prop :=
  ∃ (m : Nat) (L : List Value), 1 ≤ m ∧ m ≤ n ∧ i = .int .i64 (m : Int) ∧ Hid (W.heap[g]? = some (.cells L.toArray 9 (0, 0))) ∧ L.length = cap ∧ L.take m = List.replicate m (.string s) ∧ Below W0.heap.size W0 W
theorem splice_fill {L : List Value} {v : Value} {m k : Nat} (h : L.take m = List.replicate m v) (hm : m ≤ L.length) : (splice L m (List.replicate k v)).take (m + k) = List.replicate (m + k) v := by
  unfold splice
  rw [h, ← List.append_assoc, List.replicate_append_replicate, List.take_append_of_le_length (by rw [List.length_replicate]; exact Nat.le_refl _), List.take_of_length_le (by rw [List.length_replicate]; exact Nat.le_refl _)]
theorem info9s : (Try.prog.info? 9).map (·.size) = some 1 := by kernel_rfl
theorem make_form {w1 : World} {base : Nat} {ok : Nat → Prop} {v : Value} {n : Nat} {z : ByteArray} (h : Kd.string.R 9 w1 base ok v (List.replicate ((n : Int)).toNat z)) (hn : 1 ≤ n) :
    ∃ g cap L, v = .slice (some ⟨g, 0, none⟩) n cap ∧ base ≤ g ∧ Hid (w1.heap[g]? = some (.cells (L : List Value).toArray 9 (0, 0))) ∧ n ≤ cap ∧ cap ≤ maxLen ∧ L.length = cap := by
  obtain ⟨_, ho⟩ := Kd.own_of_R h
  rw [List.length_replicate, Int.toNat_natCast] at ho
  rcases ho with ⟨_, h0⟩ | ⟨g, cap, cur, rfl, hg, hh, hnc, hcm, hcs, _⟩
  · omega
  · exact ⟨g, cap, cur.toList, rfl, hg, Lib.hid (by simpa using hh), hnc, hcm, by simpa using hcs⟩
theorem src_one {w w1 : World} {ad : Addr} {s : ByteArray} {B : Nat} (hc : w.cell? ad = some (.string s)) (hlt : ad.block < w.heap.size) (hb : Below w.heap.size w w1) {g : Nat} :
    0 < ([Value.string s] : List Value).length → some (⟨g, 0, none⟩ : Addr) = some ⟨g, 0, none⟩ ∧ ∃ ad', some ad = some ad' ∧ ∀ j v, ([Value.string s] : List Value)[j]? = some v → w1.cell? (ad'.add j) = some v := by
  intro _
  refine ⟨rfl, ad, rfl, fun j v hj => ?_⟩
  cases j with
  | zero =>
    simp at hj
    subst hj
    rw [show ad.add 0 = ad from rfl, hb.cell (p := ad) hlt]
    exact hc
  | succ j => simp at hj
theorem src_row {W : World} {g m k : Nat} {L1 : List Value} {s : ByteArray} (hh : W.heap[g]? = some (.cells L1.toArray 9 (0, 0))) (hfl : L1.take m = List.replicate m (.string s)) (hk : k ≤ m) :
    0 < (List.replicate k (Value.string s)).length → some (⟨g, m, none⟩ : Addr) = some ⟨g, m, none⟩ ∧ ∃ ad, some (⟨g, 0, none⟩ : Addr) = some ad ∧ ∀ j v, (List.replicate k (Value.string s))[j]? = some v → W.cell? (ad.add j) = some v := by
  intro _
  refine ⟨rfl, ⟨g, 0, none⟩, rfl, fun j v hj => ?_⟩
  rw [List.getElem?_replicate] at hj
  split at hj
  · rename_i hjk
    obtain rfl := Option.some.inj hj
    have e : (⟨g, 0, none⟩ : Addr).add j = ⟨g, j, none⟩ := by unfold Addr.add; split <;> simp_all
    have h2 : (L1.take m)[j]? = some (.string s) := by rw [hfl, List.getElem?_replicate, if_pos (by omega)]
    rw [List.getElem?_take, if_pos (by omega)] at h2
    rw [e]
    simp [World.cell?, hh, h2]
  · cases hj
set_option maxRecDepth 100000 in
set_option maxHeartbeats 1000000 in
theorem rep_walk (ad : Addr) (c0 : Nat) (s : ByteArray) (n : Nat) (h1 : 1 ≤ n) (h2 : n ≤ 1000) (w : World) (hc : w.cell? ad = some (.string s)) (hlt : ad.block < w.heap.size) :
    Calls Try.prog 31 #[.slice (some ad) 1 c0, .int .i64 (n : Int)] w fun e w' => ∃ v, e = .returned v ∧ w'.ownsRow w.heap.size 9 1 v n (List.replicate n (.string s)) ∧ Below w.heap.size w w' := by
  have hd : decide ((n : Int) < 0) = false := by simp
  have hg0 : decide ((9223372036854775807 : Int) < (n : Int)) = false := by simp; omega
  have hn0 : 0 ≤ (n : Int) := by omega
  have HC := Lib.hid hc
  clear hc
  go_enter Try.func31, Try.ntmps31
  go_wp2_with (first
    | (go_at_call 52; refine (mul_one_ n (by omega) _).mono ?_; rintro e w' ⟨rfl, rfl⟩)
    | ((with_reducible refine gate_dst (N := 30) rfl ?_); refine Kd.R_make Kd.string _ 9 rfl (N := 30) rfl 22 _ _ rfl (n : Int) rfl rfl Try.underlying22 (.string ⟨#[]⟩) 16 info9 rfl (by decide) (by omega) (⟨#[]⟩ : ByteArray) (ok := fun _ => True) (okp := fun _ => True) rfl (fun _ hk => hk) trivial hn0 (by omega) (Below.refl w.heap.size w) (Nat.le_refl _) ?_; intro v1 w1 ho hb hgr hnew; clear hgr hnew; obtain ⟨g, cap, L, rfl, hgb, hh, hnc, hcm, hL⟩ := make_form ho h1; clear ho)
    | ((with_reducible refine gate_dst (N := 33) rfl ?_); refine wpList_copy_splice rfl (.tmp 31) (.tmp 32) 22 22 rfl 9 Try.underlying22 info9s (some ⟨g, 0, none⟩) (some ad) n cap 1 c0 rfl rfl g 0 L 9 hh.out [.string s] (Nat.min_eq_left h1).symm (src_one (B := 0) HC.out hlt hb) (by rw [hL]; simp only [List.length_cons, List.length_nil]; omega) (by intro v hv; rw [List.mem_singleton.1 hv]; rfl) w.heap.size w hb hgb ?_; intro w2 hg2 hb2; clear hh hb))
  go_loopw [8] (fun i W => Filled w g cap n s i W) (fun i _ => n - (intOf i).toNat)
  case atStart =>
    exact ⟨1, splice L 0 [.string s], Nat.le_refl _, h1, rfl, Lib.hid hg2, by rw [length_splice _ _ _ (by rw [hL]; simp only [List.length_cons, List.length_nil]; omega)]; exact hL, by simp [splice], hb2⟩
  case round =>
    obtain ⟨m, L1, hm1, hm2, rfl, hh, hL1, hfl, hbw⟩ := hrel
    by_cases hlt2 : m < n
    · have hmc : m ≤ cap := by omega
      have hmc2 : ¬ cap = m := by omega
      have hmc3 : (cap = m) = False := by simp; omega
      have hmn : min m (n - m) ≤ m := Nat.min_le_left _ _
      have hnl : Hid ((List.replicate (min m (n - m)) (Value.string s)).length = Nat.min m (n - m)) := List.length_replicate
      have HFL := Lib.hid hfl
      have hfit : Hid (m + (List.replicate (min m (n - m)) (Value.string s)).length ≤ L1.length) := by show _ ≤ _; rw [List.length_replicate, hL1]; omega
      have hadd : IntKind.i64.wrap ((m : Int) + ((min m (n - m) : Nat) : Int)) = ((m + min m (n - m) : Nat) : Int) := by rw [IntKind.wrap_i64]; omega
      have HL1 := Lib.hid hL1
      clear hfl hL1
      go_wp2
      go_region_law (refine step_copy_splice rfl (.tmp 41) (.tmp 44) 22 22 rfl 9 Try.underlying22 info9s (some ⟨g, m, none⟩) (some ⟨g, 0, none⟩) (n - m) (cap - m) m cap (by simp [Act.eval, Act.put]) (by simp [Act.eval, Act.put]) g m L1 9 hh.out (List.replicate (min m (n - m)) (.string s)) hnl.out (src_row (W := wr.drew) hh.out HFL.out hmn) hfit.out (by intro v hv; rw [List.eq_of_mem_replicate hv]; rfl) w.heap.size w (by first | exact hbw | exact hbw.drew) hgb ?_; intro w4 hg4 hb4)
      go_simp
      go_roundw
      case rel =>
        repeat apply Exists.intro
        refine ⟨?_, rfl⟩
        exact ⟨m + min m (n - m), splice L1 m (List.replicate (min m (n - m)) (.string s)), by omega, by omega, congrArg (Value.int .i64) (show (m : Int) + ((min m (n - m) : Nat) : Int) = ((m + min m (n - m) : Nat) : Int) from by omega), hg4, by rw [length_splice _ _ _ hfit.out]; exact HL1.out, splice_fill HFL.out (by rw [HL1.out]; omega), hb4⟩
      case measure => simp [intOf]; omega
    · obtain rfl : m = n := by omega
      go_wp2
      go_ret
      refine ⟨_, rfl, ⟨by simp, Or.inr ⟨g, cap, L1.toArray, rfl, hgb, hh.out, hnc, hcm, by simpa using hL1, by simpa using hfl⟩⟩, hbw⟩
end Go.Proofs.YtoloonnoobnafaaRep
