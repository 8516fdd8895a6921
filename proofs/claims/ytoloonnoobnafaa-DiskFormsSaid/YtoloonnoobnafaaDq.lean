/- Disks that may not be, and what the calls answer at them, in plain words: no condition beyond each theorem's own. -/
import Derived.Test.YtoloonnoobnafaaDp
namespace Go.Proofs.Ytoloonnoobnafaa.Dq
open Go.Proofs.Ytoloonnoobnafaa.Dp Go.RowKit Go.Proofs.Ytoloonnoobnafaa.HDiskGone Go.Proofs.YtoloonnoobnafaaW.PrintWords Go.Proofs.YtoloonnoobnafaaW.PrintLast
set_option linter.unusedVariables false
set_option linter.unusedSimpArgs false
theorem there_no {b : Bool} {l1 : List ByteArray} {l2 : List S62} (h : disk_May.f b l1 l2 = some false) : disk_there.f b l1 l2 = some 1300 := by
  unfold disk_there.f
  rw [h, Option.bind_some, if_neg (by decide)]
theorem read_no {b : Bool} {l1 : List ByteArray} {l2 : List S62} (h : disk_May.f b l1 l2 = some false) (x : Int) : disk_Read.f b l1 l2 x = some (⟨#[]⟩, 1300) := by
  unfold disk_Read.f
  rw [there_no h, Option.bind_some, if_neg (by decide)]
theorem write_no {b : Bool} {l1 : List ByteArray} {l2 : List S62} (h : disk_May.f b l1 l2 = some false) (x : Int) (t : ByteArray) : disk_Write.f b l1 l2 x t = some (false, [], [], 1300) := by
  unfold disk_Write.f
  rw [there_no h, Option.bind_some, if_neg (by decide)]
theorem flush_no {b : Bool} {l1 : List ByteArray} {l2 : List S62} (h : disk_May.f b l1 l2 = some false) (k : Nat) : disk_Flush.f k b l1 l2 = some (false, [], [], 1300) := by
  unfold disk_Flush.f
  rw [there_no h, Option.bind_some, if_neg (by decide)]
theorem crash_no {b : Bool} {l1 : List ByteArray} {l2 : List S62} (h : disk_May.f b l1 l2 = some false) (k : Nat) (x : Int) : disk_Crash.f k b l1 l2 x = some (false, [], [], 1300) := by
  unfold disk_Crash.f
  rw [there_no h, Option.bind_some, if_neg (by decide)]
theorem rot_no {b : Bool} {l1 : List ByteArray} {l2 : List S62} (h : disk_May.f b l1 l2 = some false) (x y z : Int) : disk_Rot.f b l1 l2 x y z = some (false, [], [], 1300) := by
  unfold disk_Rot.f
  rw [there_no h, Option.bind_some, if_neg (by decide)]
theorem lose_no {b : Bool} {l1 : List ByteArray} {l2 : List S62} (h : disk_May.f b l1 l2 = some false) : disk_Lose.f b l1 l2 = some (false, [], [], 1300) := by
  unfold disk_Lose.f
  rw [h, Option.bind_some, if_neg (by decide)]
theorem read_out {l1 : List ByteArray} {l2 : List S62} (h : Valid l1 l2) (x : Int) (hx : x < 0 ∨ (l1.length : Int) ≤ x) : disk_Read.f false l1 l2 x = some (⟨#[]⟩, 1300) := by
  unfold disk_Read.f
  rw [there_valid h, Option.bind_some, if_pos rfl]
  by_cases h0 : x < 0
  · rw [if_pos h0]
  · rw [if_neg h0, if_pos (by omega)]
theorem write_out {l1 : List ByteArray} {l2 : List S62} (h : Valid l1 l2) (x : Int) (t : ByteArray) (hx : x < 0 ∨ (l1.length : Int) ≤ x ∨ t.size ≠ 64) : disk_Write.f false l1 l2 x t = some (false, [], [], 1300) := by
  unfold disk_Write.f
  rw [there_valid h, Option.bind_some, if_pos rfl]
  by_cases h0 : x < 0
  · rw [if_pos h0]
  · rw [if_neg h0]
    by_cases h1 : x ≥ (l1.length : Int)
    · rw [if_pos h1]
    · rw [if_neg h1, if_neg (by omega)]
theorem rot_out {l1 : List ByteArray} {l2 : List S62} (h : Valid l1 l2) (x y z : Int) (hx : x < 0 ∨ (l1.length : Int) ≤ x ∨ y < 0 ∨ 64 ≤ y ∨ z < 1 ∨ 255 < z) : disk_Rot.f false l1 l2 x y z = some (false, [], [], 1300) := by
  unfold disk_Rot.f
  rw [there_valid h, Option.bind_some, if_pos rfl]
  by_cases h0 : x < 0
  · rw [if_pos h0]
  rw [if_neg h0]
  by_cases h1 : x ≥ (l1.length : Int)
  · rw [if_pos h1]
  rw [if_neg h1]
  by_cases h2 : y < 0
  · rw [if_pos h2]
  rw [if_neg h2]
  by_cases h3 : y ≥ 64
  · rw [if_pos h3]
  rw [if_neg h3]
  by_cases h4 : z < 1
  · rw [if_pos h4]
  rw [if_neg h4, if_pos (by omega)]
/-- A disk that may not be: by how many sectors, by one of them, by one of its writes. -/
theorem may_lostful {l1 : List ByteArray} {l2 : List S62} (h : 0 < l1.length + l2.length) (hl1 : l1.length ≤ 100000) (hl2 : l2.length ≤ 100000) : disk_May.f true l1 l2 = some false := by
  unfold disk_May.f disk_May.v
  rw [if_pos (by omega)]
  unfold Go.Proofs.YtoloonnoobnafaaMay.mayB
  rw [if_pos rfl]
  by_cases h1 : l1.length = 0
  · rw [decide_eq_true h1, decide_eq_false (show ¬ l2.length = 0 by omega)]; rfl
  · rw [decide_eq_false h1]; rfl
theorem may_many {l1 : List ByteArray} {l2 : List S62} (h : l1.length < 1 ∨ 72 < l1.length) (hl1 : l1.length ≤ 100000) (hl2 : l2.length ≤ 100000) : disk_May.f false l1 l2 = some false := by
  unfold disk_May.f disk_May.v
  rw [if_pos (by omega)]
  unfold Go.Proofs.YtoloonnoobnafaaMay.mayB
  rcases h with h | h
  · simp [decide_eq_false (show ¬ 1 ≤ l1.length by omega)]
  · simp; omega
theorem may_short {l1 : List ByteArray} {l2 : List S62} (j : Nat) (hj : j < l1.length) (h : (l1.getD j ⟨#[]⟩).size ≠ 64) (hl1 : l1.length ≤ 100000) (hl2 : l2.length ≤ 100000) : disk_May.f false l1 l2 = some false := by
  unfold disk_May.f disk_May.v
  rw [if_pos (by omega)]
  unfold Go.Proofs.YtoloonnoobnafaaMay.mayB
  have a1 : (List.range l1.length).any (fun j => ((l1.getD j ⟨#[]⟩).size : Int) != 64) = true := by
    rw [List.any_eq_true]
    exact ⟨j, List.mem_range.2 hj, by rw [bne_iff_ne]; omega⟩
  rw [a1]; simp
theorem may_bad {l1 : List ByteArray} {l2 : List S62} (j : Nat) (hj : j < l2.length) (h : (l2.getD j z62).f0 < 0 ∨ (l1.length : Int) ≤ (l2.getD j z62).f0 ∨ (l2.getD j z62).f1.size ≠ 64) (hl1 : l1.length ≤ 100000) (hl2 : l2.length ≤ 100000) : disk_May.f false l1 l2 = some false := by
  unfold disk_May.f disk_May.v
  rw [if_pos (by omega)]
  unfold Go.Proofs.YtoloonnoobnafaaMay.mayB
  have a1 : (List.range l2.length).any (fun j => Go.Proofs.YtoloonnoobnafaaMay.badB (l2.getD j z62).f0 l1.length (l2.getD j z62).f1) = true := by
    rw [List.any_eq_true]
    refine ⟨j, List.mem_range.2 hj, ?_⟩
    unfold Go.Proofs.YtoloonnoobnafaaMay.badB
    rcases h with h | h | h
    · rw [decide_eq_true h]; rfl
    · rw [decide_eq_true h, Bool.or_true]; rfl
    · rw [show (((l2.getD j z62).f1.size : Int) != 64) = true from by rw [bne_iff_ne]; omega, Bool.or_true]
  rw [a1]; simp

end Go.Proofs.Ytoloonnoobnafaa.Dq
