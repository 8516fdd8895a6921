/- chunk.Many, walked: of a shape that may be and a size that a file may have it gives the least number of chunks that hold it: the division, and the rounding, of floats are exact there. -/
import Derived.Test.YtcchccnfhmndnaaProg
import Derived.Below
import Derived.WalkKit
import Derived.KernelRfl
import Derived.Laws.Externs
import Derived.Laws.FloatArith
import Derived.Tactics
namespace Go.Proofs.YtcchccnfhmndnaaMany
open Go.RowKit
set_option linter.unusedVariables false
/-- the bits of a whole number, of a quotient, of what it is rounded up to, and that as a whole number -/
def qbits (n d : Nat) : Option Nat := floatBits .quo .f64 (floatOfInt .f64 (n : Int)) (floatOfInt .f64 ((d : Int) * 32))
def ceilB (b : Nat) : Nat := FloatKind.f64.encode ((FloatKind.f64.decode b).integral .up)
def numB (b : Nat) : Bool := match FloatKind.f64.decode b with | .number .. => true | _ => false
def okAt (d n : Nat) : Bool := match qbits n d with
  | some b => numB b && (floatToIntVal .f64 (ceilB b) .i64 == some (((n + 32 * d - 1) / (32 * d) : Nat) : Int))
  | none => false
theorem ok_all : ((List.range 4).all fun d => (List.range (192 * (d + 1) + 1)).all fun n => okAt (d + 1) n) = true := by decide +kernel
theorem ok_at (d n : Nat) (h1 : 1 ≤ d) (h2 : d ≤ 4) (hn : n ≤ 192 * d) : okAt d n = true := by
  have h := ok_all
  rw [List.all_eq_true] at h
  have h' := h (d - 1) (List.mem_range.2 (by omega))
  rw [List.all_eq_true] at h'
  have h'' := h' n (List.mem_range.2 (by omega))
  rwa [show d - 1 + 1 = d from by omega] at h''
theorem run_ceil (b : Nat) (h : numB b = true) (w : World) : (Extern.MathFloor.toIntegral "math.archCeil" .up #[.float .f64 b]).run Try.prog w = .ok (.float .f64 (ceilB b)) w := by
  have e : Extern.MathFloor.toIntegral "math.archCeil" .up #[.float .f64 b] = (match FloatKind.f64.decode b with
    | .nan s t => if FloatKind.f64.format.quiet t = t then pure (.float .f64 b) else do
      let kept ← choose (.extern "math.Floor,Ceil,Trunc,RoundToEven.signallingNaN kept" 2)
      pure (.float .f64 (if kept == 1 then b else FloatKind.f64.encode (.nan s (FloatKind.f64.format.quiet t))))
    | d => pure (.float .f64 (FloatKind.f64.encode (d.integral .up)))) := rfl
  rw [e]
  unfold numB at h
  unfold ceilB
  split at h
  · rename_i s m i hd
    rw [hd]
    rfl
  · cases h
theorem call_ceil (b : Nat) (h : numB b = true) (w : World) : (callFunc 35 #[.float .f64 b]).run Try.prog w = .ok (.value (.float .f64 (ceilB b))) w := by
  rw [run_callFunc_extern Try.func35 (by kernel_rfl) (by kernel_rfl) (by kernel_rfl) (e := Extern.MathFloor.toIntegral "math.archCeil" .up) (by kernel_rfl), run_ceil b h]
  rfl
theorem ceil_walk (b : Nat) (h : numB b = true) (w : World) : Calls Try.prog 29 #[.float .f64 b] w fun e w' => e = .returned (.float .f64 (ceilB b)) ∧ w = w' := by
  have hc := fun w => call_ceil b h w
  go_enter Try.func29, Try.ntmps29
  go_wp2
  go_ret
  exact ⟨rfl, rfl⟩
theorem run_quo (n d b : Nat) (h : qbits n d = some b) (t : TypeId) (w : World) : (binOp .quo t (.float .f64 (floatOfInt .f64 (n : Int))) (.float .f64 (floatOfInt .f64 ((d : Int) * 32)))).run Try.prog w = .ok (.float .f64 b) w :=
  run_float_arith w .quo t .f64 _ _ b h
theorem size_walk (d p : Int) (h0 : 0 ≤ d) (h1 : d ≤ 4) (w : World) : Calls Try.prog 17 #[.agg #[.int .i64 d, .int .i64 p]] w fun e w' => e = .returned (.int .i64 (d * 32)) ∧ Below w.heap.size w w' := by
  go_enter Try.func17, Try.ntmps17
  go_wp2
  go_ret
  exact ⟨rfl, by exact (Below.refl _ _).alloc (Nat.le_refl _) _⟩
theorem many_walk (d n : Nat) (p : Int) (h1 : 1 ≤ d) (h2 : d ≤ 4) (hn : n ≤ 192 * d) (w : World) : Calls Try.prog 21 #[.agg #[.int .i64 (d : Int), .int .i64 p], .int .i64 (n : Int)] w fun e w' => e = .returned (.int .i64 (((n + 32 * d - 1) / (32 * d) : Nat) : Int)) ∧ Below w.heap.size w w' := by
  have hk := ok_at d n h1 h2 hn
  unfold okAt at hk
  split at hk
  · rename_i b hq
    rw [Bool.and_eq_true, beq_iff_eq] at hk
    have hr := run_quo n d b hq
    have hcv : ∀ w : World, (convert 65 3 (.float .f64 (ceilB b))).run Try.prog w = .ok (.int .i64 (((n + 32 * d - 1) / (32 * d) : Nat) : Int)) w := fun w => run_convert_float_int (w := w) 65 3 .f64 .i64 _ _ (by kernel_rfl) Try.underlying3 hk.2
    have hnum := hk.1
    have h0 : (0 : Int) ≤ (d : Int) := by omega
    have h4 : (d : Int) ≤ 4 := by omega
    clear hk hq
    generalize ((n + 32 * d - 1) / (32 * d) : Nat) = q at *
    go_enter Try.func21, Try.ntmps21
    go_wp2_with (first
      | (go_at_call 17; refine (size_walk _ p h0 h4 _).mono ?_; rintro e w1 ⟨rfl, hb⟩)
      | (go_at_call 29; refine (ceil_walk _ hnum _).mono ?_; rintro e w2 ⟨rfl, rfl⟩))
    go_ret
    exact ⟨rfl, ((Below.refl _ _).alloc (Nat.le_refl _) _).trans (hb.mono (by simp))⟩
  · cases hk
end Go.Proofs.YtcchccnfhmndnaaMany
