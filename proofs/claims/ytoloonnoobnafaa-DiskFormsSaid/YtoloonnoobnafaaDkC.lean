/- What the calls over disks answer, as contracts for a law's walk; no condition beyond each theorem's own. -/
import Derived.Test.YtoloonnoobnafaaDk
import Derived.Test.YtoloonnoobnafaaDp
namespace Go.Proofs.Ytoloonnoobnafaa.DkC
open Go.RowKit Go.Proofs.YtoloonnoobnafaaW.PrintWords Go.Proofs.YtoloonnoobnafaaW.PrintLast Go.Proofs.YtoloonnoobnafaaW.PrintMore
open Go.Proofs.Ytoloonnoobnafaa.HDiskGone Go.Proofs.Ytoloonnoobnafaa.Dk Go.Proofs.Ytoloonnoobnafaa.Dp
set_option linter.unusedVariables false
theorem Awake_k (w : World) : Calls Try.prog 29 #[] w fun e w' => e = .returned (.bool true) ∧ Below w.heap.size w w' := by
  obtain ⟨k, hk⟩ := ex_of_ev awake13
  exact ossuarylaw13_awake.calls k true w hk
theorem Full_k (b : Int) (h0 : 0 ≤ b) (h1 : b < 256) (w : World) : Calls Try.prog 30 #[.int .u8 b] w fun e w' => e = .returned (.string (fullS b)) ∧ Below w.heap.size w w' := by
  obtain ⟨k, hk⟩ := ex_of_ev (full_ev b h0 h1)
  exact ossuarylaw13_full.calls k b _ w hk
theorem Num_k (x : Int) (w : World) : Calls Try.prog 12 #[.int .i64 x] w fun e w' => e = .returned (.int .i64 x) ∧ ∃ n, w' = w.drewN n :=
  (ossuarylaw0_Num.calls x x w rfl).mono fun _ _ h => ⟨h.1, h.2.out⟩
theorem New_k (n : Nat) (h0 : 1 ≤ n) (h1 : n ≤ 72) (w : World) : Calls Try.prog 9 #[.int .i64 (n : Int)] w fun e w' => ∃ v2, e = .returned (.tuple #[v2, .int .i64 0]) ∧ DV w' v2 ⟨false, List.replicate n blankS, []⟩ ∧ Below w.heap.size w w' := by
  obtain ⟨k, hk⟩ := ex_of_ev (new_ev n h0 h1)
  exact New_c k w _ ⟨false, List.replicate n blankS, []⟩ 0 hk
theorem NewNo_k (n : Int) (h : n < 1 ∨ 72 < n) (w : World) : Calls Try.prog 9 #[.int .i64 n] w fun e w' => ∃ v2, e = .returned (.tuple #[v2, .int .i64 1300]) ∧ DV w' v2 ⟨false, [], []⟩ ∧ Below w.heap.size w w' := by
  obtain ⟨k, hk⟩ := ex_of_ev (new_no n h)
  exact New_c k w n ⟨false, [], []⟩ 1300 hk
theorem Flush_k {w : World} {v : Value} {s : List ByteArray} {c : List S62} (hv : DV w v ⟨false, s, c⟩) (h : Valid s c) : Calls Try.prog 18 #[v] w fun e w' => ∃ v2, e = .returned (.tuple #[v2, .int .i64 0]) ∧ DV w' v2 ⟨false, settleS (fun _ => true) 0 c s, []⟩ ∧ Below w.heap.size w w' := by
  obtain ⟨k, hk⟩ := ex_of_ev (flush_eq h)
  exact Flush_c k hv ⟨false, settleS (fun _ => true) 0 c s, []⟩ 0 hk
theorem Crash_k {w : World} {v : Value} {s : List ByteArray} {c : List S62} (hv : DV w v ⟨false, s, c⟩) (h : Valid s c) (x : Int) : Calls Try.prog 20 #[v, .int .i64 x] w fun e w' => ∃ v2, e = .returned (.tuple #[v2, .int .i64 0]) ∧ DV w' v2 ⟨false, settleS (lastsB x) 0 c s, []⟩ ∧ Below w.heap.size w w' := by
  obtain ⟨k, hk⟩ := ex_of_ev (crash_eq h x)
  exact Crash_c k hv x ⟨false, settleS (lastsB x) 0 c s, []⟩ 0 hk
theorem Write_k {w : World} {v : Value} {s : List ByteArray} {c : List S62} (hv : DV w v ⟨false, s, c⟩) (h : Valid s c) (x : Int) (t : ByteArray) (h0 : 0 ≤ x) (h1 : x < (s.length : Int)) (ht : t.size = 64) (hc : c.length < 256) :
    Calls Try.prog 16 #[v, .int .i64 x, .string t] w fun e w' => ∃ v2, e = .returned (.tuple #[v2, .int .i64 0]) ∧ DV w' v2 ⟨false, s, c ++ [⟨x, t⟩]⟩ ∧ Below w.heap.size w w' :=
  Write_c hv x t ⟨false, s, c ++ [⟨x, t⟩]⟩ 0 (write_eq h x t h0 h1 ht hc)
theorem Read_k {w : World} {v : Value} {s : List ByteArray} {c : List S62} (hv : DV w v ⟨false, s, c⟩) (h : Valid s c) (x : Int) (h0 : 0 ≤ x) (h1 : x < (s.length : Int)) :
    Calls Try.prog 14 #[v, .int .i64 x] w fun e w' => e = .returned (.tuple #[.string (peekS s c x), .int .i64 0]) ∧ Below w.heap.size w w' :=
  Read_c hv x _ 0 (read_eq h x h0 h1)
theorem CrashNone_k {w : World} {v : Value} {s : List ByteArray} {c : List S62} (hv : DV w v ⟨false, s, c⟩) (h : Valid s c) : Calls Try.prog 20 #[v, .int .i64 0] w fun e w' => ∃ v2, e = .returned (.tuple #[v2, .int .i64 0]) ∧ DV w' v2 ⟨false, s, []⟩ ∧ Below w.heap.size w w' := by
  obtain ⟨k, hk⟩ := ex_of_ev (crash_none h)
  exact Crash_c k hv 0 ⟨false, s, []⟩ 0 hk
theorem CrashAll_k {w : World} {v : Value} {s : List ByteArray} {c : List S62} (hv : DV w v ⟨false, s, c⟩) (h : Valid s c) : Calls Try.prog 20 #[v, .int .i64 65535] w fun e w' => ∃ v2, e = .returned (.tuple #[v2, .int .i64 0]) ∧ DV w' v2 ⟨false, settleS (fun _ => true) 0 c s, []⟩ ∧ Below w.heap.size w w' := by
  obtain ⟨k, hk⟩ := ex_of_ev (crash_all h)
  exact Crash_c k hv 65535 ⟨false, settleS (fun _ => true) 0 c s, []⟩ 0 hk
theorem Same_k {w : World} {v u : Value} {s : List ByteArray} (hv : DV w v ⟨false, s, []⟩) (hu : DV w u ⟨false, s, []⟩) (hs : s.length ≤ 72) : Calls Try.prog 11 #[v, u] w fun e w' => e = .returned (.bool true) ∧ Below w.heap.size w w' := by
  obtain ⟨k, hk⟩ := ex_of_ev (sameD_ev s hs)
  exact Same_c k hv hu true hk
theorem Read_e {w : World} {v : Value} {s : List ByteArray} {c : List S62} (hv : DV w v ⟨false, s, c⟩) (h : Valid s c) (x : Int) (h0 : 0 ≤ x) (h1 : x < (s.length : Int)) (t : ByteArray) (ht : peekS s c x = t) :
    Calls Try.prog 14 #[v, .int .i64 x] w fun e w' => e = .returned (.tuple #[.string t, .int .i64 0]) ∧ Below w.heap.size w w' := by
  subst ht; exact Read_k hv h x h0 h1
theorem Full_e (b : Int) (h0 : 0 ≤ b) (h1 : b < 256) (t : ByteArray) (ht : fullS b = t) (w : World) : Calls Try.prog 30 #[.int .u8 b] w fun e w' => e = .returned (.string t) ∧ Below w.heap.size w w' := by
  subst ht; exact Full_k b h0 h1 w
end Go.Proofs.Ytoloonnoobnafaa.DkC
