/- What the calls over disks answer at disks that may not be, as contracts; no condition beyond each theorem's own. -/
import Derived.Test.YtoloonnoobnafaaDkC
import Derived.Test.YtoloonnoobnafaaDq
namespace Go.Proofs.Ytoloonnoobnafaa.DqC
open Go.RowKit Go.Proofs.YtoloonnoobnafaaW.PrintWords Go.Proofs.YtoloonnoobnafaaW.PrintLast Go.Proofs.YtoloonnoobnafaaW.PrintMore
open Go.Proofs.Ytoloonnoobnafaa.HDiskGone Go.Proofs.Ytoloonnoobnafaa.Dk Go.Proofs.Ytoloonnoobnafaa.Dp Go.Proofs.Ytoloonnoobnafaa.Dq Go.Proofs.Ytoloonnoobnafaa.DkC
set_option linter.unusedVariables false
theorem WriteNo_k {w : World} {v : Value} {d : DS} (hv : DV w v d) (h : disk_May.f d.lost d.ss d.cs = some false) (x1 : Int) (x2 : ByteArray) :
    Calls Try.prog 16 #[v, .int .i64 x1, .string x2] w fun e w' => ∃ v2, e = .returned (.tuple #[v2, .int .i64 1300]) ∧ DV w' v2 ⟨false, [], []⟩ ∧ Below w.heap.size w w' := Write_c hv x1 x2 ⟨false, [], []⟩ 1300 (write_no h x1 x2)
theorem FlushNo_k {w : World} {v : Value} {d : DS} (hv : DV w v d) (h : disk_May.f d.lost d.ss d.cs = some false)  :
    Calls Try.prog 18 #[v] w fun e w' => ∃ v2, e = .returned (.tuple #[v2, .int .i64 1300]) ∧ DV w' v2 ⟨false, [], []⟩ ∧ Below w.heap.size w w' := Flush_c 0 hv  ⟨false, [], []⟩ 1300 (flush_no h 0)
theorem CrashNo_k {w : World} {v : Value} {d : DS} (hv : DV w v d) (h : disk_May.f d.lost d.ss d.cs = some false) (x1 : Int) :
    Calls Try.prog 20 #[v, .int .i64 x1] w fun e w' => ∃ v2, e = .returned (.tuple #[v2, .int .i64 1300]) ∧ DV w' v2 ⟨false, [], []⟩ ∧ Below w.heap.size w w' := Crash_c 0 hv x1 ⟨false, [], []⟩ 1300 (crash_no h 0 x1)
theorem RotNo_k {w : World} {v : Value} {d : DS} (hv : DV w v d) (h : disk_May.f d.lost d.ss d.cs = some false) (x1 x2 x3 : Int) :
    Calls Try.prog 22 #[v, .int .i64 x1, .int .i64 x2, .int .i64 x3] w fun e w' => ∃ v2, e = .returned (.tuple #[v2, .int .i64 1300]) ∧ DV w' v2 ⟨false, [], []⟩ ∧ Below w.heap.size w w' := Rot_c hv x1 x2 x3 ⟨false, [], []⟩ 1300 (rot_no h x1 x2 x3)
theorem LoseNo_k {w : World} {v : Value} {d : DS} (hv : DV w v d) (h : disk_May.f d.lost d.ss d.cs = some false)  :
    Calls Try.prog 24 #[v] w fun e w' => ∃ v2, e = .returned (.tuple #[v2, .int .i64 1300]) ∧ DV w' v2 ⟨false, [], []⟩ ∧ Below w.heap.size w w' := Lose_c hv  ⟨false, [], []⟩ 1300 (lose_no h)
theorem ReadNo_k {w : World} {v : Value} {d : DS} (hv : DV w v d) (h : disk_May.f d.lost d.ss d.cs = some false) (x1 : Int) :
    Calls Try.prog 14 #[v, .int .i64 x1] w fun e w' => e = .returned (.tuple #[.string ⟨#[]⟩, .int .i64 1300]) ∧ Below w.heap.size w w' := Read_c hv x1 ⟨#[]⟩ 1300 (read_no h x1)
theorem ReadOut_k {w : World} {v : Value} {s : List ByteArray} {c : List S62} (hv : DV w v ⟨false, s, c⟩) (h : Valid s c) (x1 : Int) (hx : x1 < 0 ∨ (s.length : Int) ≤ x1) :
    Calls Try.prog 14 #[v, .int .i64 x1] w fun e w' => e = .returned (.tuple #[.string ⟨#[]⟩, .int .i64 1300]) ∧ Below w.heap.size w w' := Read_c hv x1 ⟨#[]⟩ 1300 (read_out h x1 hx)
theorem WriteOut_k {w : World} {v : Value} {s : List ByteArray} {c : List S62} (hv : DV w v ⟨false, s, c⟩) (h : Valid s c) (x1 : Int) (x2 : ByteArray) (hx : x1 < 0 ∨ (s.length : Int) ≤ x1 ∨ x2.size ≠ 64) :
    Calls Try.prog 16 #[v, .int .i64 x1, .string x2] w fun e w' => ∃ v2, e = .returned (.tuple #[v2, .int .i64 1300]) ∧ DV w' v2 ⟨false, [], []⟩ ∧ Below w.heap.size w w' := Write_c hv x1 x2 ⟨false, [], []⟩ 1300 (write_out h x1 x2 hx)
theorem RotOut_k {w : World} {v : Value} {s : List ByteArray} {c : List S62} (hv : DV w v ⟨false, s, c⟩) (h : Valid s c) (x1 x2 x3 : Int) (hx : x1 < 0 ∨ (s.length : Int) ≤ x1 ∨ x2 < 0 ∨ 64 ≤ x2 ∨ x3 < 1 ∨ 255 < x3) :
    Calls Try.prog 22 #[v, .int .i64 x1, .int .i64 x2, .int .i64 x3] w fun e w' => ∃ v2, e = .returned (.tuple #[v2, .int .i64 1300]) ∧ DV w' v2 ⟨false, [], []⟩ ∧ Below w.heap.size w w' := Rot_c hv x1 x2 x3 ⟨false, [], []⟩ 1300 (rot_out h x1 x2 x3 hx)
theorem MayNo_k {w : World} {v : Value} {d : DS} (hv : DV w v d) (h : disk_May.f d.lost d.ss d.cs = some false) : Calls Try.prog 26 #[v] w fun e w' => e = .returned (.bool false) ∧ Below w.heap.size w w' := May_c hv false h
end Go.Proofs.Ytoloonnoobnafaa.DqC
