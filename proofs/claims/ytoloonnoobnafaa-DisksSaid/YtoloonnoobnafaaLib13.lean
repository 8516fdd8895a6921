/- What the walks of layer 13 take from the library: a slice held against nil. -/
import Derived.Test.YtoloonnoobnafaaProg
import Derived.Lib.SliceRun
import Derived.KernelRfl
namespace Go.Proofs.YtoloonnoobnafaaLib13
theorem nil_is (T E : TypeId) (h : Try.prog.underlying T = some (.slice E)) (n c : Nat) (w : World) : (binOp .eql T (.slice none n c) (.slice none 0 0)).run Try.prog w = .ok (.bool true) w := Lib.run_eql_slice_nil w T E none n c 0 0 h
theorem nil_not (T E : TypeId) (h : Try.prog.underlying T = some (.slice E)) (a : Addr) (n c : Nat) (w : World) : (binOp .eql T (.slice (some a) n c) (.slice none 0 0)).run Try.prog w = .ok (.bool false) w := Lib.run_eql_slice_nil w T E (some a) n c 0 0 h
end Go.Proofs.YtoloonnoobnafaaLib13
