/- The law Chunks over its function: the one pure statement. -/
import Derived.Test.YtcchccnfhmndnaaHChunksx4
import Derived.Test.YtcchccnfhmndnaaOpen
namespace Go.Proofs.Ytcchccnfhmndnaa.RChunks
open Go.RowKit Go.ChangeShapes Go.WideShapes Go.Proofs.Ytcchccnfhmndnaa.HChunks Go.Proofs.YtcchccnfhmndnaaW.PrintWords Go.Proofs.YtcchccnfhmndnaaOpen
set_option linter.unusedVariables false
/-- THE ONE PURE STATEMENT. -/
def Pure : Prop := ∀ (a0_0 : Int) (a0_1 : Int) (a1 : ByteArray) (l2 : List ByteArray) (a3 : Int), ((Lit.int .i64 a0_0).wf = true) → ((Lit.int .i64 a0_1).wf = true) → (a1.size ≤ 140737488351232) → (l2.length ≤ 9223372036854775807) → (l2.length * 16 ≤ 140737488351232) → (∀ x0 ∈ l2, x0.size ≤ 140737488351232) → ((Lit.int .i64 a3).wf = true) → ∃ k, ossuarylaw17_Chunks.f k a0_0 a0_1 a1 l2 a3 = some true
end Go.Proofs.Ytcchccnfhmndnaa.RChunks
