/-
  No cell of these rows narrows 'for every input' (looked for: loops, veiled, ifaces, maps, wideKeys, modest, calm, conditions, laid).
  DERIVED. THE GIVEN ROWS OF THIS SEAT. 4 by the template 'for every input the law returns true; each argument reads behind the call as it read before'; 0 by the template 'total and deterministic' (their statements: YtcchccnfhmndnaaTotals.lean).
  GIVEN WITH THE SEED: the statements are not yours to turn. If you find one false, say at which input.
  Laid BY PROGRAM, IN A SANDBOX (cutbox-rows.mjs): the forced cells as the released guide's own fill.sh prints them over the translation 1bed381f1a8a9ac6… (all of the seat's roots in one cut). By AI agents, Wed Nov 11 2026. No macro, syntax, notation, axiom, sorry.
-/
import Derived.Test.YtcchccnfhmndnaaChecked
import GoSem.Claim
import GoSem.ClaimJoined
import GoSem.ClaimMapViews
import Derived.JoinedTies
import Derived.KernelRfl
namespace Go.Proofs.Ytcchccnfhmndnaa
/- THE CELL 'sum', in the pinned program and in every row, IS THE sha256 OF THE DUMP (.gsa) THAT YtcchccnfhmndnaaProg.lean LOADS. Nothing in Lean hashes anything: it is a label: what it is worth is what the hold of that sum in a sandbox is worth. -/
noncomputable def Try.pinned : Pinned := { name := "ytcchccnfhmndnaa", sum := "1bed381f1a8a9ac633688099389a23ebb636b0326bfafa10fc26843469f1e168", checked := Try.checked }
namespace Rows
def none {H : Type} : Left H := { results := [], args := [] }

/-- 'ossuarylaw17.Chunks': WHATEVER THE INPUT: true; the input reads as it did. -/
def chunksSpec : ChangeSpec := { name := "chunks", fn := fun _ => fun
  | [d1, d2, d3, d4] => { results := [.lit (.bool true)], args := [d1, d2, d3, d4] }
  | _ => none }
def chunksRow : OpenClaim := { program := "ytcchccnfhmndnaa", sum := "1bed381f1a8a9ac633688099389a23ebb636b0326bfafa10fc26843469f1e168", func := "ossuary/ossuarylaw17.Chunks", spec := "chunks", inPlace := ["internal/abi.NoEscape", "internal/bytealg.MakeNoZero", "math.archCeil", "math.archFloor", "math.Float64bits", "math.Float64frombits", "math.archTrunc"], apart := false }
def ChunksSaid : Prop := chunksRow.holds Try.pinned (OpenSpec.ofChange chunksSpec)

/-- ITS FALSE NEIGHBOUR: 'it returns false'. Refute it at one input. -/
def chunksWrong : ChangeSpec := { name := "chunks", fn := fun _ => fun
  | [d1, d2, d3, d4] => { results := [.lit (.bool false)], args := [d1, d2, d3, d4] }
  | _ => none }
def ChunksWrongFalsely : Prop := chunksRow.holds Try.pinned (OpenSpec.ofChange chunksWrong)

/-- 'ossuarylaw17.ChunkBack': WHATEVER THE INPUT: true; the input reads as it did. -/
def chunkBackSpec : ChangeSpec := { name := "chunkBack", fn := fun _ => fun
  | [d1, d2] => { results := [.lit (.bool true)], args := [d1, d2] }
  | _ => none }
def chunkBackRow : OpenClaim := { program := "ytcchccnfhmndnaa", sum := "1bed381f1a8a9ac633688099389a23ebb636b0326bfafa10fc26843469f1e168", func := "ossuary/ossuarylaw17.ChunkBack", spec := "chunkBack", inPlace := ["internal/abi.NoEscape", "internal/bytealg.MakeNoZero", "math.archCeil", "math.archFloor", "math.Float64bits", "math.Float64frombits", "math.archTrunc"], apart := false }
def ChunkBackSaid : Prop := chunkBackRow.holds Try.pinned (OpenSpec.ofChange chunkBackSpec)

/-- ITS FALSE NEIGHBOUR: 'it returns false'. Refute it at one input. -/
def chunkBackWrong : ChangeSpec := { name := "chunkBack", fn := fun _ => fun
  | [d1, d2] => { results := [.lit (.bool false)], args := [d1, d2] }
  | _ => none }
def ChunkBackWrongFalsely : Prop := chunkBackRow.holds Try.pinned (OpenSpec.ofChange chunkBackWrong)

/-- 'ossuarylaw17.ChunkForms': WHATEVER THE INPUT: true; the input reads as it did. -/
def chunkFormsSpec : ChangeSpec := { name := "chunkForms", fn := fun _ => fun
  | [d1, d2] => { results := [.lit (.bool true)], args := [d1, d2] }
  | _ => none }
def chunkFormsRow : OpenClaim := { program := "ytcchccnfhmndnaa", sum := "1bed381f1a8a9ac633688099389a23ebb636b0326bfafa10fc26843469f1e168", func := "ossuary/ossuarylaw17.ChunkForms", spec := "chunkForms", inPlace := ["internal/abi.NoEscape", "internal/bytealg.MakeNoZero", "math.archCeil", "math.archFloor", "math.Float64bits", "math.Float64frombits", "math.archTrunc"], apart := false }
def ChunkFormsSaid : Prop := chunkFormsRow.holds Try.pinned (OpenSpec.ofChange chunkFormsSpec)

/-- ITS FALSE NEIGHBOUR: 'it returns false'. Refute it at one input. -/
def chunkFormsWrong : ChangeSpec := { name := "chunkForms", fn := fun _ => fun
  | [d1, d2] => { results := [.lit (.bool false)], args := [d1, d2] }
  | _ => none }
def ChunkFormsWrongFalsely : Prop := chunkFormsRow.holds Try.pinned (OpenSpec.ofChange chunkFormsWrong)

/-- 'ossuarylaw17.ChunkParts': WHATEVER THE INPUT: true; the input reads as it did. -/
def chunkPartsSpec : ChangeSpec := { name := "chunkParts", fn := fun _ => fun
  | [d1, d2, d3] => { results := [.lit (.bool true)], args := [d1, d2, d3] }
  | _ => none }
def chunkPartsRow : OpenClaim := { program := "ytcchccnfhmndnaa", sum := "1bed381f1a8a9ac633688099389a23ebb636b0326bfafa10fc26843469f1e168", func := "ossuary/ossuarylaw17.ChunkParts", spec := "chunkParts", inPlace := ["internal/abi.NoEscape", "internal/bytealg.MakeNoZero", "math.archCeil", "math.archFloor", "math.Float64bits", "math.Float64frombits", "math.archTrunc"], apart := false }
def ChunkPartsSaid : Prop := chunkPartsRow.holds Try.pinned (OpenSpec.ofChange chunkPartsSpec)

/-- ITS FALSE NEIGHBOUR: 'it returns false'. Refute it at one input. -/
def chunkPartsWrong : ChangeSpec := { name := "chunkParts", fn := fun _ => fun
  | [d1, d2, d3] => { results := [.lit (.bool false)], args := [d1, d2, d3] }
  | _ => none }
def ChunkPartsWrongFalsely : Prop := chunkPartsRow.holds Try.pinned (OpenSpec.ofChange chunkPartsWrong)

/- THE SECOND FORM. 'bulk': how many values and letters a reading holds, each counted each time it is reached (what is shared counts as often as it is met; a slice's spare places count too). A statement '..UptoSaid' is the law's where the arguments, and the package variables that the reading takes, are together of bulk at most 1048576: NARROWER than '..Said'. Prove '..Said' where nothing that the law and all that it calls make is longer than what came in: it says more and counts as full. Else prove '..UptoSaid'. A law counts once. -/
mutual
def uptoBulk {H : Type} : DataW H → Nat
  | .lit (.string bytes) => bytes.length + 1
  | .lit _ => 1
  | .nil => 1
  | .ptr d => uptoBulk d + 1
  | .slice elems spare => uptoBulkAll elems + uptoBulkAll spare + 1
  | .agg parts => uptoBulkAll parts + 1
  | .iface _ d => uptoBulk d + 1
  | .map entries => uptoBulkEntries entries + 1
  | .held _ => 1
def uptoBulkAll {H : Type} : List (DataW H) → Nat
  | [] => 0
  | d :: r => uptoBulk d + uptoBulkAll r
def uptoBulkEntries {H : Type} : List (Lit × DataW H) → Nat
  | [] => 0
  | x :: r => uptoBulkEntry x + uptoBulkEntries r
def uptoBulkEntry {H : Type} : Lit × DataW H → Nat
  | (.string bytes, d) => bytes.length + uptoBulk d + 1
  | (_, d) => uptoBulk d + 1
 end
def uptoSmall : (H : Type) → List (DataW H) → Bool := fun _ ds => decide (uptoBulkAll ds ≤ 1048576)
def OpenSpec.upto (s : _root_.Go.ChangeSpec) : _root_.Go.OpenSpec := { _root_.Go.OpenSpec.ofChange s with cond := some uptoSmall }

/-- 'ossuarylaw17.Chunks', WHERE WHAT IT READS IS OF BULK AT MOST 1048576: true; the input reads as it did. -/
def chunksUptoRow : OpenClaim := { program := "ytcchccnfhmndnaa", sum := "1bed381f1a8a9ac633688099389a23ebb636b0326bfafa10fc26843469f1e168", func := "ossuary/ossuarylaw17.Chunks", spec := "chunks", inPlace := ["internal/abi.NoEscape", "internal/bytealg.MakeNoZero", "math.archCeil", "math.archFloor", "math.Float64bits", "math.Float64frombits", "math.archTrunc"], apart := false, narrowed := true }
def ChunksUptoSaid : Prop := chunksUptoRow.holds Try.pinned (OpenSpec.upto chunksSpec)

/-- 'ossuarylaw17.ChunkBack', WHERE WHAT IT READS IS OF BULK AT MOST 1048576: true; the input reads as it did. -/
def chunkBackUptoRow : OpenClaim := { program := "ytcchccnfhmndnaa", sum := "1bed381f1a8a9ac633688099389a23ebb636b0326bfafa10fc26843469f1e168", func := "ossuary/ossuarylaw17.ChunkBack", spec := "chunkBack", inPlace := ["internal/abi.NoEscape", "internal/bytealg.MakeNoZero", "math.archCeil", "math.archFloor", "math.Float64bits", "math.Float64frombits", "math.archTrunc"], apart := false, narrowed := true }
def ChunkBackUptoSaid : Prop := chunkBackUptoRow.holds Try.pinned (OpenSpec.upto chunkBackSpec)

/-- 'ossuarylaw17.ChunkForms', WHERE WHAT IT READS IS OF BULK AT MOST 1048576: true; the input reads as it did. -/
def chunkFormsUptoRow : OpenClaim := { program := "ytcchccnfhmndnaa", sum := "1bed381f1a8a9ac633688099389a23ebb636b0326bfafa10fc26843469f1e168", func := "ossuary/ossuarylaw17.ChunkForms", spec := "chunkForms", inPlace := ["internal/abi.NoEscape", "internal/bytealg.MakeNoZero", "math.archCeil", "math.archFloor", "math.Float64bits", "math.Float64frombits", "math.archTrunc"], apart := false, narrowed := true }
def ChunkFormsUptoSaid : Prop := chunkFormsUptoRow.holds Try.pinned (OpenSpec.upto chunkFormsSpec)

/-- 'ossuarylaw17.ChunkParts', WHERE WHAT IT READS IS OF BULK AT MOST 1048576: true; the input reads as it did. -/
def chunkPartsUptoRow : OpenClaim := { program := "ytcchccnfhmndnaa", sum := "1bed381f1a8a9ac633688099389a23ebb636b0326bfafa10fc26843469f1e168", func := "ossuary/ossuarylaw17.ChunkParts", spec := "chunkParts", inPlace := ["internal/abi.NoEscape", "internal/bytealg.MakeNoZero", "math.archCeil", "math.archFloor", "math.Float64bits", "math.Float64frombits", "math.archTrunc"], apart := false, narrowed := true }
def ChunkPartsUptoSaid : Prop := chunkPartsUptoRow.holds Try.pinned (OpenSpec.upto chunkPartsSpec)

end Rows
end Go.Proofs.Ytcchccnfhmndnaa
