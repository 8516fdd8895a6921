/-
  No cell of these rows narrows 'for every input' (looked for: loops, veiled, ifaces, maps, wideKeys, modest, calm, conditions, laid).
  DERIVED. THE GIVEN ROWS OF THIS SEAT. 4 by the template 'for every input the law returns true; each argument reads behind the call as it read before'; 0 by the template 'total and deterministic' (their statements: YtmphljlooopcdaaTotals.lean).
  GIVEN WITH THE SEED: the statements are not yours to turn. If you find one false, say at which input.
  Laid BY PROGRAM, IN A SANDBOX (cutbox-rows.mjs): the forced cells as the released guide's own fill.sh prints them over the translation 6e50e02c78b8f0de… (all of the seat's roots in one cut). By AI agents, Wed Nov 11 2026. No macro, syntax, notation, axiom, sorry.
-/
import Derived.Test.YtmphljlooopcdaaChecked
import GoSem.Claim
import GoSem.ClaimJoined
import GoSem.ClaimMapViews
import Derived.JoinedTies
import Derived.KernelRfl
namespace Go.Proofs.Ytmphljlooopcdaa
/- THE CELL 'sum', in the pinned program and in every row, IS THE sha256 OF THE DUMP (.gsa) THAT YtmphljlooopcdaaProg.lean LOADS. Nothing in Lean hashes anything: it is a label: what it is worth is what the hold of that sum in a sandbox is worth. -/
noncomputable def Try.pinned : Pinned := { name := "ytmphljlooopcdaa", sum := "6e50e02c78b8f0de252d8b0bc3ce49264506566bcc810852206cf7cac20735f6", checked := Try.checked }
namespace Rows
def none {H : Type} : Left H := { results := [], args := [] }

/-- 'ossuarylaw15.Areas': WHATEVER THE INPUT: true; the input reads as it did. -/
def areasSpec : ChangeSpec := { name := "areas", fn := fun _ => fun
  | [d1, d2, d3] => { results := [.lit (.bool true)], args := [d1, d2, d3] }
  | _ => none }
def areasRow : OpenClaim := { program := "ytmphljlooopcdaa", sum := "6e50e02c78b8f0de252d8b0bc3ce49264506566bcc810852206cf7cac20735f6", func := "ossuary/ossuarylaw15.Areas", spec := "areas", inPlace := ["internal/abi.NoEscape", "internal/bytealg.MakeNoZero"], apart := false }
def AreasSaid : Prop := areasRow.holds Try.pinned (OpenSpec.ofChange areasSpec)

/-- ITS FALSE NEIGHBOUR: 'it returns false'. Refute it at one input. -/
def areasWrong : ChangeSpec := { name := "areas", fn := fun _ => fun
  | [d1, d2, d3] => { results := [.lit (.bool false)], args := [d1, d2, d3] }
  | _ => none }
def AreasWrongFalsely : Prop := areasRow.holds Try.pinned (OpenSpec.ofChange areasWrong)

/-- 'ossuarylaw15.AreaTurned': WHATEVER THE INPUT: true; the input reads as it did. -/
def areaTurnedSpec : ChangeSpec := { name := "areaTurned", fn := fun _ => fun
  | [d1, d2, d3, d4, d5] => { results := [.lit (.bool true)], args := [d1, d2, d3, d4, d5] }
  | _ => none }
def areaTurnedRow : OpenClaim := { program := "ytmphljlooopcdaa", sum := "6e50e02c78b8f0de252d8b0bc3ce49264506566bcc810852206cf7cac20735f6", func := "ossuary/ossuarylaw15.AreaTurned", spec := "areaTurned", inPlace := ["internal/abi.NoEscape", "internal/bytealg.MakeNoZero"], apart := false }
def AreaTurnedSaid : Prop := areaTurnedRow.holds Try.pinned (OpenSpec.ofChange areaTurnedSpec)

/-- ITS FALSE NEIGHBOUR: 'it returns false'. Refute it at one input. -/
def areaTurnedWrong : ChangeSpec := { name := "areaTurned", fn := fun _ => fun
  | [d1, d2, d3, d4, d5] => { results := [.lit (.bool false)], args := [d1, d2, d3, d4, d5] }
  | _ => none }
def AreaTurnedWrongFalsely : Prop := areaTurnedRow.holds Try.pinned (OpenSpec.ofChange areaTurnedWrong)

/-- 'ossuarylaw15.AreaSizes': WHATEVER THE INPUT: true; the input reads as it did. -/
def areaSizesSpec : ChangeSpec := { name := "areaSizes", fn := fun _ => fun
  | [d1, d2, d3] => { results := [.lit (.bool true)], args := [d1, d2, d3] }
  | _ => none }
def areaSizesRow : OpenClaim := { program := "ytmphljlooopcdaa", sum := "6e50e02c78b8f0de252d8b0bc3ce49264506566bcc810852206cf7cac20735f6", func := "ossuary/ossuarylaw15.AreaSizes", spec := "areaSizes", inPlace := ["internal/abi.NoEscape", "internal/bytealg.MakeNoZero"], apart := false }
def AreaSizesSaid : Prop := areaSizesRow.holds Try.pinned (OpenSpec.ofChange areaSizesSpec)

/-- ITS FALSE NEIGHBOUR: 'it returns false'. Refute it at one input. -/
def areaSizesWrong : ChangeSpec := { name := "areaSizes", fn := fun _ => fun
  | [d1, d2, d3] => { results := [.lit (.bool false)], args := [d1, d2, d3] }
  | _ => none }
def AreaSizesWrongFalsely : Prop := areaSizesRow.holds Try.pinned (OpenSpec.ofChange areaSizesWrong)

/-- 'ossuarylaw15.AreaMixed': WHATEVER THE INPUT: true; the input reads as it did. -/
def areaMixedSpec : ChangeSpec := { name := "areaMixed", fn := fun _ => fun
  | [d1, d2, d3, d4] => { results := [.lit (.bool true)], args := [d1, d2, d3, d4] }
  | _ => none }
def areaMixedRow : OpenClaim := { program := "ytmphljlooopcdaa", sum := "6e50e02c78b8f0de252d8b0bc3ce49264506566bcc810852206cf7cac20735f6", func := "ossuary/ossuarylaw15.AreaMixed", spec := "areaMixed", inPlace := ["internal/abi.NoEscape", "internal/bytealg.MakeNoZero"], apart := false }
def AreaMixedSaid : Prop := areaMixedRow.holds Try.pinned (OpenSpec.ofChange areaMixedSpec)

/-- ITS FALSE NEIGHBOUR: 'it returns false'. Refute it at one input. -/
def areaMixedWrong : ChangeSpec := { name := "areaMixed", fn := fun _ => fun
  | [d1, d2, d3, d4] => { results := [.lit (.bool false)], args := [d1, d2, d3, d4] }
  | _ => none }
def AreaMixedWrongFalsely : Prop := areaMixedRow.holds Try.pinned (OpenSpec.ofChange areaMixedWrong)

/- THE SECOND FORM. 'bulk': how many values and letters a reading holds, each counted each time it is reached (what is shared counts as often as it is met; a slice's spare places count too). A statement '..UptoSaid' is the law's where the arguments, and the package variables that the reading takes, are together of bulk at most 1048576: NARROWER than '..Said'. Prove '..Said' where nothing that the law and all that it calls make is longer than what came in: it says more and counts as full. Else prove '..UptoSaid'. A law counts once. -/
mutual
def uptoBulk {H : Type} : DataW H → Nat
  | .lit (.string bytes) => bytes.length + 1
  | .lit _ => 1
  | .nil => 1
  | .ptr d => uptoBulk d + 1
  | .slice elems spare => uptoBulkAll elems + uptoBulkAll spare + 1
  | .agg parts => uptoBulkAll parts + 1
  | .iface _ d => uptoBulk d + 1
  | .map entries => uptoBulkEntries entries + 1
  | .held _ => 1
def uptoBulkAll {H : Type} : List (DataW H) → Nat
  | [] => 0
  | d :: r => uptoBulk d + uptoBulkAll r
def uptoBulkEntries {H : Type} : List (Lit × DataW H) → Nat
  | [] => 0
  | x :: r => uptoBulkEntry x + uptoBulkEntries r
def uptoBulkEntry {H : Type} : Lit × DataW H → Nat
  | (.string bytes, d) => bytes.length + uptoBulk d + 1
  | (_, d) => uptoBulk d + 1
 end
def uptoSmall : (H : Type) → List (DataW H) → Bool := fun _ ds => decide (uptoBulkAll ds ≤ 1048576)
def OpenSpec.upto (s : _root_.Go.ChangeSpec) : _root_.Go.OpenSpec := { _root_.Go.OpenSpec.ofChange s with cond := some uptoSmall }

/-- 'ossuarylaw15.Areas', WHERE WHAT IT READS IS OF BULK AT MOST 1048576: true; the input reads as it did. -/
def areasUptoRow : OpenClaim := { program := "ytmphljlooopcdaa", sum := "6e50e02c78b8f0de252d8b0bc3ce49264506566bcc810852206cf7cac20735f6", func := "ossuary/ossuarylaw15.Areas", spec := "areas", inPlace := ["internal/abi.NoEscape", "internal/bytealg.MakeNoZero"], apart := false, narrowed := true }
def AreasUptoSaid : Prop := areasUptoRow.holds Try.pinned (OpenSpec.upto areasSpec)

/-- 'ossuarylaw15.AreaTurned', WHERE WHAT IT READS IS OF BULK AT MOST 1048576: true; the input reads as it did. -/
def areaTurnedUptoRow : OpenClaim := { program := "ytmphljlooopcdaa", sum := "6e50e02c78b8f0de252d8b0bc3ce49264506566bcc810852206cf7cac20735f6", func := "ossuary/ossuarylaw15.AreaTurned", spec := "areaTurned", inPlace := ["internal/abi.NoEscape", "internal/bytealg.MakeNoZero"], apart := false, narrowed := true }
def AreaTurnedUptoSaid : Prop := areaTurnedUptoRow.holds Try.pinned (OpenSpec.upto areaTurnedSpec)

/-- 'ossuarylaw15.AreaSizes', WHERE WHAT IT READS IS OF BULK AT MOST 1048576: true; the input reads as it did. -/
def areaSizesUptoRow : OpenClaim := { program := "ytmphljlooopcdaa", sum := "6e50e02c78b8f0de252d8b0bc3ce49264506566bcc810852206cf7cac20735f6", func := "ossuary/ossuarylaw15.AreaSizes", spec := "areaSizes", inPlace := ["internal/abi.NoEscape", "internal/bytealg.MakeNoZero"], apart := false, narrowed := true }
def AreaSizesUptoSaid : Prop := areaSizesUptoRow.holds Try.pinned (OpenSpec.upto areaSizesSpec)

/-- 'ossuarylaw15.AreaMixed', WHERE WHAT IT READS IS OF BULK AT MOST 1048576: true; the input reads as it did. -/
def areaMixedUptoRow : OpenClaim := { program := "ytmphljlooopcdaa", sum := "6e50e02c78b8f0de252d8b0bc3ce49264506566bcc810852206cf7cac20735f6", func := "ossuary/ossuarylaw15.AreaMixed", spec := "areaMixed", inPlace := ["internal/abi.NoEscape", "internal/bytealg.MakeNoZero"], apart := false, narrowed := true }
def AreaMixedUptoSaid : Prop := areaMixedUptoRow.holds Try.pinned (OpenSpec.upto areaMixedSpec)

end Rows
end Go.Proofs.Ytmphljlooopcdaa
