/-
  No cell of these rows narrows 'for every input' (looked for: loops, veiled, ifaces, maps, wideKeys, modest, calm, conditions, laid).
  DERIVED. THE GIVEN ROWS OF THIS SEAT. 5 by the template 'for every input the law returns true; each argument reads behind the call as it read before'; 0 by the template 'total and deterministic' (their statements: YtojdcenmjoddmaaTotals.lean).
  GIVEN WITH THE SEED: the statements are not yours to turn. If you find one false, say at which input.
  Laid BY PROGRAM, IN A SANDBOX (cutbox-rows.mjs): the forced cells as the released guide's own fill.sh prints them over the translation ba73393f317859c2… (all of the seat's roots in one cut). By AI agents, Wed Nov 11 2026. No macro, syntax, notation, axiom, sorry.
-/
import Derived.Test.YtojdcenmjoddmaaChecked
import GoSem.Claim
import GoSem.ClaimJoined
import GoSem.ClaimMapViews
import Derived.JoinedTies
import Derived.KernelRfl
namespace Go.Proofs.Ytojdcenmjoddmaa
/- THE CELL 'sum', in the pinned program and in every row, IS THE sha256 OF THE DUMP (.gsa) THAT YtojdcenmjoddmaaProg.lean LOADS. Nothing in Lean hashes anything: it is a label: what it is worth is what the hold of that sum in a sandbox is worth. -/
noncomputable def Try.pinned : Pinned := { name := "ytojdcenmjoddmaa", sum := "ba73393f317859c29488883f348ddde3960d3c62c344d86879bf6fcab32baa92", checked := Try.checked }
namespace Rows
def none {H : Type} : Left H := { results := [], args := [] }

/-- 'ossuarylaw11.Proofs': WHATEVER THE INPUT: true; the input reads as it did. -/
def proofsSpec : ChangeSpec := { name := "proofs", fn := fun _ => fun
  | [d1, d2, d3, d4, d5, d6] => { results := [.lit (.bool true)], args := [d1, d2, d3, d4, d5, d6] }
  | _ => none }
def proofsRow : OpenClaim := { program := "ytojdcenmjoddmaa", sum := "ba73393f317859c29488883f348ddde3960d3c62c344d86879bf6fcab32baa92", func := "ossuary/ossuarylaw11.Proofs", spec := "proofs", recurses := true, apart := false }
def ProofsSaid : Prop := proofsRow.holds Try.pinned (OpenSpec.ofChange proofsSpec)

/-- ITS FALSE NEIGHBOUR: 'it returns false'. Refute it at one input. -/
def proofsWrong : ChangeSpec := { name := "proofs", fn := fun _ => fun
  | [d1, d2, d3, d4, d5, d6] => { results := [.lit (.bool false)], args := [d1, d2, d3, d4, d5, d6] }
  | _ => none }
def ProofsWrongFalsely : Prop := proofsRow.holds Try.pinned (OpenSpec.ofChange proofsWrong)

/-- 'ossuarylaw11.ProofTrue': WHATEVER THE INPUT: true; the input reads as it did. -/
def proofTrueSpec : ChangeSpec := { name := "proofTrue", fn := fun _ => fun
  | [d1, d2, d3, d4] => { results := [.lit (.bool true)], args := [d1, d2, d3, d4] }
  | _ => none }
def proofTrueRow : OpenClaim := { program := "ytojdcenmjoddmaa", sum := "ba73393f317859c29488883f348ddde3960d3c62c344d86879bf6fcab32baa92", func := "ossuary/ossuarylaw11.ProofTrue", spec := "proofTrue", recurses := true, apart := false }
def ProofTrueSaid : Prop := proofTrueRow.holds Try.pinned (OpenSpec.ofChange proofTrueSpec)

/-- ITS FALSE NEIGHBOUR: 'it returns false'. Refute it at one input. -/
def proofTrueWrong : ChangeSpec := { name := "proofTrue", fn := fun _ => fun
  | [d1, d2, d3, d4] => { results := [.lit (.bool false)], args := [d1, d2, d3, d4] }
  | _ => none }
def ProofTrueWrongFalsely : Prop := proofTrueRow.holds Try.pinned (OpenSpec.ofChange proofTrueWrong)

/-- 'ossuarylaw11.ProofForms': WHATEVER THE INPUT: true; the input reads as it did. -/
def proofFormsSpec : ChangeSpec := { name := "proofForms", fn := fun _ => fun
  | [d1, d2] => { results := [.lit (.bool true)], args := [d1, d2] }
  | _ => none }
def proofFormsRow : OpenClaim := { program := "ytojdcenmjoddmaa", sum := "ba73393f317859c29488883f348ddde3960d3c62c344d86879bf6fcab32baa92", func := "ossuary/ossuarylaw11.ProofForms", spec := "proofForms", recurses := true, apart := false }
def ProofFormsSaid : Prop := proofFormsRow.holds Try.pinned (OpenSpec.ofChange proofFormsSpec)

/-- ITS FALSE NEIGHBOUR: 'it returns false'. Refute it at one input. -/
def proofFormsWrong : ChangeSpec := { name := "proofForms", fn := fun _ => fun
  | [d1, d2] => { results := [.lit (.bool false)], args := [d1, d2] }
  | _ => none }
def ProofFormsWrongFalsely : Prop := proofFormsRow.holds Try.pinned (OpenSpec.ofChange proofFormsWrong)

/-- 'ossuarylaw11.ProofLengths': WHATEVER THE INPUT: true; the input reads as it did. -/
def proofLengthsSpec : ChangeSpec := { name := "proofLengths", fn := fun _ => fun
  | [d] => { results := [.lit (.bool true)], args := [d] }
  | _ => none }
def proofLengthsRow : OpenClaim := { program := "ytojdcenmjoddmaa", sum := "ba73393f317859c29488883f348ddde3960d3c62c344d86879bf6fcab32baa92", func := "ossuary/ossuarylaw11.ProofLengths", spec := "proofLengths", recurses := true, apart := false }
def ProofLengthsSaid : Prop := proofLengthsRow.holds Try.pinned (OpenSpec.ofChange proofLengthsSpec)

/-- ITS FALSE NEIGHBOUR: 'it returns false'. Refute it at one input. -/
def proofLengthsWrong : ChangeSpec := { name := "proofLengths", fn := fun _ => fun
  | [d] => { results := [.lit (.bool false)], args := [d] }
  | _ => none }
def ProofLengthsWrongFalsely : Prop := proofLengthsRow.holds Try.pinned (OpenSpec.ofChange proofLengthsWrong)

/-- 'ossuarylaw11.ProofApart': WHATEVER THE INPUT: true; the input reads as it did. -/
def proofApartSpec : ChangeSpec := { name := "proofApart", fn := fun _ => fun
  | [d1, d2, d3] => { results := [.lit (.bool true)], args := [d1, d2, d3] }
  | _ => none }
def proofApartRow : OpenClaim := { program := "ytojdcenmjoddmaa", sum := "ba73393f317859c29488883f348ddde3960d3c62c344d86879bf6fcab32baa92", func := "ossuary/ossuarylaw11.ProofApart", spec := "proofApart", recurses := true, apart := false }
def ProofApartSaid : Prop := proofApartRow.holds Try.pinned (OpenSpec.ofChange proofApartSpec)

/-- ITS FALSE NEIGHBOUR: 'it returns false'. Refute it at one input. -/
def proofApartWrong : ChangeSpec := { name := "proofApart", fn := fun _ => fun
  | [d1, d2, d3] => { results := [.lit (.bool false)], args := [d1, d2, d3] }
  | _ => none }
def ProofApartWrongFalsely : Prop := proofApartRow.holds Try.pinned (OpenSpec.ofChange proofApartWrong)

/- THE SECOND FORM. 'bulk': how many values and letters a reading holds, each counted each time it is reached (what is shared counts as often as it is met; a slice's spare places count too). A statement '..UptoSaid' is the law's where the arguments, and the package variables that the reading takes, are together of bulk at most 1048576: NARROWER than '..Said'. Prove '..Said' where nothing that the law and all that it calls make is longer than what came in: it says more and counts as full. Else prove '..UptoSaid'. A law counts once. -/
mutual
def uptoBulk {H : Type} : DataW H → Nat
  | .lit (.string bytes) => bytes.length + 1
  | .lit _ => 1
  | .nil => 1
  | .ptr d => uptoBulk d + 1
  | .slice elems spare => uptoBulkAll elems + uptoBulkAll spare + 1
  | .agg parts => uptoBulkAll parts + 1
  | .iface _ d => uptoBulk d + 1
  | .map entries => uptoBulkEntries entries + 1
  | .held _ => 1
def uptoBulkAll {H : Type} : List (DataW H) → Nat
  | [] => 0
  | d :: r => uptoBulk d + uptoBulkAll r
def uptoBulkEntries {H : Type} : List (Lit × DataW H) → Nat
  | [] => 0
  | x :: r => uptoBulkEntry x + uptoBulkEntries r
def uptoBulkEntry {H : Type} : Lit × DataW H → Nat
  | (.string bytes, d) => bytes.length + uptoBulk d + 1
  | (_, d) => uptoBulk d + 1
 end
def uptoSmall : (H : Type) → List (DataW H) → Bool := fun _ ds => decide (uptoBulkAll ds ≤ 1048576)
def OpenSpec.upto (s : _root_.Go.ChangeSpec) : _root_.Go.OpenSpec := { _root_.Go.OpenSpec.ofChange s with cond := some uptoSmall }

/-- 'ossuarylaw11.Proofs', WHERE WHAT IT READS IS OF BULK AT MOST 1048576: true; the input reads as it did. -/
def proofsUptoRow : OpenClaim := { program := "ytojdcenmjoddmaa", sum := "ba73393f317859c29488883f348ddde3960d3c62c344d86879bf6fcab32baa92", func := "ossuary/ossuarylaw11.Proofs", spec := "proofs", recurses := true, apart := false, narrowed := true }
def ProofsUptoSaid : Prop := proofsUptoRow.holds Try.pinned (OpenSpec.upto proofsSpec)

/-- 'ossuarylaw11.ProofTrue', WHERE WHAT IT READS IS OF BULK AT MOST 1048576: true; the input reads as it did. -/
def proofTrueUptoRow : OpenClaim := { program := "ytojdcenmjoddmaa", sum := "ba73393f317859c29488883f348ddde3960d3c62c344d86879bf6fcab32baa92", func := "ossuary/ossuarylaw11.ProofTrue", spec := "proofTrue", recurses := true, apart := false, narrowed := true }
def ProofTrueUptoSaid : Prop := proofTrueUptoRow.holds Try.pinned (OpenSpec.upto proofTrueSpec)

/-- 'ossuarylaw11.ProofForms', WHERE WHAT IT READS IS OF BULK AT MOST 1048576: true; the input reads as it did. -/
def proofFormsUptoRow : OpenClaim := { program := "ytojdcenmjoddmaa", sum := "ba73393f317859c29488883f348ddde3960d3c62c344d86879bf6fcab32baa92", func := "ossuary/ossuarylaw11.ProofForms", spec := "proofForms", recurses := true, apart := false, narrowed := true }
def ProofFormsUptoSaid : Prop := proofFormsUptoRow.holds Try.pinned (OpenSpec.upto proofFormsSpec)

/-- 'ossuarylaw11.ProofLengths', WHERE WHAT IT READS IS OF BULK AT MOST 1048576: true; the input reads as it did. -/
def proofLengthsUptoRow : OpenClaim := { program := "ytojdcenmjoddmaa", sum := "ba73393f317859c29488883f348ddde3960d3c62c344d86879bf6fcab32baa92", func := "ossuary/ossuarylaw11.ProofLengths", spec := "proofLengths", recurses := true, apart := false, narrowed := true }
def ProofLengthsUptoSaid : Prop := proofLengthsUptoRow.holds Try.pinned (OpenSpec.upto proofLengthsSpec)

/-- 'ossuarylaw11.ProofApart', WHERE WHAT IT READS IS OF BULK AT MOST 1048576: true; the input reads as it did. -/
def proofApartUptoRow : OpenClaim := { program := "ytojdcenmjoddmaa", sum := "ba73393f317859c29488883f348ddde3960d3c62c344d86879bf6fcab32baa92", func := "ossuary/ossuarylaw11.ProofApart", spec := "proofApart", recurses := true, apart := false, narrowed := true }
def ProofApartUptoSaid : Prop := proofApartUptoRow.holds Try.pinned (OpenSpec.upto proofApartSpec)

end Rows
end Go.Proofs.Ytojdcenmjoddmaa
