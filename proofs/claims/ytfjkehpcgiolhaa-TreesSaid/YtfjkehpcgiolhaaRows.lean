/-
  No cell of these rows narrows 'for every input' (looked for: loops, veiled, ifaces, maps, wideKeys, modest, calm, conditions, laid).
  DERIVED. THE GIVEN ROWS OF THIS SEAT. 6 by the template 'for every input the law returns true; each argument reads behind the call as it read before'; 0 by the template 'total and deterministic' (their statements: YtfjkehpcgiolhaaTotals.lean).
  GIVEN WITH THE SEED: the statements are not yours to turn. If you find one false, say at which input.
  Laid BY PROGRAM, IN A SANDBOX (cutbox-rows.mjs): the forced cells as the released guide's own fill.sh prints them over the translation 23bb1c7c7a2a5fa4… (all of the seat's roots in one cut). By AI agents, Wed Nov 11 2026. No macro, syntax, notation, axiom, sorry.
-/
import Derived.Test.YtfjkehpcgiolhaaChecked
import GoSem.Claim
import GoSem.ClaimJoined
import GoSem.ClaimMapViews
import Derived.JoinedTies
import Derived.KernelRfl
namespace Go.Proofs.Ytfjkehpcgiolhaa
/- THE CELL 'sum', in the pinned program and in every row, IS THE sha256 OF THE DUMP (.gsa) THAT YtfjkehpcgiolhaaProg.lean LOADS. Nothing in Lean hashes anything: it is a label: what it is worth is what the hold of that sum in a sandbox is worth. -/
noncomputable def Try.pinned : Pinned := { name := "ytfjkehpcgiolhaa", sum := "23bb1c7c7a2a5fa48e6e251a51e4b5ec52a1d60c135b092cda99ced4b1e6e5d5", checked := Try.checked }
namespace Rows
def none {H : Type} : Left H := { results := [], args := [] }

/-- 'ossuarylaw9.Seals': WHATEVER THE INPUT: true; the input reads as it did. -/
def sealsSpec : ChangeSpec := { name := "seals", fn := fun _ => fun
  | [d1, d2, d3] => { results := [.lit (.bool true)], args := [d1, d2, d3] }
  | _ => none }
def sealsRow : OpenClaim := { program := "ytfjkehpcgiolhaa", sum := "23bb1c7c7a2a5fa48e6e251a51e4b5ec52a1d60c135b092cda99ced4b1e6e5d5", func := "ossuary/ossuarylaw9.Seals", spec := "seals", apart := false }
def SealsSaid : Prop := sealsRow.holds Try.pinned (OpenSpec.ofChange sealsSpec)

/-- ITS FALSE NEIGHBOUR: 'it returns false'. Refute it at one input. -/
def sealsWrong : ChangeSpec := { name := "seals", fn := fun _ => fun
  | [d1, d2, d3] => { results := [.lit (.bool false)], args := [d1, d2, d3] }
  | _ => none }
def SealsWrongFalsely : Prop := sealsRow.holds Try.pinned (OpenSpec.ofChange sealsWrong)

/-- 'ossuarylaw9.SealTurned': WHATEVER THE INPUT: true; the input reads as it did. -/
def sealTurnedSpec : ChangeSpec := { name := "sealTurned", fn := fun _ => fun
  | [d1, d2, d3, d4, d5] => { results := [.lit (.bool true)], args := [d1, d2, d3, d4, d5] }
  | _ => none }
def sealTurnedRow : OpenClaim := { program := "ytfjkehpcgiolhaa", sum := "23bb1c7c7a2a5fa48e6e251a51e4b5ec52a1d60c135b092cda99ced4b1e6e5d5", func := "ossuary/ossuarylaw9.SealTurned", spec := "sealTurned", apart := false }
def SealTurnedSaid : Prop := sealTurnedRow.holds Try.pinned (OpenSpec.ofChange sealTurnedSpec)

/-- ITS FALSE NEIGHBOUR: 'it returns false'. Refute it at one input. -/
def sealTurnedWrong : ChangeSpec := { name := "sealTurned", fn := fun _ => fun
  | [d1, d2, d3, d4, d5] => { results := [.lit (.bool false)], args := [d1, d2, d3, d4, d5] }
  | _ => none }
def SealTurnedWrongFalsely : Prop := sealTurnedRow.holds Try.pinned (OpenSpec.ofChange sealTurnedWrong)

/-- 'ossuarylaw9.SealParts': WHATEVER THE INPUT: true; the input reads as it did. -/
def sealPartsSpec : ChangeSpec := { name := "sealParts", fn := fun _ => fun
  | [d1, d2] => { results := [.lit (.bool true)], args := [d1, d2] }
  | _ => none }
def sealPartsRow : OpenClaim := { program := "ytfjkehpcgiolhaa", sum := "23bb1c7c7a2a5fa48e6e251a51e4b5ec52a1d60c135b092cda99ced4b1e6e5d5", func := "ossuary/ossuarylaw9.SealParts", spec := "sealParts", apart := false }
def SealPartsSaid : Prop := sealPartsRow.holds Try.pinned (OpenSpec.ofChange sealPartsSpec)

/-- ITS FALSE NEIGHBOUR: 'it returns false'. Refute it at one input. -/
def sealPartsWrong : ChangeSpec := { name := "sealParts", fn := fun _ => fun
  | [d1, d2] => { results := [.lit (.bool false)], args := [d1, d2] }
  | _ => none }
def SealPartsWrongFalsely : Prop := sealPartsRow.holds Try.pinned (OpenSpec.ofChange sealPartsWrong)

/-- 'ossuarylaw9.SealNumbers': WHATEVER THE INPUT: true; the input reads as it did. -/
def sealNumbersSpec : ChangeSpec := { name := "sealNumbers", fn := fun _ => fun
  | [d1, d2, d3] => { results := [.lit (.bool true)], args := [d1, d2, d3] }
  | _ => none }
def sealNumbersRow : OpenClaim := { program := "ytfjkehpcgiolhaa", sum := "23bb1c7c7a2a5fa48e6e251a51e4b5ec52a1d60c135b092cda99ced4b1e6e5d5", func := "ossuary/ossuarylaw9.SealNumbers", spec := "sealNumbers", apart := false }
def SealNumbersSaid : Prop := sealNumbersRow.holds Try.pinned (OpenSpec.ofChange sealNumbersSpec)

/-- ITS FALSE NEIGHBOUR: 'it returns false'. Refute it at one input. -/
def sealNumbersWrong : ChangeSpec := { name := "sealNumbers", fn := fun _ => fun
  | [d1, d2, d3] => { results := [.lit (.bool false)], args := [d1, d2, d3] }
  | _ => none }
def SealNumbersWrongFalsely : Prop := sealNumbersRow.holds Try.pinned (OpenSpec.ofChange sealNumbersWrong)

/-- 'ossuarylaw9.SealPairs': WHATEVER THE INPUT: true; the input reads as it did. -/
def sealPairsSpec : ChangeSpec := { name := "sealPairs", fn := fun _ => fun
  | [d1, d2, d3] => { results := [.lit (.bool true)], args := [d1, d2, d3] }
  | _ => none }
def sealPairsRow : OpenClaim := { program := "ytfjkehpcgiolhaa", sum := "23bb1c7c7a2a5fa48e6e251a51e4b5ec52a1d60c135b092cda99ced4b1e6e5d5", func := "ossuary/ossuarylaw9.SealPairs", spec := "sealPairs", apart := false }
def SealPairsSaid : Prop := sealPairsRow.holds Try.pinned (OpenSpec.ofChange sealPairsSpec)

/-- ITS FALSE NEIGHBOUR: 'it returns false'. Refute it at one input. -/
def sealPairsWrong : ChangeSpec := { name := "sealPairs", fn := fun _ => fun
  | [d1, d2, d3] => { results := [.lit (.bool false)], args := [d1, d2, d3] }
  | _ => none }
def SealPairsWrongFalsely : Prop := sealPairsRow.holds Try.pinned (OpenSpec.ofChange sealPairsWrong)

/-- 'ossuarylaw10.Trees': WHATEVER THE INPUT: true; the input reads as it did. -/
def treesSpec : ChangeSpec := { name := "trees", fn := fun _ => fun
  | [d1, d2] => { results := [.lit (.bool true)], args := [d1, d2] }
  | _ => none }
def treesRow : OpenClaim := { program := "ytfjkehpcgiolhaa", sum := "23bb1c7c7a2a5fa48e6e251a51e4b5ec52a1d60c135b092cda99ced4b1e6e5d5", func := "ossuary/ossuarylaw10.Trees", spec := "trees", recurses := true, apart := false }
def TreesSaid : Prop := treesRow.holds Try.pinned (OpenSpec.ofChange treesSpec)

/-- ITS FALSE NEIGHBOUR: 'it returns false'. Refute it at one input. -/
def treesWrong : ChangeSpec := { name := "trees", fn := fun _ => fun
  | [d1, d2] => { results := [.lit (.bool false)], args := [d1, d2] }
  | _ => none }
def TreesWrongFalsely : Prop := treesRow.holds Try.pinned (OpenSpec.ofChange treesWrong)

/- THE SECOND FORM. 'bulk': how many values and letters a reading holds, each counted each time it is reached (what is shared counts as often as it is met; a slice's spare places count too). A statement '..UptoSaid' is the law's where the arguments, and the package variables that the reading takes, are together of bulk at most 1048576: NARROWER than '..Said'. Prove '..Said' where nothing that the law and all that it calls make is longer than what came in: it says more and counts as full. Else prove '..UptoSaid'. A law counts once. -/
mutual
def uptoBulk {H : Type} : DataW H → Nat
  | .lit (.string bytes) => bytes.length + 1
  | .lit _ => 1
  | .nil => 1
  | .ptr d => uptoBulk d + 1
  | .slice elems spare => uptoBulkAll elems + uptoBulkAll spare + 1
  | .agg parts => uptoBulkAll parts + 1
  | .iface _ d => uptoBulk d + 1
  | .map entries => uptoBulkEntries entries + 1
  | .held _ => 1
def uptoBulkAll {H : Type} : List (DataW H) → Nat
  | [] => 0
  | d :: r => uptoBulk d + uptoBulkAll r
def uptoBulkEntries {H : Type} : List (Lit × DataW H) → Nat
  | [] => 0
  | x :: r => uptoBulkEntry x + uptoBulkEntries r
def uptoBulkEntry {H : Type} : Lit × DataW H → Nat
  | (.string bytes, d) => bytes.length + uptoBulk d + 1
  | (_, d) => uptoBulk d + 1
 end
def uptoSmall : (H : Type) → List (DataW H) → Bool := fun _ ds => decide (uptoBulkAll ds ≤ 1048576)
def OpenSpec.upto (s : _root_.Go.ChangeSpec) : _root_.Go.OpenSpec := { _root_.Go.OpenSpec.ofChange s with cond := some uptoSmall }

/-- 'ossuarylaw9.Seals', WHERE WHAT IT READS IS OF BULK AT MOST 1048576: true; the input reads as it did. -/
def sealsUptoRow : OpenClaim := { program := "ytfjkehpcgiolhaa", sum := "23bb1c7c7a2a5fa48e6e251a51e4b5ec52a1d60c135b092cda99ced4b1e6e5d5", func := "ossuary/ossuarylaw9.Seals", spec := "seals", apart := false, narrowed := true }
def SealsUptoSaid : Prop := sealsUptoRow.holds Try.pinned (OpenSpec.upto sealsSpec)

/-- 'ossuarylaw9.SealTurned', WHERE WHAT IT READS IS OF BULK AT MOST 1048576: true; the input reads as it did. -/
def sealTurnedUptoRow : OpenClaim := { program := "ytfjkehpcgiolhaa", sum := "23bb1c7c7a2a5fa48e6e251a51e4b5ec52a1d60c135b092cda99ced4b1e6e5d5", func := "ossuary/ossuarylaw9.SealTurned", spec := "sealTurned", apart := false, narrowed := true }
def SealTurnedUptoSaid : Prop := sealTurnedUptoRow.holds Try.pinned (OpenSpec.upto sealTurnedSpec)

/-- 'ossuarylaw9.SealParts', WHERE WHAT IT READS IS OF BULK AT MOST 1048576: true; the input reads as it did. -/
def sealPartsUptoRow : OpenClaim := { program := "ytfjkehpcgiolhaa", sum := "23bb1c7c7a2a5fa48e6e251a51e4b5ec52a1d60c135b092cda99ced4b1e6e5d5", func := "ossuary/ossuarylaw9.SealParts", spec := "sealParts", apart := false, narrowed := true }
def SealPartsUptoSaid : Prop := sealPartsUptoRow.holds Try.pinned (OpenSpec.upto sealPartsSpec)

/-- 'ossuarylaw9.SealNumbers', WHERE WHAT IT READS IS OF BULK AT MOST 1048576: true; the input reads as it did. -/
def sealNumbersUptoRow : OpenClaim := { program := "ytfjkehpcgiolhaa", sum := "23bb1c7c7a2a5fa48e6e251a51e4b5ec52a1d60c135b092cda99ced4b1e6e5d5", func := "ossuary/ossuarylaw9.SealNumbers", spec := "sealNumbers", apart := false, narrowed := true }
def SealNumbersUptoSaid : Prop := sealNumbersUptoRow.holds Try.pinned (OpenSpec.upto sealNumbersSpec)

/-- 'ossuarylaw9.SealPairs', WHERE WHAT IT READS IS OF BULK AT MOST 1048576: true; the input reads as it did. -/
def sealPairsUptoRow : OpenClaim := { program := "ytfjkehpcgiolhaa", sum := "23bb1c7c7a2a5fa48e6e251a51e4b5ec52a1d60c135b092cda99ced4b1e6e5d5", func := "ossuary/ossuarylaw9.SealPairs", spec := "sealPairs", apart := false, narrowed := true }
def SealPairsUptoSaid : Prop := sealPairsUptoRow.holds Try.pinned (OpenSpec.upto sealPairsSpec)

/-- 'ossuarylaw10.Trees', WHERE WHAT IT READS IS OF BULK AT MOST 1048576: true; the input reads as it did. -/
def treesUptoRow : OpenClaim := { program := "ytfjkehpcgiolhaa", sum := "23bb1c7c7a2a5fa48e6e251a51e4b5ec52a1d60c135b092cda99ced4b1e6e5d5", func := "ossuary/ossuarylaw10.Trees", spec := "trees", recurses := true, apart := false, narrowed := true }
def TreesUptoSaid : Prop := treesUptoRow.holds Try.pinned (OpenSpec.upto treesSpec)

end Rows
end Go.Proofs.Ytfjkehpcgiolhaa
