/-
  No cell of these rows narrows 'for every input' (looked for: loops, veiled, ifaces, maps, wideKeys, modest, calm, conditions, laid).
  DERIVED. THE GIVEN ROWS OF THIS SEAT. 4 by the template 'for every input the law returns true; each argument reads behind the call as it read before'; 0 by the template 'total and deterministic' (their statements: YtgolnkankkegdaaTotals.lean).
  GIVEN WITH THE SEED: the statements are not yours to turn. If you find one false, say at which input.
  Laid BY PROGRAM, IN A SANDBOX (cutbox-rows.mjs): the forced cells as the released guide's own fill.sh prints them over the translation 5ddf8786c2b6a539… (all of the seat's roots in one cut). By AI agents, Wed Nov 11 2026. No macro, syntax, notation, axiom, sorry.
-/
import Derived.Test.YtgolnkankkegdaaChecked
import GoSem.Claim
import GoSem.ClaimJoined
import GoSem.ClaimMapViews
import Derived.JoinedTies
import Derived.KernelRfl
namespace Go.Proofs.Ytgolnkankkegdaa
/- THE CELL 'sum', in the pinned program and in every row, IS THE sha256 OF THE DUMP (.gsa) THAT YtgolnkankkegdaaProg.lean LOADS. Nothing in Lean hashes anything: it is a label: what it is worth is what the hold of that sum in a sandbox is worth. -/
noncomputable def Try.pinned : Pinned := { name := "ytgolnkankkegdaa", sum := "5ddf8786c2b6a539097fd9a8d7088d827aa4777f83804ff9b380835cfddd8968", checked := Try.checked }
namespace Rows
def none {H : Type} : Left H := { results := [], args := [] }

/-- 'ossuarylaw12.Audits': WHATEVER THE INPUT: true; the input reads as it did. -/
def auditsSpec : ChangeSpec := { name := "audits", fn := fun _ => fun
  | [d1, d2, d3, d4, d5, d6, d7] => { results := [.lit (.bool true)], args := [d1, d2, d3, d4, d5, d6, d7] }
  | _ => none }
def auditsRow : OpenClaim := { program := "ytgolnkankkegdaa", sum := "5ddf8786c2b6a539097fd9a8d7088d827aa4777f83804ff9b380835cfddd8968", func := "ossuary/ossuarylaw12.Audits", spec := "audits", inPlace := ["internal/reflectlite.TypeOf"], unfollowed := true, recurses := true, apart := false }
def AuditsSaid : Prop := auditsRow.holds Try.pinned (OpenSpec.ofChange auditsSpec)

/-- ITS FALSE NEIGHBOUR: 'it returns false'. Refute it at one input. -/
def auditsWrong : ChangeSpec := { name := "audits", fn := fun _ => fun
  | [d1, d2, d3, d4, d5, d6, d7] => { results := [.lit (.bool false)], args := [d1, d2, d3, d4, d5, d6, d7] }
  | _ => none }
def AuditsWrongFalsely : Prop := auditsRow.holds Try.pinned (OpenSpec.ofChange auditsWrong)

/-- 'ossuarylaw12.AuditTrue': WHATEVER THE INPUT: true; the input reads as it did. -/
def auditTrueSpec : ChangeSpec := { name := "auditTrue", fn := fun _ => fun
  | [d1, d2, d3, d4, d5, d6] => { results := [.lit (.bool true)], args := [d1, d2, d3, d4, d5, d6] }
  | _ => none }
def auditTrueRow : OpenClaim := { program := "ytgolnkankkegdaa", sum := "5ddf8786c2b6a539097fd9a8d7088d827aa4777f83804ff9b380835cfddd8968", func := "ossuary/ossuarylaw12.AuditTrue", spec := "auditTrue", inPlace := ["internal/reflectlite.TypeOf"], unfollowed := true, recurses := true, apart := false }
def AuditTrueSaid : Prop := auditTrueRow.holds Try.pinned (OpenSpec.ofChange auditTrueSpec)

/-- ITS FALSE NEIGHBOUR: 'it returns false'. Refute it at one input. -/
def auditTrueWrong : ChangeSpec := { name := "auditTrue", fn := fun _ => fun
  | [d1, d2, d3, d4, d5, d6] => { results := [.lit (.bool false)], args := [d1, d2, d3, d4, d5, d6] }
  | _ => none }
def AuditTrueWrongFalsely : Prop := auditTrueRow.holds Try.pinned (OpenSpec.ofChange auditTrueWrong)

/-- 'ossuarylaw12.AuditForms': WHATEVER THE INPUT: true; the input reads as it did. -/
def auditFormsSpec : ChangeSpec := { name := "auditForms", fn := fun _ => fun
  | [d1, d2] => { results := [.lit (.bool true)], args := [d1, d2] }
  | _ => none }
def auditFormsRow : OpenClaim := { program := "ytgolnkankkegdaa", sum := "5ddf8786c2b6a539097fd9a8d7088d827aa4777f83804ff9b380835cfddd8968", func := "ossuary/ossuarylaw12.AuditForms", spec := "auditForms", inPlace := ["internal/reflectlite.TypeOf"], unfollowed := true, recurses := true, apart := false }
def AuditFormsSaid : Prop := auditFormsRow.holds Try.pinned (OpenSpec.ofChange auditFormsSpec)

/-- ITS FALSE NEIGHBOUR: 'it returns false'. Refute it at one input. -/
def auditFormsWrong : ChangeSpec := { name := "auditForms", fn := fun _ => fun
  | [d1, d2] => { results := [.lit (.bool false)], args := [d1, d2] }
  | _ => none }
def AuditFormsWrongFalsely : Prop := auditFormsRow.holds Try.pinned (OpenSpec.ofChange auditFormsWrong)

/-- 'ossuarylaw12.AuditMoved': WHATEVER THE INPUT: true; the input reads as it did. -/
def auditMovedSpec : ChangeSpec := { name := "auditMoved", fn := fun _ => fun
  | [d1, d2, d3] => { results := [.lit (.bool true)], args := [d1, d2, d3] }
  | _ => none }
def auditMovedRow : OpenClaim := { program := "ytgolnkankkegdaa", sum := "5ddf8786c2b6a539097fd9a8d7088d827aa4777f83804ff9b380835cfddd8968", func := "ossuary/ossuarylaw12.AuditMoved", spec := "auditMoved", inPlace := ["internal/reflectlite.TypeOf"], unfollowed := true, recurses := true, apart := false }
def AuditMovedSaid : Prop := auditMovedRow.holds Try.pinned (OpenSpec.ofChange auditMovedSpec)

/-- ITS FALSE NEIGHBOUR: 'it returns false'. Refute it at one input. -/
def auditMovedWrong : ChangeSpec := { name := "auditMoved", fn := fun _ => fun
  | [d1, d2, d3] => { results := [.lit (.bool false)], args := [d1, d2, d3] }
  | _ => none }
def AuditMovedWrongFalsely : Prop := auditMovedRow.holds Try.pinned (OpenSpec.ofChange auditMovedWrong)

/- THE SECOND FORM. 'bulk': how many values and letters a reading holds, each counted each time it is reached (what is shared counts as often as it is met; a slice's spare places count too). A statement '..UptoSaid' is the law's where the arguments, and the package variables that the reading takes, are together of bulk at most 1048576: NARROWER than '..Said'. Prove '..Said' where nothing that the law and all that it calls make is longer than what came in: it says more and counts as full. Else prove '..UptoSaid'. A law counts once. -/
mutual
def uptoBulk {H : Type} : DataW H → Nat
  | .lit (.string bytes) => bytes.length + 1
  | .lit _ => 1
  | .nil => 1
  | .ptr d => uptoBulk d + 1
  | .slice elems spare => uptoBulkAll elems + uptoBulkAll spare + 1
  | .agg parts => uptoBulkAll parts + 1
  | .iface _ d => uptoBulk d + 1
  | .map entries => uptoBulkEntries entries + 1
  | .held _ => 1
def uptoBulkAll {H : Type} : List (DataW H) → Nat
  | [] => 0
  | d :: r => uptoBulk d + uptoBulkAll r
def uptoBulkEntries {H : Type} : List (Lit × DataW H) → Nat
  | [] => 0
  | x :: r => uptoBulkEntry x + uptoBulkEntries r
def uptoBulkEntry {H : Type} : Lit × DataW H → Nat
  | (.string bytes, d) => bytes.length + uptoBulk d + 1
  | (_, d) => uptoBulk d + 1
 end
def uptoSmall : (H : Type) → List (DataW H) → Bool := fun _ ds => decide (uptoBulkAll ds ≤ 1048576)
def OpenSpec.upto (s : _root_.Go.ChangeSpec) : _root_.Go.OpenSpec := { _root_.Go.OpenSpec.ofChange s with cond := some uptoSmall }

/-- 'ossuarylaw12.Audits', WHERE WHAT IT READS IS OF BULK AT MOST 1048576: true; the input reads as it did. -/
def auditsUptoRow : OpenClaim := { program := "ytgolnkankkegdaa", sum := "5ddf8786c2b6a539097fd9a8d7088d827aa4777f83804ff9b380835cfddd8968", func := "ossuary/ossuarylaw12.Audits", spec := "audits", inPlace := ["internal/reflectlite.TypeOf"], unfollowed := true, recurses := true, apart := false, narrowed := true }
def AuditsUptoSaid : Prop := auditsUptoRow.holds Try.pinned (OpenSpec.upto auditsSpec)

/-- 'ossuarylaw12.AuditTrue', WHERE WHAT IT READS IS OF BULK AT MOST 1048576: true; the input reads as it did. -/
def auditTrueUptoRow : OpenClaim := { program := "ytgolnkankkegdaa", sum := "5ddf8786c2b6a539097fd9a8d7088d827aa4777f83804ff9b380835cfddd8968", func := "ossuary/ossuarylaw12.AuditTrue", spec := "auditTrue", inPlace := ["internal/reflectlite.TypeOf"], unfollowed := true, recurses := true, apart := false, narrowed := true }
def AuditTrueUptoSaid : Prop := auditTrueUptoRow.holds Try.pinned (OpenSpec.upto auditTrueSpec)

/-- 'ossuarylaw12.AuditForms', WHERE WHAT IT READS IS OF BULK AT MOST 1048576: true; the input reads as it did. -/
def auditFormsUptoRow : OpenClaim := { program := "ytgolnkankkegdaa", sum := "5ddf8786c2b6a539097fd9a8d7088d827aa4777f83804ff9b380835cfddd8968", func := "ossuary/ossuarylaw12.AuditForms", spec := "auditForms", inPlace := ["internal/reflectlite.TypeOf"], unfollowed := true, recurses := true, apart := false, narrowed := true }
def AuditFormsUptoSaid : Prop := auditFormsUptoRow.holds Try.pinned (OpenSpec.upto auditFormsSpec)

/-- 'ossuarylaw12.AuditMoved', WHERE WHAT IT READS IS OF BULK AT MOST 1048576: true; the input reads as it did. -/
def auditMovedUptoRow : OpenClaim := { program := "ytgolnkankkegdaa", sum := "5ddf8786c2b6a539097fd9a8d7088d827aa4777f83804ff9b380835cfddd8968", func := "ossuary/ossuarylaw12.AuditMoved", spec := "auditMoved", inPlace := ["internal/reflectlite.TypeOf"], unfollowed := true, recurses := true, apart := false, narrowed := true }
def AuditMovedUptoSaid : Prop := auditMovedUptoRow.holds Try.pinned (OpenSpec.upto auditMovedSpec)

end Rows
end Go.Proofs.Ytgolnkankkegdaa
