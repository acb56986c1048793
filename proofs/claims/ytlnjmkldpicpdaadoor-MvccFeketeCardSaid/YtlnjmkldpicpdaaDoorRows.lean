/-
  NARROWER THAN 'FOR EVERY INPUT', by the rows' own cells (each row's printed sentence says how): MvccFirst: laid · MvccFekete: laid · MvccSnapshot: laid · MvccCareful: laid.
  DERIVED. THE GIVEN ROWS OF THIS SEAT. 4 by the template 'for every input the law returns true; each argument reads behind the call as it read before'; 0 by the template 'total and deterministic' (their statements: YtlnjmkldpicpdaaDoorTotals.lean).
  GIVEN WITH THE SEED: the statements are not yours to turn. If you find one false, say at which input.
  Laid BY PROGRAM, IN A SANDBOX (cutbox-rows.mjs): the forced cells as the released guide's own fill.sh prints them over the translation 741abd2db5a33192… (all of the seat's roots in one cut). By AI agents, Wed Nov 11 2026. No macro, syntax, notation, axiom, sorry.
-/
import Derived.Test.YtlnjmkldpicpdaaDoorChecked
import GoSem.Claim
import GoSem.ClaimJoined
import GoSem.ClaimMapViews
import Derived.JoinedTies
import Derived.KernelRfl
namespace Go.Proofs.YtlnjmkldpicpdaaDoor
/- THE CELL 'sum', in the pinned program and in every row, IS THE sha256 OF THE DUMP (.gsa) THAT YtlnjmkldpicpdaaDoorProg.lean LOADS. Nothing in Lean hashes anything: it is a label: what it is worth is what the hold of that sum in a sandbox is worth. -/
noncomputable def Tryd.pinned : Pinned := { name := "ytlnjmkldpicpdaadoor", sum := "741abd2db5a33192ede71f8caabc0f0478e25e00d9eb391504463e8c7d964e7a", checked := Tryd.checked }
namespace Rows
def none {H : Type} : Left H := { results := [], args := [] }

/- WHAT THE LISTED PACKAGE-LEVEL VARIABLES READ AS WHEN THE CALL BEGINS. Each datum BY PROGRAM (the guide's laid-datum.mjs) off the statement by which the dump's own 'gosem.cut.vars' lays the variable. In a bare row this is a premise. The card (YtlnjmkldpicpdaaDoorCards.lean) ties it to the program's text. -/
def laid_errors_errorType {H : Type} : DataW H := .iface "internal/reflectlite.rtype" (.agg [.ptr (.lit (.string [101, 114, 114, 111, 114]))])

/-- 'testimonykeep.MvccFirst': WHATEVER THE INPUT: true; the input reads as it did. -/
def mvccFirstSpec : ChangeSpec := { name := "mvccFirst", fn := fun _ => fun
  | [d1, d2] => { results := [.lit (.bool true)], args := [d1, d2] }
  | _ => none }
def mvccFirstRow : OpenClaim := { program := "ytlnjmkldpicpdaadoor", sum := "741abd2db5a33192ede71f8caabc0f0478e25e00d9eb391504463e8c7d964e7a", func := "testimony/testimonykeep.MvccFirst", spec := "mvccFirst", inPlace := ["internal/reflectlite.ValueOf", "(internal/reflectlite.Value).Type", "(internal/reflectlite.Value).IsNil", "internal/reflectlite.TypeOf", "(internal/reflectlite.Value).Elem", "(internal/reflectlite.Value).Set"], unfollowed := true, recurses := true, named := ["errors.errorType"], apart := false, laid := [("errors.errorType", laid_errors_errorType)] }
def MvccFirstSaid : Prop := mvccFirstRow.holds Tryd.pinned (OpenSpec.ofChange mvccFirstSpec)

/-- ITS FALSE NEIGHBOUR: 'it returns false'. Refute it at one input. -/
def mvccFirstWrong : ChangeSpec := { name := "mvccFirst", fn := fun _ => fun
  | [d1, d2] => { results := [.lit (.bool false)], args := [d1, d2] }
  | _ => none }
def MvccFirstWrongFalsely : Prop := mvccFirstRow.holds Tryd.pinned (OpenSpec.ofChange mvccFirstWrong)

/-- 'testimonykeep.MvccFekete': WHATEVER THE INPUT: true; the input reads as it did. -/
def mvccFeketeSpec : ChangeSpec := { name := "mvccFekete", fn := fun _ => fun
  | [d] => { results := [.lit (.bool true)], args := [d] }
  | _ => none }
def mvccFeketeRow : OpenClaim := { program := "ytlnjmkldpicpdaadoor", sum := "741abd2db5a33192ede71f8caabc0f0478e25e00d9eb391504463e8c7d964e7a", func := "testimony/testimonykeep.MvccFekete", spec := "mvccFekete", inPlace := ["internal/reflectlite.ValueOf", "(internal/reflectlite.Value).Type", "(internal/reflectlite.Value).IsNil", "internal/reflectlite.TypeOf", "(internal/reflectlite.Value).Elem", "(internal/reflectlite.Value).Set"], unfollowed := true, recurses := true, named := ["errors.errorType"], apart := false, laid := [("errors.errorType", laid_errors_errorType)] }
def MvccFeketeSaid : Prop := mvccFeketeRow.holds Tryd.pinned (OpenSpec.ofChange mvccFeketeSpec)

/-- ITS FALSE NEIGHBOUR: 'it returns false'. Refute it at one input. -/
def mvccFeketeWrong : ChangeSpec := { name := "mvccFekete", fn := fun _ => fun
  | [d] => { results := [.lit (.bool false)], args := [d] }
  | _ => none }
def MvccFeketeWrongFalsely : Prop := mvccFeketeRow.holds Tryd.pinned (OpenSpec.ofChange mvccFeketeWrong)

/-- 'testimonykeep.MvccSnapshot': WHATEVER THE INPUT: true; the input reads as it did. -/
def mvccSnapshotSpec : ChangeSpec := { name := "mvccSnapshot", fn := fun _ => fun
  | [d1, d2] => { results := [.lit (.bool true)], args := [d1, d2] }
  | _ => none }
def mvccSnapshotRow : OpenClaim := { program := "ytlnjmkldpicpdaadoor", sum := "741abd2db5a33192ede71f8caabc0f0478e25e00d9eb391504463e8c7d964e7a", func := "testimony/testimonykeep.MvccSnapshot", spec := "mvccSnapshot", inPlace := ["internal/reflectlite.ValueOf", "(internal/reflectlite.Value).Type", "(internal/reflectlite.Value).IsNil", "internal/reflectlite.TypeOf", "(internal/reflectlite.Value).Elem", "(internal/reflectlite.Value).Set"], unfollowed := true, recurses := true, named := ["errors.errorType"], apart := false, laid := [("errors.errorType", laid_errors_errorType)] }
def MvccSnapshotSaid : Prop := mvccSnapshotRow.holds Tryd.pinned (OpenSpec.ofChange mvccSnapshotSpec)

/-- ITS FALSE NEIGHBOUR: 'it returns false'. Refute it at one input. -/
def mvccSnapshotWrong : ChangeSpec := { name := "mvccSnapshot", fn := fun _ => fun
  | [d1, d2] => { results := [.lit (.bool false)], args := [d1, d2] }
  | _ => none }
def MvccSnapshotWrongFalsely : Prop := mvccSnapshotRow.holds Tryd.pinned (OpenSpec.ofChange mvccSnapshotWrong)

/-- 'testimonykeep.MvccCareful': WHATEVER THE INPUT: true; the input reads as it did. -/
def mvccCarefulSpec : ChangeSpec := { name := "mvccCareful", fn := fun _ => fun
  | [d] => { results := [.lit (.bool true)], args := [d] }
  | _ => none }
def mvccCarefulRow : OpenClaim := { program := "ytlnjmkldpicpdaadoor", sum := "741abd2db5a33192ede71f8caabc0f0478e25e00d9eb391504463e8c7d964e7a", func := "testimony/testimonykeep.MvccCareful", spec := "mvccCareful", inPlace := ["internal/reflectlite.ValueOf", "(internal/reflectlite.Value).Type", "(internal/reflectlite.Value).IsNil", "internal/reflectlite.TypeOf", "(internal/reflectlite.Value).Elem", "(internal/reflectlite.Value).Set"], unfollowed := true, recurses := true, named := ["errors.errorType"], apart := false, laid := [("errors.errorType", laid_errors_errorType)] }
def MvccCarefulSaid : Prop := mvccCarefulRow.holds Tryd.pinned (OpenSpec.ofChange mvccCarefulSpec)

/-- ITS FALSE NEIGHBOUR: 'it returns false'. Refute it at one input. -/
def mvccCarefulWrong : ChangeSpec := { name := "mvccCareful", fn := fun _ => fun
  | [d] => { results := [.lit (.bool false)], args := [d] }
  | _ => none }
def MvccCarefulWrongFalsely : Prop := mvccCarefulRow.holds Tryd.pinned (OpenSpec.ofChange mvccCarefulWrong)

/- THE SECOND FORM. 'bulk': how many values and letters a reading holds, each counted each time it is reached (what is shared counts as often as it is met; a slice's spare places count too). A statement '..UptoSaid' is the law's where the arguments, and the package variables that the reading takes, are together of bulk at most 1048576: NARROWER than '..Said'. Prove '..Said' where nothing that the law and all that it calls make is longer than what came in: it says more and counts as full. Else prove '..UptoSaid'. A law counts once. -/
mutual
def uptoBulk {H : Type} : DataW H → Nat
  | .lit (.string bytes) => bytes.length + 1
  | .lit _ => 1
  | .nil => 1
  | .ptr d => uptoBulk d + 1
  | .slice elems spare => uptoBulkAll elems + uptoBulkAll spare + 1
  | .agg parts => uptoBulkAll parts + 1
  | .iface _ d => uptoBulk d + 1
  | .map entries => uptoBulkEntries entries + 1
  | .held _ => 1
def uptoBulkAll {H : Type} : List (DataW H) → Nat
  | [] => 0
  | d :: r => uptoBulk d + uptoBulkAll r
def uptoBulkEntries {H : Type} : List (Lit × DataW H) → Nat
  | [] => 0
  | x :: r => uptoBulkEntry x + uptoBulkEntries r
def uptoBulkEntry {H : Type} : Lit × DataW H → Nat
  | (.string bytes, d) => bytes.length + uptoBulk d + 1
  | (_, d) => uptoBulk d + 1
 end
def uptoSmall : (H : Type) → List (DataW H) → Bool := fun _ ds => decide (uptoBulkAll ds ≤ 1048576)
def OpenSpec.upto (s : _root_.Go.ChangeSpec) : _root_.Go.OpenSpec := { _root_.Go.OpenSpec.ofChange s with cond := some uptoSmall }

/-- 'testimonykeep.MvccFirst', WHERE WHAT IT READS IS OF BULK AT MOST 1048576: true; the input reads as it did. -/
def mvccFirstUptoRow : OpenClaim := { program := "ytlnjmkldpicpdaadoor", sum := "741abd2db5a33192ede71f8caabc0f0478e25e00d9eb391504463e8c7d964e7a", func := "testimony/testimonykeep.MvccFirst", spec := "mvccFirst", inPlace := ["internal/reflectlite.ValueOf", "(internal/reflectlite.Value).Type", "(internal/reflectlite.Value).IsNil", "internal/reflectlite.TypeOf", "(internal/reflectlite.Value).Elem", "(internal/reflectlite.Value).Set"], unfollowed := true, recurses := true, named := ["errors.errorType"], apart := false, laid := [("errors.errorType", laid_errors_errorType)], narrowed := true }
def MvccFirstUptoSaid : Prop := mvccFirstUptoRow.holds Tryd.pinned (OpenSpec.upto mvccFirstSpec)

/-- 'testimonykeep.MvccFekete', WHERE WHAT IT READS IS OF BULK AT MOST 1048576: true; the input reads as it did. -/
def mvccFeketeUptoRow : OpenClaim := { program := "ytlnjmkldpicpdaadoor", sum := "741abd2db5a33192ede71f8caabc0f0478e25e00d9eb391504463e8c7d964e7a", func := "testimony/testimonykeep.MvccFekete", spec := "mvccFekete", inPlace := ["internal/reflectlite.ValueOf", "(internal/reflectlite.Value).Type", "(internal/reflectlite.Value).IsNil", "internal/reflectlite.TypeOf", "(internal/reflectlite.Value).Elem", "(internal/reflectlite.Value).Set"], unfollowed := true, recurses := true, named := ["errors.errorType"], apart := false, laid := [("errors.errorType", laid_errors_errorType)], narrowed := true }
def MvccFeketeUptoSaid : Prop := mvccFeketeUptoRow.holds Tryd.pinned (OpenSpec.upto mvccFeketeSpec)

/-- 'testimonykeep.MvccSnapshot', WHERE WHAT IT READS IS OF BULK AT MOST 1048576: true; the input reads as it did. -/
def mvccSnapshotUptoRow : OpenClaim := { program := "ytlnjmkldpicpdaadoor", sum := "741abd2db5a33192ede71f8caabc0f0478e25e00d9eb391504463e8c7d964e7a", func := "testimony/testimonykeep.MvccSnapshot", spec := "mvccSnapshot", inPlace := ["internal/reflectlite.ValueOf", "(internal/reflectlite.Value).Type", "(internal/reflectlite.Value).IsNil", "internal/reflectlite.TypeOf", "(internal/reflectlite.Value).Elem", "(internal/reflectlite.Value).Set"], unfollowed := true, recurses := true, named := ["errors.errorType"], apart := false, laid := [("errors.errorType", laid_errors_errorType)], narrowed := true }
def MvccSnapshotUptoSaid : Prop := mvccSnapshotUptoRow.holds Tryd.pinned (OpenSpec.upto mvccSnapshotSpec)

/-- 'testimonykeep.MvccCareful', WHERE WHAT IT READS IS OF BULK AT MOST 1048576: true; the input reads as it did. -/
def mvccCarefulUptoRow : OpenClaim := { program := "ytlnjmkldpicpdaadoor", sum := "741abd2db5a33192ede71f8caabc0f0478e25e00d9eb391504463e8c7d964e7a", func := "testimony/testimonykeep.MvccCareful", spec := "mvccCareful", inPlace := ["internal/reflectlite.ValueOf", "(internal/reflectlite.Value).Type", "(internal/reflectlite.Value).IsNil", "internal/reflectlite.TypeOf", "(internal/reflectlite.Value).Elem", "(internal/reflectlite.Value).Set"], unfollowed := true, recurses := true, named := ["errors.errorType"], apart := false, laid := [("errors.errorType", laid_errors_errorType)], narrowed := true }
def MvccCarefulUptoSaid : Prop := mvccCarefulUptoRow.holds Tryd.pinned (OpenSpec.upto mvccCarefulSpec)

end Rows
end Go.Proofs.YtlnjmkldpicpdaaDoor
