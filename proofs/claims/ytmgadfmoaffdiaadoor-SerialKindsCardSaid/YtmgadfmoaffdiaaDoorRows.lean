/-
  NARROWER THAN 'FOR EVERY INPUT', by the rows' own cells (each row's printed sentence says how): GraphEither: laid · MvccFirst: laid · SerialKinds: laid · SerialBernstein: laid · SerialOne: laid · LockTwoPhase: laid · MvccFekete: laid · MvccSnapshot: laid · MvccCareful: laid.
  DERIVED. THE GIVEN ROWS OF THIS SEAT. 9 by the template 'for every input the law returns true; each argument reads behind the call as it read before'; 0 by the template 'total and deterministic' (their statements: YtmgadfmoaffdiaaDoorTotals.lean).
  GIVEN WITH THE SEED: the statements are not yours to turn. If you find one false, say at which input.
  Laid BY PROGRAM, IN A SANDBOX (cutbox-rows.mjs): the forced cells as the released guide's own fill.sh prints them over the translation 511042c6c72b4a48… (all of the seat's roots in one cut). By AI agents, Wed Nov 11 2026. No macro, syntax, notation, axiom, sorry.
-/
import Derived.Test.YtmgadfmoaffdiaaDoorChecked
import GoSem.Claim
import GoSem.ClaimJoined
import GoSem.ClaimMapViews
import Derived.JoinedTies
import Derived.KernelRfl
namespace Go.Proofs.YtmgadfmoaffdiaaDoor
/- THE CELL 'sum', in the pinned program and in every row, IS THE sha256 OF THE DUMP (.gsa) THAT YtmgadfmoaffdiaaDoorProg.lean LOADS. Nothing in Lean hashes anything: it is a label: what it is worth is what the hold of that sum in a sandbox is worth. -/
noncomputable def Tryd.pinned : Pinned := { name := "ytmgadfmoaffdiaadoor", sum := "511042c6c72b4a480d0bd01c2dd09c3dbd0ab99f3dfa52ab83fb3dbeac28edc5", checked := Tryd.checked }
namespace Rows
def none {H : Type} : Left H := { results := [], args := [] }

/- WHAT THE LISTED PACKAGE-LEVEL VARIABLES READ AS WHEN THE CALL BEGINS. Each datum BY PROGRAM (the guide's laid-datum.mjs) off the statement by which the dump's own 'gosem.cut.vars' lays the variable. In a bare row this is a premise. The card (YtmgadfmoaffdiaaDoorCards.lean) ties it to the program's text. -/
def laid_errors_errorType {H : Type} : DataW H := .iface "internal/reflectlite.rtype" (.agg [.ptr (.lit (.string [101, 114, 114, 111, 114]))])

/-- 'testimonykeep.GraphEither': WHATEVER THE INPUT: true; the input reads as it did. -/
def graphEitherSpec : ChangeSpec := { name := "graphEither", fn := fun _ => fun
  | [d] => { results := [.lit (.bool true)], args := [d] }
  | _ => none }
def graphEitherRow : OpenClaim := { program := "ytmgadfmoaffdiaadoor", sum := "511042c6c72b4a480d0bd01c2dd09c3dbd0ab99f3dfa52ab83fb3dbeac28edc5", func := "testimony/testimonykeep.GraphEither", spec := "graphEither", inPlace := ["internal/reflectlite.ValueOf", "(internal/reflectlite.Value).Type", "(internal/reflectlite.Value).IsNil", "internal/reflectlite.TypeOf", "(internal/reflectlite.Value).Elem", "(internal/reflectlite.Value).Set"], unfollowed := true, recurses := true, named := ["errors.errorType"], apart := false, laid := [("errors.errorType", laid_errors_errorType)] }
def GraphEitherSaid : Prop := graphEitherRow.holds Tryd.pinned (OpenSpec.ofChange graphEitherSpec)

/-- ITS FALSE NEIGHBOUR: 'it returns false'. Refute it at one input. -/
def graphEitherWrong : ChangeSpec := { name := "graphEither", fn := fun _ => fun
  | [d] => { results := [.lit (.bool false)], args := [d] }
  | _ => none }
def GraphEitherWrongFalsely : Prop := graphEitherRow.holds Tryd.pinned (OpenSpec.ofChange graphEitherWrong)

/-- 'testimonykeep.MvccFirst': WHATEVER THE INPUT: true; the input reads as it did. -/
def mvccFirstSpec : ChangeSpec := { name := "mvccFirst", fn := fun _ => fun
  | [d1, d2] => { results := [.lit (.bool true)], args := [d1, d2] }
  | _ => none }
def mvccFirstRow : OpenClaim := { program := "ytmgadfmoaffdiaadoor", sum := "511042c6c72b4a480d0bd01c2dd09c3dbd0ab99f3dfa52ab83fb3dbeac28edc5", func := "testimony/testimonykeep.MvccFirst", spec := "mvccFirst", inPlace := ["internal/reflectlite.ValueOf", "(internal/reflectlite.Value).Type", "(internal/reflectlite.Value).IsNil", "internal/reflectlite.TypeOf", "(internal/reflectlite.Value).Elem", "(internal/reflectlite.Value).Set"], unfollowed := true, recurses := true, named := ["errors.errorType"], apart := false, laid := [("errors.errorType", laid_errors_errorType)] }
def MvccFirstSaid : Prop := mvccFirstRow.holds Tryd.pinned (OpenSpec.ofChange mvccFirstSpec)

/-- ITS FALSE NEIGHBOUR: 'it returns false'. Refute it at one input. -/
def mvccFirstWrong : ChangeSpec := { name := "mvccFirst", fn := fun _ => fun
  | [d1, d2] => { results := [.lit (.bool false)], args := [d1, d2] }
  | _ => none }
def MvccFirstWrongFalsely : Prop := mvccFirstRow.holds Tryd.pinned (OpenSpec.ofChange mvccFirstWrong)

/-- 'testimonykeep.SerialKinds': WHATEVER THE INPUT: true; the input reads as it did. -/
def serialKindsSpec : ChangeSpec := { name := "serialKinds", fn := fun _ => fun
  | [d] => { results := [.lit (.bool true)], args := [d] }
  | _ => none }
def serialKindsRow : OpenClaim := { program := "ytmgadfmoaffdiaadoor", sum := "511042c6c72b4a480d0bd01c2dd09c3dbd0ab99f3dfa52ab83fb3dbeac28edc5", func := "testimony/testimonykeep.SerialKinds", spec := "serialKinds", inPlace := ["internal/reflectlite.ValueOf", "(internal/reflectlite.Value).Type", "(internal/reflectlite.Value).IsNil", "internal/reflectlite.TypeOf", "(internal/reflectlite.Value).Elem", "(internal/reflectlite.Value).Set"], unfollowed := true, recurses := true, named := ["errors.errorType"], apart := false, laid := [("errors.errorType", laid_errors_errorType)] }
def SerialKindsSaid : Prop := serialKindsRow.holds Tryd.pinned (OpenSpec.ofChange serialKindsSpec)

/-- ITS FALSE NEIGHBOUR: 'it returns false'. Refute it at one input. -/
def serialKindsWrong : ChangeSpec := { name := "serialKinds", fn := fun _ => fun
  | [d] => { results := [.lit (.bool false)], args := [d] }
  | _ => none }
def SerialKindsWrongFalsely : Prop := serialKindsRow.holds Tryd.pinned (OpenSpec.ofChange serialKindsWrong)

/-- 'testimonykeep.SerialBernstein': WHATEVER THE INPUT: true; the input reads as it did. -/
def serialBernsteinSpec : ChangeSpec := { name := "serialBernstein", fn := fun _ => fun
  | [d] => { results := [.lit (.bool true)], args := [d] }
  | _ => none }
def serialBernsteinRow : OpenClaim := { program := "ytmgadfmoaffdiaadoor", sum := "511042c6c72b4a480d0bd01c2dd09c3dbd0ab99f3dfa52ab83fb3dbeac28edc5", func := "testimony/testimonykeep.SerialBernstein", spec := "serialBernstein", inPlace := ["internal/reflectlite.ValueOf", "(internal/reflectlite.Value).Type", "(internal/reflectlite.Value).IsNil", "internal/reflectlite.TypeOf", "(internal/reflectlite.Value).Elem", "(internal/reflectlite.Value).Set"], unfollowed := true, recurses := true, named := ["errors.errorType"], apart := false, laid := [("errors.errorType", laid_errors_errorType)] }
def SerialBernsteinSaid : Prop := serialBernsteinRow.holds Tryd.pinned (OpenSpec.ofChange serialBernsteinSpec)

/-- ITS FALSE NEIGHBOUR: 'it returns false'. Refute it at one input. -/
def serialBernsteinWrong : ChangeSpec := { name := "serialBernstein", fn := fun _ => fun
  | [d] => { results := [.lit (.bool false)], args := [d] }
  | _ => none }
def SerialBernsteinWrongFalsely : Prop := serialBernsteinRow.holds Tryd.pinned (OpenSpec.ofChange serialBernsteinWrong)

/-- 'testimonykeep.SerialOne': WHATEVER THE INPUT: true; the input reads as it did. -/
def serialOneSpec : ChangeSpec := { name := "serialOne", fn := fun _ => fun
  | [d1, d2] => { results := [.lit (.bool true)], args := [d1, d2] }
  | _ => none }
def serialOneRow : OpenClaim := { program := "ytmgadfmoaffdiaadoor", sum := "511042c6c72b4a480d0bd01c2dd09c3dbd0ab99f3dfa52ab83fb3dbeac28edc5", func := "testimony/testimonykeep.SerialOne", spec := "serialOne", inPlace := ["internal/reflectlite.ValueOf", "(internal/reflectlite.Value).Type", "(internal/reflectlite.Value).IsNil", "internal/reflectlite.TypeOf", "(internal/reflectlite.Value).Elem", "(internal/reflectlite.Value).Set"], unfollowed := true, recurses := true, named := ["errors.errorType"], apart := false, laid := [("errors.errorType", laid_errors_errorType)] }
def SerialOneSaid : Prop := serialOneRow.holds Tryd.pinned (OpenSpec.ofChange serialOneSpec)

/-- ITS FALSE NEIGHBOUR: 'it returns false'. Refute it at one input. -/
def serialOneWrong : ChangeSpec := { name := "serialOne", fn := fun _ => fun
  | [d1, d2] => { results := [.lit (.bool false)], args := [d1, d2] }
  | _ => none }
def SerialOneWrongFalsely : Prop := serialOneRow.holds Tryd.pinned (OpenSpec.ofChange serialOneWrong)

/-- 'testimonykeep.LockTwoPhase': WHATEVER THE INPUT: true; the input reads as it did. -/
def lockTwoPhaseSpec : ChangeSpec := { name := "lockTwoPhase", fn := fun _ => fun
  | [d1, d2] => { results := [.lit (.bool true)], args := [d1, d2] }
  | _ => none }
def lockTwoPhaseRow : OpenClaim := { program := "ytmgadfmoaffdiaadoor", sum := "511042c6c72b4a480d0bd01c2dd09c3dbd0ab99f3dfa52ab83fb3dbeac28edc5", func := "testimony/testimonykeep.LockTwoPhase", spec := "lockTwoPhase", inPlace := ["internal/reflectlite.ValueOf", "(internal/reflectlite.Value).Type", "(internal/reflectlite.Value).IsNil", "internal/reflectlite.TypeOf", "(internal/reflectlite.Value).Elem", "(internal/reflectlite.Value).Set"], unfollowed := true, recurses := true, named := ["errors.errorType"], apart := false, laid := [("errors.errorType", laid_errors_errorType)] }
def LockTwoPhaseSaid : Prop := lockTwoPhaseRow.holds Tryd.pinned (OpenSpec.ofChange lockTwoPhaseSpec)

/-- ITS FALSE NEIGHBOUR: 'it returns false'. Refute it at one input. -/
def lockTwoPhaseWrong : ChangeSpec := { name := "lockTwoPhase", fn := fun _ => fun
  | [d1, d2] => { results := [.lit (.bool false)], args := [d1, d2] }
  | _ => none }
def LockTwoPhaseWrongFalsely : Prop := lockTwoPhaseRow.holds Tryd.pinned (OpenSpec.ofChange lockTwoPhaseWrong)

/-- 'testimonykeep.MvccFekete': WHATEVER THE INPUT: true; the input reads as it did. -/
def mvccFeketeSpec : ChangeSpec := { name := "mvccFekete", fn := fun _ => fun
  | [d] => { results := [.lit (.bool true)], args := [d] }
  | _ => none }
def mvccFeketeRow : OpenClaim := { program := "ytmgadfmoaffdiaadoor", sum := "511042c6c72b4a480d0bd01c2dd09c3dbd0ab99f3dfa52ab83fb3dbeac28edc5", func := "testimony/testimonykeep.MvccFekete", spec := "mvccFekete", inPlace := ["internal/reflectlite.ValueOf", "(internal/reflectlite.Value).Type", "(internal/reflectlite.Value).IsNil", "internal/reflectlite.TypeOf", "(internal/reflectlite.Value).Elem", "(internal/reflectlite.Value).Set"], unfollowed := true, recurses := true, named := ["errors.errorType"], apart := false, laid := [("errors.errorType", laid_errors_errorType)] }
def MvccFeketeSaid : Prop := mvccFeketeRow.holds Tryd.pinned (OpenSpec.ofChange mvccFeketeSpec)

/-- ITS FALSE NEIGHBOUR: 'it returns false'. Refute it at one input. -/
def mvccFeketeWrong : ChangeSpec := { name := "mvccFekete", fn := fun _ => fun
  | [d] => { results := [.lit (.bool false)], args := [d] }
  | _ => none }
def MvccFeketeWrongFalsely : Prop := mvccFeketeRow.holds Tryd.pinned (OpenSpec.ofChange mvccFeketeWrong)

/-- 'testimonykeep.MvccSnapshot': WHATEVER THE INPUT: true; the input reads as it did. -/
def mvccSnapshotSpec : ChangeSpec := { name := "mvccSnapshot", fn := fun _ => fun
  | [d1, d2] => { results := [.lit (.bool true)], args := [d1, d2] }
  | _ => none }
def mvccSnapshotRow : OpenClaim := { program := "ytmgadfmoaffdiaadoor", sum := "511042c6c72b4a480d0bd01c2dd09c3dbd0ab99f3dfa52ab83fb3dbeac28edc5", func := "testimony/testimonykeep.MvccSnapshot", spec := "mvccSnapshot", inPlace := ["internal/reflectlite.ValueOf", "(internal/reflectlite.Value).Type", "(internal/reflectlite.Value).IsNil", "internal/reflectlite.TypeOf", "(internal/reflectlite.Value).Elem", "(internal/reflectlite.Value).Set"], unfollowed := true, recurses := true, named := ["errors.errorType"], apart := false, laid := [("errors.errorType", laid_errors_errorType)] }
def MvccSnapshotSaid : Prop := mvccSnapshotRow.holds Tryd.pinned (OpenSpec.ofChange mvccSnapshotSpec)

/-- ITS FALSE NEIGHBOUR: 'it returns false'. Refute it at one input. -/
def mvccSnapshotWrong : ChangeSpec := { name := "mvccSnapshot", fn := fun _ => fun
  | [d1, d2] => { results := [.lit (.bool false)], args := [d1, d2] }
  | _ => none }
def MvccSnapshotWrongFalsely : Prop := mvccSnapshotRow.holds Tryd.pinned (OpenSpec.ofChange mvccSnapshotWrong)

/-- 'testimonykeep.MvccCareful': WHATEVER THE INPUT: true; the input reads as it did. -/
def mvccCarefulSpec : ChangeSpec := { name := "mvccCareful", fn := fun _ => fun
  | [d] => { results := [.lit (.bool true)], args := [d] }
  | _ => none }
def mvccCarefulRow : OpenClaim := { program := "ytmgadfmoaffdiaadoor", sum := "511042c6c72b4a480d0bd01c2dd09c3dbd0ab99f3dfa52ab83fb3dbeac28edc5", func := "testimony/testimonykeep.MvccCareful", spec := "mvccCareful", inPlace := ["internal/reflectlite.ValueOf", "(internal/reflectlite.Value).Type", "(internal/reflectlite.Value).IsNil", "internal/reflectlite.TypeOf", "(internal/reflectlite.Value).Elem", "(internal/reflectlite.Value).Set"], unfollowed := true, recurses := true, named := ["errors.errorType"], apart := false, laid := [("errors.errorType", laid_errors_errorType)] }
def MvccCarefulSaid : Prop := mvccCarefulRow.holds Tryd.pinned (OpenSpec.ofChange mvccCarefulSpec)

/-- ITS FALSE NEIGHBOUR: 'it returns false'. Refute it at one input. -/
def mvccCarefulWrong : ChangeSpec := { name := "mvccCareful", fn := fun _ => fun
  | [d] => { results := [.lit (.bool false)], args := [d] }
  | _ => none }
def MvccCarefulWrongFalsely : Prop := mvccCarefulRow.holds Tryd.pinned (OpenSpec.ofChange mvccCarefulWrong)

/- THE SECOND FORM. 'bulk': how many values and letters a reading holds, each counted each time it is reached (what is shared counts as often as it is met; a slice's spare places count too). A statement '..UptoSaid' is the law's where the arguments, and the package variables that the reading takes, are together of bulk at most 1048576: NARROWER than '..Said'. Prove '..Said' where nothing that the law and all that it calls make is longer than what came in: it says more and counts as full. Else prove '..UptoSaid'. A law counts once. -/
mutual
def uptoBulk {H : Type} : DataW H → Nat
  | .lit (.string bytes) => bytes.length + 1
  | .lit _ => 1
  | .nil => 1
  | .ptr d => uptoBulk d + 1
  | .slice elems spare => uptoBulkAll elems + uptoBulkAll spare + 1
  | .agg parts => uptoBulkAll parts + 1
  | .iface _ d => uptoBulk d + 1
  | .map entries => uptoBulkEntries entries + 1
  | .held _ => 1
def uptoBulkAll {H : Type} : List (DataW H) → Nat
  | [] => 0
  | d :: r => uptoBulk d + uptoBulkAll r
def uptoBulkEntries {H : Type} : List (Lit × DataW H) → Nat
  | [] => 0
  | x :: r => uptoBulkEntry x + uptoBulkEntries r
def uptoBulkEntry {H : Type} : Lit × DataW H → Nat
  | (.string bytes, d) => bytes.length + uptoBulk d + 1
  | (_, d) => uptoBulk d + 1
 end
def uptoSmall : (H : Type) → List (DataW H) → Bool := fun _ ds => decide (uptoBulkAll ds ≤ 1048576)
def OpenSpec.upto (s : _root_.Go.ChangeSpec) : _root_.Go.OpenSpec := { _root_.Go.OpenSpec.ofChange s with cond := some uptoSmall }

/-- 'testimonykeep.GraphEither', WHERE WHAT IT READS IS OF BULK AT MOST 1048576: true; the input reads as it did. -/
def graphEitherUptoRow : OpenClaim := { program := "ytmgadfmoaffdiaadoor", sum := "511042c6c72b4a480d0bd01c2dd09c3dbd0ab99f3dfa52ab83fb3dbeac28edc5", func := "testimony/testimonykeep.GraphEither", spec := "graphEither", inPlace := ["internal/reflectlite.ValueOf", "(internal/reflectlite.Value).Type", "(internal/reflectlite.Value).IsNil", "internal/reflectlite.TypeOf", "(internal/reflectlite.Value).Elem", "(internal/reflectlite.Value).Set"], unfollowed := true, recurses := true, named := ["errors.errorType"], apart := false, laid := [("errors.errorType", laid_errors_errorType)], narrowed := true }
def GraphEitherUptoSaid : Prop := graphEitherUptoRow.holds Tryd.pinned (OpenSpec.upto graphEitherSpec)

/-- 'testimonykeep.MvccFirst', WHERE WHAT IT READS IS OF BULK AT MOST 1048576: true; the input reads as it did. -/
def mvccFirstUptoRow : OpenClaim := { program := "ytmgadfmoaffdiaadoor", sum := "511042c6c72b4a480d0bd01c2dd09c3dbd0ab99f3dfa52ab83fb3dbeac28edc5", func := "testimony/testimonykeep.MvccFirst", spec := "mvccFirst", inPlace := ["internal/reflectlite.ValueOf", "(internal/reflectlite.Value).Type", "(internal/reflectlite.Value).IsNil", "internal/reflectlite.TypeOf", "(internal/reflectlite.Value).Elem", "(internal/reflectlite.Value).Set"], unfollowed := true, recurses := true, named := ["errors.errorType"], apart := false, laid := [("errors.errorType", laid_errors_errorType)], narrowed := true }
def MvccFirstUptoSaid : Prop := mvccFirstUptoRow.holds Tryd.pinned (OpenSpec.upto mvccFirstSpec)

/-- 'testimonykeep.SerialKinds', WHERE WHAT IT READS IS OF BULK AT MOST 1048576: true; the input reads as it did. -/
def serialKindsUptoRow : OpenClaim := { program := "ytmgadfmoaffdiaadoor", sum := "511042c6c72b4a480d0bd01c2dd09c3dbd0ab99f3dfa52ab83fb3dbeac28edc5", func := "testimony/testimonykeep.SerialKinds", spec := "serialKinds", inPlace := ["internal/reflectlite.ValueOf", "(internal/reflectlite.Value).Type", "(internal/reflectlite.Value).IsNil", "internal/reflectlite.TypeOf", "(internal/reflectlite.Value).Elem", "(internal/reflectlite.Value).Set"], unfollowed := true, recurses := true, named := ["errors.errorType"], apart := false, laid := [("errors.errorType", laid_errors_errorType)], narrowed := true }
def SerialKindsUptoSaid : Prop := serialKindsUptoRow.holds Tryd.pinned (OpenSpec.upto serialKindsSpec)

/-- 'testimonykeep.SerialBernstein', WHERE WHAT IT READS IS OF BULK AT MOST 1048576: true; the input reads as it did. -/
def serialBernsteinUptoRow : OpenClaim := { program := "ytmgadfmoaffdiaadoor", sum := "511042c6c72b4a480d0bd01c2dd09c3dbd0ab99f3dfa52ab83fb3dbeac28edc5", func := "testimony/testimonykeep.SerialBernstein", spec := "serialBernstein", inPlace := ["internal/reflectlite.ValueOf", "(internal/reflectlite.Value).Type", "(internal/reflectlite.Value).IsNil", "internal/reflectlite.TypeOf", "(internal/reflectlite.Value).Elem", "(internal/reflectlite.Value).Set"], unfollowed := true, recurses := true, named := ["errors.errorType"], apart := false, laid := [("errors.errorType", laid_errors_errorType)], narrowed := true }
def SerialBernsteinUptoSaid : Prop := serialBernsteinUptoRow.holds Tryd.pinned (OpenSpec.upto serialBernsteinSpec)

/-- 'testimonykeep.SerialOne', WHERE WHAT IT READS IS OF BULK AT MOST 1048576: true; the input reads as it did. -/
def serialOneUptoRow : OpenClaim := { program := "ytmgadfmoaffdiaadoor", sum := "511042c6c72b4a480d0bd01c2dd09c3dbd0ab99f3dfa52ab83fb3dbeac28edc5", func := "testimony/testimonykeep.SerialOne", spec := "serialOne", inPlace := ["internal/reflectlite.ValueOf", "(internal/reflectlite.Value).Type", "(internal/reflectlite.Value).IsNil", "internal/reflectlite.TypeOf", "(internal/reflectlite.Value).Elem", "(internal/reflectlite.Value).Set"], unfollowed := true, recurses := true, named := ["errors.errorType"], apart := false, laid := [("errors.errorType", laid_errors_errorType)], narrowed := true }
def SerialOneUptoSaid : Prop := serialOneUptoRow.holds Tryd.pinned (OpenSpec.upto serialOneSpec)

/-- 'testimonykeep.LockTwoPhase', WHERE WHAT IT READS IS OF BULK AT MOST 1048576: true; the input reads as it did. -/
def lockTwoPhaseUptoRow : OpenClaim := { program := "ytmgadfmoaffdiaadoor", sum := "511042c6c72b4a480d0bd01c2dd09c3dbd0ab99f3dfa52ab83fb3dbeac28edc5", func := "testimony/testimonykeep.LockTwoPhase", spec := "lockTwoPhase", inPlace := ["internal/reflectlite.ValueOf", "(internal/reflectlite.Value).Type", "(internal/reflectlite.Value).IsNil", "internal/reflectlite.TypeOf", "(internal/reflectlite.Value).Elem", "(internal/reflectlite.Value).Set"], unfollowed := true, recurses := true, named := ["errors.errorType"], apart := false, laid := [("errors.errorType", laid_errors_errorType)], narrowed := true }
def LockTwoPhaseUptoSaid : Prop := lockTwoPhaseUptoRow.holds Tryd.pinned (OpenSpec.upto lockTwoPhaseSpec)

/-- 'testimonykeep.MvccFekete', WHERE WHAT IT READS IS OF BULK AT MOST 1048576: true; the input reads as it did. -/
def mvccFeketeUptoRow : OpenClaim := { program := "ytmgadfmoaffdiaadoor", sum := "511042c6c72b4a480d0bd01c2dd09c3dbd0ab99f3dfa52ab83fb3dbeac28edc5", func := "testimony/testimonykeep.MvccFekete", spec := "mvccFekete", inPlace := ["internal/reflectlite.ValueOf", "(internal/reflectlite.Value).Type", "(internal/reflectlite.Value).IsNil", "internal/reflectlite.TypeOf", "(internal/reflectlite.Value).Elem", "(internal/reflectlite.Value).Set"], unfollowed := true, recurses := true, named := ["errors.errorType"], apart := false, laid := [("errors.errorType", laid_errors_errorType)], narrowed := true }
def MvccFeketeUptoSaid : Prop := mvccFeketeUptoRow.holds Tryd.pinned (OpenSpec.upto mvccFeketeSpec)

/-- 'testimonykeep.MvccSnapshot', WHERE WHAT IT READS IS OF BULK AT MOST 1048576: true; the input reads as it did. -/
def mvccSnapshotUptoRow : OpenClaim := { program := "ytmgadfmoaffdiaadoor", sum := "511042c6c72b4a480d0bd01c2dd09c3dbd0ab99f3dfa52ab83fb3dbeac28edc5", func := "testimony/testimonykeep.MvccSnapshot", spec := "mvccSnapshot", inPlace := ["internal/reflectlite.ValueOf", "(internal/reflectlite.Value).Type", "(internal/reflectlite.Value).IsNil", "internal/reflectlite.TypeOf", "(internal/reflectlite.Value).Elem", "(internal/reflectlite.Value).Set"], unfollowed := true, recurses := true, named := ["errors.errorType"], apart := false, laid := [("errors.errorType", laid_errors_errorType)], narrowed := true }
def MvccSnapshotUptoSaid : Prop := mvccSnapshotUptoRow.holds Tryd.pinned (OpenSpec.upto mvccSnapshotSpec)

/-- 'testimonykeep.MvccCareful', WHERE WHAT IT READS IS OF BULK AT MOST 1048576: true; the input reads as it did. -/
def mvccCarefulUptoRow : OpenClaim := { program := "ytmgadfmoaffdiaadoor", sum := "511042c6c72b4a480d0bd01c2dd09c3dbd0ab99f3dfa52ab83fb3dbeac28edc5", func := "testimony/testimonykeep.MvccCareful", spec := "mvccCareful", inPlace := ["internal/reflectlite.ValueOf", "(internal/reflectlite.Value).Type", "(internal/reflectlite.Value).IsNil", "internal/reflectlite.TypeOf", "(internal/reflectlite.Value).Elem", "(internal/reflectlite.Value).Set"], unfollowed := true, recurses := true, named := ["errors.errorType"], apart := false, laid := [("errors.errorType", laid_errors_errorType)], narrowed := true }
def MvccCarefulUptoSaid : Prop := mvccCarefulUptoRow.holds Tryd.pinned (OpenSpec.upto mvccCarefulSpec)

end Rows
end Go.Proofs.YtmgadfmoaffdiaaDoor
