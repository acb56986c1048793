/-
  No cell of these rows narrows 'for every input' (looked for: loops, veiled, ifaces, maps, wideKeys, modest, calm, conditions, laid).
  DERIVED. THE GIVEN ROWS OF THIS SEAT. 5 by the template 'for every input the law returns true; each argument reads behind the call as it read before'; 0 by the template 'total and deterministic' (their statements: YtdpeadmfalhbfaaTotals.lean).
  GIVEN WITH THE SEED: the statements are not yours to turn. If you find one false, say at which input.
  Laid BY PROGRAM, IN A SANDBOX (cutbox-rows.mjs): the forced cells as the released guide's own fill.sh prints them over the translation 6b8b9df70d96c249… (all of the seat's roots in one cut). By AI agents, Wed Nov 11 2026. No macro, syntax, notation, axiom, sorry.
-/
import Derived.Test.YtdpeadmfalhbfaaChecked
import GoSem.Claim
import GoSem.ClaimJoined
import GoSem.ClaimMapViews
import Derived.JoinedTies
import Derived.KernelRfl
namespace Go.Proofs.Ytdpeadmfalhbfaa
/- THE CELL 'sum', in the pinned program and in every row, IS THE sha256 OF THE DUMP (.gsa) THAT YtdpeadmfalhbfaaProg.lean LOADS. Nothing in Lean hashes anything: it is a label: what it is worth is what the hold of that sum in a sandbox is worth. -/
noncomputable def Try.pinned : Pinned := { name := "ytdpeadmfalhbfaa", sum := "6b8b9df70d96c249b16de9d5e39fc4b6d160086363fdb8980fec3f378d388a6f", checked := Try.checked }
namespace Rows
def none {H : Type} : Left H := { results := [], args := [] }

/-- 'testimonykeep.RecordTorn': WHATEVER THE INPUT: true; the input reads as it did. -/
def recordTornSpec : ChangeSpec := { name := "recordTorn", fn := fun _ => fun
  | [d1, d2, d3] => { results := [.lit (.bool true)], args := [d1, d2, d3] }
  | _ => none }
def recordTornRow : OpenClaim := { program := "ytdpeadmfalhbfaa", sum := "6b8b9df70d96c249b16de9d5e39fc4b6d160086363fdb8980fec3f378d388a6f", func := "testimony/testimonykeep.RecordTorn", spec := "recordTorn", apart := false }
def RecordTornSaid : Prop := recordTornRow.holds Try.pinned (OpenSpec.ofChange recordTornSpec)

/-- ITS FALSE NEIGHBOUR: 'it returns false'. Refute it at one input. -/
def recordTornWrong : ChangeSpec := { name := "recordTorn", fn := fun _ => fun
  | [d1, d2, d3] => { results := [.lit (.bool false)], args := [d1, d2, d3] }
  | _ => none }
def RecordTornWrongFalsely : Prop := recordTornRow.holds Try.pinned (OpenSpec.ofChange recordTornWrong)

/-- 'testimonykeep.RecordBack': WHATEVER THE INPUT: true; the input reads as it did. -/
def recordBackSpec : ChangeSpec := { name := "recordBack", fn := fun _ => fun
  | [d1, d2] => { results := [.lit (.bool true)], args := [d1, d2] }
  | _ => none }
def recordBackRow : OpenClaim := { program := "ytdpeadmfalhbfaa", sum := "6b8b9df70d96c249b16de9d5e39fc4b6d160086363fdb8980fec3f378d388a6f", func := "testimony/testimonykeep.RecordBack", spec := "recordBack", apart := false }
def RecordBackSaid : Prop := recordBackRow.holds Try.pinned (OpenSpec.ofChange recordBackSpec)

/-- ITS FALSE NEIGHBOUR: 'it returns false'. Refute it at one input. -/
def recordBackWrong : ChangeSpec := { name := "recordBack", fn := fun _ => fun
  | [d1, d2] => { results := [.lit (.bool false)], args := [d1, d2] }
  | _ => none }
def RecordBackWrongFalsely : Prop := recordBackRow.holds Try.pinned (OpenSpec.ofChange recordBackWrong)

/-- 'testimonykeep.RecordBit': WHATEVER THE INPUT: true; the input reads as it did. -/
def recordBitSpec : ChangeSpec := { name := "recordBit", fn := fun _ => fun
  | [d1, d2, d3] => { results := [.lit (.bool true)], args := [d1, d2, d3] }
  | _ => none }
def recordBitRow : OpenClaim := { program := "ytdpeadmfalhbfaa", sum := "6b8b9df70d96c249b16de9d5e39fc4b6d160086363fdb8980fec3f378d388a6f", func := "testimony/testimonykeep.RecordBit", spec := "recordBit", apart := false }
def RecordBitSaid : Prop := recordBitRow.holds Try.pinned (OpenSpec.ofChange recordBitSpec)

/-- ITS FALSE NEIGHBOUR: 'it returns false'. Refute it at one input. -/
def recordBitWrong : ChangeSpec := { name := "recordBit", fn := fun _ => fun
  | [d1, d2, d3] => { results := [.lit (.bool false)], args := [d1, d2, d3] }
  | _ => none }
def RecordBitWrongFalsely : Prop := recordBitRow.holds Try.pinned (OpenSpec.ofChange recordBitWrong)

/-- 'testimonykeep.RecordCrash': WHATEVER THE INPUT: true; the input reads as it did. -/
def recordCrashSpec : ChangeSpec := { name := "recordCrash", fn := fun _ => fun
  | [d1, d2, d3] => { results := [.lit (.bool true)], args := [d1, d2, d3] }
  | _ => none }
def recordCrashRow : OpenClaim := { program := "ytdpeadmfalhbfaa", sum := "6b8b9df70d96c249b16de9d5e39fc4b6d160086363fdb8980fec3f378d388a6f", func := "testimony/testimonykeep.RecordCrash", spec := "recordCrash", apart := false }
def RecordCrashSaid : Prop := recordCrashRow.holds Try.pinned (OpenSpec.ofChange recordCrashSpec)

/-- ITS FALSE NEIGHBOUR: 'it returns false'. Refute it at one input. -/
def recordCrashWrong : ChangeSpec := { name := "recordCrash", fn := fun _ => fun
  | [d1, d2, d3] => { results := [.lit (.bool false)], args := [d1, d2, d3] }
  | _ => none }
def RecordCrashWrongFalsely : Prop := recordCrashRow.holds Try.pinned (OpenSpec.ofChange recordCrashWrong)

/-- 'testimonykeep.RecordOrder': WHATEVER THE INPUT: true; the input reads as it did. -/
def recordOrderSpec : ChangeSpec := { name := "recordOrder", fn := fun _ => fun
  | [d1, d2] => { results := [.lit (.bool true)], args := [d1, d2] }
  | _ => none }
def recordOrderRow : OpenClaim := { program := "ytdpeadmfalhbfaa", sum := "6b8b9df70d96c249b16de9d5e39fc4b6d160086363fdb8980fec3f378d388a6f", func := "testimony/testimonykeep.RecordOrder", spec := "recordOrder", unfollowed := true, recurses := true, apart := false }
def RecordOrderSaid : Prop := recordOrderRow.holds Try.pinned (OpenSpec.ofChange recordOrderSpec)

/-- ITS FALSE NEIGHBOUR: 'it returns false'. Refute it at one input. -/
def recordOrderWrong : ChangeSpec := { name := "recordOrder", fn := fun _ => fun
  | [d1, d2] => { results := [.lit (.bool false)], args := [d1, d2] }
  | _ => none }
def RecordOrderWrongFalsely : Prop := recordOrderRow.holds Try.pinned (OpenSpec.ofChange recordOrderWrong)

/- THE SECOND FORM. 'bulk': how many values and letters a reading holds, each counted each time it is reached (what is shared counts as often as it is met; a slice's spare places count too). A statement '..UptoSaid' is the law's where the arguments, and the package variables that the reading takes, are together of bulk at most 1048576: NARROWER than '..Said'. Prove '..Said' where nothing that the law and all that it calls make is longer than what came in: it says more and counts as full. Else prove '..UptoSaid'. A law counts once. -/
mutual
def uptoBulk {H : Type} : DataW H → Nat
  | .lit (.string bytes) => bytes.length + 1
  | .lit _ => 1
  | .nil => 1
  | .ptr d => uptoBulk d + 1
  | .slice elems spare => uptoBulkAll elems + uptoBulkAll spare + 1
  | .agg parts => uptoBulkAll parts + 1
  | .iface _ d => uptoBulk d + 1
  | .map entries => uptoBulkEntries entries + 1
  | .held _ => 1
def uptoBulkAll {H : Type} : List (DataW H) → Nat
  | [] => 0
  | d :: r => uptoBulk d + uptoBulkAll r
def uptoBulkEntries {H : Type} : List (Lit × DataW H) → Nat
  | [] => 0
  | x :: r => uptoBulkEntry x + uptoBulkEntries r
def uptoBulkEntry {H : Type} : Lit × DataW H → Nat
  | (.string bytes, d) => bytes.length + uptoBulk d + 1
  | (_, d) => uptoBulk d + 1
 end
def uptoSmall : (H : Type) → List (DataW H) → Bool := fun _ ds => decide (uptoBulkAll ds ≤ 1048576)
def OpenSpec.upto (s : _root_.Go.ChangeSpec) : _root_.Go.OpenSpec := { _root_.Go.OpenSpec.ofChange s with cond := some uptoSmall }

/-- 'testimonykeep.RecordTorn', WHERE WHAT IT READS IS OF BULK AT MOST 1048576: true; the input reads as it did. -/
def recordTornUptoRow : OpenClaim := { program := "ytdpeadmfalhbfaa", sum := "6b8b9df70d96c249b16de9d5e39fc4b6d160086363fdb8980fec3f378d388a6f", func := "testimony/testimonykeep.RecordTorn", spec := "recordTorn", apart := false, narrowed := true }
def RecordTornUptoSaid : Prop := recordTornUptoRow.holds Try.pinned (OpenSpec.upto recordTornSpec)

/-- 'testimonykeep.RecordBack', WHERE WHAT IT READS IS OF BULK AT MOST 1048576: true; the input reads as it did. -/
def recordBackUptoRow : OpenClaim := { program := "ytdpeadmfalhbfaa", sum := "6b8b9df70d96c249b16de9d5e39fc4b6d160086363fdb8980fec3f378d388a6f", func := "testimony/testimonykeep.RecordBack", spec := "recordBack", apart := false, narrowed := true }
def RecordBackUptoSaid : Prop := recordBackUptoRow.holds Try.pinned (OpenSpec.upto recordBackSpec)

/-- 'testimonykeep.RecordBit', WHERE WHAT IT READS IS OF BULK AT MOST 1048576: true; the input reads as it did. -/
def recordBitUptoRow : OpenClaim := { program := "ytdpeadmfalhbfaa", sum := "6b8b9df70d96c249b16de9d5e39fc4b6d160086363fdb8980fec3f378d388a6f", func := "testimony/testimonykeep.RecordBit", spec := "recordBit", apart := false, narrowed := true }
def RecordBitUptoSaid : Prop := recordBitUptoRow.holds Try.pinned (OpenSpec.upto recordBitSpec)

/-- 'testimonykeep.RecordCrash', WHERE WHAT IT READS IS OF BULK AT MOST 1048576: true; the input reads as it did. -/
def recordCrashUptoRow : OpenClaim := { program := "ytdpeadmfalhbfaa", sum := "6b8b9df70d96c249b16de9d5e39fc4b6d160086363fdb8980fec3f378d388a6f", func := "testimony/testimonykeep.RecordCrash", spec := "recordCrash", apart := false, narrowed := true }
def RecordCrashUptoSaid : Prop := recordCrashUptoRow.holds Try.pinned (OpenSpec.upto recordCrashSpec)

/-- 'testimonykeep.RecordOrder', WHERE WHAT IT READS IS OF BULK AT MOST 1048576: true; the input reads as it did. -/
def recordOrderUptoRow : OpenClaim := { program := "ytdpeadmfalhbfaa", sum := "6b8b9df70d96c249b16de9d5e39fc4b6d160086363fdb8980fec3f378d388a6f", func := "testimony/testimonykeep.RecordOrder", spec := "recordOrder", unfollowed := true, recurses := true, apart := false, narrowed := true }
def RecordOrderUptoSaid : Prop := recordOrderUptoRow.holds Try.pinned (OpenSpec.upto recordOrderSpec)

end Rows
end Go.Proofs.Ytdpeadmfalhbfaa
