/-
  No cell of these rows narrows 'for every input' (looked for: loops, veiled, ifaces, maps, wideKeys, modest, calm, conditions, laid).
  DERIVED. THE GIVEN ROWS OF THIS SEAT. 3 by the template 'for every input the law returns true; each argument reads behind the call as it read before'; 0 by the template 'total and deterministic' (their statements: YtkfciehgjhgmeaaTotals.lean).
  GIVEN WITH THE SEED: the statements are not yours to turn. If you find one false, say at which input.
  Laid BY PROGRAM, IN A SANDBOX (cutbox-rows.mjs): the forced cells as the released guide's own fill.sh prints them over the translation d01399b169bf00c4… (all of the seat's roots in one cut). By AI agents, Wed Nov 11 2026. No macro, syntax, notation, axiom, sorry.
-/
import Derived.Test.YtkfciehgjhgmeaaChecked
import GoSem.Claim
import GoSem.ClaimJoined
import GoSem.ClaimMapViews
import Derived.JoinedTies
import Derived.KernelRfl
namespace Go.Proofs.Ytkfciehgjhgmeaa
/- THE CELL 'sum', in the pinned program and in every row, IS THE sha256 OF THE DUMP (.gsa) THAT YtkfciehgjhgmeaaProg.lean LOADS. Nothing in Lean hashes anything: it is a label: what it is worth is what the hold of that sum in a sandbox is worth. -/
noncomputable def Try.pinned : Pinned := { name := "ytkfciehgjhgmeaa", sum := "d01399b169bf00c4f9d42aa3bc8ad50e9cedf9f37279f34d04e9b7e4ebee3b83", checked := Try.checked }
namespace Rows
def none {H : Type} : Left H := { results := [], args := [] }

/-- 'testimonykeep.MergeLattice': WHATEVER THE INPUT: true; the input reads as it did. -/
def mergeLatticeSpec : ChangeSpec := { name := "mergeLattice", fn := fun _ => fun
  | [d1, d2, d3, d4, d5, d6] => { results := [.lit (.bool true)], args := [d1, d2, d3, d4, d5, d6] }
  | _ => none }
def mergeLatticeRow : OpenClaim := { program := "ytkfciehgjhgmeaa", sum := "d01399b169bf00c4f9d42aa3bc8ad50e9cedf9f37279f34d04e9b7e4ebee3b83", func := "testimony/testimonykeep.MergeLattice", spec := "mergeLattice", unfollowed := true, recurses := true, plainKeys := false, apart := false }
def MergeLatticeSaid : Prop := mergeLatticeRow.holds Try.pinned (OpenSpec.ofChange mergeLatticeSpec)

/-- ITS FALSE NEIGHBOUR: 'it returns false'. Refute it at one input. -/
def mergeLatticeWrong : ChangeSpec := { name := "mergeLattice", fn := fun _ => fun
  | [d1, d2, d3, d4, d5, d6] => { results := [.lit (.bool false)], args := [d1, d2, d3, d4, d5, d6] }
  | _ => none }
def MergeLatticeWrongFalsely : Prop := mergeLatticeRow.holds Try.pinned (OpenSpec.ofChange mergeLatticeWrong)

/-- 'testimonykeep.MergeConverges': WHATEVER THE INPUT: true; the input reads as it did. -/
def mergeConvergesSpec : ChangeSpec := { name := "mergeConverges", fn := fun _ => fun
  | [d1, d2, d3] => { results := [.lit (.bool true)], args := [d1, d2, d3] }
  | _ => none }
def mergeConvergesRow : OpenClaim := { program := "ytkfciehgjhgmeaa", sum := "d01399b169bf00c4f9d42aa3bc8ad50e9cedf9f37279f34d04e9b7e4ebee3b83", func := "testimony/testimonykeep.MergeConverges", spec := "mergeConverges", unfollowed := true, recurses := true, plainKeys := false, apart := false }
def MergeConvergesSaid : Prop := mergeConvergesRow.holds Try.pinned (OpenSpec.ofChange mergeConvergesSpec)

/-- ITS FALSE NEIGHBOUR: 'it returns false'. Refute it at one input. -/
def mergeConvergesWrong : ChangeSpec := { name := "mergeConverges", fn := fun _ => fun
  | [d1, d2, d3] => { results := [.lit (.bool false)], args := [d1, d2, d3] }
  | _ => none }
def MergeConvergesWrongFalsely : Prop := mergeConvergesRow.holds Try.pinned (OpenSpec.ofChange mergeConvergesWrong)

/-- 'testimonykeep.MergeAdds': WHATEVER THE INPUT: true; the input reads as it did. -/
def mergeAddsSpec : ChangeSpec := { name := "mergeAdds", fn := fun _ => fun
  | [d1, d2] => { results := [.lit (.bool true)], args := [d1, d2] }
  | _ => none }
def mergeAddsRow : OpenClaim := { program := "ytkfciehgjhgmeaa", sum := "d01399b169bf00c4f9d42aa3bc8ad50e9cedf9f37279f34d04e9b7e4ebee3b83", func := "testimony/testimonykeep.MergeAdds", spec := "mergeAdds", unfollowed := true, recurses := true, plainKeys := false, apart := false }
def MergeAddsSaid : Prop := mergeAddsRow.holds Try.pinned (OpenSpec.ofChange mergeAddsSpec)

/-- ITS FALSE NEIGHBOUR: 'it returns false'. Refute it at one input. -/
def mergeAddsWrong : ChangeSpec := { name := "mergeAdds", fn := fun _ => fun
  | [d1, d2] => { results := [.lit (.bool false)], args := [d1, d2] }
  | _ => none }
def MergeAddsWrongFalsely : Prop := mergeAddsRow.holds Try.pinned (OpenSpec.ofChange mergeAddsWrong)

/- THE SECOND FORM. 'bulk': how many values and letters a reading holds, each counted each time it is reached (what is shared counts as often as it is met; a slice's spare places count too). A statement '..UptoSaid' is the law's where the arguments, and the package variables that the reading takes, are together of bulk at most 1048576: NARROWER than '..Said'. Prove '..Said' where nothing that the law and all that it calls make is longer than what came in: it says more and counts as full. Else prove '..UptoSaid'. A law counts once. -/
mutual
def uptoBulk {H : Type} : DataW H → Nat
  | .lit (.string bytes) => bytes.length + 1
  | .lit _ => 1
  | .nil => 1
  | .ptr d => uptoBulk d + 1
  | .slice elems spare => uptoBulkAll elems + uptoBulkAll spare + 1
  | .agg parts => uptoBulkAll parts + 1
  | .iface _ d => uptoBulk d + 1
  | .map entries => uptoBulkEntries entries + 1
  | .held _ => 1
def uptoBulkAll {H : Type} : List (DataW H) → Nat
  | [] => 0
  | d :: r => uptoBulk d + uptoBulkAll r
def uptoBulkEntries {H : Type} : List (Lit × DataW H) → Nat
  | [] => 0
  | x :: r => uptoBulkEntry x + uptoBulkEntries r
def uptoBulkEntry {H : Type} : Lit × DataW H → Nat
  | (.string bytes, d) => bytes.length + uptoBulk d + 1
  | (_, d) => uptoBulk d + 1
 end
def uptoSmall : (H : Type) → List (DataW H) → Bool := fun _ ds => decide (uptoBulkAll ds ≤ 1048576)
def OpenSpec.upto (s : _root_.Go.ChangeSpec) : _root_.Go.OpenSpec := { _root_.Go.OpenSpec.ofChange s with cond := some uptoSmall }

/-- 'testimonykeep.MergeLattice', WHERE WHAT IT READS IS OF BULK AT MOST 1048576: true; the input reads as it did. -/
def mergeLatticeUptoRow : OpenClaim := { program := "ytkfciehgjhgmeaa", sum := "d01399b169bf00c4f9d42aa3bc8ad50e9cedf9f37279f34d04e9b7e4ebee3b83", func := "testimony/testimonykeep.MergeLattice", spec := "mergeLattice", unfollowed := true, recurses := true, plainKeys := false, apart := false, narrowed := true }
def MergeLatticeUptoSaid : Prop := mergeLatticeUptoRow.holds Try.pinned (OpenSpec.upto mergeLatticeSpec)

/-- 'testimonykeep.MergeConverges', WHERE WHAT IT READS IS OF BULK AT MOST 1048576: true; the input reads as it did. -/
def mergeConvergesUptoRow : OpenClaim := { program := "ytkfciehgjhgmeaa", sum := "d01399b169bf00c4f9d42aa3bc8ad50e9cedf9f37279f34d04e9b7e4ebee3b83", func := "testimony/testimonykeep.MergeConverges", spec := "mergeConverges", unfollowed := true, recurses := true, plainKeys := false, apart := false, narrowed := true }
def MergeConvergesUptoSaid : Prop := mergeConvergesUptoRow.holds Try.pinned (OpenSpec.upto mergeConvergesSpec)

/-- 'testimonykeep.MergeAdds', WHERE WHAT IT READS IS OF BULK AT MOST 1048576: true; the input reads as it did. -/
def mergeAddsUptoRow : OpenClaim := { program := "ytkfciehgjhgmeaa", sum := "d01399b169bf00c4f9d42aa3bc8ad50e9cedf9f37279f34d04e9b7e4ebee3b83", func := "testimony/testimonykeep.MergeAdds", spec := "mergeAdds", unfollowed := true, recurses := true, plainKeys := false, apart := false, narrowed := true }
def MergeAddsUptoSaid : Prop := mergeAddsUptoRow.holds Try.pinned (OpenSpec.upto mergeAddsSpec)

end Rows
end Go.Proofs.Ytkfciehgjhgmeaa
