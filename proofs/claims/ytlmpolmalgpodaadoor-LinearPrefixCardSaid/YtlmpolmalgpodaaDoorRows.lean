/-
  NARROWER THAN 'FOR EVERY INPUT', by the rows' own cells (each row's printed sentence says how): ModelBack: laid · EventFits: laid · LinearWitness: laid · LinearComplete: laid · LinearBudget: laid · LinearSequential: laid · LinearWider: laid · LinearPrefix: laid.
  DERIVED. THE GIVEN ROWS OF THIS SEAT. 8 by the template 'for every input the law returns true; each argument reads behind the call as it read before'; 0 by the template 'total and deterministic' (their statements: YtlmpolmalgpodaaDoorTotals.lean).
  GIVEN WITH THE SEED: the statements are not yours to turn. If you find one false, say at which input.
  Laid BY PROGRAM, IN A SANDBOX (cutbox-rows.mjs): the forced cells as the released guide's own fill.sh prints them over the translation 475da2e8363c62e5… (all of the seat's roots in one cut). By AI agents, Wed Nov 11 2026. No macro, syntax, notation, axiom, sorry.
-/
import Derived.Test.YtlmpolmalgpodaaDoorChecked
import GoSem.Claim
import GoSem.ClaimJoined
import GoSem.ClaimMapViews
import Derived.JoinedTies
import Derived.KernelRfl
namespace Go.Proofs.YtlmpolmalgpodaaDoor
/- THE CELL 'sum', in the pinned program and in every row, IS THE sha256 OF THE DUMP (.gsa) THAT YtlmpolmalgpodaaDoorProg.lean LOADS. Nothing in Lean hashes anything: it is a label: what it is worth is what the hold of that sum in a sandbox is worth. -/
noncomputable def Tryd.pinned : Pinned := { name := "ytlmpolmalgpodaadoor", sum := "475da2e8363c62e5676b12932a7a666df411286be20a92cc020015b1d2e8a252", checked := Tryd.checked }
namespace Rows
def none {H : Type} : Left H := { results := [], args := [] }

/- WHAT THE LISTED PACKAGE-LEVEL VARIABLES READ AS WHEN THE CALL BEGINS. Each datum BY PROGRAM (the guide's laid-datum.mjs) off the statement by which the dump's own 'gosem.cut.vars' lays the variable. In a bare row this is a premise. The card (YtlmpolmalgpodaaDoorCards.lean) ties it to the program's text. -/
def laid_testimony_model_knows {H : Type} : DataW H := .agg [.lit (.int .i64 0), .lit (.int .i64 14), .lit (.int .i64 48), .lit (.int .i64 448), .lit (.int .i64 1536), .lit (.int .i64 1536), .lit (.int .i64 6144)]
def laid_errors_errorType {H : Type} : DataW H := .iface "internal/reflectlite.rtype" (.agg [.ptr (.lit (.string [101, 114, 114, 111, 114]))])
def laid_math_bits_deBruijn32tab {H : Type} : DataW H := .agg [.lit (.int .u8 0), .lit (.int .u8 1), .lit (.int .u8 28), .lit (.int .u8 2), .lit (.int .u8 29), .lit (.int .u8 14), .lit (.int .u8 24), .lit (.int .u8 3), .lit (.int .u8 30), .lit (.int .u8 22), .lit (.int .u8 20), .lit (.int .u8 15), .lit (.int .u8 25), .lit (.int .u8 17), .lit (.int .u8 4), .lit (.int .u8 8), .lit (.int .u8 31), .lit (.int .u8 27), .lit (.int .u8 13), .lit (.int .u8 23), .lit (.int .u8 21), .lit (.int .u8 19), .lit (.int .u8 16), .lit (.int .u8 7), .lit (.int .u8 26), .lit (.int .u8 12), .lit (.int .u8 18), .lit (.int .u8 6), .lit (.int .u8 11), .lit (.int .u8 5), .lit (.int .u8 10), .lit (.int .u8 9)]
def laid_math_bits_deBruijn64tab {H : Type} : DataW H := .agg [.lit (.int .u8 0), .lit (.int .u8 1), .lit (.int .u8 56), .lit (.int .u8 2), .lit (.int .u8 57), .lit (.int .u8 49), .lit (.int .u8 28), .lit (.int .u8 3), .lit (.int .u8 61), .lit (.int .u8 58), .lit (.int .u8 42), .lit (.int .u8 50), .lit (.int .u8 38), .lit (.int .u8 29), .lit (.int .u8 17), .lit (.int .u8 4), .lit (.int .u8 62), .lit (.int .u8 47), .lit (.int .u8 59), .lit (.int .u8 36), .lit (.int .u8 45), .lit (.int .u8 43), .lit (.int .u8 51), .lit (.int .u8 22), .lit (.int .u8 53), .lit (.int .u8 39), .lit (.int .u8 33), .lit (.int .u8 30), .lit (.int .u8 24), .lit (.int .u8 18), .lit (.int .u8 12), .lit (.int .u8 5), .lit (.int .u8 63), .lit (.int .u8 55), .lit (.int .u8 48), .lit (.int .u8 27), .lit (.int .u8 60), .lit (.int .u8 41), .lit (.int .u8 37), .lit (.int .u8 16), .lit (.int .u8 46), .lit (.int .u8 35), .lit (.int .u8 44), .lit (.int .u8 21), .lit (.int .u8 52), .lit (.int .u8 32), .lit (.int .u8 23), .lit (.int .u8 11), .lit (.int .u8 54), .lit (.int .u8 26), .lit (.int .u8 40), .lit (.int .u8 15), .lit (.int .u8 34), .lit (.int .u8 20), .lit (.int .u8 31), .lit (.int .u8 10), .lit (.int .u8 25), .lit (.int .u8 14), .lit (.int .u8 19), .lit (.int .u8 9), .lit (.int .u8 13), .lit (.int .u8 8), .lit (.int .u8 7), .lit (.int .u8 6)]
def laid_internal_strconv_uint64pow10 {H : Type} : DataW H := .agg [.lit (.int .u64 1), .lit (.int .u64 10), .lit (.int .u64 100), .lit (.int .u64 1000), .lit (.int .u64 10000), .lit (.int .u64 100000), .lit (.int .u64 1000000), .lit (.int .u64 10000000), .lit (.int .u64 100000000), .lit (.int .u64 1000000000), .lit (.int .u64 10000000000), .lit (.int .u64 100000000000), .lit (.int .u64 1000000000000), .lit (.int .u64 10000000000000), .lit (.int .u64 100000000000000), .lit (.int .u64 1000000000000000), .lit (.int .u64 10000000000000000), .lit (.int .u64 100000000000000000), .lit (.int .u64 1000000000000000000), .lit (.int .u64 10000000000000000000)]

/-- 'testimonykeep.ModelBack': WHATEVER THE INPUT: true; the input reads as it did. -/
def modelBackSpec : ChangeSpec := { name := "modelBack", fn := fun _ => fun
  | [d1, d2, d3] => { results := [.lit (.bool true)], args := [d1, d2, d3] }
  | _ => none }
def modelBackRow : OpenClaim := { program := "ytlmpolmalgpodaadoor", sum := "475da2e8363c62e5676b12932a7a666df411286be20a92cc020015b1d2e8a252", func := "testimony/testimonykeep.ModelBack", spec := "modelBack", inPlace := ["slices.overlaps[int]"], named := ["testimony/model.knows"], apart := false, laid := [("testimony/model.knows", laid_testimony_model_knows)] }
def ModelBackSaid : Prop := modelBackRow.holds Tryd.pinned (OpenSpec.ofChange modelBackSpec)

/-- ITS FALSE NEIGHBOUR: 'it returns false'. Refute it at one input. -/
def modelBackWrong : ChangeSpec := { name := "modelBack", fn := fun _ => fun
  | [d1, d2, d3] => { results := [.lit (.bool false)], args := [d1, d2, d3] }
  | _ => none }
def ModelBackWrongFalsely : Prop := modelBackRow.holds Tryd.pinned (OpenSpec.ofChange modelBackWrong)

/-- 'testimonykeep.EventFits': WHATEVER THE INPUT: true; the input reads as it did. -/
def eventFitsSpec : ChangeSpec := { name := "eventFits", fn := fun _ => fun
  | [d] => { results := [.lit (.bool true)], args := [d] }
  | _ => none }
def eventFitsRow : OpenClaim := { program := "ytlmpolmalgpodaadoor", sum := "475da2e8363c62e5676b12932a7a666df411286be20a92cc020015b1d2e8a252", func := "testimony/testimonykeep.EventFits", spec := "eventFits", inPlace := ["internal/reflectlite.ValueOf", "(internal/reflectlite.Value).Type", "(internal/reflectlite.Value).IsNil", "internal/reflectlite.TypeOf", "(internal/reflectlite.Value).Elem", "(internal/reflectlite.Value).Set"], unfollowed := true, recurses := true, named := ["errors.errorType"], apart := false, laid := [("errors.errorType", laid_errors_errorType)] }
def EventFitsSaid : Prop := eventFitsRow.holds Tryd.pinned (OpenSpec.ofChange eventFitsSpec)

/-- ITS FALSE NEIGHBOUR: 'it returns false'. Refute it at one input. -/
def eventFitsWrong : ChangeSpec := { name := "eventFits", fn := fun _ => fun
  | [d] => { results := [.lit (.bool false)], args := [d] }
  | _ => none }
def EventFitsWrongFalsely : Prop := eventFitsRow.holds Tryd.pinned (OpenSpec.ofChange eventFitsWrong)

/-- 'testimonykeep.LinearWitness': WHATEVER THE INPUT: true; the input reads as it did. -/
def linearWitnessSpec : ChangeSpec := { name := "linearWitness", fn := fun _ => fun
  | [d1, d2] => { results := [.lit (.bool true)], args := [d1, d2] }
  | _ => none }
def linearWitnessRow : OpenClaim := { program := "ytlmpolmalgpodaadoor", sum := "475da2e8363c62e5676b12932a7a666df411286be20a92cc020015b1d2e8a252", func := "testimony/testimonykeep.LinearWitness", spec := "linearWitness", inPlace := ["slices.overlaps[int]"], unfollowed := true, recurses := true, named := ["testimony/model.knows", "internal/strconv.uint64pow10", "math/bits.deBruijn32tab", "math/bits.deBruijn64tab"], apart := false, laid := [("math/bits.deBruijn32tab", laid_math_bits_deBruijn32tab), ("math/bits.deBruijn64tab", laid_math_bits_deBruijn64tab), ("internal/strconv.uint64pow10", laid_internal_strconv_uint64pow10), ("testimony/model.knows", laid_testimony_model_knows)] }
def LinearWitnessSaid : Prop := linearWitnessRow.holds Tryd.pinned (OpenSpec.ofChange linearWitnessSpec)

/-- ITS FALSE NEIGHBOUR: 'it returns false'. Refute it at one input. -/
def linearWitnessWrong : ChangeSpec := { name := "linearWitness", fn := fun _ => fun
  | [d1, d2] => { results := [.lit (.bool false)], args := [d1, d2] }
  | _ => none }
def LinearWitnessWrongFalsely : Prop := linearWitnessRow.holds Tryd.pinned (OpenSpec.ofChange linearWitnessWrong)

/-- 'testimonykeep.LinearComplete': WHATEVER THE INPUT: true; the input reads as it did. -/
def linearCompleteSpec : ChangeSpec := { name := "linearComplete", fn := fun _ => fun
  | [d1, d2, d3, d4] => { results := [.lit (.bool true)], args := [d1, d2, d3, d4] }
  | _ => none }
def linearCompleteRow : OpenClaim := { program := "ytlmpolmalgpodaadoor", sum := "475da2e8363c62e5676b12932a7a666df411286be20a92cc020015b1d2e8a252", func := "testimony/testimonykeep.LinearComplete", spec := "linearComplete", inPlace := ["slices.overlaps[int]"], unfollowed := true, recurses := true, named := ["testimony/model.knows", "internal/strconv.uint64pow10", "math/bits.deBruijn32tab", "math/bits.deBruijn64tab"], apart := false, laid := [("math/bits.deBruijn32tab", laid_math_bits_deBruijn32tab), ("math/bits.deBruijn64tab", laid_math_bits_deBruijn64tab), ("internal/strconv.uint64pow10", laid_internal_strconv_uint64pow10), ("testimony/model.knows", laid_testimony_model_knows)] }
def LinearCompleteSaid : Prop := linearCompleteRow.holds Tryd.pinned (OpenSpec.ofChange linearCompleteSpec)

/-- ITS FALSE NEIGHBOUR: 'it returns false'. Refute it at one input. -/
def linearCompleteWrong : ChangeSpec := { name := "linearComplete", fn := fun _ => fun
  | [d1, d2, d3, d4] => { results := [.lit (.bool false)], args := [d1, d2, d3, d4] }
  | _ => none }
def LinearCompleteWrongFalsely : Prop := linearCompleteRow.holds Tryd.pinned (OpenSpec.ofChange linearCompleteWrong)

/-- 'testimonykeep.LinearBudget': WHATEVER THE INPUT: true; the input reads as it did. -/
def linearBudgetSpec : ChangeSpec := { name := "linearBudget", fn := fun _ => fun
  | [d1, d2, d3, d4] => { results := [.lit (.bool true)], args := [d1, d2, d3, d4] }
  | _ => none }
def linearBudgetRow : OpenClaim := { program := "ytlmpolmalgpodaadoor", sum := "475da2e8363c62e5676b12932a7a666df411286be20a92cc020015b1d2e8a252", func := "testimony/testimonykeep.LinearBudget", spec := "linearBudget", inPlace := ["slices.overlaps[int]"], unfollowed := true, recurses := true, named := ["testimony/model.knows", "internal/strconv.uint64pow10", "math/bits.deBruijn32tab", "math/bits.deBruijn64tab"], apart := false, laid := [("math/bits.deBruijn32tab", laid_math_bits_deBruijn32tab), ("math/bits.deBruijn64tab", laid_math_bits_deBruijn64tab), ("internal/strconv.uint64pow10", laid_internal_strconv_uint64pow10), ("testimony/model.knows", laid_testimony_model_knows)] }
def LinearBudgetSaid : Prop := linearBudgetRow.holds Tryd.pinned (OpenSpec.ofChange linearBudgetSpec)

/-- ITS FALSE NEIGHBOUR: 'it returns false'. Refute it at one input. -/
def linearBudgetWrong : ChangeSpec := { name := "linearBudget", fn := fun _ => fun
  | [d1, d2, d3, d4] => { results := [.lit (.bool false)], args := [d1, d2, d3, d4] }
  | _ => none }
def LinearBudgetWrongFalsely : Prop := linearBudgetRow.holds Tryd.pinned (OpenSpec.ofChange linearBudgetWrong)

/-- 'testimonykeep.LinearSequential': WHATEVER THE INPUT: true; the input reads as it did. -/
def linearSequentialSpec : ChangeSpec := { name := "linearSequential", fn := fun _ => fun
  | [d1, d2] => { results := [.lit (.bool true)], args := [d1, d2] }
  | _ => none }
def linearSequentialRow : OpenClaim := { program := "ytlmpolmalgpodaadoor", sum := "475da2e8363c62e5676b12932a7a666df411286be20a92cc020015b1d2e8a252", func := "testimony/testimonykeep.LinearSequential", spec := "linearSequential", inPlace := ["slices.overlaps[int]"], unfollowed := true, recurses := true, named := ["testimony/model.knows", "internal/strconv.uint64pow10", "math/bits.deBruijn32tab", "math/bits.deBruijn64tab"], apart := false, laid := [("math/bits.deBruijn32tab", laid_math_bits_deBruijn32tab), ("math/bits.deBruijn64tab", laid_math_bits_deBruijn64tab), ("internal/strconv.uint64pow10", laid_internal_strconv_uint64pow10), ("testimony/model.knows", laid_testimony_model_knows)] }
def LinearSequentialSaid : Prop := linearSequentialRow.holds Tryd.pinned (OpenSpec.ofChange linearSequentialSpec)

/-- ITS FALSE NEIGHBOUR: 'it returns false'. Refute it at one input. -/
def linearSequentialWrong : ChangeSpec := { name := "linearSequential", fn := fun _ => fun
  | [d1, d2] => { results := [.lit (.bool false)], args := [d1, d2] }
  | _ => none }
def LinearSequentialWrongFalsely : Prop := linearSequentialRow.holds Tryd.pinned (OpenSpec.ofChange linearSequentialWrong)

/-- 'testimonykeep.LinearWider': WHATEVER THE INPUT: true; the input reads as it did. -/
def linearWiderSpec : ChangeSpec := { name := "linearWider", fn := fun _ => fun
  | [d1, d2, d3, d4, d5] => { results := [.lit (.bool true)], args := [d1, d2, d3, d4, d5] }
  | _ => none }
def linearWiderRow : OpenClaim := { program := "ytlmpolmalgpodaadoor", sum := "475da2e8363c62e5676b12932a7a666df411286be20a92cc020015b1d2e8a252", func := "testimony/testimonykeep.LinearWider", spec := "linearWider", inPlace := ["slices.overlaps[int]"], unfollowed := true, recurses := true, named := ["testimony/model.knows", "internal/strconv.uint64pow10", "math/bits.deBruijn32tab", "math/bits.deBruijn64tab"], apart := false, laid := [("math/bits.deBruijn32tab", laid_math_bits_deBruijn32tab), ("math/bits.deBruijn64tab", laid_math_bits_deBruijn64tab), ("internal/strconv.uint64pow10", laid_internal_strconv_uint64pow10), ("testimony/model.knows", laid_testimony_model_knows)] }
def LinearWiderSaid : Prop := linearWiderRow.holds Tryd.pinned (OpenSpec.ofChange linearWiderSpec)

/-- ITS FALSE NEIGHBOUR: 'it returns false'. Refute it at one input. -/
def linearWiderWrong : ChangeSpec := { name := "linearWider", fn := fun _ => fun
  | [d1, d2, d3, d4, d5] => { results := [.lit (.bool false)], args := [d1, d2, d3, d4, d5] }
  | _ => none }
def LinearWiderWrongFalsely : Prop := linearWiderRow.holds Tryd.pinned (OpenSpec.ofChange linearWiderWrong)

/-- 'testimonykeep.LinearPrefix': WHATEVER THE INPUT: true; the input reads as it did. -/
def linearPrefixSpec : ChangeSpec := { name := "linearPrefix", fn := fun _ => fun
  | [d1, d2, d3] => { results := [.lit (.bool true)], args := [d1, d2, d3] }
  | _ => none }
def linearPrefixRow : OpenClaim := { program := "ytlmpolmalgpodaadoor", sum := "475da2e8363c62e5676b12932a7a666df411286be20a92cc020015b1d2e8a252", func := "testimony/testimonykeep.LinearPrefix", spec := "linearPrefix", inPlace := ["internal/reflectlite.ValueOf", "(internal/reflectlite.Value).Type", "(internal/reflectlite.Value).IsNil", "internal/reflectlite.TypeOf", "(internal/reflectlite.Value).Elem", "(internal/reflectlite.Value).Set", "slices.overlaps[int]"], unfollowed := true, recurses := true, named := ["errors.errorType", "testimony/model.knows", "internal/strconv.uint64pow10", "math/bits.deBruijn32tab", "math/bits.deBruijn64tab"], apart := false, laid := [("math/bits.deBruijn32tab", laid_math_bits_deBruijn32tab), ("math/bits.deBruijn64tab", laid_math_bits_deBruijn64tab), ("internal/strconv.uint64pow10", laid_internal_strconv_uint64pow10), ("errors.errorType", laid_errors_errorType), ("testimony/model.knows", laid_testimony_model_knows)] }
def LinearPrefixSaid : Prop := linearPrefixRow.holds Tryd.pinned (OpenSpec.ofChange linearPrefixSpec)

/-- ITS FALSE NEIGHBOUR: 'it returns false'. Refute it at one input. -/
def linearPrefixWrong : ChangeSpec := { name := "linearPrefix", fn := fun _ => fun
  | [d1, d2, d3] => { results := [.lit (.bool false)], args := [d1, d2, d3] }
  | _ => none }
def LinearPrefixWrongFalsely : Prop := linearPrefixRow.holds Tryd.pinned (OpenSpec.ofChange linearPrefixWrong)

/- THE SECOND FORM. 'bulk': how many values and letters a reading holds, each counted each time it is reached (what is shared counts as often as it is met; a slice's spare places count too). A statement '..UptoSaid' is the law's where the arguments, and the package variables that the reading takes, are together of bulk at most 1048576: NARROWER than '..Said'. Prove '..Said' where nothing that the law and all that it calls make is longer than what came in: it says more and counts as full. Else prove '..UptoSaid'. A law counts once. -/
mutual
def uptoBulk {H : Type} : DataW H → Nat
  | .lit (.string bytes) => bytes.length + 1
  | .lit _ => 1
  | .nil => 1
  | .ptr d => uptoBulk d + 1
  | .slice elems spare => uptoBulkAll elems + uptoBulkAll spare + 1
  | .agg parts => uptoBulkAll parts + 1
  | .iface _ d => uptoBulk d + 1
  | .map entries => uptoBulkEntries entries + 1
  | .held _ => 1
def uptoBulkAll {H : Type} : List (DataW H) → Nat
  | [] => 0
  | d :: r => uptoBulk d + uptoBulkAll r
def uptoBulkEntries {H : Type} : List (Lit × DataW H) → Nat
  | [] => 0
  | x :: r => uptoBulkEntry x + uptoBulkEntries r
def uptoBulkEntry {H : Type} : Lit × DataW H → Nat
  | (.string bytes, d) => bytes.length + uptoBulk d + 1
  | (_, d) => uptoBulk d + 1
 end
def uptoSmall : (H : Type) → List (DataW H) → Bool := fun _ ds => decide (uptoBulkAll ds ≤ 1048576)
def OpenSpec.upto (s : _root_.Go.ChangeSpec) : _root_.Go.OpenSpec := { _root_.Go.OpenSpec.ofChange s with cond := some uptoSmall }

/-- 'testimonykeep.ModelBack', WHERE WHAT IT READS IS OF BULK AT MOST 1048576: true; the input reads as it did. -/
def modelBackUptoRow : OpenClaim := { program := "ytlmpolmalgpodaadoor", sum := "475da2e8363c62e5676b12932a7a666df411286be20a92cc020015b1d2e8a252", func := "testimony/testimonykeep.ModelBack", spec := "modelBack", inPlace := ["slices.overlaps[int]"], named := ["testimony/model.knows"], apart := false, laid := [("testimony/model.knows", laid_testimony_model_knows)], narrowed := true }
def ModelBackUptoSaid : Prop := modelBackUptoRow.holds Tryd.pinned (OpenSpec.upto modelBackSpec)

/-- 'testimonykeep.EventFits', WHERE WHAT IT READS IS OF BULK AT MOST 1048576: true; the input reads as it did. -/
def eventFitsUptoRow : OpenClaim := { program := "ytlmpolmalgpodaadoor", sum := "475da2e8363c62e5676b12932a7a666df411286be20a92cc020015b1d2e8a252", func := "testimony/testimonykeep.EventFits", spec := "eventFits", inPlace := ["internal/reflectlite.ValueOf", "(internal/reflectlite.Value).Type", "(internal/reflectlite.Value).IsNil", "internal/reflectlite.TypeOf", "(internal/reflectlite.Value).Elem", "(internal/reflectlite.Value).Set"], unfollowed := true, recurses := true, named := ["errors.errorType"], apart := false, laid := [("errors.errorType", laid_errors_errorType)], narrowed := true }
def EventFitsUptoSaid : Prop := eventFitsUptoRow.holds Tryd.pinned (OpenSpec.upto eventFitsSpec)

/-- 'testimonykeep.LinearWitness', WHERE WHAT IT READS IS OF BULK AT MOST 1048576: true; the input reads as it did. -/
def linearWitnessUptoRow : OpenClaim := { program := "ytlmpolmalgpodaadoor", sum := "475da2e8363c62e5676b12932a7a666df411286be20a92cc020015b1d2e8a252", func := "testimony/testimonykeep.LinearWitness", spec := "linearWitness", inPlace := ["slices.overlaps[int]"], unfollowed := true, recurses := true, named := ["testimony/model.knows", "internal/strconv.uint64pow10", "math/bits.deBruijn32tab", "math/bits.deBruijn64tab"], apart := false, laid := [("math/bits.deBruijn32tab", laid_math_bits_deBruijn32tab), ("math/bits.deBruijn64tab", laid_math_bits_deBruijn64tab), ("internal/strconv.uint64pow10", laid_internal_strconv_uint64pow10), ("testimony/model.knows", laid_testimony_model_knows)], narrowed := true }
def LinearWitnessUptoSaid : Prop := linearWitnessUptoRow.holds Tryd.pinned (OpenSpec.upto linearWitnessSpec)

/-- 'testimonykeep.LinearComplete', WHERE WHAT IT READS IS OF BULK AT MOST 1048576: true; the input reads as it did. -/
def linearCompleteUptoRow : OpenClaim := { program := "ytlmpolmalgpodaadoor", sum := "475da2e8363c62e5676b12932a7a666df411286be20a92cc020015b1d2e8a252", func := "testimony/testimonykeep.LinearComplete", spec := "linearComplete", inPlace := ["slices.overlaps[int]"], unfollowed := true, recurses := true, named := ["testimony/model.knows", "internal/strconv.uint64pow10", "math/bits.deBruijn32tab", "math/bits.deBruijn64tab"], apart := false, laid := [("math/bits.deBruijn32tab", laid_math_bits_deBruijn32tab), ("math/bits.deBruijn64tab", laid_math_bits_deBruijn64tab), ("internal/strconv.uint64pow10", laid_internal_strconv_uint64pow10), ("testimony/model.knows", laid_testimony_model_knows)], narrowed := true }
def LinearCompleteUptoSaid : Prop := linearCompleteUptoRow.holds Tryd.pinned (OpenSpec.upto linearCompleteSpec)

/-- 'testimonykeep.LinearBudget', WHERE WHAT IT READS IS OF BULK AT MOST 1048576: true; the input reads as it did. -/
def linearBudgetUptoRow : OpenClaim := { program := "ytlmpolmalgpodaadoor", sum := "475da2e8363c62e5676b12932a7a666df411286be20a92cc020015b1d2e8a252", func := "testimony/testimonykeep.LinearBudget", spec := "linearBudget", inPlace := ["slices.overlaps[int]"], unfollowed := true, recurses := true, named := ["testimony/model.knows", "internal/strconv.uint64pow10", "math/bits.deBruijn32tab", "math/bits.deBruijn64tab"], apart := false, laid := [("math/bits.deBruijn32tab", laid_math_bits_deBruijn32tab), ("math/bits.deBruijn64tab", laid_math_bits_deBruijn64tab), ("internal/strconv.uint64pow10", laid_internal_strconv_uint64pow10), ("testimony/model.knows", laid_testimony_model_knows)], narrowed := true }
def LinearBudgetUptoSaid : Prop := linearBudgetUptoRow.holds Tryd.pinned (OpenSpec.upto linearBudgetSpec)

/-- 'testimonykeep.LinearSequential', WHERE WHAT IT READS IS OF BULK AT MOST 1048576: true; the input reads as it did. -/
def linearSequentialUptoRow : OpenClaim := { program := "ytlmpolmalgpodaadoor", sum := "475da2e8363c62e5676b12932a7a666df411286be20a92cc020015b1d2e8a252", func := "testimony/testimonykeep.LinearSequential", spec := "linearSequential", inPlace := ["slices.overlaps[int]"], unfollowed := true, recurses := true, named := ["testimony/model.knows", "internal/strconv.uint64pow10", "math/bits.deBruijn32tab", "math/bits.deBruijn64tab"], apart := false, laid := [("math/bits.deBruijn32tab", laid_math_bits_deBruijn32tab), ("math/bits.deBruijn64tab", laid_math_bits_deBruijn64tab), ("internal/strconv.uint64pow10", laid_internal_strconv_uint64pow10), ("testimony/model.knows", laid_testimony_model_knows)], narrowed := true }
def LinearSequentialUptoSaid : Prop := linearSequentialUptoRow.holds Tryd.pinned (OpenSpec.upto linearSequentialSpec)

/-- 'testimonykeep.LinearWider', WHERE WHAT IT READS IS OF BULK AT MOST 1048576: true; the input reads as it did. -/
def linearWiderUptoRow : OpenClaim := { program := "ytlmpolmalgpodaadoor", sum := "475da2e8363c62e5676b12932a7a666df411286be20a92cc020015b1d2e8a252", func := "testimony/testimonykeep.LinearWider", spec := "linearWider", inPlace := ["slices.overlaps[int]"], unfollowed := true, recurses := true, named := ["testimony/model.knows", "internal/strconv.uint64pow10", "math/bits.deBruijn32tab", "math/bits.deBruijn64tab"], apart := false, laid := [("math/bits.deBruijn32tab", laid_math_bits_deBruijn32tab), ("math/bits.deBruijn64tab", laid_math_bits_deBruijn64tab), ("internal/strconv.uint64pow10", laid_internal_strconv_uint64pow10), ("testimony/model.knows", laid_testimony_model_knows)], narrowed := true }
def LinearWiderUptoSaid : Prop := linearWiderUptoRow.holds Tryd.pinned (OpenSpec.upto linearWiderSpec)

/-- 'testimonykeep.LinearPrefix', WHERE WHAT IT READS IS OF BULK AT MOST 1048576: true; the input reads as it did. -/
def linearPrefixUptoRow : OpenClaim := { program := "ytlmpolmalgpodaadoor", sum := "475da2e8363c62e5676b12932a7a666df411286be20a92cc020015b1d2e8a252", func := "testimony/testimonykeep.LinearPrefix", spec := "linearPrefix", inPlace := ["internal/reflectlite.ValueOf", "(internal/reflectlite.Value).Type", "(internal/reflectlite.Value).IsNil", "internal/reflectlite.TypeOf", "(internal/reflectlite.Value).Elem", "(internal/reflectlite.Value).Set", "slices.overlaps[int]"], unfollowed := true, recurses := true, named := ["errors.errorType", "testimony/model.knows", "internal/strconv.uint64pow10", "math/bits.deBruijn32tab", "math/bits.deBruijn64tab"], apart := false, laid := [("math/bits.deBruijn32tab", laid_math_bits_deBruijn32tab), ("math/bits.deBruijn64tab", laid_math_bits_deBruijn64tab), ("internal/strconv.uint64pow10", laid_internal_strconv_uint64pow10), ("errors.errorType", laid_errors_errorType), ("testimony/model.knows", laid_testimony_model_knows)], narrowed := true }
def LinearPrefixUptoSaid : Prop := linearPrefixUptoRow.holds Tryd.pinned (OpenSpec.upto linearPrefixSpec)

end Rows
end Go.Proofs.YtlmpolmalgpodaaDoor
