/- Part of the proof that a desk answers in pieces. -/
import Derived.Test.YtnckdmogdehnoaaGreatDoorPReg
import Derived.Lib.AtoiAll
import Derived.Lib.ItoaNum
set_option linter.unusedVariables false
namespace Go.Proofs.YtnckdmogdehnoaaGreatDoor
open Go
abbrev Ca := Bool × Int × Int
def belF (nums : List Int) (u : Nat) (n : Int) : Int := IntKind.u64.wrap (nums.getD u 0) % n
abbrev Tok := List UInt8
open Go
end Go.Proofs.YtnckdmogdehnoaaGreatDoor
