/- Numbers as values. -/
import Derived.Test.YtidnlnlmmnkgoaaDoorBase
namespace Go.Proofs.YtidnlnlmmnkgoaaDoor
def natV (l : List Nat) : List Value := l.map fun i => Value.int .i64 (i : Nat)
end Go.Proofs.YtidnlnlmmnkgoaaDoor
