/- Numbers as values. -/
import Derived.Test.YtgkmlnbnjbpodaaDoorBase
namespace Go.Proofs.YtgkmlnbnjbpodaaDoor
def natV (l : List Nat) : List Value := l.map fun i => Value.int .i64 (i : Nat)
end Go.Proofs.YtgkmlnbnjbpodaaDoor
