/- What the laid variable holds. -/
import Derived.Test.YtgkmlnbnjbpodaaDoorTell
namespace Go.Proofs.YtgkmlnbnjbpodaaDoor
open Go.RowKit
abbrev GlobOk (w : World) : Prop := w.cell? ⟨0, 0, none⟩ = some (.iface 102 (.agg #[hdl 25]))
end Go.Proofs.YtgkmlnbnjbpodaaDoor
