/- What the laid variable holds. -/
import Derived.Test.YtidnlnlmmnkgoaaDoorTell
namespace Go.Proofs.YtidnlnlmmnkgoaaDoor
open Go.RowKit
abbrev GlobOk (w : World) : Prop := w.cell? ⟨0, 0, none⟩ = some (.iface 110 (.agg #[hdl 29]))
end Go.Proofs.YtidnlnlmmnkgoaaDoor
