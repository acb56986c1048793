/- What the row's list gives a walk: the table model.knows; a world that meets it. -/
import Derived.Test.YtlmpolmalgpodaaDoorRows
import Derived.Test.YtlmpolmalgpodaaDoorMod1
import Derived.ChangeSame
import Derived.ChangeVars
import Derived.JoinedOf
import Derived.RowKit
import Derived.RowKitTokens
import Derived.LaidLaws
import Derived.LaidHandle
import Derived.Lib.LaidTab
import Derived.Stop.Joined
import Derived.Stop.LaidErr
namespace Go.Proofs.YtlmpolmalgpodaaDoor
open Go Go.ChangeShapes Go.WideShapes Go.RowKit
abbrev laidL : List (String × DataW Unit) := [("testimony/model.knows", Rows.laid_testimony_model_knows)]
theorem knG_ : Tryd.prog.globalNamed "testimony/model.knows" = some 0 := by kernel_rfl
theorem knows_of_laid {W : World} (h : laidMetH Tryd.prog laidL W) : KnOk W := by
  have h' : laidMet Tryd.prog [("testimony/model.knows", Lib.tabData .i64 knT)] W := h
  have ht := Lib.tabIs_of_head (k := .i64) (zs := knT) knG_ (t := 79) (by kernel_rfl) Tryd.underlying79 Tryd.underlying3 (by kernel_rfl) (by kernel_rfl) h'
  exact fun i hi => ht.cell knG_ i (by simpa [knT] using hi)
/-- A world that meets the condition: the settled one, the variable's cells laid. -/
noncomputable def laidWorld (os : Os) : World :=
  { World.holding Tryd.prog os ⟨#[], #[], []⟩ with heap := (World.holding Tryd.prog os ⟨#[], #[], []⟩).heap.modify 0 fun
      | .cells _ t frozen => .cells #[.int .i64 0, .int .i64 14, .int .i64 48, .int .i64 448, .int .i64 1536, .int .i64 1536, .int .i64 6144] t frozen
      | o => o }
theorem laidWorld_met (os : Os) (args : Array Value) : laidMetH Tryd.prog laidL ((laidWorld os).forCall (fun _ _ => 0) ⟨#[], args, []⟩).memory := by
  have h : laidMet Tryd.prog laidL ((laidWorld os).forCall (fun _ _ => 0) ⟨#[], args, []⟩).memory :=
    laidMet_of_run (ps := [.cell 0 0, .cell 0 1, .cell 0 2, .cell 0 3, .cell 0 4, .cell 0 5, .cell 0 6]) 8 (by kernel_rfl) (by kernel_rfl) (by kernel_rfl)
  exact h
end Go.Proofs.YtlmpolmalgpodaaDoor
