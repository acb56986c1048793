/-
  DERIVED. GIVEN WITH THE SEED: THE CARDS: each row of YtidnlnlmmnkgoaaDoorRows.lean that lists a variable, with what it lists TIED to the program's text (the seventh form; the later family's looks); each row that meets fmt, with fmt's text TOLD by the authors' own Lean function (tested against real Go, not proved from fmt's source: count such statements apart). THE CARD IS WHAT COUNTS. Prove the row's statement (the work); the ties are given (YtidnlnlmmnkgoaaDoorTie.lean); close each card by the builder's one call (the guide's Derived/Test/ToyasCard.lean, 'card_holds'). Laid BY PROGRAM, IN A SANDBOX (cutbox-door.mjs). By AI agents, Wed Nov 11 2026. No macro, syntax, notation, axiom, sorry.
-/
import Derived.Test.YtidnlnlmmnkgoaaDoorRows
import GoSem.ClaimSeven
namespace Go.Proofs.YtidnlnlmmnkgoaaDoor
namespace Rows

/-- THE TIED CARD OF 'testimonykeep.LockTwoPhase'. -/
def lockTwoPhaseCard : Claim7 := { stood := { row := lockTwoPhaseRow, standIns := [], harness := (true, "71ad4ac52a66f1660844079406f57454860b61b954f557504ea8976d14b2b9cd"), looks := true }, kinds := [], alts := [], laidByText := true, laidKinds := [.handle], laidTests := true, laidLooks := .later }
def LockTwoPhaseCardSaid : Prop := Claim7.holds Tryd.pinned (.plain (OpenSpec.ofChange lockTwoPhaseSpec)) lockTwoPhaseCard

/-- THE SECOND FORM's CARD OF 'testimonykeep.LockTwoPhase'. -/
def lockTwoPhaseUptoCard : Claim7 := { stood := { row := lockTwoPhaseUptoRow, standIns := [], harness := (true, "71ad4ac52a66f1660844079406f57454860b61b954f557504ea8976d14b2b9cd"), looks := true }, kinds := [], alts := [], laidByText := true, laidKinds := [.handle], laidTests := true, laidLooks := .later }
def LockTwoPhaseUptoCardSaid : Prop := Claim7.holds Tryd.pinned (.plain (OpenSpec.upto lockTwoPhaseSpec)) lockTwoPhaseUptoCard
end Rows
end Go.Proofs.YtidnlnlmmnkgoaaDoor
