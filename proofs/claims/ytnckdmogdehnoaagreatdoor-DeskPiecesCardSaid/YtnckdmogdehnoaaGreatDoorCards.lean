/-
  DERIVED. GIVEN WITH THE SEED: THE CARDS: each row of YtnckdmogdehnoaaGreatDoorRows.lean that lists a variable, with what it lists TIED to the program's text (the seventh form; the later family's looks); each row that meets fmt, with fmt's text TOLD by the authors' own Lean function (tested against real Go, not proved from fmt's source: count such statements apart). THE CARD IS WHAT COUNTS. Prove the row's statement (the work); the ties are given (YtnckdmogdehnoaaGreatDoorTie.lean); close each card by the builder's one call (the guide's Derived/Test/ToyasCard.lean, 'card_holds'). Laid BY PROGRAM, IN A SANDBOX (cutbox-door.mjs). By AI agents, Wed Nov 11 2026. No macro, syntax, notation, axiom, sorry.
-/
import Derived.Test.YtnckdmogdehnoaaGreatDoorRows
import GoSem.ClaimSeven
namespace Go.Proofs.YtnckdmogdehnoaaGreatDoor
namespace Rows

/-- THE TIED CARD OF 'testimonykeep.DeskPieces'. -/
def deskPiecesCard : Claim7 := { stood := { row := deskPiecesRow, standIns := [], harness := (true, "4875a04ba3605ce7348eb341d0a1a99e0a9dd43a9698101a93628639e88243d1"), looks := true }, kinds := [], alts := [], laidByText := true, laidKinds := [.data, .data, .data, .data, .handle, .sentinel, .sentinel, .data, .listed, .data, .pinned], laidTests := true, laidLooks := .later }
def DeskPiecesCardSaid : Prop := Claim7.holds Tryz.pinned (.plain (OpenSpec.ofChange deskPiecesSpec)) deskPiecesCard

/-- THE SECOND FORM's CARD OF 'testimonykeep.DeskPieces'. -/
def deskPiecesUptoCard : Claim7 := { stood := { row := deskPiecesUptoRow, standIns := [], harness := (true, "4875a04ba3605ce7348eb341d0a1a99e0a9dd43a9698101a93628639e88243d1"), looks := true }, kinds := [], alts := [], laidByText := true, laidKinds := [.data, .data, .data, .data, .handle, .sentinel, .sentinel, .data, .listed, .data, .pinned], laidTests := true, laidLooks := .later }
def DeskPiecesUptoCardSaid : Prop := Claim7.holds Tryz.pinned (.plain (OpenSpec.upto deskPiecesSpec)) deskPiecesUptoCard
end Rows
end Go.Proofs.YtnckdmogdehnoaaGreatDoor
