/-
  DERIVED. GIVEN WITH THE SEED: THE CARDS: each row of YtlkobbighkiojaaGreatDoorRows.lean that lists a variable, with what it lists TIED to the program's text (the seventh form; the later family's looks); each row that meets fmt, with fmt's text TOLD by the authors' own Lean function (tested against real Go, not proved from fmt's source: count such statements apart). THE CARD IS WHAT COUNTS. Prove the row's statement (the work); the ties are given (YtlkobbighkiojaaGreatDoorTie.lean); close each card by the builder's one call (the guide's Derived/Test/ToyasCard.lean, 'card_holds'). Laid BY PROGRAM, IN A SANDBOX (cutbox-door.mjs). By AI agents, Wed Nov 11 2026. No macro, syntax, notation, axiom, sorry.
-/
import Derived.Test.YtlkobbighkiojaaGreatDoorRows
import GoSem.ClaimSeven
namespace Go.Proofs.YtlkobbighkiojaaGreatDoor
namespace Rows

/-- THE TIED CARD OF 'testimonykeep.FarmBack'. -/
def farmBackCard : Claim7 := { stood := { row := farmBackRow, standIns := [], harness := (true, "f3c88445d68f19bea4da20e0dc6599725955f47479f79a82c5dd2e9b2c3b8799"), looks := true }, kinds := [], alts := [], laidByText := true, laidKinds := [.data, .data, .data, .data, .handle, .sentinel, .sentinel, .data, .listed, .data, .pinned], laidTests := true, laidLooks := .later }
def FarmBackCardSaid : Prop := Claim7.holds Tryz.pinned (.plain (OpenSpec.ofChange farmBackSpec)) farmBackCard

/-- THE SECOND FORM's CARD OF 'testimonykeep.FarmBack'. -/
def farmBackUptoCard : Claim7 := { stood := { row := farmBackUptoRow, standIns := [], harness := (true, "f3c88445d68f19bea4da20e0dc6599725955f47479f79a82c5dd2e9b2c3b8799"), looks := true }, kinds := [], alts := [], laidByText := true, laidKinds := [.data, .data, .data, .data, .handle, .sentinel, .sentinel, .data, .listed, .data, .pinned], laidTests := true, laidLooks := .later }
def FarmBackUptoCardSaid : Prop := Claim7.holds Tryz.pinned (.plain (OpenSpec.upto farmBackSpec)) farmBackUptoCard
end Rows
end Go.Proofs.YtlkobbighkiojaaGreatDoor
