/-
  DERIVED. GIVEN WITH THE SEED: THE CARDS: each row of YtglioflpblpmpaaGreatDoorRows.lean that lists a variable, with what it lists TIED to the program's text (the seventh form; the later family's looks); each row that meets fmt, with fmt's text TOLD by the authors' own Lean function (tested against real Go, not proved from fmt's source: count such statements apart). THE CARD IS WHAT COUNTS. Prove the row's statement (the work); the ties are given (YtglioflpblpmpaaGreatDoorTie.lean); close each card by the builder's one call (the guide's Derived/Test/ToyasCard.lean, 'card_holds'). Laid BY PROGRAM, IN A SANDBOX (cutbox-door.mjs). By AI agents, Wed Nov 11 2026. No macro, syntax, notation, axiom, sorry.
-/
import Derived.Test.YtglioflpblpmpaaGreatDoorRows
import GoSem.ClaimSeven
namespace Go.Proofs.YtglioflpblpmpaaGreatDoor
namespace Rows

/-- THE TIED CARD OF 'testimonykeep.StoreLinear'. -/
def storeLinearCard : Claim7 := { stood := { row := storeLinearRow, standIns := [], harness := (true, "8d5568edeab356eee6ceadd14abbf782e9c6611592782dae7a73ce6f0423b16d"), looks := true }, kinds := [], alts := [], laidByText := true, laidKinds := [.data, .data, .data, .handle, .data], laidTests := true, laidLooks := .later }
def StoreLinearCardSaid : Prop := Claim7.holds Tryz.pinned (.plain (OpenSpec.ofChange storeLinearSpec)) storeLinearCard

/-- THE SECOND FORM's CARD OF 'testimonykeep.StoreLinear'. -/
def storeLinearUptoCard : Claim7 := { stood := { row := storeLinearUptoRow, standIns := [], harness := (true, "8d5568edeab356eee6ceadd14abbf782e9c6611592782dae7a73ce6f0423b16d"), looks := true }, kinds := [], alts := [], laidByText := true, laidKinds := [.data, .data, .data, .handle, .data], laidTests := true, laidLooks := .later }
def StoreLinearUptoCardSaid : Prop := Claim7.holds Tryz.pinned (.plain (OpenSpec.upto storeLinearSpec)) storeLinearUptoCard
end Rows
end Go.Proofs.YtglioflpblpmpaaGreatDoor
