/-
  DERIVED. GIVEN WITH THE SEED: THE CARDS: each row of YtfjcghhjlmfggaaGreatDoorRows.lean that lists a variable, with what it lists TIED to the program's text (the seventh form; the later family's looks); each row that meets fmt, with fmt's text TOLD by the authors' own Lean function (tested against real Go, not proved from fmt's source: count such statements apart). THE CARD IS WHAT COUNTS. Prove the row's statement (the work); the ties are given (YtfjcghhjlmfggaaGreatDoorTie.lean); close each card by the builder's one call (the guide's Derived/Test/ToyasCard.lean, 'card_holds'). Laid BY PROGRAM, IN A SANDBOX (cutbox-door.mjs). By AI agents, Wed Nov 11 2026. No macro, syntax, notation, axiom, sorry.
-/
import Derived.Test.YtfjcghhjlmfggaaGreatDoorRows
import GoSem.ClaimSeven
namespace Go.Proofs.YtfjcghhjlmfggaaGreatDoor
namespace Rows

/-- THE TIED CARD OF 'testimonykeep.FarmMany'. -/
def farmManyCard : Claim7 := { stood := { row := farmManyRow, standIns := [], harness := (true, "75101ae7ba81132abfe60fcc62051e367dff90ab944380824142edfe7c52c355"), looks := true }, kinds := [], alts := [], goes := true, laidByText := true, laidKinds := [.data, .data, .data, .data, .handle, .sentinel, .sentinel, .data, .pinned], laidTests := true, laidLooks := .later }
def FarmManyCardSaid : Prop := Claim7.holds Tryz.pinned (.plain (OpenSpec.ofChange farmManySpec)) farmManyCard

/-- THE SECOND FORM's CARD OF 'testimonykeep.FarmMany'. -/
def farmManyUptoCard : Claim7 := { stood := { row := farmManyUptoRow, standIns := [], harness := (true, "75101ae7ba81132abfe60fcc62051e367dff90ab944380824142edfe7c52c355"), looks := true }, kinds := [], alts := [], goes := true, laidByText := true, laidKinds := [.data, .data, .data, .data, .handle, .sentinel, .sentinel, .data, .pinned], laidTests := true, laidLooks := .later }
def FarmManyUptoCardSaid : Prop := Claim7.holds Tryz.pinned (.plain (OpenSpec.upto farmManySpec)) farmManyUptoCard
end Rows
end Go.Proofs.YtfjcghhjlmfggaaGreatDoor
