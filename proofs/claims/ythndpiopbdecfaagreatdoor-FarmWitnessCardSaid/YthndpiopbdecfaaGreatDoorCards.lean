/-
  DERIVED. GIVEN WITH THE SEED: THE CARDS: each row of YthndpiopbdecfaaGreatDoorRows.lean that lists a variable, with what it lists TIED to the program's text (the seventh form; the later family's looks); each row that meets fmt, with fmt's text TOLD by the authors' own Lean function (tested against real Go, not proved from fmt's source: count such statements apart). THE CARD IS WHAT COUNTS. Prove the row's statement (the work); the ties are given (YthndpiopbdecfaaGreatDoorTie.lean); close each card by the builder's one call (the guide's Derived/Test/ToyasCard.lean, 'card_holds'). Laid BY PROGRAM, IN A SANDBOX (cutbox-door.mjs). By AI agents, Wed Nov 11 2026. No macro, syntax, notation, axiom, sorry.
-/
import Derived.Test.YthndpiopbdecfaaGreatDoorRows
import GoSem.ClaimSeven
namespace Go.Proofs.YthndpiopbdecfaaGreatDoor
namespace Rows

/-- THE TIED CARD OF 'testimonykeep.FarmSound'. -/
def farmSoundCard : Claim7 := { stood := { row := farmSoundRow, standIns := [], harness := (true, "79d62804b94c7e35cb6f384bc42b2a52d614a11ef2dea8e5c8252e9181cbd246"), looks := true }, kinds := [], alts := [], laidByText := true, laidKinds := [.data, .data, .data, .data, .handle, .sentinel, .sentinel, .data, .pinned], laidTests := true, laidLooks := .later }
def FarmSoundCardSaid : Prop := Claim7.holds Tryz.pinned (.plain (OpenSpec.ofChange farmSoundSpec)) farmSoundCard

/-- THE TIED CARD OF 'testimonykeep.FarmWitness'. -/
def farmWitnessCard : Claim7 := { stood := { row := farmWitnessRow, standIns := [], harness := (true, "79d62804b94c7e35cb6f384bc42b2a52d614a11ef2dea8e5c8252e9181cbd246"), looks := true }, kinds := [], alts := [], laidByText := true, laidKinds := [.data, .data, .data, .data, .handle, .sentinel, .sentinel, .data, .pinned], laidTests := true, laidLooks := .later }
def FarmWitnessCardSaid : Prop := Claim7.holds Tryz.pinned (.plain (OpenSpec.ofChange farmWitnessSpec)) farmWitnessCard

/-- THE SECOND FORM's CARD OF 'testimonykeep.FarmSound'. -/
def farmSoundUptoCard : Claim7 := { stood := { row := farmSoundUptoRow, standIns := [], harness := (true, "79d62804b94c7e35cb6f384bc42b2a52d614a11ef2dea8e5c8252e9181cbd246"), looks := true }, kinds := [], alts := [], laidByText := true, laidKinds := [.data, .data, .data, .data, .handle, .sentinel, .sentinel, .data, .pinned], laidTests := true, laidLooks := .later }
def FarmSoundUptoCardSaid : Prop := Claim7.holds Tryz.pinned (.plain (OpenSpec.upto farmSoundSpec)) farmSoundUptoCard

/-- THE SECOND FORM's CARD OF 'testimonykeep.FarmWitness'. -/
def farmWitnessUptoCard : Claim7 := { stood := { row := farmWitnessUptoRow, standIns := [], harness := (true, "79d62804b94c7e35cb6f384bc42b2a52d614a11ef2dea8e5c8252e9181cbd246"), looks := true }, kinds := [], alts := [], laidByText := true, laidKinds := [.data, .data, .data, .data, .handle, .sentinel, .sentinel, .data, .pinned], laidTests := true, laidLooks := .later }
def FarmWitnessUptoCardSaid : Prop := Claim7.holds Tryz.pinned (.plain (OpenSpec.upto farmWitnessSpec)) farmWitnessUptoCard
end Rows
end Go.Proofs.YthndpiopbdecfaaGreatDoor
