/-
  DERIVED. GIVEN WITH THE SEED: THE CARDS: each row of YtlnjmkldpicpdaaDoorRows.lean that lists a variable, with what it lists TIED to the program's text (the seventh form; the later family's looks); each row that meets fmt, with fmt's text TOLD by the authors' own Lean function (tested against real Go, not proved from fmt's source: count such statements apart). THE CARD IS WHAT COUNTS. Prove the row's statement (the work); the ties are given (YtlnjmkldpicpdaaDoorTie.lean); close each card by the builder's one call (the guide's Derived/Test/ToyasCard.lean, 'card_holds'). Laid BY PROGRAM, IN A SANDBOX (cutbox-door.mjs). By AI agents, Wed Nov 11 2026. No macro, syntax, notation, axiom, sorry.
-/
import Derived.Test.YtlnjmkldpicpdaaDoorRows
import GoSem.ClaimSeven
namespace Go.Proofs.YtlnjmkldpicpdaaDoor
namespace Rows

/-- THE TIED CARD OF 'testimonykeep.MvccFirst'. -/
def mvccFirstCard : Claim7 := { stood := { row := mvccFirstRow, standIns := [], harness := (true, "ade5d82981cd6b7e987fd4c36e37bee821d58307a2662fa6be3f07dc90a2abaa"), looks := true }, kinds := [], alts := [], laidByText := true, laidKinds := [.handle], laidTests := true, laidLooks := .later }
def MvccFirstCardSaid : Prop := Claim7.holds Tryd.pinned (.plain (OpenSpec.ofChange mvccFirstSpec)) mvccFirstCard

/-- THE TIED CARD OF 'testimonykeep.MvccFekete'. -/
def mvccFeketeCard : Claim7 := { stood := { row := mvccFeketeRow, standIns := [], harness := (true, "ade5d82981cd6b7e987fd4c36e37bee821d58307a2662fa6be3f07dc90a2abaa"), looks := true }, kinds := [], alts := [], laidByText := true, laidKinds := [.handle], laidTests := true, laidLooks := .later }
def MvccFeketeCardSaid : Prop := Claim7.holds Tryd.pinned (.plain (OpenSpec.ofChange mvccFeketeSpec)) mvccFeketeCard

/-- THE TIED CARD OF 'testimonykeep.MvccSnapshot'. -/
def mvccSnapshotCard : Claim7 := { stood := { row := mvccSnapshotRow, standIns := [], harness := (true, "ade5d82981cd6b7e987fd4c36e37bee821d58307a2662fa6be3f07dc90a2abaa"), looks := true }, kinds := [], alts := [], laidByText := true, laidKinds := [.handle], laidTests := true, laidLooks := .later }
def MvccSnapshotCardSaid : Prop := Claim7.holds Tryd.pinned (.plain (OpenSpec.ofChange mvccSnapshotSpec)) mvccSnapshotCard

/-- THE TIED CARD OF 'testimonykeep.MvccCareful'. -/
def mvccCarefulCard : Claim7 := { stood := { row := mvccCarefulRow, standIns := [], harness := (true, "ade5d82981cd6b7e987fd4c36e37bee821d58307a2662fa6be3f07dc90a2abaa"), looks := true }, kinds := [], alts := [], laidByText := true, laidKinds := [.handle], laidTests := true, laidLooks := .later }
def MvccCarefulCardSaid : Prop := Claim7.holds Tryd.pinned (.plain (OpenSpec.ofChange mvccCarefulSpec)) mvccCarefulCard

/-- THE SECOND FORM's CARD OF 'testimonykeep.MvccFirst'. -/
def mvccFirstUptoCard : Claim7 := { stood := { row := mvccFirstUptoRow, standIns := [], harness := (true, "ade5d82981cd6b7e987fd4c36e37bee821d58307a2662fa6be3f07dc90a2abaa"), looks := true }, kinds := [], alts := [], laidByText := true, laidKinds := [.handle], laidTests := true, laidLooks := .later }
def MvccFirstUptoCardSaid : Prop := Claim7.holds Tryd.pinned (.plain (OpenSpec.upto mvccFirstSpec)) mvccFirstUptoCard

/-- THE SECOND FORM's CARD OF 'testimonykeep.MvccFekete'. -/
def mvccFeketeUptoCard : Claim7 := { stood := { row := mvccFeketeUptoRow, standIns := [], harness := (true, "ade5d82981cd6b7e987fd4c36e37bee821d58307a2662fa6be3f07dc90a2abaa"), looks := true }, kinds := [], alts := [], laidByText := true, laidKinds := [.handle], laidTests := true, laidLooks := .later }
def MvccFeketeUptoCardSaid : Prop := Claim7.holds Tryd.pinned (.plain (OpenSpec.upto mvccFeketeSpec)) mvccFeketeUptoCard

/-- THE SECOND FORM's CARD OF 'testimonykeep.MvccSnapshot'. -/
def mvccSnapshotUptoCard : Claim7 := { stood := { row := mvccSnapshotUptoRow, standIns := [], harness := (true, "ade5d82981cd6b7e987fd4c36e37bee821d58307a2662fa6be3f07dc90a2abaa"), looks := true }, kinds := [], alts := [], laidByText := true, laidKinds := [.handle], laidTests := true, laidLooks := .later }
def MvccSnapshotUptoCardSaid : Prop := Claim7.holds Tryd.pinned (.plain (OpenSpec.upto mvccSnapshotSpec)) mvccSnapshotUptoCard

/-- THE SECOND FORM's CARD OF 'testimonykeep.MvccCareful'. -/
def mvccCarefulUptoCard : Claim7 := { stood := { row := mvccCarefulUptoRow, standIns := [], harness := (true, "ade5d82981cd6b7e987fd4c36e37bee821d58307a2662fa6be3f07dc90a2abaa"), looks := true }, kinds := [], alts := [], laidByText := true, laidKinds := [.handle], laidTests := true, laidLooks := .later }
def MvccCarefulUptoCardSaid : Prop := Claim7.holds Tryd.pinned (.plain (OpenSpec.upto mvccCarefulSpec)) mvccCarefulUptoCard
end Rows
end Go.Proofs.YtlnjmkldpicpdaaDoor
