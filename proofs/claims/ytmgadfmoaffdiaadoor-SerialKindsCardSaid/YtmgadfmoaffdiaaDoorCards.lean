/-
  DERIVED. GIVEN WITH THE SEED: THE CARDS: each row of YtmgadfmoaffdiaaDoorRows.lean that lists a variable, with what it lists TIED to the program's text (the seventh form; the later family's looks); each row that meets fmt, with fmt's text TOLD by the authors' own Lean function (tested against real Go, not proved from fmt's source: count such statements apart). THE CARD IS WHAT COUNTS. Prove the row's statement (the work); the ties are given (YtmgadfmoaffdiaaDoorTie.lean); close each card by the builder's one call (the guide's Derived/Test/ToyasCard.lean, 'card_holds'). Laid BY PROGRAM, IN A SANDBOX (cutbox-door.mjs). By AI agents, Wed Nov 11 2026. No macro, syntax, notation, axiom, sorry.
-/
import Derived.Test.YtmgadfmoaffdiaaDoorRows
import GoSem.ClaimSeven
namespace Go.Proofs.YtmgadfmoaffdiaaDoor
namespace Rows

/-- THE TIED CARD OF 'testimonykeep.GraphEither'. -/
def graphEitherCard : Claim7 := { stood := { row := graphEitherRow, standIns := [], harness := (true, "99858f434d8b14782f2bf059e62bc99e631084e9e93bddfcfec12d87decad858"), looks := true }, kinds := [], alts := [], laidByText := true, laidKinds := [.handle], laidTests := true, laidLooks := .later }
def GraphEitherCardSaid : Prop := Claim7.holds Tryd.pinned (.plain (OpenSpec.ofChange graphEitherSpec)) graphEitherCard

/-- THE TIED CARD OF 'testimonykeep.MvccFirst'. -/
def mvccFirstCard : Claim7 := { stood := { row := mvccFirstRow, standIns := [], harness := (true, "99858f434d8b14782f2bf059e62bc99e631084e9e93bddfcfec12d87decad858"), looks := true }, kinds := [], alts := [], laidByText := true, laidKinds := [.handle], laidTests := true, laidLooks := .later }
def MvccFirstCardSaid : Prop := Claim7.holds Tryd.pinned (.plain (OpenSpec.ofChange mvccFirstSpec)) mvccFirstCard

/-- THE TIED CARD OF 'testimonykeep.SerialKinds'. -/
def serialKindsCard : Claim7 := { stood := { row := serialKindsRow, standIns := [], harness := (true, "99858f434d8b14782f2bf059e62bc99e631084e9e93bddfcfec12d87decad858"), looks := true }, kinds := [], alts := [], laidByText := true, laidKinds := [.handle], laidTests := true, laidLooks := .later }
def SerialKindsCardSaid : Prop := Claim7.holds Tryd.pinned (.plain (OpenSpec.ofChange serialKindsSpec)) serialKindsCard

/-- THE TIED CARD OF 'testimonykeep.SerialBernstein'. -/
def serialBernsteinCard : Claim7 := { stood := { row := serialBernsteinRow, standIns := [], harness := (true, "99858f434d8b14782f2bf059e62bc99e631084e9e93bddfcfec12d87decad858"), looks := true }, kinds := [], alts := [], laidByText := true, laidKinds := [.handle], laidTests := true, laidLooks := .later }
def SerialBernsteinCardSaid : Prop := Claim7.holds Tryd.pinned (.plain (OpenSpec.ofChange serialBernsteinSpec)) serialBernsteinCard

/-- THE TIED CARD OF 'testimonykeep.SerialOne'. -/
def serialOneCard : Claim7 := { stood := { row := serialOneRow, standIns := [], harness := (true, "99858f434d8b14782f2bf059e62bc99e631084e9e93bddfcfec12d87decad858"), looks := true }, kinds := [], alts := [], laidByText := true, laidKinds := [.handle], laidTests := true, laidLooks := .later }
def SerialOneCardSaid : Prop := Claim7.holds Tryd.pinned (.plain (OpenSpec.ofChange serialOneSpec)) serialOneCard

/-- THE TIED CARD OF 'testimonykeep.LockTwoPhase'. -/
def lockTwoPhaseCard : Claim7 := { stood := { row := lockTwoPhaseRow, standIns := [], harness := (true, "99858f434d8b14782f2bf059e62bc99e631084e9e93bddfcfec12d87decad858"), looks := true }, kinds := [], alts := [], laidByText := true, laidKinds := [.handle], laidTests := true, laidLooks := .later }
def LockTwoPhaseCardSaid : Prop := Claim7.holds Tryd.pinned (.plain (OpenSpec.ofChange lockTwoPhaseSpec)) lockTwoPhaseCard

/-- THE TIED CARD OF 'testimonykeep.MvccFekete'. -/
def mvccFeketeCard : Claim7 := { stood := { row := mvccFeketeRow, standIns := [], harness := (true, "99858f434d8b14782f2bf059e62bc99e631084e9e93bddfcfec12d87decad858"), looks := true }, kinds := [], alts := [], laidByText := true, laidKinds := [.handle], laidTests := true, laidLooks := .later }
def MvccFeketeCardSaid : Prop := Claim7.holds Tryd.pinned (.plain (OpenSpec.ofChange mvccFeketeSpec)) mvccFeketeCard

/-- THE TIED CARD OF 'testimonykeep.MvccSnapshot'. -/
def mvccSnapshotCard : Claim7 := { stood := { row := mvccSnapshotRow, standIns := [], harness := (true, "99858f434d8b14782f2bf059e62bc99e631084e9e93bddfcfec12d87decad858"), looks := true }, kinds := [], alts := [], laidByText := true, laidKinds := [.handle], laidTests := true, laidLooks := .later }
def MvccSnapshotCardSaid : Prop := Claim7.holds Tryd.pinned (.plain (OpenSpec.ofChange mvccSnapshotSpec)) mvccSnapshotCard

/-- THE TIED CARD OF 'testimonykeep.MvccCareful'. -/
def mvccCarefulCard : Claim7 := { stood := { row := mvccCarefulRow, standIns := [], harness := (true, "99858f434d8b14782f2bf059e62bc99e631084e9e93bddfcfec12d87decad858"), looks := true }, kinds := [], alts := [], laidByText := true, laidKinds := [.handle], laidTests := true, laidLooks := .later }
def MvccCarefulCardSaid : Prop := Claim7.holds Tryd.pinned (.plain (OpenSpec.ofChange mvccCarefulSpec)) mvccCarefulCard

/-- THE SECOND FORM's CARD OF 'testimonykeep.GraphEither'. -/
def graphEitherUptoCard : Claim7 := { stood := { row := graphEitherUptoRow, standIns := [], harness := (true, "99858f434d8b14782f2bf059e62bc99e631084e9e93bddfcfec12d87decad858"), looks := true }, kinds := [], alts := [], laidByText := true, laidKinds := [.handle], laidTests := true, laidLooks := .later }
def GraphEitherUptoCardSaid : Prop := Claim7.holds Tryd.pinned (.plain (OpenSpec.upto graphEitherSpec)) graphEitherUptoCard

/-- THE SECOND FORM's CARD OF 'testimonykeep.MvccFirst'. -/
def mvccFirstUptoCard : Claim7 := { stood := { row := mvccFirstUptoRow, standIns := [], harness := (true, "99858f434d8b14782f2bf059e62bc99e631084e9e93bddfcfec12d87decad858"), looks := true }, kinds := [], alts := [], laidByText := true, laidKinds := [.handle], laidTests := true, laidLooks := .later }
def MvccFirstUptoCardSaid : Prop := Claim7.holds Tryd.pinned (.plain (OpenSpec.upto mvccFirstSpec)) mvccFirstUptoCard

/-- THE SECOND FORM's CARD OF 'testimonykeep.SerialKinds'. -/
def serialKindsUptoCard : Claim7 := { stood := { row := serialKindsUptoRow, standIns := [], harness := (true, "99858f434d8b14782f2bf059e62bc99e631084e9e93bddfcfec12d87decad858"), looks := true }, kinds := [], alts := [], laidByText := true, laidKinds := [.handle], laidTests := true, laidLooks := .later }
def SerialKindsUptoCardSaid : Prop := Claim7.holds Tryd.pinned (.plain (OpenSpec.upto serialKindsSpec)) serialKindsUptoCard

/-- THE SECOND FORM's CARD OF 'testimonykeep.SerialBernstein'. -/
def serialBernsteinUptoCard : Claim7 := { stood := { row := serialBernsteinUptoRow, standIns := [], harness := (true, "99858f434d8b14782f2bf059e62bc99e631084e9e93bddfcfec12d87decad858"), looks := true }, kinds := [], alts := [], laidByText := true, laidKinds := [.handle], laidTests := true, laidLooks := .later }
def SerialBernsteinUptoCardSaid : Prop := Claim7.holds Tryd.pinned (.plain (OpenSpec.upto serialBernsteinSpec)) serialBernsteinUptoCard

/-- THE SECOND FORM's CARD OF 'testimonykeep.SerialOne'. -/
def serialOneUptoCard : Claim7 := { stood := { row := serialOneUptoRow, standIns := [], harness := (true, "99858f434d8b14782f2bf059e62bc99e631084e9e93bddfcfec12d87decad858"), looks := true }, kinds := [], alts := [], laidByText := true, laidKinds := [.handle], laidTests := true, laidLooks := .later }
def SerialOneUptoCardSaid : Prop := Claim7.holds Tryd.pinned (.plain (OpenSpec.upto serialOneSpec)) serialOneUptoCard

/-- THE SECOND FORM's CARD OF 'testimonykeep.LockTwoPhase'. -/
def lockTwoPhaseUptoCard : Claim7 := { stood := { row := lockTwoPhaseUptoRow, standIns := [], harness := (true, "99858f434d8b14782f2bf059e62bc99e631084e9e93bddfcfec12d87decad858"), looks := true }, kinds := [], alts := [], laidByText := true, laidKinds := [.handle], laidTests := true, laidLooks := .later }
def LockTwoPhaseUptoCardSaid : Prop := Claim7.holds Tryd.pinned (.plain (OpenSpec.upto lockTwoPhaseSpec)) lockTwoPhaseUptoCard

/-- THE SECOND FORM's CARD OF 'testimonykeep.MvccFekete'. -/
def mvccFeketeUptoCard : Claim7 := { stood := { row := mvccFeketeUptoRow, standIns := [], harness := (true, "99858f434d8b14782f2bf059e62bc99e631084e9e93bddfcfec12d87decad858"), looks := true }, kinds := [], alts := [], laidByText := true, laidKinds := [.handle], laidTests := true, laidLooks := .later }
def MvccFeketeUptoCardSaid : Prop := Claim7.holds Tryd.pinned (.plain (OpenSpec.upto mvccFeketeSpec)) mvccFeketeUptoCard

/-- THE SECOND FORM's CARD OF 'testimonykeep.MvccSnapshot'. -/
def mvccSnapshotUptoCard : Claim7 := { stood := { row := mvccSnapshotUptoRow, standIns := [], harness := (true, "99858f434d8b14782f2bf059e62bc99e631084e9e93bddfcfec12d87decad858"), looks := true }, kinds := [], alts := [], laidByText := true, laidKinds := [.handle], laidTests := true, laidLooks := .later }
def MvccSnapshotUptoCardSaid : Prop := Claim7.holds Tryd.pinned (.plain (OpenSpec.upto mvccSnapshotSpec)) mvccSnapshotUptoCard

/-- THE SECOND FORM's CARD OF 'testimonykeep.MvccCareful'. -/
def mvccCarefulUptoCard : Claim7 := { stood := { row := mvccCarefulUptoRow, standIns := [], harness := (true, "99858f434d8b14782f2bf059e62bc99e631084e9e93bddfcfec12d87decad858"), looks := true }, kinds := [], alts := [], laidByText := true, laidKinds := [.handle], laidTests := true, laidLooks := .later }
def MvccCarefulUptoCardSaid : Prop := Claim7.holds Tryd.pinned (.plain (OpenSpec.upto mvccCarefulSpec)) mvccCarefulUptoCard
end Rows
end Go.Proofs.YtmgadfmoaffdiaaDoor
