/-
  DERIVED. GIVEN WITH THE SEED: THE CARDS: each row of YtlmpolmalgpodaaDoorRows.lean that lists a variable, with what it lists TIED to the program's text (the seventh form; the later family's looks); each row that meets fmt, with fmt's text TOLD by the authors' own Lean function (tested against real Go, not proved from fmt's source: count such statements apart). THE CARD IS WHAT COUNTS. Prove the row's statement (the work); the ties are given (YtlmpolmalgpodaaDoorTie.lean); close each card by the builder's one call (the guide's Derived/Test/ToyasCard.lean, 'card_holds'). Laid BY PROGRAM, IN A SANDBOX (cutbox-door.mjs). By AI agents, Wed Nov 11 2026. No macro, syntax, notation, axiom, sorry.
-/
import Derived.Test.YtlmpolmalgpodaaDoorRows
import GoSem.ClaimSeven
namespace Go.Proofs.YtlmpolmalgpodaaDoor
namespace Rows

/-- THE TIED CARD OF 'testimonykeep.ModelBack'. -/
def modelBackCard : Claim7 := { stood := { row := modelBackRow, standIns := [], harness := (true, "ce648c9afe1408dda9fb8a6f2c5c4f8056e3fed366b9b5d82393764631d17d18"), looks := true }, kinds := [], alts := [], laidByText := true, laidKinds := [.data], laidTests := true, laidLooks := .later }
def ModelBackCardSaid : Prop := Claim7.holds Tryd.pinned (.plain (OpenSpec.ofChange modelBackSpec)) modelBackCard

/-- THE TIED CARD OF 'testimonykeep.EventFits'. -/
def eventFitsCard : Claim7 := { stood := { row := eventFitsRow, standIns := [], harness := (true, "ce648c9afe1408dda9fb8a6f2c5c4f8056e3fed366b9b5d82393764631d17d18"), looks := true }, kinds := [], alts := [], laidByText := true, laidKinds := [.handle], laidTests := true, laidLooks := .later }
def EventFitsCardSaid : Prop := Claim7.holds Tryd.pinned (.plain (OpenSpec.ofChange eventFitsSpec)) eventFitsCard

/-- THE TIED CARD OF 'testimonykeep.LinearWitness'. -/
def linearWitnessCard : Claim7 := { stood := { row := linearWitnessRow, standIns := [], harness := (true, "ce648c9afe1408dda9fb8a6f2c5c4f8056e3fed366b9b5d82393764631d17d18"), looks := true }, kinds := [], alts := [], laidByText := true, laidKinds := [.data, .data, .data, .data], laidTests := true, laidLooks := .later }
def LinearWitnessCardSaid : Prop := Claim7.holds Tryd.pinned (.plain (OpenSpec.ofChange linearWitnessSpec)) linearWitnessCard

/-- THE TIED CARD OF 'testimonykeep.LinearComplete'. -/
def linearCompleteCard : Claim7 := { stood := { row := linearCompleteRow, standIns := [], harness := (true, "ce648c9afe1408dda9fb8a6f2c5c4f8056e3fed366b9b5d82393764631d17d18"), looks := true }, kinds := [], alts := [], laidByText := true, laidKinds := [.data, .data, .data, .data], laidTests := true, laidLooks := .later }
def LinearCompleteCardSaid : Prop := Claim7.holds Tryd.pinned (.plain (OpenSpec.ofChange linearCompleteSpec)) linearCompleteCard

/-- THE TIED CARD OF 'testimonykeep.LinearBudget'. -/
def linearBudgetCard : Claim7 := { stood := { row := linearBudgetRow, standIns := [], harness := (true, "ce648c9afe1408dda9fb8a6f2c5c4f8056e3fed366b9b5d82393764631d17d18"), looks := true }, kinds := [], alts := [], laidByText := true, laidKinds := [.data, .data, .data, .data], laidTests := true, laidLooks := .later }
def LinearBudgetCardSaid : Prop := Claim7.holds Tryd.pinned (.plain (OpenSpec.ofChange linearBudgetSpec)) linearBudgetCard

/-- THE TIED CARD OF 'testimonykeep.LinearSequential'. -/
def linearSequentialCard : Claim7 := { stood := { row := linearSequentialRow, standIns := [], harness := (true, "ce648c9afe1408dda9fb8a6f2c5c4f8056e3fed366b9b5d82393764631d17d18"), looks := true }, kinds := [], alts := [], laidByText := true, laidKinds := [.data, .data, .data, .data], laidTests := true, laidLooks := .later }
def LinearSequentialCardSaid : Prop := Claim7.holds Tryd.pinned (.plain (OpenSpec.ofChange linearSequentialSpec)) linearSequentialCard

/-- THE TIED CARD OF 'testimonykeep.LinearWider'. -/
def linearWiderCard : Claim7 := { stood := { row := linearWiderRow, standIns := [], harness := (true, "ce648c9afe1408dda9fb8a6f2c5c4f8056e3fed366b9b5d82393764631d17d18"), looks := true }, kinds := [], alts := [], laidByText := true, laidKinds := [.data, .data, .data, .data], laidTests := true, laidLooks := .later }
def LinearWiderCardSaid : Prop := Claim7.holds Tryd.pinned (.plain (OpenSpec.ofChange linearWiderSpec)) linearWiderCard

/-- THE TIED CARD OF 'testimonykeep.LinearPrefix'. -/
def linearPrefixCard : Claim7 := { stood := { row := linearPrefixRow, standIns := [], harness := (true, "ce648c9afe1408dda9fb8a6f2c5c4f8056e3fed366b9b5d82393764631d17d18"), looks := true }, kinds := [], alts := [], laidByText := true, laidKinds := [.data, .data, .data, .handle, .data], laidTests := true, laidLooks := .later }
def LinearPrefixCardSaid : Prop := Claim7.holds Tryd.pinned (.plain (OpenSpec.ofChange linearPrefixSpec)) linearPrefixCard

/-- THE SECOND FORM's CARD OF 'testimonykeep.ModelBack'. -/
def modelBackUptoCard : Claim7 := { stood := { row := modelBackUptoRow, standIns := [], harness := (true, "ce648c9afe1408dda9fb8a6f2c5c4f8056e3fed366b9b5d82393764631d17d18"), looks := true }, kinds := [], alts := [], laidByText := true, laidKinds := [.data], laidTests := true, laidLooks := .later }
def ModelBackUptoCardSaid : Prop := Claim7.holds Tryd.pinned (.plain (OpenSpec.upto modelBackSpec)) modelBackUptoCard

/-- THE SECOND FORM's CARD OF 'testimonykeep.EventFits'. -/
def eventFitsUptoCard : Claim7 := { stood := { row := eventFitsUptoRow, standIns := [], harness := (true, "ce648c9afe1408dda9fb8a6f2c5c4f8056e3fed366b9b5d82393764631d17d18"), looks := true }, kinds := [], alts := [], laidByText := true, laidKinds := [.handle], laidTests := true, laidLooks := .later }
def EventFitsUptoCardSaid : Prop := Claim7.holds Tryd.pinned (.plain (OpenSpec.upto eventFitsSpec)) eventFitsUptoCard

/-- THE SECOND FORM's CARD OF 'testimonykeep.LinearWitness'. -/
def linearWitnessUptoCard : Claim7 := { stood := { row := linearWitnessUptoRow, standIns := [], harness := (true, "ce648c9afe1408dda9fb8a6f2c5c4f8056e3fed366b9b5d82393764631d17d18"), looks := true }, kinds := [], alts := [], laidByText := true, laidKinds := [.data, .data, .data, .data], laidTests := true, laidLooks := .later }
def LinearWitnessUptoCardSaid : Prop := Claim7.holds Tryd.pinned (.plain (OpenSpec.upto linearWitnessSpec)) linearWitnessUptoCard

/-- THE SECOND FORM's CARD OF 'testimonykeep.LinearComplete'. -/
def linearCompleteUptoCard : Claim7 := { stood := { row := linearCompleteUptoRow, standIns := [], harness := (true, "ce648c9afe1408dda9fb8a6f2c5c4f8056e3fed366b9b5d82393764631d17d18"), looks := true }, kinds := [], alts := [], laidByText := true, laidKinds := [.data, .data, .data, .data], laidTests := true, laidLooks := .later }
def LinearCompleteUptoCardSaid : Prop := Claim7.holds Tryd.pinned (.plain (OpenSpec.upto linearCompleteSpec)) linearCompleteUptoCard

/-- THE SECOND FORM's CARD OF 'testimonykeep.LinearBudget'. -/
def linearBudgetUptoCard : Claim7 := { stood := { row := linearBudgetUptoRow, standIns := [], harness := (true, "ce648c9afe1408dda9fb8a6f2c5c4f8056e3fed366b9b5d82393764631d17d18"), looks := true }, kinds := [], alts := [], laidByText := true, laidKinds := [.data, .data, .data, .data], laidTests := true, laidLooks := .later }
def LinearBudgetUptoCardSaid : Prop := Claim7.holds Tryd.pinned (.plain (OpenSpec.upto linearBudgetSpec)) linearBudgetUptoCard

/-- THE SECOND FORM's CARD OF 'testimonykeep.LinearSequential'. -/
def linearSequentialUptoCard : Claim7 := { stood := { row := linearSequentialUptoRow, standIns := [], harness := (true, "ce648c9afe1408dda9fb8a6f2c5c4f8056e3fed366b9b5d82393764631d17d18"), looks := true }, kinds := [], alts := [], laidByText := true, laidKinds := [.data, .data, .data, .data], laidTests := true, laidLooks := .later }
def LinearSequentialUptoCardSaid : Prop := Claim7.holds Tryd.pinned (.plain (OpenSpec.upto linearSequentialSpec)) linearSequentialUptoCard

/-- THE SECOND FORM's CARD OF 'testimonykeep.LinearWider'. -/
def linearWiderUptoCard : Claim7 := { stood := { row := linearWiderUptoRow, standIns := [], harness := (true, "ce648c9afe1408dda9fb8a6f2c5c4f8056e3fed366b9b5d82393764631d17d18"), looks := true }, kinds := [], alts := [], laidByText := true, laidKinds := [.data, .data, .data, .data], laidTests := true, laidLooks := .later }
def LinearWiderUptoCardSaid : Prop := Claim7.holds Tryd.pinned (.plain (OpenSpec.upto linearWiderSpec)) linearWiderUptoCard

/-- THE SECOND FORM's CARD OF 'testimonykeep.LinearPrefix'. -/
def linearPrefixUptoCard : Claim7 := { stood := { row := linearPrefixUptoRow, standIns := [], harness := (true, "ce648c9afe1408dda9fb8a6f2c5c4f8056e3fed366b9b5d82393764631d17d18"), looks := true }, kinds := [], alts := [], laidByText := true, laidKinds := [.data, .data, .data, .handle, .data], laidTests := true, laidLooks := .later }
def LinearPrefixUptoCardSaid : Prop := Claim7.holds Tryd.pinned (.plain (OpenSpec.upto linearPrefixSpec)) linearPrefixUptoCard
end Rows
end Go.Proofs.YtlmpolmalgpodaaDoor
