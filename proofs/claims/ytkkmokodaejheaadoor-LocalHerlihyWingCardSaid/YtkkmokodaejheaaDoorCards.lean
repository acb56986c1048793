/-
  DERIVED. GIVEN WITH THE SEED: THE CARDS: each row of YtkkmokodaejheaaDoorRows.lean that lists a variable, with what it lists TIED to the program's text (the seventh form; the later family's looks); each row that meets fmt, with fmt's text TOLD by the authors' own Lean function (tested against real Go, not proved from fmt's source: count such statements apart). THE CARD IS WHAT COUNTS. Prove the row's statement (the work); the ties are given (YtkkmokodaejheaaDoorTie.lean); close each card by the builder's one call (the guide's Derived/Test/ToyasCard.lean, 'card_holds'). Laid BY PROGRAM, IN A SANDBOX (cutbox-door.mjs). By AI agents, Wed Nov 11 2026. No macro, syntax, notation, axiom, sorry.
-/
import Derived.Test.YtkkmokodaejheaaDoorRows
import GoSem.ClaimSeven
namespace Go.Proofs.YtkkmokodaejheaaDoor
namespace Rows

/-- THE TIED CARD OF 'testimonykeep.LocalHerlihyWing'. -/
def localHerlihyWingCard : Claim7 := { stood := { row := localHerlihyWingRow, standIns := [], harness := (true, "5811460928a823d6789045d46b0614298ea975fac4c99267c678a4588f9a9ff2"), looks := false }, kinds := [], alts := [], goes := true, laidByText := true, laidKinds := [.data, .data, .data, .data], laidTests := true, laidLooks := .later }
def LocalHerlihyWingCardSaid : Prop := Claim7.holds Tryd.pinned (.plain (OpenSpec.ofChange localHerlihyWingSpec)) localHerlihyWingCard

/-- THE TIED CARD OF 'testimonykeep.LocalOrders'. -/
def localOrdersCard : Claim7 := { stood := { row := localOrdersRow, standIns := [], harness := (true, "5811460928a823d6789045d46b0614298ea975fac4c99267c678a4588f9a9ff2"), looks := false }, kinds := [], alts := [], goes := true, laidByText := true, laidKinds := [.data, .data, .data, .data], laidTests := true, laidLooks := .later }
def LocalOrdersCardSaid : Prop := Claim7.holds Tryd.pinned (.plain (OpenSpec.ofChange localOrdersSpec)) localOrdersCard

/-- THE SECOND FORM's CARD OF 'testimonykeep.LocalHerlihyWing'. -/
def localHerlihyWingUptoCard : Claim7 := { stood := { row := localHerlihyWingUptoRow, standIns := [], harness := (true, "5811460928a823d6789045d46b0614298ea975fac4c99267c678a4588f9a9ff2"), looks := false }, kinds := [], alts := [], goes := true, laidByText := true, laidKinds := [.data, .data, .data, .data], laidTests := true, laidLooks := .later }
def LocalHerlihyWingUptoCardSaid : Prop := Claim7.holds Tryd.pinned (.plain (OpenSpec.upto localHerlihyWingSpec)) localHerlihyWingUptoCard

/-- THE SECOND FORM's CARD OF 'testimonykeep.LocalOrders'. -/
def localOrdersUptoCard : Claim7 := { stood := { row := localOrdersUptoRow, standIns := [], harness := (true, "5811460928a823d6789045d46b0614298ea975fac4c99267c678a4588f9a9ff2"), looks := false }, kinds := [], alts := [], goes := true, laidByText := true, laidKinds := [.data, .data, .data, .data], laidTests := true, laidLooks := .later }
def LocalOrdersUptoCardSaid : Prop := Claim7.holds Tryd.pinned (.plain (OpenSpec.upto localOrdersSpec)) localOrdersUptoCard
end Rows
end Go.Proofs.YtkkmokodaejheaaDoor
