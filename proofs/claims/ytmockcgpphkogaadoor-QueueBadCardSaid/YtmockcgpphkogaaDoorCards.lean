/-
  DERIVED. GIVEN WITH THE SEED: THE CARDS: each row of YtmockcgpphkogaaDoorRows.lean that lists a variable, with what it lists TIED to the program's text (the seventh form; the later family's looks); each row that meets fmt, with fmt's text TOLD by the authors' own Lean function (tested against real Go, not proved from fmt's source: count such statements apart). THE CARD IS WHAT COUNTS. Prove the row's statement (the work); the ties are given (YtmockcgpphkogaaDoorTie.lean); close each card by the builder's one call (the guide's Derived/Test/ToyasCard.lean, 'card_holds'). Laid BY PROGRAM, IN A SANDBOX (cutbox-door.mjs). By AI agents, Wed Nov 11 2026. No macro, syntax, notation, axiom, sorry.
-/
import Derived.Test.YtmockcgpphkogaaDoorRows
import GoSem.ClaimSeven
namespace Go.Proofs.YtmockcgpphkogaaDoor
namespace Rows

/-- THE TIED CARD OF 'testimonykeep.CausalOrder'. -/
def causalOrderCard : Claim7 := { stood := { row := causalOrderRow, standIns := [], harness := (true, "7ee7d80cb2f96f411cf542b1f740b54cb541807e0412362ea02e9b19e1d7f054"), looks := false }, kinds := [], alts := [], laidByText := true, laidKinds := [.data, .data, .data, .data], laidTests := true, laidLooks := .later }
def CausalOrderCardSaid : Prop := Claim7.holds Tryd.pinned (.plain (OpenSpec.ofChange causalOrderSpec)) causalOrderCard

/-- THE TIED CARD OF 'testimonykeep.CausalWeaker'. -/
def causalWeakerCard : Claim7 := { stood := { row := causalWeakerRow, standIns := [], harness := (true, "7ee7d80cb2f96f411cf542b1f740b54cb541807e0412362ea02e9b19e1d7f054"), looks := false }, kinds := [], alts := [], laidByText := true, laidKinds := [.data, .data, .data, .data], laidTests := true, laidLooks := .later }
def CausalWeakerCardSaid : Prop := Claim7.holds Tryd.pinned (.plain (OpenSpec.ofChange causalWeakerSpec)) causalWeakerCard

/-- THE TIED CARD OF 'testimonykeep.SessionLinear'. -/
def sessionLinearCard : Claim7 := { stood := { row := sessionLinearRow, standIns := [], harness := (true, "7ee7d80cb2f96f411cf542b1f740b54cb541807e0412362ea02e9b19e1d7f054"), looks := false }, kinds := [], alts := [], laidByText := true, laidKinds := [.data, .data, .data, .data], laidTests := true, laidLooks := .later }
def SessionLinearCardSaid : Prop := Claim7.holds Tryd.pinned (.plain (OpenSpec.ofChange sessionLinearSpec)) sessionLinearCard

/-- THE TIED CARD OF 'testimonykeep.QueueBad'. -/
def queueBadCard : Claim7 := { stood := { row := queueBadRow, standIns := [], harness := (true, "7ee7d80cb2f96f411cf542b1f740b54cb541807e0412362ea02e9b19e1d7f054"), looks := false }, kinds := [], alts := [], laidByText := true, laidKinds := [.data, .data, .data, .data], laidTests := true, laidLooks := .later }
def QueueBadCardSaid : Prop := Claim7.holds Tryd.pinned (.plain (OpenSpec.ofChange queueBadSpec)) queueBadCard

/-- THE SECOND FORM's CARD OF 'testimonykeep.CausalOrder'. -/
def causalOrderUptoCard : Claim7 := { stood := { row := causalOrderUptoRow, standIns := [], harness := (true, "7ee7d80cb2f96f411cf542b1f740b54cb541807e0412362ea02e9b19e1d7f054"), looks := false }, kinds := [], alts := [], laidByText := true, laidKinds := [.data, .data, .data, .data], laidTests := true, laidLooks := .later }
def CausalOrderUptoCardSaid : Prop := Claim7.holds Tryd.pinned (.plain (OpenSpec.upto causalOrderSpec)) causalOrderUptoCard

/-- THE SECOND FORM's CARD OF 'testimonykeep.CausalWeaker'. -/
def causalWeakerUptoCard : Claim7 := { stood := { row := causalWeakerUptoRow, standIns := [], harness := (true, "7ee7d80cb2f96f411cf542b1f740b54cb541807e0412362ea02e9b19e1d7f054"), looks := false }, kinds := [], alts := [], laidByText := true, laidKinds := [.data, .data, .data, .data], laidTests := true, laidLooks := .later }
def CausalWeakerUptoCardSaid : Prop := Claim7.holds Tryd.pinned (.plain (OpenSpec.upto causalWeakerSpec)) causalWeakerUptoCard

/-- THE SECOND FORM's CARD OF 'testimonykeep.SessionLinear'. -/
def sessionLinearUptoCard : Claim7 := { stood := { row := sessionLinearUptoRow, standIns := [], harness := (true, "7ee7d80cb2f96f411cf542b1f740b54cb541807e0412362ea02e9b19e1d7f054"), looks := false }, kinds := [], alts := [], laidByText := true, laidKinds := [.data, .data, .data, .data], laidTests := true, laidLooks := .later }
def SessionLinearUptoCardSaid : Prop := Claim7.holds Tryd.pinned (.plain (OpenSpec.upto sessionLinearSpec)) sessionLinearUptoCard

/-- THE SECOND FORM's CARD OF 'testimonykeep.QueueBad'. -/
def queueBadUptoCard : Claim7 := { stood := { row := queueBadUptoRow, standIns := [], harness := (true, "7ee7d80cb2f96f411cf542b1f740b54cb541807e0412362ea02e9b19e1d7f054"), looks := false }, kinds := [], alts := [], laidByText := true, laidKinds := [.data, .data, .data, .data], laidTests := true, laidLooks := .later }
def QueueBadUptoCardSaid : Prop := Claim7.holds Tryd.pinned (.plain (OpenSpec.upto queueBadSpec)) queueBadUptoCard
end Rows
end Go.Proofs.YtmockcgpphkogaaDoor
