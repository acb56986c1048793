/-
  DERIVED. GIVEN WITH THE SEED: THE CARDS: each row of YtlhmldjgmbcocaaDoorRows.lean that lists a variable, with what it lists TIED to the program's text (the seventh form; the later family's looks); each row that meets fmt, with fmt's text TOLD by the authors' own Lean function (tested against real Go, not proved from fmt's source: count such statements apart). THE CARD IS WHAT COUNTS. Prove the row's statement (the work); the ties are given (YtlhmldjgmbcocaaDoorTie.lean); close each card by the builder's one call (the guide's Derived/Test/ToyasCard.lean, 'card_holds'). Laid BY PROGRAM, IN A SANDBOX (cutbox-door.mjs). By AI agents, Wed Nov 11 2026. No macro, syntax, notation, axiom, sorry.
-/
import Derived.Test.YtlhmldjgmbcocaaDoorRows
import GoSem.ClaimSeven
namespace Go.Proofs.YtlhmldjgmbcocaaDoor
namespace Rows

/-- THE TIED CARD OF 'testimonykeep.GenLimits'. -/
def genLimitsCard : Claim7 := { stood := { row := genLimitsRow, standIns := [], harness := (true, "8eb6e534f8554c44be1322a5f6a64f05ffb156c46a6137babd44a140894efc72"), looks := true }, kinds := [], alts := [], laidByText := true, laidKinds := [.data, .data, .data, .sentinel, .sentinel], laidTests := true, laidLooks := .later }
def GenLimitsCardSaid : Prop := Claim7.holds Tryd.pinned (.plain (OpenSpec.ofChange genLimitsSpec)) genLimitsCard

/-- THE TIED CARD OF 'testimonykeep.GenAgain'. -/
def genAgainCard : Claim7 := { stood := { row := genAgainRow, standIns := [], harness := (true, "8eb6e534f8554c44be1322a5f6a64f05ffb156c46a6137babd44a140894efc72"), looks := true }, kinds := [], alts := [], laidByText := true, laidKinds := [.data, .data, .data, .sentinel, .sentinel], laidTests := true, laidLooks := .later }
def GenAgainCardSaid : Prop := Claim7.holds Tryd.pinned (.plain (OpenSpec.ofChange genAgainSpec)) genAgainCard

/-- THE SECOND FORM's CARD OF 'testimonykeep.GenLimits'. -/
def genLimitsUptoCard : Claim7 := { stood := { row := genLimitsUptoRow, standIns := [], harness := (true, "8eb6e534f8554c44be1322a5f6a64f05ffb156c46a6137babd44a140894efc72"), looks := true }, kinds := [], alts := [], laidByText := true, laidKinds := [.data, .data, .data, .sentinel, .sentinel], laidTests := true, laidLooks := .later }
def GenLimitsUptoCardSaid : Prop := Claim7.holds Tryd.pinned (.plain (OpenSpec.upto genLimitsSpec)) genLimitsUptoCard

/-- THE SECOND FORM's CARD OF 'testimonykeep.GenAgain'. -/
def genAgainUptoCard : Claim7 := { stood := { row := genAgainUptoRow, standIns := [], harness := (true, "8eb6e534f8554c44be1322a5f6a64f05ffb156c46a6137babd44a140894efc72"), looks := true }, kinds := [], alts := [], laidByText := true, laidKinds := [.data, .data, .data, .sentinel, .sentinel], laidTests := true, laidLooks := .later }
def GenAgainUptoCardSaid : Prop := Claim7.holds Tryd.pinned (.plain (OpenSpec.upto genAgainSpec)) genAgainUptoCard
end Rows
end Go.Proofs.YtlhmldjgmbcocaaDoor
