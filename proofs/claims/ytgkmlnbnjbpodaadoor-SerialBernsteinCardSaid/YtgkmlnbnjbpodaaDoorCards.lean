/-
  DERIVED. GIVEN WITH THE SEED: THE CARDS: each row of YtgkmlnbnjbpodaaDoorRows.lean that lists a variable, with what it lists TIED to the program's text (the seventh form; the later family's looks); each row that meets fmt, with fmt's text TOLD by the authors' own Lean function (tested against real Go, not proved from fmt's source: count such statements apart). THE CARD IS WHAT COUNTS. Prove the row's statement (the work); the ties are given (YtgkmlnbnjbpodaaDoorTie.lean); close each card by the builder's one call (the guide's Derived/Test/ToyasCard.lean, 'card_holds'). Laid BY PROGRAM, IN A SANDBOX (cutbox-door.mjs). By AI agents, Wed Nov 11 2026. No macro, syntax, notation, axiom, sorry.
-/
import Derived.Test.YtgkmlnbnjbpodaaDoorRows
import GoSem.ClaimSeven
namespace Go.Proofs.YtgkmlnbnjbpodaaDoor
namespace Rows

/-- THE TIED CARD OF 'testimonykeep.SerialBernstein'. -/
def serialBernsteinCard : Claim7 := { stood := { row := serialBernsteinRow, standIns := [], harness := (true, "5c9cf5b49b2c0d33823b0146f6909e77de8280507d9699a41c2d64495450a61b"), looks := true }, kinds := [], alts := [], laidByText := true, laidKinds := [.handle], laidTests := true, laidLooks := .later }
def SerialBernsteinCardSaid : Prop := Claim7.holds Tryd.pinned (.plain (OpenSpec.ofChange serialBernsteinSpec)) serialBernsteinCard

/-- THE TIED CARD OF 'testimonykeep.SerialOne'. -/
def serialOneCard : Claim7 := { stood := { row := serialOneRow, standIns := [], harness := (true, "5c9cf5b49b2c0d33823b0146f6909e77de8280507d9699a41c2d64495450a61b"), looks := true }, kinds := [], alts := [], laidByText := true, laidKinds := [.handle], laidTests := true, laidLooks := .later }
def SerialOneCardSaid : Prop := Claim7.holds Tryd.pinned (.plain (OpenSpec.ofChange serialOneSpec)) serialOneCard

/-- THE SECOND FORM's CARD OF 'testimonykeep.SerialBernstein'. -/
def serialBernsteinUptoCard : Claim7 := { stood := { row := serialBernsteinUptoRow, standIns := [], harness := (true, "5c9cf5b49b2c0d33823b0146f6909e77de8280507d9699a41c2d64495450a61b"), looks := true }, kinds := [], alts := [], laidByText := true, laidKinds := [.handle], laidTests := true, laidLooks := .later }
def SerialBernsteinUptoCardSaid : Prop := Claim7.holds Tryd.pinned (.plain (OpenSpec.upto serialBernsteinSpec)) serialBernsteinUptoCard

/-- THE SECOND FORM's CARD OF 'testimonykeep.SerialOne'. -/
def serialOneUptoCard : Claim7 := { stood := { row := serialOneUptoRow, standIns := [], harness := (true, "5c9cf5b49b2c0d33823b0146f6909e77de8280507d9699a41c2d64495450a61b"), looks := true }, kinds := [], alts := [], laidByText := true, laidKinds := [.handle], laidTests := true, laidLooks := .later }
def SerialOneUptoCardSaid : Prop := Claim7.holds Tryd.pinned (.plain (OpenSpec.upto serialOneSpec)) serialOneUptoCard
end Rows
end Go.Proofs.YtgkmlnbnjbpodaaDoor
