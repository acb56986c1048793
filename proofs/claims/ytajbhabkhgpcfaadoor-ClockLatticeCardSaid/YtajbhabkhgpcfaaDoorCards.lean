/-
  DERIVED. GIVEN WITH THE SEED: THE CARDS: each row of YtajbhabkhgpcfaaDoorRows.lean that lists a variable, with what it lists TIED to the program's text (the seventh form; the later family's looks); each row that meets fmt, with fmt's text TOLD by the authors' own Lean function (tested against real Go, not proved from fmt's source: count such statements apart). THE CARD IS WHAT COUNTS. Prove the row's statement (the work); the ties are given (YtajbhabkhgpcfaaDoorTie.lean); close each card by the builder's one call (the guide's Derived/Test/ToyasCard.lean, 'card_holds'). Laid BY PROGRAM, IN A SANDBOX (cutbox-door.mjs). By AI agents, Wed Nov 11 2026. No macro, syntax, notation, axiom, sorry.
-/
import Derived.Test.YtajbhabkhgpcfaaDoorRows
import GoSem.ClaimSeven
namespace Go.Proofs.YtajbhabkhgpcfaaDoor
namespace Rows

/-- THE TIED CARD OF 'testimonykeep.ClockMattern'. -/
def clockMatternCard : Claim7 := { stood := { row := clockMatternRow, standIns := [], harness := (true, "9bdc9238a6916d03577a003bab87a6d05d9b32865770bde1be01c4013850183a"), looks := true }, kinds := [], alts := [], laidByText := true, laidKinds := [.handle], laidTests := true, laidLooks := .later }
def ClockMatternCardSaid : Prop := Claim7.holds Tryd.pinned (.plain (OpenSpec.ofChange clockMatternSpec)) clockMatternCard

/-- THE TIED CARD OF 'testimonykeep.ClockLattice'. -/
def clockLatticeCard : Claim7 := { stood := { row := clockLatticeRow, standIns := [], harness := (true, "9bdc9238a6916d03577a003bab87a6d05d9b32865770bde1be01c4013850183a"), looks := true }, kinds := [], alts := [], laidByText := true, laidKinds := [.handle], laidTests := true, laidLooks := .later }
def ClockLatticeCardSaid : Prop := Claim7.holds Tryd.pinned (.plain (OpenSpec.ofChange clockLatticeSpec)) clockLatticeCard

/-- THE TIED CARD OF 'testimonykeep.ClockGreatest'. -/
def clockGreatestCard : Claim7 := { stood := { row := clockGreatestRow, standIns := [], harness := (true, "9bdc9238a6916d03577a003bab87a6d05d9b32865770bde1be01c4013850183a"), looks := true }, kinds := [], alts := [], laidByText := true, laidKinds := [.handle], laidTests := true, laidLooks := .later }
def ClockGreatestCardSaid : Prop := Claim7.holds Tryd.pinned (.plain (OpenSpec.ofChange clockGreatestSpec)) clockGreatestCard

/-- THE SECOND FORM's CARD OF 'testimonykeep.ClockMattern'. -/
def clockMatternUptoCard : Claim7 := { stood := { row := clockMatternUptoRow, standIns := [], harness := (true, "9bdc9238a6916d03577a003bab87a6d05d9b32865770bde1be01c4013850183a"), looks := true }, kinds := [], alts := [], laidByText := true, laidKinds := [.handle], laidTests := true, laidLooks := .later }
def ClockMatternUptoCardSaid : Prop := Claim7.holds Tryd.pinned (.plain (OpenSpec.upto clockMatternSpec)) clockMatternUptoCard

/-- THE SECOND FORM's CARD OF 'testimonykeep.ClockLattice'. -/
def clockLatticeUptoCard : Claim7 := { stood := { row := clockLatticeUptoRow, standIns := [], harness := (true, "9bdc9238a6916d03577a003bab87a6d05d9b32865770bde1be01c4013850183a"), looks := true }, kinds := [], alts := [], laidByText := true, laidKinds := [.handle], laidTests := true, laidLooks := .later }
def ClockLatticeUptoCardSaid : Prop := Claim7.holds Tryd.pinned (.plain (OpenSpec.upto clockLatticeSpec)) clockLatticeUptoCard

/-- THE SECOND FORM's CARD OF 'testimonykeep.ClockGreatest'. -/
def clockGreatestUptoCard : Claim7 := { stood := { row := clockGreatestUptoRow, standIns := [], harness := (true, "9bdc9238a6916d03577a003bab87a6d05d9b32865770bde1be01c4013850183a"), looks := true }, kinds := [], alts := [], laidByText := true, laidKinds := [.handle], laidTests := true, laidLooks := .later }
def ClockGreatestUptoCardSaid : Prop := Claim7.holds Tryd.pinned (.plain (OpenSpec.upto clockGreatestSpec)) clockGreatestUptoCard
end Rows
end Go.Proofs.YtajbhabkhgpcfaaDoor
