/-
  DERIVED. GIVEN WITH THE SEED: THE CARDS: each row of YtijgkocolajghaaDoorRows.lean that lists a variable, with what it lists TIED to the program's text (the seventh form; the later family's looks); each row that meets fmt, with fmt's text TOLD by the authors' own Lean function (tested against real Go, not proved from fmt's source: count such statements apart). THE CARD IS WHAT COUNTS. Prove the row's statement (the work); the ties are given (YtijgkocolajghaaDoorTie.lean); close each card by the builder's one call (the guide's Derived/Test/ToyasCard.lean, 'card_holds'). Laid BY PROGRAM, IN A SANDBOX (cutbox-door.mjs). By AI agents, Wed Nov 11 2026. No macro, syntax, notation, axiom, sorry.
-/
import Derived.Test.YtijgkocolajghaaDoorRows
import GoSem.ClaimSeven
namespace Go.Proofs.YtijgkocolajghaaDoor
namespace Rows

/-- THE TIED CARD OF 'testimonykeep.QueueBad'. -/
def queueBadCard : Claim7 := { stood := { row := queueBadRow, standIns := [], harness := (true, "148ab010ed13b25cc8012109edc2d4b02869d2baf17fcaeb2392afea9c5b0689"), looks := true }, kinds := [], alts := [], laidByText := true, laidKinds := [.data, .data, .data, .data], laidTests := true, laidLooks := .later }
def QueueBadCardSaid : Prop := Claim7.holds Tryd.pinned (.plain (OpenSpec.ofChange queueBadSpec)) queueBadCard

/-- THE TIED CARD OF 'testimonykeep.ZoneGibbonsKorach'. -/
def zoneGibbonsKorachCard : Claim7 := { stood := { row := zoneGibbonsKorachRow, standIns := [], harness := (true, "148ab010ed13b25cc8012109edc2d4b02869d2baf17fcaeb2392afea9c5b0689"), looks := true }, kinds := [], alts := [], laidByText := true, laidKinds := [.data, .data, .data, .handle, .data], laidTests := true, laidLooks := .later }
def ZoneGibbonsKorachCardSaid : Prop := Claim7.holds Tryd.pinned (.plain (OpenSpec.ofChange zoneGibbonsKorachSpec)) zoneGibbonsKorachCard

/-- THE SECOND FORM's CARD OF 'testimonykeep.QueueBad'. -/
def queueBadUptoCard : Claim7 := { stood := { row := queueBadUptoRow, standIns := [], harness := (true, "148ab010ed13b25cc8012109edc2d4b02869d2baf17fcaeb2392afea9c5b0689"), looks := true }, kinds := [], alts := [], laidByText := true, laidKinds := [.data, .data, .data, .data], laidTests := true, laidLooks := .later }
def QueueBadUptoCardSaid : Prop := Claim7.holds Tryd.pinned (.plain (OpenSpec.upto queueBadSpec)) queueBadUptoCard

/-- THE SECOND FORM's CARD OF 'testimonykeep.ZoneGibbonsKorach'. -/
def zoneGibbonsKorachUptoCard : Claim7 := { stood := { row := zoneGibbonsKorachUptoRow, standIns := [], harness := (true, "148ab010ed13b25cc8012109edc2d4b02869d2baf17fcaeb2392afea9c5b0689"), looks := true }, kinds := [], alts := [], laidByText := true, laidKinds := [.data, .data, .data, .handle, .data], laidTests := true, laidLooks := .later }
def ZoneGibbonsKorachUptoCardSaid : Prop := Claim7.holds Tryd.pinned (.plain (OpenSpec.upto zoneGibbonsKorachSpec)) zoneGibbonsKorachUptoCard
end Rows
end Go.Proofs.YtijgkocolajghaaDoor
