/-
  DERIVED. GIVEN WITH THE SEED: THE CARDS: each row of YtidoclepnecnbaaGreatDoorRows.lean that lists a variable, with what it lists TIED to the program's text (the seventh form; the later family's looks); each row that meets fmt, with fmt's text TOLD by the authors' own Lean function (tested against real Go, not proved from fmt's source: count such statements apart). THE CARD IS WHAT COUNTS. Prove the row's statement (the work); the ties are given (YtidoclepnecnbaaGreatDoorTie.lean); close each card by the builder's one call (the guide's Derived/Test/ToyasCard.lean, 'card_holds'). Laid BY PROGRAM, IN A SANDBOX (cutbox-door.mjs). By AI agents, Wed Nov 11 2026. No macro, syntax, notation, axiom, sorry.
-/
import Derived.Test.YtidoclepnecnbaaGreatDoorRows
import GoSem.ClaimSeven
namespace Go.Proofs.YtidoclepnecnbaaGreatDoor
namespace Rows

/-- THE TIED CARD OF 'skylanternlaw32.PictureDraws'. -/
def pictureDrawsCard : Claim7 := { stood := { row := pictureDrawsRow, standIns := [], harness := (true, "453fd326da9857b20f2f0c06b2a52409841d32da23a2dc4fa290ce187a477d4a"), looks := true }, kinds := [], alts := [], laidByText := true, laidKinds := [.data, .data, .data, .data, .sentinel, .sentinel, .pinned], laidTests := true, laidLooks := .later }
def PictureDrawsCardSaid : Prop := Claim7.holds Tryz.pinned (.plain (OpenSpec.ofChange pictureDrawsSpec)) pictureDrawsCard

/-- THE SECOND FORM's CARD OF 'skylanternlaw32.PictureDraws'. -/
def pictureDrawsUptoCard : Claim7 := { stood := { row := pictureDrawsUptoRow, standIns := [], harness := (true, "453fd326da9857b20f2f0c06b2a52409841d32da23a2dc4fa290ce187a477d4a"), looks := true }, kinds := [], alts := [], laidByText := true, laidKinds := [.data, .data, .data, .data, .sentinel, .sentinel, .pinned], laidTests := true, laidLooks := .later }
def PictureDrawsUptoCardSaid : Prop := Claim7.holds Tryz.pinned (.plain (OpenSpec.upto pictureDrawsSpec)) pictureDrawsUptoCard
end Rows
end Go.Proofs.YtidoclepnecnbaaGreatDoor
