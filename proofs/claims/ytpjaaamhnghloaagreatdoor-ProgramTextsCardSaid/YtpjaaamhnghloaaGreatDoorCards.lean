/-
  DERIVED. GIVEN WITH THE SEED: THE CARDS: each row of YtpjaaamhnghloaaGreatDoorRows.lean that lists a variable, with what it lists TIED to the program's text (the seventh form; the later family's looks); each row that meets fmt, with fmt's text TOLD by the authors' own Lean function (tested against real Go, not proved from fmt's source: count such statements apart). THE CARD IS WHAT COUNTS. Prove the row's statement (the work); the ties are given (YtpjaaamhnghloaaGreatDoorTie.lean); close each card by the builder's one call (the guide's Derived/Test/ToyasCard.lean, 'card_holds'). Laid BY PROGRAM, IN A SANDBOX (cutbox-door.mjs). By AI agents, Wed Nov 11 2026. No macro, syntax, notation, axiom, sorry.
-/
import Derived.Test.YtpjaaamhnghloaaGreatDoorRows
import GoSem.ClaimSeven
namespace Go.Proofs.YtpjaaamhnghloaaGreatDoor
namespace Rows

/-- THE TIED CARD OF 'skylanternlaw25.ProgramTexts'. -/
def programTextsCard : Claim7 := { stood := { row := programTextsRow, standIns := [], harness := (true, "56c2a2a85300652c27cc621af58c129786f68f5c74a32ba14bf44a1498965991"), looks := true }, kinds := [], alts := [], laidByText := true, laidKinds := [.data, .data, .data, .data, .sentinel, .sentinel, .pinned], laidTests := true, laidLooks := .later }
def ProgramTextsCardSaid : Prop := Claim7.holds Tryz.pinned (.plain (OpenSpec.ofChange programTextsSpec)) programTextsCard

/-- THE TIED CARD OF 'skylanternlaw25.ProgramHolds'. -/
def programHoldsCard : Claim7 := { stood := { row := programHoldsRow, standIns := [], harness := (true, "56c2a2a85300652c27cc621af58c129786f68f5c74a32ba14bf44a1498965991"), looks := true }, kinds := [], alts := [], laidByText := true, laidKinds := [.data, .data, .data, .data, .sentinel, .sentinel, .pinned], laidTests := true, laidLooks := .later }
def ProgramHoldsCardSaid : Prop := Claim7.holds Tryz.pinned (.plain (OpenSpec.ofChange programHoldsSpec)) programHoldsCard

/-- THE SECOND FORM's CARD OF 'skylanternlaw25.ProgramTexts'. -/
def programTextsUptoCard : Claim7 := { stood := { row := programTextsUptoRow, standIns := [], harness := (true, "56c2a2a85300652c27cc621af58c129786f68f5c74a32ba14bf44a1498965991"), looks := true }, kinds := [], alts := [], laidByText := true, laidKinds := [.data, .data, .data, .data, .sentinel, .sentinel, .pinned], laidTests := true, laidLooks := .later }
def ProgramTextsUptoCardSaid : Prop := Claim7.holds Tryz.pinned (.plain (OpenSpec.upto programTextsSpec)) programTextsUptoCard

/-- THE SECOND FORM's CARD OF 'skylanternlaw25.ProgramHolds'. -/
def programHoldsUptoCard : Claim7 := { stood := { row := programHoldsUptoRow, standIns := [], harness := (true, "56c2a2a85300652c27cc621af58c129786f68f5c74a32ba14bf44a1498965991"), looks := true }, kinds := [], alts := [], laidByText := true, laidKinds := [.data, .data, .data, .data, .sentinel, .sentinel, .pinned], laidTests := true, laidLooks := .later }
def ProgramHoldsUptoCardSaid : Prop := Claim7.holds Tryz.pinned (.plain (OpenSpec.upto programHoldsSpec)) programHoldsUptoCard
end Rows
end Go.Proofs.YtpjaaamhnghloaaGreatDoor
