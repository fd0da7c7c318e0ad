/-
  DERIVED. GIVEN WITH THE SEED: THE CARDS: each row of YtipkmkmngcjdbaaGreatDoorRows.lean that lists a variable, with what it lists TIED to the program's text (the seventh form; the later family's looks); each row that meets fmt, with fmt's text TOLD by the authors' own Lean function (tested against real Go, not proved from fmt's source: count such statements apart). THE CARD IS WHAT COUNTS. Prove the row's statement (the work); the ties are given (YtipkmkmngcjdbaaGreatDoorTie.lean); close each card by the builder's one call (the guide's Derived/Test/ToyasCard.lean, 'card_holds'). Laid BY PROGRAM, IN A SANDBOX (cutbox-door.mjs). By AI agents, Wed Nov 11 2026. No macro, syntax, notation, axiom, sorry.
-/
import Derived.Test.YtipkmkmngcjdbaaGreatDoorRows
import GoSem.ClaimSeven
namespace Go.Proofs.YtipkmkmngcjdbaaGreatDoor
namespace Rows

/-- THE TIED CARD OF 'skylanternlaw09.FigurePoints'. -/
def figurePointsCard : Claim7 := { stood := { row := figurePointsRow, standIns := [], harness := (true, "34c9c32b4c0deb639a896b593c2ce2797db3f17d3004651e140e39d97f693e6d"), looks := true }, kinds := [], alts := [], laidByText := true, laidKinds := [.data, .data, .data, .data, .sentinel, .sentinel, .pinned], laidTests := true, laidLooks := .later }
def FigurePointsCardSaid : Prop := Claim7.holds Tryz.pinned (.plain (OpenSpec.ofChange figurePointsSpec)) figurePointsCard

/-- THE TIED CARD OF 'skylanternlaw09.FigureTexts'. -/
def figureTextsCard : Claim7 := { stood := { row := figureTextsRow, standIns := [], harness := (true, "34c9c32b4c0deb639a896b593c2ce2797db3f17d3004651e140e39d97f693e6d"), looks := true }, kinds := [], alts := [], laidByText := true, laidKinds := [.data, .data, .data, .data, .sentinel, .sentinel, .pinned], laidTests := true, laidLooks := .later }
def FigureTextsCardSaid : Prop := Claim7.holds Tryz.pinned (.plain (OpenSpec.ofChange figureTextsSpec)) figureTextsCard

/-- THE TIED CARD OF 'skylanternlaw09.FigureParses'. -/
def figureParsesCard : Claim7 := { stood := { row := figureParsesRow, standIns := [], harness := (true, "34c9c32b4c0deb639a896b593c2ce2797db3f17d3004651e140e39d97f693e6d"), looks := true }, kinds := [], alts := [], laidByText := true, laidKinds := [.data, .data, .data, .data, .sentinel, .sentinel, .pinned], laidTests := true, laidLooks := .later }
def FigureParsesCardSaid : Prop := Claim7.holds Tryz.pinned (.plain (OpenSpec.ofChange figureParsesSpec)) figureParsesCard

/-- THE TIED CARD OF 'skylanternlaw09.FigureMoves'. -/
def figureMovesCard : Claim7 := { stood := { row := figureMovesRow, standIns := [], harness := (true, "34c9c32b4c0deb639a896b593c2ce2797db3f17d3004651e140e39d97f693e6d"), looks := true }, kinds := [], alts := [], laidByText := true, laidKinds := [.data, .data, .data, .data, .sentinel, .sentinel, .pinned], laidTests := true, laidLooks := .later }
def FigureMovesCardSaid : Prop := Claim7.holds Tryz.pinned (.plain (OpenSpec.ofChange figureMovesSpec)) figureMovesCard

/-- THE TIED CARD OF 'skylanternlaw09.FigureLimits'. -/
def figureLimitsCard : Claim7 := { stood := { row := figureLimitsRow, standIns := [], harness := (true, "34c9c32b4c0deb639a896b593c2ce2797db3f17d3004651e140e39d97f693e6d"), looks := true }, kinds := [], alts := [], laidByText := true, laidKinds := [.data, .data, .data, .data, .sentinel, .sentinel, .pinned], laidTests := true, laidLooks := .later }
def FigureLimitsCardSaid : Prop := Claim7.holds Tryz.pinned (.plain (OpenSpec.ofChange figureLimitsSpec)) figureLimitsCard

/-- THE TIED CARD OF 'skylanternlaw09.FigureHolds'. -/
def figureHoldsCard : Claim7 := { stood := { row := figureHoldsRow, standIns := [], harness := (true, "34c9c32b4c0deb639a896b593c2ce2797db3f17d3004651e140e39d97f693e6d"), looks := true }, kinds := [], alts := [], laidByText := true, laidKinds := [.data, .data, .data, .data, .sentinel, .sentinel, .pinned], laidTests := true, laidLooks := .later }
def FigureHoldsCardSaid : Prop := Claim7.holds Tryz.pinned (.plain (OpenSpec.ofChange figureHoldsSpec)) figureHoldsCard

/-- THE TIED CARD OF 'skylanternlaw09.FigureValid'. -/
def figureValidCard : Claim7 := { stood := { row := figureValidRow, standIns := [], harness := (true, "34c9c32b4c0deb639a896b593c2ce2797db3f17d3004651e140e39d97f693e6d"), looks := true }, kinds := [], alts := [], laidByText := true, laidKinds := [.data, .data, .data, .data, .sentinel, .sentinel, .pinned], laidTests := true, laidLooks := .later }
def FigureValidCardSaid : Prop := Claim7.holds Tryz.pinned (.plain (OpenSpec.ofChange figureValidSpec)) figureValidCard

/-- THE SECOND FORM's CARD OF 'skylanternlaw09.FigurePoints'. -/
def figurePointsUptoCard : Claim7 := { stood := { row := figurePointsUptoRow, standIns := [], harness := (true, "34c9c32b4c0deb639a896b593c2ce2797db3f17d3004651e140e39d97f693e6d"), looks := true }, kinds := [], alts := [], laidByText := true, laidKinds := [.data, .data, .data, .data, .sentinel, .sentinel, .pinned], laidTests := true, laidLooks := .later }
def FigurePointsUptoCardSaid : Prop := Claim7.holds Tryz.pinned (.plain (OpenSpec.upto figurePointsSpec)) figurePointsUptoCard

/-- THE SECOND FORM's CARD OF 'skylanternlaw09.FigureTexts'. -/
def figureTextsUptoCard : Claim7 := { stood := { row := figureTextsUptoRow, standIns := [], harness := (true, "34c9c32b4c0deb639a896b593c2ce2797db3f17d3004651e140e39d97f693e6d"), looks := true }, kinds := [], alts := [], laidByText := true, laidKinds := [.data, .data, .data, .data, .sentinel, .sentinel, .pinned], laidTests := true, laidLooks := .later }
def FigureTextsUptoCardSaid : Prop := Claim7.holds Tryz.pinned (.plain (OpenSpec.upto figureTextsSpec)) figureTextsUptoCard

/-- THE SECOND FORM's CARD OF 'skylanternlaw09.FigureParses'. -/
def figureParsesUptoCard : Claim7 := { stood := { row := figureParsesUptoRow, standIns := [], harness := (true, "34c9c32b4c0deb639a896b593c2ce2797db3f17d3004651e140e39d97f693e6d"), looks := true }, kinds := [], alts := [], laidByText := true, laidKinds := [.data, .data, .data, .data, .sentinel, .sentinel, .pinned], laidTests := true, laidLooks := .later }
def FigureParsesUptoCardSaid : Prop := Claim7.holds Tryz.pinned (.plain (OpenSpec.upto figureParsesSpec)) figureParsesUptoCard

/-- THE SECOND FORM's CARD OF 'skylanternlaw09.FigureMoves'. -/
def figureMovesUptoCard : Claim7 := { stood := { row := figureMovesUptoRow, standIns := [], harness := (true, "34c9c32b4c0deb639a896b593c2ce2797db3f17d3004651e140e39d97f693e6d"), looks := true }, kinds := [], alts := [], laidByText := true, laidKinds := [.data, .data, .data, .data, .sentinel, .sentinel, .pinned], laidTests := true, laidLooks := .later }
def FigureMovesUptoCardSaid : Prop := Claim7.holds Tryz.pinned (.plain (OpenSpec.upto figureMovesSpec)) figureMovesUptoCard

/-- THE SECOND FORM's CARD OF 'skylanternlaw09.FigureLimits'. -/
def figureLimitsUptoCard : Claim7 := { stood := { row := figureLimitsUptoRow, standIns := [], harness := (true, "34c9c32b4c0deb639a896b593c2ce2797db3f17d3004651e140e39d97f693e6d"), looks := true }, kinds := [], alts := [], laidByText := true, laidKinds := [.data, .data, .data, .data, .sentinel, .sentinel, .pinned], laidTests := true, laidLooks := .later }
def FigureLimitsUptoCardSaid : Prop := Claim7.holds Tryz.pinned (.plain (OpenSpec.upto figureLimitsSpec)) figureLimitsUptoCard

/-- THE SECOND FORM's CARD OF 'skylanternlaw09.FigureHolds'. -/
def figureHoldsUptoCard : Claim7 := { stood := { row := figureHoldsUptoRow, standIns := [], harness := (true, "34c9c32b4c0deb639a896b593c2ce2797db3f17d3004651e140e39d97f693e6d"), looks := true }, kinds := [], alts := [], laidByText := true, laidKinds := [.data, .data, .data, .data, .sentinel, .sentinel, .pinned], laidTests := true, laidLooks := .later }
def FigureHoldsUptoCardSaid : Prop := Claim7.holds Tryz.pinned (.plain (OpenSpec.upto figureHoldsSpec)) figureHoldsUptoCard

/-- THE SECOND FORM's CARD OF 'skylanternlaw09.FigureValid'. -/
def figureValidUptoCard : Claim7 := { stood := { row := figureValidUptoRow, standIns := [], harness := (true, "34c9c32b4c0deb639a896b593c2ce2797db3f17d3004651e140e39d97f693e6d"), looks := true }, kinds := [], alts := [], laidByText := true, laidKinds := [.data, .data, .data, .data, .sentinel, .sentinel, .pinned], laidTests := true, laidLooks := .later }
def FigureValidUptoCardSaid : Prop := Claim7.holds Tryz.pinned (.plain (OpenSpec.upto figureValidSpec)) figureValidUptoCard
end Rows
end Go.Proofs.YtipkmkmngcjdbaaGreatDoor
