/-
  DERIVED. GIVEN WITH THE SEED: THE CARDS: each row of YtfmoopdnamdobaaDoorRows.lean that lists a variable, with what it lists TIED to the program's text (the seventh form; the later family's looks); each row that meets fmt, with fmt's text TOLD by the authors' own Lean function (tested against real Go, not proved from fmt's source: count such statements apart). THE CARD IS WHAT COUNTS. Prove the row's statement (the work); the ties are given (YtfmoopdnamdobaaDoorTie.lean); close each card by the builder's one call (the guide's Derived/Test/ToyasCard.lean, 'card_holds'). Laid BY PROGRAM, IN A SANDBOX (cutbox-door.mjs). By AI agents, Wed Nov 11 2026. No macro, syntax, notation, axiom, sorry.
-/
import Derived.Test.YtfmoopdnamdobaaDoorRows
import GoSem.ClaimSeven
namespace Go.Proofs.YtfmoopdnamdobaaDoor
namespace Rows

/-- THE TIED CARD OF 'skylanternlaw25.ProgramLimits'. -/
def programLimitsCard : Claim7 := { stood := { row := programLimitsRow, standIns := [], harness := (true, "8cbd782178bbc0f2157c2a9ac2f6277b6ab0221e4ce15bf6d050e24b0b489243"), looks := false }, kinds := [], alts := [], laidByText := true, laidKinds := [.data, .data, .data], laidTests := true, laidLooks := .later }
def ProgramLimitsCardSaid : Prop := Claim7.holds Tryd.pinned (.plain (OpenSpec.ofChange programLimitsSpec)) programLimitsCard

/-- THE TIED CARD OF 'skylanternlaw25.ProgramFinds'. -/
def programFindsCard : Claim7 := { stood := { row := programFindsRow, standIns := [], harness := (true, "8cbd782178bbc0f2157c2a9ac2f6277b6ab0221e4ce15bf6d050e24b0b489243"), looks := false }, kinds := [], alts := [], laidByText := true, laidKinds := [.data, .data, .data], laidTests := true, laidLooks := .later }
def ProgramFindsCardSaid : Prop := Claim7.holds Tryd.pinned (.plain (OpenSpec.ofChange programFindsSpec)) programFindsCard

/-- THE TIED CARD OF 'skylanternlaw25.ProgramAppends'. -/
def programAppendsCard : Claim7 := { stood := { row := programAppendsRow, standIns := [], harness := (true, "8cbd782178bbc0f2157c2a9ac2f6277b6ab0221e4ce15bf6d050e24b0b489243"), looks := false }, kinds := [], alts := [], laidByText := true, laidKinds := [.data, .data, .data], laidTests := true, laidLooks := .later }
def ProgramAppendsCardSaid : Prop := Claim7.holds Tryd.pinned (.plain (OpenSpec.ofChange programAppendsSpec)) programAppendsCard

/-- THE TIED CARD OF 'skylanternlaw25.ProgramPaths'. -/
def programPathsCard : Claim7 := { stood := { row := programPathsRow, standIns := [], harness := (true, "8cbd782178bbc0f2157c2a9ac2f6277b6ab0221e4ce15bf6d050e24b0b489243"), looks := false }, kinds := [], alts := [], laidByText := true, laidKinds := [.data, .data, .data], laidTests := true, laidLooks := .later }
def ProgramPathsCardSaid : Prop := Claim7.holds Tryd.pinned (.plain (OpenSpec.ofChange programPathsSpec)) programPathsCard

/-- THE TIED CARD OF 'skylanternlaw25.ProgramValid'. -/
def programValidCard : Claim7 := { stood := { row := programValidRow, standIns := [], harness := (true, "8cbd782178bbc0f2157c2a9ac2f6277b6ab0221e4ce15bf6d050e24b0b489243"), looks := false }, kinds := [], alts := [], laidByText := true, laidKinds := [.data, .data, .data], laidTests := true, laidLooks := .later }
def ProgramValidCardSaid : Prop := Claim7.holds Tryd.pinned (.plain (OpenSpec.ofChange programValidSpec)) programValidCard

/-- THE SECOND FORM's CARD OF 'skylanternlaw25.ProgramLimits'. -/
def programLimitsUptoCard : Claim7 := { stood := { row := programLimitsUptoRow, standIns := [], harness := (true, "8cbd782178bbc0f2157c2a9ac2f6277b6ab0221e4ce15bf6d050e24b0b489243"), looks := false }, kinds := [], alts := [], laidByText := true, laidKinds := [.data, .data, .data], laidTests := true, laidLooks := .later }
def ProgramLimitsUptoCardSaid : Prop := Claim7.holds Tryd.pinned (.plain (OpenSpec.upto programLimitsSpec)) programLimitsUptoCard

/-- THE SECOND FORM's CARD OF 'skylanternlaw25.ProgramFinds'. -/
def programFindsUptoCard : Claim7 := { stood := { row := programFindsUptoRow, standIns := [], harness := (true, "8cbd782178bbc0f2157c2a9ac2f6277b6ab0221e4ce15bf6d050e24b0b489243"), looks := false }, kinds := [], alts := [], laidByText := true, laidKinds := [.data, .data, .data], laidTests := true, laidLooks := .later }
def ProgramFindsUptoCardSaid : Prop := Claim7.holds Tryd.pinned (.plain (OpenSpec.upto programFindsSpec)) programFindsUptoCard

/-- THE SECOND FORM's CARD OF 'skylanternlaw25.ProgramAppends'. -/
def programAppendsUptoCard : Claim7 := { stood := { row := programAppendsUptoRow, standIns := [], harness := (true, "8cbd782178bbc0f2157c2a9ac2f6277b6ab0221e4ce15bf6d050e24b0b489243"), looks := false }, kinds := [], alts := [], laidByText := true, laidKinds := [.data, .data, .data], laidTests := true, laidLooks := .later }
def ProgramAppendsUptoCardSaid : Prop := Claim7.holds Tryd.pinned (.plain (OpenSpec.upto programAppendsSpec)) programAppendsUptoCard

/-- THE SECOND FORM's CARD OF 'skylanternlaw25.ProgramPaths'. -/
def programPathsUptoCard : Claim7 := { stood := { row := programPathsUptoRow, standIns := [], harness := (true, "8cbd782178bbc0f2157c2a9ac2f6277b6ab0221e4ce15bf6d050e24b0b489243"), looks := false }, kinds := [], alts := [], laidByText := true, laidKinds := [.data, .data, .data], laidTests := true, laidLooks := .later }
def ProgramPathsUptoCardSaid : Prop := Claim7.holds Tryd.pinned (.plain (OpenSpec.upto programPathsSpec)) programPathsUptoCard

/-- THE SECOND FORM's CARD OF 'skylanternlaw25.ProgramValid'. -/
def programValidUptoCard : Claim7 := { stood := { row := programValidUptoRow, standIns := [], harness := (true, "8cbd782178bbc0f2157c2a9ac2f6277b6ab0221e4ce15bf6d050e24b0b489243"), looks := false }, kinds := [], alts := [], laidByText := true, laidKinds := [.data, .data, .data], laidTests := true, laidLooks := .later }
def ProgramValidUptoCardSaid : Prop := Claim7.holds Tryd.pinned (.plain (OpenSpec.upto programValidSpec)) programValidUptoCard
end Rows
end Go.Proofs.YtfmoopdnamdobaaDoor
