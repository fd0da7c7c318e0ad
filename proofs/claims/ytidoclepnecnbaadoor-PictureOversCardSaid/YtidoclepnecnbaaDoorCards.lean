/-
  DERIVED. GIVEN WITH THE SEED: THE CARDS: each row of YtidoclepnecnbaaDoorRows.lean that lists a variable, with what it lists TIED to the program's text (the seventh form; the later family's looks); each row that meets fmt, with fmt's text TOLD by the authors' own Lean function (tested against real Go, not proved from fmt's source: count such statements apart). THE CARD IS WHAT COUNTS. Prove the row's statement (the work); the ties are given (YtidoclepnecnbaaDoorTie.lean); close each card by the builder's one call (the guide's Derived/Test/ToyasCard.lean, 'card_holds'). Laid BY PROGRAM, IN A SANDBOX (cutbox-door.mjs). By AI agents, Wed Nov 11 2026. No macro, syntax, notation, axiom, sorry.
-/
import Derived.Test.YtidoclepnecnbaaDoorRows
import GoSem.ClaimSeven
namespace Go.Proofs.YtidoclepnecnbaaDoor
namespace Rows

/-- THE TIED CARD OF 'skylanternlaw32.PictureValids'. -/
def pictureValidsCard : Claim7 := { stood := { row := pictureValidsRow, standIns := [], harness := (true, "4a73c6b10b3f205bc942b312ac3fded57b52f79e25111282e1cf45213f0e22d0"), looks := true }, kinds := [], alts := [], laidByText := true, laidKinds := [.data, .data, .data, .data, .sentinel, .sentinel, .pinned], laidTests := true, laidLooks := .later }
def PictureValidsCardSaid : Prop := Claim7.holds Tryd.pinned (.plain (OpenSpec.ofChange pictureValidsSpec)) pictureValidsCard

/-- THE TIED CARD OF 'skylanternlaw32.PictureTexts'. -/
def pictureTextsCard : Claim7 := { stood := { row := pictureTextsRow, standIns := [], harness := (true, "4a73c6b10b3f205bc942b312ac3fded57b52f79e25111282e1cf45213f0e22d0"), looks := true }, kinds := [], alts := [], laidByText := true, laidKinds := [.data, .data, .data, .data, .sentinel, .sentinel, .pinned], laidTests := true, laidLooks := .later }
def PictureTextsCardSaid : Prop := Claim7.holds Tryd.pinned (.plain (OpenSpec.ofChange pictureTextsSpec)) pictureTextsCard

/-- THE TIED CARD OF 'skylanternlaw32.PictureParses'. -/
def pictureParsesCard : Claim7 := { stood := { row := pictureParsesRow, standIns := [], harness := (true, "4a73c6b10b3f205bc942b312ac3fded57b52f79e25111282e1cf45213f0e22d0"), looks := true }, kinds := [], alts := [], laidByText := true, laidKinds := [.data, .data, .data, .data, .sentinel, .sentinel, .pinned], laidTests := true, laidLooks := .later }
def PictureParsesCardSaid : Prop := Claim7.holds Tryd.pinned (.plain (OpenSpec.ofChange pictureParsesSpec)) pictureParsesCard

/-- THE TIED CARD OF 'skylanternlaw32.PictureOvers'. -/
def pictureOversCard : Claim7 := { stood := { row := pictureOversRow, standIns := [], harness := (true, "4a73c6b10b3f205bc942b312ac3fded57b52f79e25111282e1cf45213f0e22d0"), looks := true }, kinds := [], alts := [], laidByText := true, laidKinds := [.data, .data, .data, .data, .sentinel, .sentinel, .pinned], laidTests := true, laidLooks := .later }
def PictureOversCardSaid : Prop := Claim7.holds Tryd.pinned (.plain (OpenSpec.ofChange pictureOversSpec)) pictureOversCard

/-- THE TIED CARD OF 'skylanternlaw32.PictureCrops'. -/
def pictureCropsCard : Claim7 := { stood := { row := pictureCropsRow, standIns := [], harness := (true, "4a73c6b10b3f205bc942b312ac3fded57b52f79e25111282e1cf45213f0e22d0"), looks := true }, kinds := [], alts := [], laidByText := true, laidKinds := [.data, .data, .data, .data, .sentinel, .sentinel, .pinned], laidTests := true, laidLooks := .later }
def PictureCropsCardSaid : Prop := Claim7.holds Tryd.pinned (.plain (OpenSpec.ofChange pictureCropsSpec)) pictureCropsCard

/-- THE TIED CARD OF 'skylanternlaw32.PicturePixels'. -/
def picturePixelsCard : Claim7 := { stood := { row := picturePixelsRow, standIns := [], harness := (true, "4a73c6b10b3f205bc942b312ac3fded57b52f79e25111282e1cf45213f0e22d0"), looks := true }, kinds := [], alts := [], laidByText := true, laidKinds := [.data, .data, .data, .data, .sentinel, .sentinel, .pinned], laidTests := true, laidLooks := .later }
def PicturePixelsCardSaid : Prop := Claim7.holds Tryd.pinned (.plain (OpenSpec.ofChange picturePixelsSpec)) picturePixelsCard

/-- THE TIED CARD OF 'skylanternlaw32.PictureHolds'. -/
def pictureHoldsCard : Claim7 := { stood := { row := pictureHoldsRow, standIns := [], harness := (true, "4a73c6b10b3f205bc942b312ac3fded57b52f79e25111282e1cf45213f0e22d0"), looks := true }, kinds := [], alts := [], laidByText := true, laidKinds := [.data, .data, .data, .data, .sentinel, .sentinel, .pinned], laidTests := true, laidLooks := .later }
def PictureHoldsCardSaid : Prop := Claim7.holds Tryd.pinned (.plain (OpenSpec.ofChange pictureHoldsSpec)) pictureHoldsCard

/-- THE SECOND FORM's CARD OF 'skylanternlaw32.PictureValids'. -/
def pictureValidsUptoCard : Claim7 := { stood := { row := pictureValidsUptoRow, standIns := [], harness := (true, "4a73c6b10b3f205bc942b312ac3fded57b52f79e25111282e1cf45213f0e22d0"), looks := true }, kinds := [], alts := [], laidByText := true, laidKinds := [.data, .data, .data, .data, .sentinel, .sentinel, .pinned], laidTests := true, laidLooks := .later }
def PictureValidsUptoCardSaid : Prop := Claim7.holds Tryd.pinned (.plain (OpenSpec.upto pictureValidsSpec)) pictureValidsUptoCard

/-- THE SECOND FORM's CARD OF 'skylanternlaw32.PictureTexts'. -/
def pictureTextsUptoCard : Claim7 := { stood := { row := pictureTextsUptoRow, standIns := [], harness := (true, "4a73c6b10b3f205bc942b312ac3fded57b52f79e25111282e1cf45213f0e22d0"), looks := true }, kinds := [], alts := [], laidByText := true, laidKinds := [.data, .data, .data, .data, .sentinel, .sentinel, .pinned], laidTests := true, laidLooks := .later }
def PictureTextsUptoCardSaid : Prop := Claim7.holds Tryd.pinned (.plain (OpenSpec.upto pictureTextsSpec)) pictureTextsUptoCard

/-- THE SECOND FORM's CARD OF 'skylanternlaw32.PictureParses'. -/
def pictureParsesUptoCard : Claim7 := { stood := { row := pictureParsesUptoRow, standIns := [], harness := (true, "4a73c6b10b3f205bc942b312ac3fded57b52f79e25111282e1cf45213f0e22d0"), looks := true }, kinds := [], alts := [], laidByText := true, laidKinds := [.data, .data, .data, .data, .sentinel, .sentinel, .pinned], laidTests := true, laidLooks := .later }
def PictureParsesUptoCardSaid : Prop := Claim7.holds Tryd.pinned (.plain (OpenSpec.upto pictureParsesSpec)) pictureParsesUptoCard

/-- THE SECOND FORM's CARD OF 'skylanternlaw32.PictureOvers'. -/
def pictureOversUptoCard : Claim7 := { stood := { row := pictureOversUptoRow, standIns := [], harness := (true, "4a73c6b10b3f205bc942b312ac3fded57b52f79e25111282e1cf45213f0e22d0"), looks := true }, kinds := [], alts := [], laidByText := true, laidKinds := [.data, .data, .data, .data, .sentinel, .sentinel, .pinned], laidTests := true, laidLooks := .later }
def PictureOversUptoCardSaid : Prop := Claim7.holds Tryd.pinned (.plain (OpenSpec.upto pictureOversSpec)) pictureOversUptoCard

/-- THE SECOND FORM's CARD OF 'skylanternlaw32.PictureCrops'. -/
def pictureCropsUptoCard : Claim7 := { stood := { row := pictureCropsUptoRow, standIns := [], harness := (true, "4a73c6b10b3f205bc942b312ac3fded57b52f79e25111282e1cf45213f0e22d0"), looks := true }, kinds := [], alts := [], laidByText := true, laidKinds := [.data, .data, .data, .data, .sentinel, .sentinel, .pinned], laidTests := true, laidLooks := .later }
def PictureCropsUptoCardSaid : Prop := Claim7.holds Tryd.pinned (.plain (OpenSpec.upto pictureCropsSpec)) pictureCropsUptoCard

/-- THE SECOND FORM's CARD OF 'skylanternlaw32.PicturePixels'. -/
def picturePixelsUptoCard : Claim7 := { stood := { row := picturePixelsUptoRow, standIns := [], harness := (true, "4a73c6b10b3f205bc942b312ac3fded57b52f79e25111282e1cf45213f0e22d0"), looks := true }, kinds := [], alts := [], laidByText := true, laidKinds := [.data, .data, .data, .data, .sentinel, .sentinel, .pinned], laidTests := true, laidLooks := .later }
def PicturePixelsUptoCardSaid : Prop := Claim7.holds Tryd.pinned (.plain (OpenSpec.upto picturePixelsSpec)) picturePixelsUptoCard

/-- THE SECOND FORM's CARD OF 'skylanternlaw32.PictureHolds'. -/
def pictureHoldsUptoCard : Claim7 := { stood := { row := pictureHoldsUptoRow, standIns := [], harness := (true, "4a73c6b10b3f205bc942b312ac3fded57b52f79e25111282e1cf45213f0e22d0"), looks := true }, kinds := [], alts := [], laidByText := true, laidKinds := [.data, .data, .data, .data, .sentinel, .sentinel, .pinned], laidTests := true, laidLooks := .later }
def PictureHoldsUptoCardSaid : Prop := Claim7.holds Tryd.pinned (.plain (OpenSpec.upto pictureHoldsSpec)) pictureHoldsUptoCard
end Rows
end Go.Proofs.YtidoclepnecnbaaDoor
