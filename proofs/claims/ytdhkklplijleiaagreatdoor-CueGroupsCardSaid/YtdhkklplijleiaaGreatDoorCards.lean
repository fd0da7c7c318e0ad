/-
  DERIVED. GIVEN WITH THE SEED: THE CARDS: each row of YtdhkklplijleiaaGreatDoorRows.lean that lists a variable, with what it lists TIED to the program's text (the seventh form; the later family's looks); each row that meets fmt, with fmt's text TOLD by the authors' own Lean function (tested against real Go, not proved from fmt's source: count such statements apart). THE CARD IS WHAT COUNTS. Prove the row's statement (the work); the ties are given (YtdhkklplijleiaaGreatDoorTie.lean); close each card by the builder's one call (the guide's Derived/Test/ToyasCard.lean, 'card_holds'). Laid BY PROGRAM, IN A SANDBOX (cutbox-door.mjs). By AI agents, Wed Nov 11 2026. No macro, syntax, notation, axiom, sorry.
-/
import Derived.Test.YtdhkklplijleiaaGreatDoorRows
import GoSem.ClaimSeven
namespace Go.Proofs.YtdhkklplijleiaaGreatDoor
namespace Rows

/-- THE TIED CARD OF 'skylanternlaw28.CueParses'. -/
def cueParsesCard : Claim7 := { stood := { row := cueParsesRow, standIns := [], harness := (true, "d75e2b97ce9b9e5d5ba94252aaea78aaa084d5039600cc0bec0915de9e0e1433"), looks := true }, kinds := [], alts := [], laidByText := true, laidKinds := [.data, .data, .data, .data, .sentinel, .sentinel, .pinned], laidTests := true, laidLooks := .later }
def CueParsesCardSaid : Prop := Claim7.holds Tryz.pinned (.plain (OpenSpec.ofChange cueParsesSpec)) cueParsesCard

/-- THE TIED CARD OF 'skylanternlaw28.CueHolds'. -/
def cueHoldsCard : Claim7 := { stood := { row := cueHoldsRow, standIns := [], harness := (true, "d75e2b97ce9b9e5d5ba94252aaea78aaa084d5039600cc0bec0915de9e0e1433"), looks := true }, kinds := [], alts := [], laidByText := true, laidKinds := [.data, .data, .data, .data, .sentinel, .sentinel, .pinned], laidTests := true, laidLooks := .later }
def CueHoldsCardSaid : Prop := Claim7.holds Tryz.pinned (.plain (OpenSpec.ofChange cueHoldsSpec)) cueHoldsCard

/-- THE TIED CARD OF 'skylanternlaw28.CueAdds'. -/
def cueAddsCard : Claim7 := { stood := { row := cueAddsRow, standIns := [], harness := (true, "d75e2b97ce9b9e5d5ba94252aaea78aaa084d5039600cc0bec0915de9e0e1433"), looks := true }, kinds := [], alts := [], laidByText := true, laidKinds := [.data, .data, .data, .data, .sentinel, .sentinel, .pinned], laidTests := true, laidLooks := .later }
def CueAddsCardSaid : Prop := Claim7.holds Tryz.pinned (.plain (OpenSpec.ofChange cueAddsSpec)) cueAddsCard

/-- THE TIED CARD OF 'skylanternlaw28.CueValues'. -/
def cueValuesCard : Claim7 := { stood := { row := cueValuesRow, standIns := [], harness := (true, "d75e2b97ce9b9e5d5ba94252aaea78aaa084d5039600cc0bec0915de9e0e1433"), looks := true }, kinds := [], alts := [], laidByText := true, laidKinds := [.data, .data, .data, .data, .sentinel, .sentinel, .pinned], laidTests := true, laidLooks := .later }
def CueValuesCardSaid : Prop := Claim7.holds Tryz.pinned (.plain (OpenSpec.ofChange cueValuesSpec)) cueValuesCard

/-- THE TIED CARD OF 'skylanternlaw28.CueGroups'. -/
def cueGroupsCard : Claim7 := { stood := { row := cueGroupsRow, standIns := [], harness := (true, "d75e2b97ce9b9e5d5ba94252aaea78aaa084d5039600cc0bec0915de9e0e1433"), looks := true }, kinds := [], alts := [], laidByText := true, laidKinds := [.data, .data, .data, .data, .sentinel, .sentinel, .pinned], laidTests := true, laidLooks := .later }
def CueGroupsCardSaid : Prop := Claim7.holds Tryz.pinned (.plain (OpenSpec.ofChange cueGroupsSpec)) cueGroupsCard

/-- THE TIED CARD OF 'skylanternlaw28.CueShifts'. -/
def cueShiftsCard : Claim7 := { stood := { row := cueShiftsRow, standIns := [], harness := (true, "d75e2b97ce9b9e5d5ba94252aaea78aaa084d5039600cc0bec0915de9e0e1433"), looks := true }, kinds := [], alts := [], laidByText := true, laidKinds := [.data, .data, .data, .data, .sentinel, .sentinel, .pinned], laidTests := true, laidLooks := .later }
def CueShiftsCardSaid : Prop := Claim7.holds Tryz.pinned (.plain (OpenSpec.ofChange cueShiftsSpec)) cueShiftsCard

/-- THE TIED CARD OF 'skylanternlaw28.CueTexts'. -/
def cueTextsCard : Claim7 := { stood := { row := cueTextsRow, standIns := [], harness := (true, "d75e2b97ce9b9e5d5ba94252aaea78aaa084d5039600cc0bec0915de9e0e1433"), looks := true }, kinds := [], alts := [], laidByText := true, laidKinds := [.data, .data, .data, .data, .sentinel, .sentinel, .pinned], laidTests := true, laidLooks := .later }
def CueTextsCardSaid : Prop := Claim7.holds Tryz.pinned (.plain (OpenSpec.ofChange cueTextsSpec)) cueTextsCard

/-- THE SECOND FORM's CARD OF 'skylanternlaw28.CueParses'. -/
def cueParsesUptoCard : Claim7 := { stood := { row := cueParsesUptoRow, standIns := [], harness := (true, "d75e2b97ce9b9e5d5ba94252aaea78aaa084d5039600cc0bec0915de9e0e1433"), looks := true }, kinds := [], alts := [], laidByText := true, laidKinds := [.data, .data, .data, .data, .sentinel, .sentinel, .pinned], laidTests := true, laidLooks := .later }
def CueParsesUptoCardSaid : Prop := Claim7.holds Tryz.pinned (.plain (OpenSpec.upto cueParsesSpec)) cueParsesUptoCard

/-- THE SECOND FORM's CARD OF 'skylanternlaw28.CueHolds'. -/
def cueHoldsUptoCard : Claim7 := { stood := { row := cueHoldsUptoRow, standIns := [], harness := (true, "d75e2b97ce9b9e5d5ba94252aaea78aaa084d5039600cc0bec0915de9e0e1433"), looks := true }, kinds := [], alts := [], laidByText := true, laidKinds := [.data, .data, .data, .data, .sentinel, .sentinel, .pinned], laidTests := true, laidLooks := .later }
def CueHoldsUptoCardSaid : Prop := Claim7.holds Tryz.pinned (.plain (OpenSpec.upto cueHoldsSpec)) cueHoldsUptoCard

/-- THE SECOND FORM's CARD OF 'skylanternlaw28.CueAdds'. -/
def cueAddsUptoCard : Claim7 := { stood := { row := cueAddsUptoRow, standIns := [], harness := (true, "d75e2b97ce9b9e5d5ba94252aaea78aaa084d5039600cc0bec0915de9e0e1433"), looks := true }, kinds := [], alts := [], laidByText := true, laidKinds := [.data, .data, .data, .data, .sentinel, .sentinel, .pinned], laidTests := true, laidLooks := .later }
def CueAddsUptoCardSaid : Prop := Claim7.holds Tryz.pinned (.plain (OpenSpec.upto cueAddsSpec)) cueAddsUptoCard

/-- THE SECOND FORM's CARD OF 'skylanternlaw28.CueValues'. -/
def cueValuesUptoCard : Claim7 := { stood := { row := cueValuesUptoRow, standIns := [], harness := (true, "d75e2b97ce9b9e5d5ba94252aaea78aaa084d5039600cc0bec0915de9e0e1433"), looks := true }, kinds := [], alts := [], laidByText := true, laidKinds := [.data, .data, .data, .data, .sentinel, .sentinel, .pinned], laidTests := true, laidLooks := .later }
def CueValuesUptoCardSaid : Prop := Claim7.holds Tryz.pinned (.plain (OpenSpec.upto cueValuesSpec)) cueValuesUptoCard

/-- THE SECOND FORM's CARD OF 'skylanternlaw28.CueGroups'. -/
def cueGroupsUptoCard : Claim7 := { stood := { row := cueGroupsUptoRow, standIns := [], harness := (true, "d75e2b97ce9b9e5d5ba94252aaea78aaa084d5039600cc0bec0915de9e0e1433"), looks := true }, kinds := [], alts := [], laidByText := true, laidKinds := [.data, .data, .data, .data, .sentinel, .sentinel, .pinned], laidTests := true, laidLooks := .later }
def CueGroupsUptoCardSaid : Prop := Claim7.holds Tryz.pinned (.plain (OpenSpec.upto cueGroupsSpec)) cueGroupsUptoCard

/-- THE SECOND FORM's CARD OF 'skylanternlaw28.CueShifts'. -/
def cueShiftsUptoCard : Claim7 := { stood := { row := cueShiftsUptoRow, standIns := [], harness := (true, "d75e2b97ce9b9e5d5ba94252aaea78aaa084d5039600cc0bec0915de9e0e1433"), looks := true }, kinds := [], alts := [], laidByText := true, laidKinds := [.data, .data, .data, .data, .sentinel, .sentinel, .pinned], laidTests := true, laidLooks := .later }
def CueShiftsUptoCardSaid : Prop := Claim7.holds Tryz.pinned (.plain (OpenSpec.upto cueShiftsSpec)) cueShiftsUptoCard

/-- THE SECOND FORM's CARD OF 'skylanternlaw28.CueTexts'. -/
def cueTextsUptoCard : Claim7 := { stood := { row := cueTextsUptoRow, standIns := [], harness := (true, "d75e2b97ce9b9e5d5ba94252aaea78aaa084d5039600cc0bec0915de9e0e1433"), looks := true }, kinds := [], alts := [], laidByText := true, laidKinds := [.data, .data, .data, .data, .sentinel, .sentinel, .pinned], laidTests := true, laidLooks := .later }
def CueTextsUptoCardSaid : Prop := Claim7.holds Tryz.pinned (.plain (OpenSpec.upto cueTextsSpec)) cueTextsUptoCard
end Rows
end Go.Proofs.YtdhkklplijleiaaGreatDoor
