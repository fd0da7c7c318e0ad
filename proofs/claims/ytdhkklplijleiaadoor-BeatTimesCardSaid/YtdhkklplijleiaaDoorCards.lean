/-
  DERIVED. GIVEN WITH THE SEED: THE CARDS: each row of YtdhkklplijleiaaDoorRows.lean that lists a variable, with what it lists TIED to the program's text (the seventh form; the later family's looks); each row that meets fmt, with fmt's text TOLD by the authors' own Lean function (tested against real Go, not proved from fmt's source: count such statements apart). THE CARD IS WHAT COUNTS. Prove the row's statement (the work); the ties are given (YtdhkklplijleiaaDoorTie.lean); close each card by the builder's one call (the guide's Derived/Test/ToyasCard.lean, 'card_holds'). Laid BY PROGRAM, IN A SANDBOX (cutbox-door.mjs). By AI agents, Wed Nov 11 2026. No macro, syntax, notation, axiom, sorry.
-/
import Derived.Test.YtdhkklplijleiaaDoorRows
import GoSem.ClaimSeven
namespace Go.Proofs.YtdhkklplijleiaaDoor
namespace Rows

/-- THE TIED CARD OF 'skylanternlaw27.BeatValids'. -/
def beatValidsCard : Claim7 := { stood := { row := beatValidsRow, standIns := [], harness := (true, "c7839d00743fd2ead962f853906a6cd3b8f1af2947fc6ff2757ee533e4ccfffb"), looks := true }, kinds := [], alts := [], laidByText := true, laidKinds := [.data, .data, .data, .data, .sentinel, .sentinel, .pinned], laidTests := true, laidLooks := .later }
def BeatValidsCardSaid : Prop := Claim7.holds Tryd.pinned (.plain (OpenSpec.ofChange beatValidsSpec)) beatValidsCard

/-- THE TIED CARD OF 'skylanternlaw27.BeatTimes'. -/
def beatTimesCard : Claim7 := { stood := { row := beatTimesRow, standIns := [], harness := (true, "c7839d00743fd2ead962f853906a6cd3b8f1af2947fc6ff2757ee533e4ccfffb"), looks := true }, kinds := [], alts := [], laidByText := true, laidKinds := [.data, .data, .data, .data, .sentinel, .sentinel, .pinned], laidTests := true, laidLooks := .later }
def BeatTimesCardSaid : Prop := Claim7.holds Tryd.pinned (.plain (OpenSpec.ofChange beatTimesSpec)) beatTimesCard

/-- THE TIED CARD OF 'skylanternlaw27.BeatTicks'. -/
def beatTicksCard : Claim7 := { stood := { row := beatTicksRow, standIns := [], harness := (true, "c7839d00743fd2ead962f853906a6cd3b8f1af2947fc6ff2757ee533e4ccfffb"), looks := true }, kinds := [], alts := [], laidByText := true, laidKinds := [.data, .data, .data, .data, .sentinel, .sentinel, .pinned], laidTests := true, laidLooks := .later }
def BeatTicksCardSaid : Prop := Claim7.holds Tryd.pinned (.plain (OpenSpec.ofChange beatTicksSpec)) beatTicksCard

/-- THE TIED CARD OF 'skylanternlaw27.BeatNearest'. -/
def beatNearestCard : Claim7 := { stood := { row := beatNearestRow, standIns := [], harness := (true, "c7839d00743fd2ead962f853906a6cd3b8f1af2947fc6ff2757ee533e4ccfffb"), looks := true }, kinds := [], alts := [], laidByText := true, laidKinds := [.data, .data, .data, .data, .sentinel, .sentinel, .pinned], laidTests := true, laidLooks := .later }
def BeatNearestCardSaid : Prop := Claim7.holds Tryd.pinned (.plain (OpenSpec.ofChange beatNearestSpec)) beatNearestCard

/-- THE TIED CARD OF 'skylanternlaw27.BeatGrids'. -/
def beatGridsCard : Claim7 := { stood := { row := beatGridsRow, standIns := [], harness := (true, "c7839d00743fd2ead962f853906a6cd3b8f1af2947fc6ff2757ee533e4ccfffb"), looks := true }, kinds := [], alts := [], laidByText := true, laidKinds := [.data, .data, .data, .data, .sentinel, .sentinel, .pinned], laidTests := true, laidLooks := .later }
def BeatGridsCardSaid : Prop := Claim7.holds Tryd.pinned (.plain (OpenSpec.ofChange beatGridsSpec)) beatGridsCard

/-- THE TIED CARD OF 'skylanternlaw27.BeatBars'. -/
def beatBarsCard : Claim7 := { stood := { row := beatBarsRow, standIns := [], harness := (true, "c7839d00743fd2ead962f853906a6cd3b8f1af2947fc6ff2757ee533e4ccfffb"), looks := true }, kinds := [], alts := [], laidByText := true, laidKinds := [.data, .data, .data, .data, .sentinel, .sentinel, .pinned], laidTests := true, laidLooks := .later }
def BeatBarsCardSaid : Prop := Claim7.holds Tryd.pinned (.plain (OpenSpec.ofChange beatBarsSpec)) beatBarsCard

/-- THE TIED CARD OF 'skylanternlaw27.BeatParses'. -/
def beatParsesCard : Claim7 := { stood := { row := beatParsesRow, standIns := [], harness := (true, "c7839d00743fd2ead962f853906a6cd3b8f1af2947fc6ff2757ee533e4ccfffb"), looks := true }, kinds := [], alts := [], laidByText := true, laidKinds := [.data, .data, .data, .data, .sentinel, .sentinel, .pinned], laidTests := true, laidLooks := .later }
def BeatParsesCardSaid : Prop := Claim7.holds Tryd.pinned (.plain (OpenSpec.ofChange beatParsesSpec)) beatParsesCard

/-- THE TIED CARD OF 'skylanternlaw27.BeatHolds'. -/
def beatHoldsCard : Claim7 := { stood := { row := beatHoldsRow, standIns := [], harness := (true, "c7839d00743fd2ead962f853906a6cd3b8f1af2947fc6ff2757ee533e4ccfffb"), looks := true }, kinds := [], alts := [], laidByText := true, laidKinds := [.data, .data, .data, .data, .sentinel, .sentinel, .pinned], laidTests := true, laidLooks := .later }
def BeatHoldsCardSaid : Prop := Claim7.holds Tryd.pinned (.plain (OpenSpec.ofChange beatHoldsSpec)) beatHoldsCard

/-- THE SECOND FORM's CARD OF 'skylanternlaw27.BeatValids'. -/
def beatValidsUptoCard : Claim7 := { stood := { row := beatValidsUptoRow, standIns := [], harness := (true, "c7839d00743fd2ead962f853906a6cd3b8f1af2947fc6ff2757ee533e4ccfffb"), looks := true }, kinds := [], alts := [], laidByText := true, laidKinds := [.data, .data, .data, .data, .sentinel, .sentinel, .pinned], laidTests := true, laidLooks := .later }
def BeatValidsUptoCardSaid : Prop := Claim7.holds Tryd.pinned (.plain (OpenSpec.upto beatValidsSpec)) beatValidsUptoCard

/-- THE SECOND FORM's CARD OF 'skylanternlaw27.BeatTimes'. -/
def beatTimesUptoCard : Claim7 := { stood := { row := beatTimesUptoRow, standIns := [], harness := (true, "c7839d00743fd2ead962f853906a6cd3b8f1af2947fc6ff2757ee533e4ccfffb"), looks := true }, kinds := [], alts := [], laidByText := true, laidKinds := [.data, .data, .data, .data, .sentinel, .sentinel, .pinned], laidTests := true, laidLooks := .later }
def BeatTimesUptoCardSaid : Prop := Claim7.holds Tryd.pinned (.plain (OpenSpec.upto beatTimesSpec)) beatTimesUptoCard

/-- THE SECOND FORM's CARD OF 'skylanternlaw27.BeatTicks'. -/
def beatTicksUptoCard : Claim7 := { stood := { row := beatTicksUptoRow, standIns := [], harness := (true, "c7839d00743fd2ead962f853906a6cd3b8f1af2947fc6ff2757ee533e4ccfffb"), looks := true }, kinds := [], alts := [], laidByText := true, laidKinds := [.data, .data, .data, .data, .sentinel, .sentinel, .pinned], laidTests := true, laidLooks := .later }
def BeatTicksUptoCardSaid : Prop := Claim7.holds Tryd.pinned (.plain (OpenSpec.upto beatTicksSpec)) beatTicksUptoCard

/-- THE SECOND FORM's CARD OF 'skylanternlaw27.BeatNearest'. -/
def beatNearestUptoCard : Claim7 := { stood := { row := beatNearestUptoRow, standIns := [], harness := (true, "c7839d00743fd2ead962f853906a6cd3b8f1af2947fc6ff2757ee533e4ccfffb"), looks := true }, kinds := [], alts := [], laidByText := true, laidKinds := [.data, .data, .data, .data, .sentinel, .sentinel, .pinned], laidTests := true, laidLooks := .later }
def BeatNearestUptoCardSaid : Prop := Claim7.holds Tryd.pinned (.plain (OpenSpec.upto beatNearestSpec)) beatNearestUptoCard

/-- THE SECOND FORM's CARD OF 'skylanternlaw27.BeatGrids'. -/
def beatGridsUptoCard : Claim7 := { stood := { row := beatGridsUptoRow, standIns := [], harness := (true, "c7839d00743fd2ead962f853906a6cd3b8f1af2947fc6ff2757ee533e4ccfffb"), looks := true }, kinds := [], alts := [], laidByText := true, laidKinds := [.data, .data, .data, .data, .sentinel, .sentinel, .pinned], laidTests := true, laidLooks := .later }
def BeatGridsUptoCardSaid : Prop := Claim7.holds Tryd.pinned (.plain (OpenSpec.upto beatGridsSpec)) beatGridsUptoCard

/-- THE SECOND FORM's CARD OF 'skylanternlaw27.BeatBars'. -/
def beatBarsUptoCard : Claim7 := { stood := { row := beatBarsUptoRow, standIns := [], harness := (true, "c7839d00743fd2ead962f853906a6cd3b8f1af2947fc6ff2757ee533e4ccfffb"), looks := true }, kinds := [], alts := [], laidByText := true, laidKinds := [.data, .data, .data, .data, .sentinel, .sentinel, .pinned], laidTests := true, laidLooks := .later }
def BeatBarsUptoCardSaid : Prop := Claim7.holds Tryd.pinned (.plain (OpenSpec.upto beatBarsSpec)) beatBarsUptoCard

/-- THE SECOND FORM's CARD OF 'skylanternlaw27.BeatParses'. -/
def beatParsesUptoCard : Claim7 := { stood := { row := beatParsesUptoRow, standIns := [], harness := (true, "c7839d00743fd2ead962f853906a6cd3b8f1af2947fc6ff2757ee533e4ccfffb"), looks := true }, kinds := [], alts := [], laidByText := true, laidKinds := [.data, .data, .data, .data, .sentinel, .sentinel, .pinned], laidTests := true, laidLooks := .later }
def BeatParsesUptoCardSaid : Prop := Claim7.holds Tryd.pinned (.plain (OpenSpec.upto beatParsesSpec)) beatParsesUptoCard

/-- THE SECOND FORM's CARD OF 'skylanternlaw27.BeatHolds'. -/
def beatHoldsUptoCard : Claim7 := { stood := { row := beatHoldsUptoRow, standIns := [], harness := (true, "c7839d00743fd2ead962f853906a6cd3b8f1af2947fc6ff2757ee533e4ccfffb"), looks := true }, kinds := [], alts := [], laidByText := true, laidKinds := [.data, .data, .data, .data, .sentinel, .sentinel, .pinned], laidTests := true, laidLooks := .later }
def BeatHoldsUptoCardSaid : Prop := Claim7.holds Tryd.pinned (.plain (OpenSpec.upto beatHoldsSpec)) beatHoldsUptoCard
end Rows
end Go.Proofs.YtdhkklplijleiaaDoor
