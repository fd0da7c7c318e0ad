/-
  No cell of these rows narrows 'for every input' (looked for: loops, veiled, ifaces, maps, wideKeys, modest, calm, conditions, laid).
  DERIVED. THE GIVEN ROWS OF THIS SEAT. 8 by the template 'for every input the law returns true; each argument reads behind the call as it read before'; 0 by the template 'total and deterministic' (their statements: YtoheflpoanjihaaGreatTotals.lean).
  GIVEN WITH THE SEED: the statements are not yours to turn. If you find one false, say at which input.
  Laid BY PROGRAM, IN A SANDBOX (cutbox-rows.mjs): the forced cells as the released guide's own fill.sh prints them over the translation fb1836825cfe8de3… (all of the seat's roots in one cut). By AI agents, Wed Nov 11 2026. No macro, syntax, notation, axiom, sorry.
-/
import Derived.Test.YtoheflpoanjihaaGreatChecked
import GoSem.Claim
import GoSem.ClaimJoined
import GoSem.ClaimMapViews
import Derived.JoinedTies
import Derived.KernelRfl
namespace Go.Proofs.YtoheflpoanjihaaGreat
/- THE CELL 'sum', in the pinned program and in every row, IS THE sha256 OF THE DUMP (.gsa) THAT YtoheflpoanjihaaGreatProg.lean LOADS. Nothing in Lean hashes anything: it is a label: what it is worth is what the hold of that sum in a sandbox is worth. -/
noncomputable def Tryz.pinned : Pinned := { name := "ytoheflpoanjihaagreat", sum := "fb1836825cfe8de30b28ca066c636ec0c034f2a9b4a37367972b042973ac96c6", checked := Tryz.checked }
namespace Rows
def none {H : Type} : Left H := { results := [], args := [] }

/-- 'skylanternlaw08.FenceSimple': WHATEVER THE INPUT: true; the input reads as it did. -/
def fenceSimpleSpec : ChangeSpec := { name := "fenceSimple", fn := fun _ => fun
  | [d1, d2] => { results := [.lit (.bool true)], args := [d1, d2] }
  | _ => none }
def fenceSimpleRow : OpenClaim := { program := "ytoheflpoanjihaagreat", sum := "fb1836825cfe8de30b28ca066c636ec0c034f2a9b4a37367972b042973ac96c6", func := "skylantern/skylanternlaw08.FenceSimple", spec := "fenceSimple", inPlace := ["math/bits.Add64", "math/bits.Sub64"], unfollowed := true, recurses := true, named := ["math/bits.divideError", "math/bits.overflowError"], apart := false }
def FenceSimpleSaid : Prop := fenceSimpleRow.holds Tryz.pinned (OpenSpec.ofChange fenceSimpleSpec)

/-- ITS FALSE NEIGHBOUR: 'it returns false'. Refute it at one input. -/
def fenceSimpleWrong : ChangeSpec := { name := "fenceSimple", fn := fun _ => fun
  | [d1, d2] => { results := [.lit (.bool false)], args := [d1, d2] }
  | _ => none }
def FenceSimpleWrongFalsely : Prop := fenceSimpleRow.holds Tryz.pinned (OpenSpec.ofChange fenceSimpleWrong)

/-- 'skylanternlaw08.FenceValid': WHATEVER THE INPUT: true; the input reads as it did. -/
def fenceValidSpec : ChangeSpec := { name := "fenceValid", fn := fun _ => fun
  | [d] => { results := [.lit (.bool true)], args := [d] }
  | _ => none }
def fenceValidRow : OpenClaim := { program := "ytoheflpoanjihaagreat", sum := "fb1836825cfe8de30b28ca066c636ec0c034f2a9b4a37367972b042973ac96c6", func := "skylantern/skylanternlaw08.FenceValid", spec := "fenceValid", inPlace := ["math/bits.Add64", "math/bits.Sub64"], unfollowed := true, recurses := true, named := ["math/bits.divideError", "math/bits.overflowError"], apart := false }
def FenceValidSaid : Prop := fenceValidRow.holds Tryz.pinned (OpenSpec.ofChange fenceValidSpec)

/-- ITS FALSE NEIGHBOUR: 'it returns false'. Refute it at one input. -/
def fenceValidWrong : ChangeSpec := { name := "fenceValid", fn := fun _ => fun
  | [d] => { results := [.lit (.bool false)], args := [d] }
  | _ => none }
def FenceValidWrongFalsely : Prop := fenceValidRow.holds Tryz.pinned (OpenSpec.ofChange fenceValidWrong)

/-- 'skylanternlaw08.FenceInsides': WHATEVER THE INPUT: true; the input reads as it did. -/
def fenceInsidesSpec : ChangeSpec := { name := "fenceInsides", fn := fun _ => fun
  | [d1, d2] => { results := [.lit (.bool true)], args := [d1, d2] }
  | _ => none }
def fenceInsidesRow : OpenClaim := { program := "ytoheflpoanjihaagreat", sum := "fb1836825cfe8de30b28ca066c636ec0c034f2a9b4a37367972b042973ac96c6", func := "skylantern/skylanternlaw08.FenceInsides", spec := "fenceInsides", inPlace := ["math/bits.Add64", "math/bits.Sub64"], unfollowed := true, recurses := true, named := ["math/bits.divideError", "math/bits.overflowError"], apart := false }
def FenceInsidesSaid : Prop := fenceInsidesRow.holds Tryz.pinned (OpenSpec.ofChange fenceInsidesSpec)

/-- ITS FALSE NEIGHBOUR: 'it returns false'. Refute it at one input. -/
def fenceInsidesWrong : ChangeSpec := { name := "fenceInsides", fn := fun _ => fun
  | [d1, d2] => { results := [.lit (.bool false)], args := [d1, d2] }
  | _ => none }
def FenceInsidesWrongFalsely : Prop := fenceInsidesRow.holds Tryz.pinned (OpenSpec.ofChange fenceInsidesWrong)

/-- 'skylanternlaw08.FencePlaces': WHATEVER THE INPUT: true; the input reads as it did. -/
def fencePlacesSpec : ChangeSpec := { name := "fencePlaces", fn := fun _ => fun
  | [d1, d2, d3, d4, d5] => { results := [.lit (.bool true)], args := [d1, d2, d3, d4, d5] }
  | _ => none }
def fencePlacesRow : OpenClaim := { program := "ytoheflpoanjihaagreat", sum := "fb1836825cfe8de30b28ca066c636ec0c034f2a9b4a37367972b042973ac96c6", func := "skylantern/skylanternlaw08.FencePlaces", spec := "fencePlaces", inPlace := ["math/bits.Add64", "math/bits.Sub64"], unfollowed := true, recurses := true, named := ["math/bits.divideError", "math/bits.overflowError"], apart := false }
def FencePlacesSaid : Prop := fencePlacesRow.holds Tryz.pinned (OpenSpec.ofChange fencePlacesSpec)

/-- ITS FALSE NEIGHBOUR: 'it returns false'. Refute it at one input. -/
def fencePlacesWrong : ChangeSpec := { name := "fencePlaces", fn := fun _ => fun
  | [d1, d2, d3, d4, d5] => { results := [.lit (.bool false)], args := [d1, d2, d3, d4, d5] }
  | _ => none }
def FencePlacesWrongFalsely : Prop := fencePlacesRow.holds Tryz.pinned (OpenSpec.ofChange fencePlacesWrong)

/-- 'skylanternlaw08.FenceLines': WHATEVER THE INPUT: true; the input reads as it did. -/
def fenceLinesSpec : ChangeSpec := { name := "fenceLines", fn := fun _ => fun
  | [d1, d2, d3] => { results := [.lit (.bool true)], args := [d1, d2, d3] }
  | _ => none }
def fenceLinesRow : OpenClaim := { program := "ytoheflpoanjihaagreat", sum := "fb1836825cfe8de30b28ca066c636ec0c034f2a9b4a37367972b042973ac96c6", func := "skylantern/skylanternlaw08.FenceLines", spec := "fenceLines", inPlace := ["math/bits.Add64", "math/bits.Sub64"], unfollowed := true, recurses := true, named := ["math/bits.divideError", "math/bits.overflowError"], apart := false }
def FenceLinesSaid : Prop := fenceLinesRow.holds Tryz.pinned (OpenSpec.ofChange fenceLinesSpec)

/-- ITS FALSE NEIGHBOUR: 'it returns false'. Refute it at one input. -/
def fenceLinesWrong : ChangeSpec := { name := "fenceLines", fn := fun _ => fun
  | [d1, d2, d3] => { results := [.lit (.bool false)], args := [d1, d2, d3] }
  | _ => none }
def FenceLinesWrongFalsely : Prop := fenceLinesRow.holds Tryz.pinned (OpenSpec.ofChange fenceLinesWrong)

/-- 'skylanternlaw08.FenceEdges': WHATEVER THE INPUT: true; the input reads as it did. -/
def fenceEdgesSpec : ChangeSpec := { name := "fenceEdges", fn := fun _ => fun
  | [d1, d2] => { results := [.lit (.bool true)], args := [d1, d2] }
  | _ => none }
def fenceEdgesRow : OpenClaim := { program := "ytoheflpoanjihaagreat", sum := "fb1836825cfe8de30b28ca066c636ec0c034f2a9b4a37367972b042973ac96c6", func := "skylantern/skylanternlaw08.FenceEdges", spec := "fenceEdges", inPlace := ["math/bits.Add64", "math/bits.Sub64"], unfollowed := true, recurses := true, named := ["math/bits.divideError", "math/bits.overflowError"], apart := false }
def FenceEdgesSaid : Prop := fenceEdgesRow.holds Tryz.pinned (OpenSpec.ofChange fenceEdgesSpec)

/-- ITS FALSE NEIGHBOUR: 'it returns false'. Refute it at one input. -/
def fenceEdgesWrong : ChangeSpec := { name := "fenceEdges", fn := fun _ => fun
  | [d1, d2] => { results := [.lit (.bool false)], args := [d1, d2] }
  | _ => none }
def FenceEdgesWrongFalsely : Prop := fenceEdgesRow.holds Tryz.pinned (OpenSpec.ofChange fenceEdgesWrong)

/-- 'skylanternlaw08.FenceDistances': WHATEVER THE INPUT: true; the input reads as it did. -/
def fenceDistancesSpec : ChangeSpec := { name := "fenceDistances", fn := fun _ => fun
  | [d1, d2] => { results := [.lit (.bool true)], args := [d1, d2] }
  | _ => none }
def fenceDistancesRow : OpenClaim := { program := "ytoheflpoanjihaagreat", sum := "fb1836825cfe8de30b28ca066c636ec0c034f2a9b4a37367972b042973ac96c6", func := "skylantern/skylanternlaw08.FenceDistances", spec := "fenceDistances", inPlace := ["math/bits.Add64", "math/bits.Sub64"], unfollowed := true, recurses := true, named := ["math/bits.divideError", "math/bits.overflowError"], apart := false }
def FenceDistancesSaid : Prop := fenceDistancesRow.holds Tryz.pinned (OpenSpec.ofChange fenceDistancesSpec)

/-- ITS FALSE NEIGHBOUR: 'it returns false'. Refute it at one input. -/
def fenceDistancesWrong : ChangeSpec := { name := "fenceDistances", fn := fun _ => fun
  | [d1, d2] => { results := [.lit (.bool false)], args := [d1, d2] }
  | _ => none }
def FenceDistancesWrongFalsely : Prop := fenceDistancesRow.holds Tryz.pinned (OpenSpec.ofChange fenceDistancesWrong)

/-- 'skylanternlaw08.FenceHolds': WHATEVER THE INPUT: true; the input reads as it did. -/
def fenceHoldsSpec : ChangeSpec := { name := "fenceHolds", fn := fun _ => fun
  | [d1, d2, d3, d4, d5] => { results := [.lit (.bool true)], args := [d1, d2, d3, d4, d5] }
  | _ => none }
def fenceHoldsRow : OpenClaim := { program := "ytoheflpoanjihaagreat", sum := "fb1836825cfe8de30b28ca066c636ec0c034f2a9b4a37367972b042973ac96c6", func := "skylantern/skylanternlaw08.FenceHolds", spec := "fenceHolds", inPlace := ["math/bits.Add64", "math/bits.Sub64"], unfollowed := true, recurses := true, named := ["math/bits.divideError", "math/bits.overflowError"], apart := false }
def FenceHoldsSaid : Prop := fenceHoldsRow.holds Tryz.pinned (OpenSpec.ofChange fenceHoldsSpec)

/-- ITS FALSE NEIGHBOUR: 'it returns false'. Refute it at one input. -/
def fenceHoldsWrong : ChangeSpec := { name := "fenceHolds", fn := fun _ => fun
  | [d1, d2, d3, d4, d5] => { results := [.lit (.bool false)], args := [d1, d2, d3, d4, d5] }
  | _ => none }
def FenceHoldsWrongFalsely : Prop := fenceHoldsRow.holds Tryz.pinned (OpenSpec.ofChange fenceHoldsWrong)

/- THE SECOND FORM. 'bulk': how many values and letters a reading holds, each counted each time it is reached (what is shared counts as often as it is met; a slice's spare places count too). A statement '..UptoSaid' is the law's where the arguments, and the package variables that the reading takes, are together of bulk at most 1048576: NARROWER than '..Said'. Prove '..Said' where nothing that the law and all that it calls make is longer than what came in: it says more and counts as full. Else prove '..UptoSaid'. A law counts once. -/
mutual
def uptoBulk {H : Type} : DataW H → Nat
  | .lit (.string bytes) => bytes.length + 1
  | .lit _ => 1
  | .nil => 1
  | .ptr d => uptoBulk d + 1
  | .slice elems spare => uptoBulkAll elems + uptoBulkAll spare + 1
  | .agg parts => uptoBulkAll parts + 1
  | .iface _ d => uptoBulk d + 1
  | .map entries => uptoBulkEntries entries + 1
  | .held _ => 1
def uptoBulkAll {H : Type} : List (DataW H) → Nat
  | [] => 0
  | d :: r => uptoBulk d + uptoBulkAll r
def uptoBulkEntries {H : Type} : List (Lit × DataW H) → Nat
  | [] => 0
  | x :: r => uptoBulkEntry x + uptoBulkEntries r
def uptoBulkEntry {H : Type} : Lit × DataW H → Nat
  | (.string bytes, d) => bytes.length + uptoBulk d + 1
  | (_, d) => uptoBulk d + 1
 end
def uptoSmall : (H : Type) → List (DataW H) → Bool := fun _ ds => decide (uptoBulkAll ds ≤ 1048576)
def OpenSpec.upto (s : _root_.Go.ChangeSpec) : _root_.Go.OpenSpec := { _root_.Go.OpenSpec.ofChange s with cond := some uptoSmall }

/-- 'skylanternlaw08.FenceSimple', WHERE WHAT IT READS IS OF BULK AT MOST 1048576: true; the input reads as it did. -/
def fenceSimpleUptoRow : OpenClaim := { program := "ytoheflpoanjihaagreat", sum := "fb1836825cfe8de30b28ca066c636ec0c034f2a9b4a37367972b042973ac96c6", func := "skylantern/skylanternlaw08.FenceSimple", spec := "fenceSimple", inPlace := ["math/bits.Add64", "math/bits.Sub64"], unfollowed := true, recurses := true, named := ["math/bits.divideError", "math/bits.overflowError"], apart := false, narrowed := true }
def FenceSimpleUptoSaid : Prop := fenceSimpleUptoRow.holds Tryz.pinned (OpenSpec.upto fenceSimpleSpec)

/-- 'skylanternlaw08.FenceValid', WHERE WHAT IT READS IS OF BULK AT MOST 1048576: true; the input reads as it did. -/
def fenceValidUptoRow : OpenClaim := { program := "ytoheflpoanjihaagreat", sum := "fb1836825cfe8de30b28ca066c636ec0c034f2a9b4a37367972b042973ac96c6", func := "skylantern/skylanternlaw08.FenceValid", spec := "fenceValid", inPlace := ["math/bits.Add64", "math/bits.Sub64"], unfollowed := true, recurses := true, named := ["math/bits.divideError", "math/bits.overflowError"], apart := false, narrowed := true }
def FenceValidUptoSaid : Prop := fenceValidUptoRow.holds Tryz.pinned (OpenSpec.upto fenceValidSpec)

/-- 'skylanternlaw08.FenceInsides', WHERE WHAT IT READS IS OF BULK AT MOST 1048576: true; the input reads as it did. -/
def fenceInsidesUptoRow : OpenClaim := { program := "ytoheflpoanjihaagreat", sum := "fb1836825cfe8de30b28ca066c636ec0c034f2a9b4a37367972b042973ac96c6", func := "skylantern/skylanternlaw08.FenceInsides", spec := "fenceInsides", inPlace := ["math/bits.Add64", "math/bits.Sub64"], unfollowed := true, recurses := true, named := ["math/bits.divideError", "math/bits.overflowError"], apart := false, narrowed := true }
def FenceInsidesUptoSaid : Prop := fenceInsidesUptoRow.holds Tryz.pinned (OpenSpec.upto fenceInsidesSpec)

/-- 'skylanternlaw08.FencePlaces', WHERE WHAT IT READS IS OF BULK AT MOST 1048576: true; the input reads as it did. -/
def fencePlacesUptoRow : OpenClaim := { program := "ytoheflpoanjihaagreat", sum := "fb1836825cfe8de30b28ca066c636ec0c034f2a9b4a37367972b042973ac96c6", func := "skylantern/skylanternlaw08.FencePlaces", spec := "fencePlaces", inPlace := ["math/bits.Add64", "math/bits.Sub64"], unfollowed := true, recurses := true, named := ["math/bits.divideError", "math/bits.overflowError"], apart := false, narrowed := true }
def FencePlacesUptoSaid : Prop := fencePlacesUptoRow.holds Tryz.pinned (OpenSpec.upto fencePlacesSpec)

/-- 'skylanternlaw08.FenceLines', WHERE WHAT IT READS IS OF BULK AT MOST 1048576: true; the input reads as it did. -/
def fenceLinesUptoRow : OpenClaim := { program := "ytoheflpoanjihaagreat", sum := "fb1836825cfe8de30b28ca066c636ec0c034f2a9b4a37367972b042973ac96c6", func := "skylantern/skylanternlaw08.FenceLines", spec := "fenceLines", inPlace := ["math/bits.Add64", "math/bits.Sub64"], unfollowed := true, recurses := true, named := ["math/bits.divideError", "math/bits.overflowError"], apart := false, narrowed := true }
def FenceLinesUptoSaid : Prop := fenceLinesUptoRow.holds Tryz.pinned (OpenSpec.upto fenceLinesSpec)

/-- 'skylanternlaw08.FenceEdges', WHERE WHAT IT READS IS OF BULK AT MOST 1048576: true; the input reads as it did. -/
def fenceEdgesUptoRow : OpenClaim := { program := "ytoheflpoanjihaagreat", sum := "fb1836825cfe8de30b28ca066c636ec0c034f2a9b4a37367972b042973ac96c6", func := "skylantern/skylanternlaw08.FenceEdges", spec := "fenceEdges", inPlace := ["math/bits.Add64", "math/bits.Sub64"], unfollowed := true, recurses := true, named := ["math/bits.divideError", "math/bits.overflowError"], apart := false, narrowed := true }
def FenceEdgesUptoSaid : Prop := fenceEdgesUptoRow.holds Tryz.pinned (OpenSpec.upto fenceEdgesSpec)

/-- 'skylanternlaw08.FenceDistances', WHERE WHAT IT READS IS OF BULK AT MOST 1048576: true; the input reads as it did. -/
def fenceDistancesUptoRow : OpenClaim := { program := "ytoheflpoanjihaagreat", sum := "fb1836825cfe8de30b28ca066c636ec0c034f2a9b4a37367972b042973ac96c6", func := "skylantern/skylanternlaw08.FenceDistances", spec := "fenceDistances", inPlace := ["math/bits.Add64", "math/bits.Sub64"], unfollowed := true, recurses := true, named := ["math/bits.divideError", "math/bits.overflowError"], apart := false, narrowed := true }
def FenceDistancesUptoSaid : Prop := fenceDistancesUptoRow.holds Tryz.pinned (OpenSpec.upto fenceDistancesSpec)

/-- 'skylanternlaw08.FenceHolds', WHERE WHAT IT READS IS OF BULK AT MOST 1048576: true; the input reads as it did. -/
def fenceHoldsUptoRow : OpenClaim := { program := "ytoheflpoanjihaagreat", sum := "fb1836825cfe8de30b28ca066c636ec0c034f2a9b4a37367972b042973ac96c6", func := "skylantern/skylanternlaw08.FenceHolds", spec := "fenceHolds", inPlace := ["math/bits.Add64", "math/bits.Sub64"], unfollowed := true, recurses := true, named := ["math/bits.divideError", "math/bits.overflowError"], apart := false, narrowed := true }
def FenceHoldsUptoSaid : Prop := fenceHoldsUptoRow.holds Tryz.pinned (OpenSpec.upto fenceHoldsSpec)

end Rows
end Go.Proofs.YtoheflpoanjihaaGreat
