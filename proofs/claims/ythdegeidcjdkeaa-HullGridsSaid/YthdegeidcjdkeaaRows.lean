/-
  No cell of these rows narrows 'for every input' (looked for: loops, veiled, ifaces, maps, wideKeys, modest, calm, conditions, laid).
  DERIVED. THE GIVEN ROWS OF THIS SEAT. 6 by the template 'for every input the law returns true; each argument reads behind the call as it read before'; 0 by the template 'total and deterministic' (their statements: YthdegeidcjdkeaaTotals.lean).
  GIVEN WITH THE SEED: the statements are not yours to turn. If you find one false, say at which input.
  Laid BY PROGRAM, IN A SANDBOX (cutbox-rows.mjs): the forced cells as the released guide's own fill.sh prints them over the translation 81bab8fba8292b08… (all of the seat's roots in one cut). By AI agents, Wed Nov 11 2026. No macro, syntax, notation, axiom, sorry.
-/
import Derived.Test.YthdegeidcjdkeaaChecked
import GoSem.Claim
import GoSem.ClaimJoined
import GoSem.ClaimMapViews
import Derived.JoinedTies
import Derived.KernelRfl
namespace Go.Proofs.Ythdegeidcjdkeaa
/- THE CELL 'sum', in the pinned program and in every row, IS THE sha256 OF THE DUMP (.gsa) THAT YthdegeidcjdkeaaProg.lean LOADS. Nothing in Lean hashes anything: it is a label: what it is worth is what the hold of that sum in a sandbox is worth. -/
noncomputable def Try.pinned : Pinned := { name := "ythdegeidcjdkeaa", sum := "81bab8fba8292b08ba4490487b8766937cbe5bdd6d6900d514a7b5baa0c6e011", checked := Try.checked }
namespace Rows
def none {H : Type} : Left H := { results := [], args := [] }

/-- 'skylanternlaw07.HullHulls': WHATEVER THE INPUT: true; the input reads as it did. -/
def hullHullsSpec : ChangeSpec := { name := "hullHulls", fn := fun _ => fun
  | [d] => { results := [.lit (.bool true)], args := [d] }
  | _ => none }
def hullHullsRow : OpenClaim := { program := "ythdegeidcjdkeaa", sum := "81bab8fba8292b08ba4490487b8766937cbe5bdd6d6900d514a7b5baa0c6e011", func := "skylantern/skylanternlaw07.HullHulls", spec := "hullHulls", unfollowed := true, recurses := true, apart := false }
def HullHullsSaid : Prop := hullHullsRow.holds Try.pinned (OpenSpec.ofChange hullHullsSpec)

/-- ITS FALSE NEIGHBOUR: 'it returns false'. Refute it at one input. -/
def hullHullsWrong : ChangeSpec := { name := "hullHulls", fn := fun _ => fun
  | [d] => { results := [.lit (.bool false)], args := [d] }
  | _ => none }
def HullHullsWrongFalsely : Prop := hullHullsRow.holds Try.pinned (OpenSpec.ofChange hullHullsWrong)

/-- 'skylanternlaw07.HullSides': WHATEVER THE INPUT: true; the input reads as it did. -/
def hullSidesSpec : ChangeSpec := { name := "hullSides", fn := fun _ => fun
  | [d1, d2] => { results := [.lit (.bool true)], args := [d1, d2] }
  | _ => none }
def hullSidesRow : OpenClaim := { program := "ythdegeidcjdkeaa", sum := "81bab8fba8292b08ba4490487b8766937cbe5bdd6d6900d514a7b5baa0c6e011", func := "skylantern/skylanternlaw07.HullSides", spec := "hullSides", unfollowed := true, recurses := true, apart := false }
def HullSidesSaid : Prop := hullSidesRow.holds Try.pinned (OpenSpec.ofChange hullSidesSpec)

/-- ITS FALSE NEIGHBOUR: 'it returns false'. Refute it at one input. -/
def hullSidesWrong : ChangeSpec := { name := "hullSides", fn := fun _ => fun
  | [d1, d2] => { results := [.lit (.bool false)], args := [d1, d2] }
  | _ => none }
def HullSidesWrongFalsely : Prop := hullSidesRow.holds Try.pinned (OpenSpec.ofChange hullSidesWrong)

/-- 'skylanternlaw07.HullSizes': WHATEVER THE INPUT: true; the input reads as it did. -/
def hullSizesSpec : ChangeSpec := { name := "hullSizes", fn := fun _ => fun
  | [d1, d2] => { results := [.lit (.bool true)], args := [d1, d2] }
  | _ => none }
def hullSizesRow : OpenClaim := { program := "ythdegeidcjdkeaa", sum := "81bab8fba8292b08ba4490487b8766937cbe5bdd6d6900d514a7b5baa0c6e011", func := "skylantern/skylanternlaw07.HullSizes", spec := "hullSizes", unfollowed := true, recurses := true, apart := false }
def HullSizesSaid : Prop := hullSizesRow.holds Try.pinned (OpenSpec.ofChange hullSizesSpec)

/-- ITS FALSE NEIGHBOUR: 'it returns false'. Refute it at one input. -/
def hullSizesWrong : ChangeSpec := { name := "hullSizes", fn := fun _ => fun
  | [d1, d2] => { results := [.lit (.bool false)], args := [d1, d2] }
  | _ => none }
def HullSizesWrongFalsely : Prop := hullSizesRow.holds Try.pinned (OpenSpec.ofChange hullSizesWrong)

/-- 'skylanternlaw07.HullMerges': WHATEVER THE INPUT: true; the input reads as it did. -/
def hullMergesSpec : ChangeSpec := { name := "hullMerges", fn := fun _ => fun
  | [d1, d2] => { results := [.lit (.bool true)], args := [d1, d2] }
  | _ => none }
def hullMergesRow : OpenClaim := { program := "ythdegeidcjdkeaa", sum := "81bab8fba8292b08ba4490487b8766937cbe5bdd6d6900d514a7b5baa0c6e011", func := "skylantern/skylanternlaw07.HullMerges", spec := "hullMerges", unfollowed := true, recurses := true, apart := false }
def HullMergesSaid : Prop := hullMergesRow.holds Try.pinned (OpenSpec.ofChange hullMergesSpec)

/-- ITS FALSE NEIGHBOUR: 'it returns false'. Refute it at one input. -/
def hullMergesWrong : ChangeSpec := { name := "hullMerges", fn := fun _ => fun
  | [d1, d2] => { results := [.lit (.bool false)], args := [d1, d2] }
  | _ => none }
def HullMergesWrongFalsely : Prop := hullMergesRow.holds Try.pinned (OpenSpec.ofChange hullMergesWrong)

/-- 'skylanternlaw07.HullGrids': WHATEVER THE INPUT: true; the input reads as it did. -/
def hullGridsSpec : ChangeSpec := { name := "hullGrids", fn := fun _ => fun
  | [d1, d2, d3] => { results := [.lit (.bool true)], args := [d1, d2, d3] }
  | _ => none }
def hullGridsRow : OpenClaim := { program := "ythdegeidcjdkeaa", sum := "81bab8fba8292b08ba4490487b8766937cbe5bdd6d6900d514a7b5baa0c6e011", func := "skylantern/skylanternlaw07.HullGrids", spec := "hullGrids", unfollowed := true, recurses := true, apart := false }
def HullGridsSaid : Prop := hullGridsRow.holds Try.pinned (OpenSpec.ofChange hullGridsSpec)

/-- ITS FALSE NEIGHBOUR: 'it returns false'. Refute it at one input. -/
def hullGridsWrong : ChangeSpec := { name := "hullGrids", fn := fun _ => fun
  | [d1, d2, d3] => { results := [.lit (.bool false)], args := [d1, d2, d3] }
  | _ => none }
def HullGridsWrongFalsely : Prop := hullGridsRow.holds Try.pinned (OpenSpec.ofChange hullGridsWrong)

/-- 'skylanternlaw07.HullHolds': WHATEVER THE INPUT: true; the input reads as it did. -/
def hullHoldsSpec : ChangeSpec := { name := "hullHolds", fn := fun _ => fun
  | [d1, d2, d3] => { results := [.lit (.bool true)], args := [d1, d2, d3] }
  | _ => none }
def hullHoldsRow : OpenClaim := { program := "ythdegeidcjdkeaa", sum := "81bab8fba8292b08ba4490487b8766937cbe5bdd6d6900d514a7b5baa0c6e011", func := "skylantern/skylanternlaw07.HullHolds", spec := "hullHolds", unfollowed := true, recurses := true, apart := false }
def HullHoldsSaid : Prop := hullHoldsRow.holds Try.pinned (OpenSpec.ofChange hullHoldsSpec)

/-- ITS FALSE NEIGHBOUR: 'it returns false'. Refute it at one input. -/
def hullHoldsWrong : ChangeSpec := { name := "hullHolds", fn := fun _ => fun
  | [d1, d2, d3] => { results := [.lit (.bool false)], args := [d1, d2, d3] }
  | _ => none }
def HullHoldsWrongFalsely : Prop := hullHoldsRow.holds Try.pinned (OpenSpec.ofChange hullHoldsWrong)

/- THE SECOND FORM. 'bulk': how many values and letters a reading holds, each counted each time it is reached (what is shared counts as often as it is met; a slice's spare places count too). A statement '..UptoSaid' is the law's where the arguments, and the package variables that the reading takes, are together of bulk at most 1048576: NARROWER than '..Said'. Prove '..Said' where nothing that the law and all that it calls make is longer than what came in: it says more and counts as full. Else prove '..UptoSaid'. A law counts once. -/
mutual
def uptoBulk {H : Type} : DataW H → Nat
  | .lit (.string bytes) => bytes.length + 1
  | .lit _ => 1
  | .nil => 1
  | .ptr d => uptoBulk d + 1
  | .slice elems spare => uptoBulkAll elems + uptoBulkAll spare + 1
  | .agg parts => uptoBulkAll parts + 1
  | .iface _ d => uptoBulk d + 1
  | .map entries => uptoBulkEntries entries + 1
  | .held _ => 1
def uptoBulkAll {H : Type} : List (DataW H) → Nat
  | [] => 0
  | d :: r => uptoBulk d + uptoBulkAll r
def uptoBulkEntries {H : Type} : List (Lit × DataW H) → Nat
  | [] => 0
  | x :: r => uptoBulkEntry x + uptoBulkEntries r
def uptoBulkEntry {H : Type} : Lit × DataW H → Nat
  | (.string bytes, d) => bytes.length + uptoBulk d + 1
  | (_, d) => uptoBulk d + 1
 end
def uptoSmall : (H : Type) → List (DataW H) → Bool := fun _ ds => decide (uptoBulkAll ds ≤ 1048576)
def OpenSpec.upto (s : _root_.Go.ChangeSpec) : _root_.Go.OpenSpec := { _root_.Go.OpenSpec.ofChange s with cond := some uptoSmall }

/-- 'skylanternlaw07.HullHulls', WHERE WHAT IT READS IS OF BULK AT MOST 1048576: true; the input reads as it did. -/
def hullHullsUptoRow : OpenClaim := { program := "ythdegeidcjdkeaa", sum := "81bab8fba8292b08ba4490487b8766937cbe5bdd6d6900d514a7b5baa0c6e011", func := "skylantern/skylanternlaw07.HullHulls", spec := "hullHulls", unfollowed := true, recurses := true, apart := false, narrowed := true }
def HullHullsUptoSaid : Prop := hullHullsUptoRow.holds Try.pinned (OpenSpec.upto hullHullsSpec)

/-- 'skylanternlaw07.HullSides', WHERE WHAT IT READS IS OF BULK AT MOST 1048576: true; the input reads as it did. -/
def hullSidesUptoRow : OpenClaim := { program := "ythdegeidcjdkeaa", sum := "81bab8fba8292b08ba4490487b8766937cbe5bdd6d6900d514a7b5baa0c6e011", func := "skylantern/skylanternlaw07.HullSides", spec := "hullSides", unfollowed := true, recurses := true, apart := false, narrowed := true }
def HullSidesUptoSaid : Prop := hullSidesUptoRow.holds Try.pinned (OpenSpec.upto hullSidesSpec)

/-- 'skylanternlaw07.HullSizes', WHERE WHAT IT READS IS OF BULK AT MOST 1048576: true; the input reads as it did. -/
def hullSizesUptoRow : OpenClaim := { program := "ythdegeidcjdkeaa", sum := "81bab8fba8292b08ba4490487b8766937cbe5bdd6d6900d514a7b5baa0c6e011", func := "skylantern/skylanternlaw07.HullSizes", spec := "hullSizes", unfollowed := true, recurses := true, apart := false, narrowed := true }
def HullSizesUptoSaid : Prop := hullSizesUptoRow.holds Try.pinned (OpenSpec.upto hullSizesSpec)

/-- 'skylanternlaw07.HullMerges', WHERE WHAT IT READS IS OF BULK AT MOST 1048576: true; the input reads as it did. -/
def hullMergesUptoRow : OpenClaim := { program := "ythdegeidcjdkeaa", sum := "81bab8fba8292b08ba4490487b8766937cbe5bdd6d6900d514a7b5baa0c6e011", func := "skylantern/skylanternlaw07.HullMerges", spec := "hullMerges", unfollowed := true, recurses := true, apart := false, narrowed := true }
def HullMergesUptoSaid : Prop := hullMergesUptoRow.holds Try.pinned (OpenSpec.upto hullMergesSpec)

/-- 'skylanternlaw07.HullGrids', WHERE WHAT IT READS IS OF BULK AT MOST 1048576: true; the input reads as it did. -/
def hullGridsUptoRow : OpenClaim := { program := "ythdegeidcjdkeaa", sum := "81bab8fba8292b08ba4490487b8766937cbe5bdd6d6900d514a7b5baa0c6e011", func := "skylantern/skylanternlaw07.HullGrids", spec := "hullGrids", unfollowed := true, recurses := true, apart := false, narrowed := true }
def HullGridsUptoSaid : Prop := hullGridsUptoRow.holds Try.pinned (OpenSpec.upto hullGridsSpec)

/-- 'skylanternlaw07.HullHolds', WHERE WHAT IT READS IS OF BULK AT MOST 1048576: true; the input reads as it did. -/
def hullHoldsUptoRow : OpenClaim := { program := "ythdegeidcjdkeaa", sum := "81bab8fba8292b08ba4490487b8766937cbe5bdd6d6900d514a7b5baa0c6e011", func := "skylantern/skylanternlaw07.HullHolds", spec := "hullHolds", unfollowed := true, recurses := true, apart := false, narrowed := true }
def HullHoldsUptoSaid : Prop := hullHoldsUptoRow.holds Try.pinned (OpenSpec.upto hullHoldsSpec)

end Rows
end Go.Proofs.Ythdegeidcjdkeaa
