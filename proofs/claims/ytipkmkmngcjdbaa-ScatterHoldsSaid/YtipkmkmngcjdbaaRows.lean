/-
  No cell of these rows narrows 'for every input' (looked for: loops, veiled, ifaces, maps, wideKeys, modest, calm, conditions, laid).
  DERIVED. THE GIVEN ROWS OF THIS SEAT. 6 by the template 'for every input the law returns true; each argument reads behind the call as it read before'; 0 by the template 'total and deterministic' (their statements: YtipkmkmngcjdbaaTotals.lean).
  GIVEN WITH THE SEED: the statements are not yours to turn. If you find one false, say at which input.
  Laid BY PROGRAM, IN A SANDBOX (cutbox-rows.mjs): the forced cells as the released guide's own fill.sh prints them over the translation 9f93ad664e99310c… (all of the seat's roots in one cut). By AI agents, Wed Nov 11 2026. No macro, syntax, notation, axiom, sorry.
-/
import Derived.Test.YtipkmkmngcjdbaaChecked
import GoSem.Claim
import GoSem.ClaimJoined
import GoSem.ClaimMapViews
import Derived.JoinedTies
import Derived.KernelRfl
namespace Go.Proofs.Ytipkmkmngcjdbaa
/- THE CELL 'sum', in the pinned program and in every row, IS THE sha256 OF THE DUMP (.gsa) THAT YtipkmkmngcjdbaaProg.lean LOADS. Nothing in Lean hashes anything: it is a label: what it is worth is what the hold of that sum in a sandbox is worth. -/
noncomputable def Try.pinned : Pinned := { name := "ytipkmkmngcjdbaa", sum := "9f93ad664e99310c7a56c4b2fde70866b3cfcd8579fb4ee35c0a187ce8deed5c", checked := Try.checked }
namespace Rows
def none {H : Type} : Left H := { results := [], args := [] }

/-- 'skylanternlaw10.ScatterPicks': WHATEVER THE INPUT: true; the input reads as it did. -/
def scatterPicksSpec : ChangeSpec := { name := "scatterPicks", fn := fun _ => fun
  | [d1, d2] => { results := [.lit (.bool true)], args := [d1, d2] }
  | _ => none }
def scatterPicksRow : OpenClaim := { program := "ytipkmkmngcjdbaa", sum := "9f93ad664e99310c7a56c4b2fde70866b3cfcd8579fb4ee35c0a187ce8deed5c", func := "skylantern/skylanternlaw10.ScatterPicks", spec := "scatterPicks", unfollowed := true, recurses := true, plainKeys := false, apart := false }
def ScatterPicksSaid : Prop := scatterPicksRow.holds Try.pinned (OpenSpec.ofChange scatterPicksSpec)

/-- ITS FALSE NEIGHBOUR: 'it returns false'. Refute it at one input. -/
def scatterPicksWrong : ChangeSpec := { name := "scatterPicks", fn := fun _ => fun
  | [d1, d2] => { results := [.lit (.bool false)], args := [d1, d2] }
  | _ => none }
def ScatterPicksWrongFalsely : Prop := scatterPicksRow.holds Try.pinned (OpenSpec.ofChange scatterPicksWrong)

/-- 'skylanternlaw10.ScatterSpreads': WHATEVER THE INPUT: true; the input reads as it did. -/
def scatterSpreadsSpec : ChangeSpec := { name := "scatterSpreads", fn := fun _ => fun
  | [d] => { results := [.lit (.bool true)], args := [d] }
  | _ => none }
def scatterSpreadsRow : OpenClaim := { program := "ytipkmkmngcjdbaa", sum := "9f93ad664e99310c7a56c4b2fde70866b3cfcd8579fb4ee35c0a187ce8deed5c", func := "skylantern/skylanternlaw10.ScatterSpreads", spec := "scatterSpreads", unfollowed := true, recurses := true, plainKeys := false, apart := false }
def ScatterSpreadsSaid : Prop := scatterSpreadsRow.holds Try.pinned (OpenSpec.ofChange scatterSpreadsSpec)

/-- ITS FALSE NEIGHBOUR: 'it returns false'. Refute it at one input. -/
def scatterSpreadsWrong : ChangeSpec := { name := "scatterSpreads", fn := fun _ => fun
  | [d] => { results := [.lit (.bool false)], args := [d] }
  | _ => none }
def ScatterSpreadsWrongFalsely : Prop := scatterSpreadsRow.holds Try.pinned (OpenSpec.ofChange scatterSpreadsWrong)

/-- 'skylanternlaw10.ScatterCovers': WHATEVER THE INPUT: true; the input reads as it did. -/
def scatterCoversSpec : ChangeSpec := { name := "scatterCovers", fn := fun _ => fun
  | [d1, d2] => { results := [.lit (.bool true)], args := [d1, d2] }
  | _ => none }
def scatterCoversRow : OpenClaim := { program := "ytipkmkmngcjdbaa", sum := "9f93ad664e99310c7a56c4b2fde70866b3cfcd8579fb4ee35c0a187ce8deed5c", func := "skylantern/skylanternlaw10.ScatterCovers", spec := "scatterCovers", unfollowed := true, recurses := true, plainKeys := false, apart := false }
def ScatterCoversSaid : Prop := scatterCoversRow.holds Try.pinned (OpenSpec.ofChange scatterCoversSpec)

/-- ITS FALSE NEIGHBOUR: 'it returns false'. Refute it at one input. -/
def scatterCoversWrong : ChangeSpec := { name := "scatterCovers", fn := fun _ => fun
  | [d1, d2] => { results := [.lit (.bool false)], args := [d1, d2] }
  | _ => none }
def ScatterCoversWrongFalsely : Prop := scatterCoversRow.holds Try.pinned (OpenSpec.ofChange scatterCoversWrong)

/-- 'skylanternlaw10.ScatterFormations': WHATEVER THE INPUT: true; the input reads as it did. -/
def scatterFormationsSpec : ChangeSpec := { name := "scatterFormations", fn := fun _ => fun
  | [d1, d2] => { results := [.lit (.bool true)], args := [d1, d2] }
  | _ => none }
def scatterFormationsRow : OpenClaim := { program := "ytipkmkmngcjdbaa", sum := "9f93ad664e99310c7a56c4b2fde70866b3cfcd8579fb4ee35c0a187ce8deed5c", func := "skylantern/skylanternlaw10.ScatterFormations", spec := "scatterFormations", unfollowed := true, recurses := true, plainKeys := false, apart := false }
def ScatterFormationsSaid : Prop := scatterFormationsRow.holds Try.pinned (OpenSpec.ofChange scatterFormationsSpec)

/-- ITS FALSE NEIGHBOUR: 'it returns false'. Refute it at one input. -/
def scatterFormationsWrong : ChangeSpec := { name := "scatterFormations", fn := fun _ => fun
  | [d1, d2] => { results := [.lit (.bool false)], args := [d1, d2] }
  | _ => none }
def ScatterFormationsWrongFalsely : Prop := scatterFormationsRow.holds Try.pinned (OpenSpec.ofChange scatterFormationsWrong)

/-- 'skylanternlaw10.ScatterLimits': WHATEVER THE INPUT: true; the input reads as it did. -/
def scatterLimitsSpec : ChangeSpec := { name := "scatterLimits", fn := fun _ => fun
  | [d1, d2] => { results := [.lit (.bool true)], args := [d1, d2] }
  | _ => none }
def scatterLimitsRow : OpenClaim := { program := "ytipkmkmngcjdbaa", sum := "9f93ad664e99310c7a56c4b2fde70866b3cfcd8579fb4ee35c0a187ce8deed5c", func := "skylantern/skylanternlaw10.ScatterLimits", spec := "scatterLimits", unfollowed := true, recurses := true, plainKeys := false, apart := false }
def ScatterLimitsSaid : Prop := scatterLimitsRow.holds Try.pinned (OpenSpec.ofChange scatterLimitsSpec)

/-- ITS FALSE NEIGHBOUR: 'it returns false'. Refute it at one input. -/
def scatterLimitsWrong : ChangeSpec := { name := "scatterLimits", fn := fun _ => fun
  | [d1, d2] => { results := [.lit (.bool false)], args := [d1, d2] }
  | _ => none }
def ScatterLimitsWrongFalsely : Prop := scatterLimitsRow.holds Try.pinned (OpenSpec.ofChange scatterLimitsWrong)

/-- 'skylanternlaw10.ScatterHolds': WHATEVER THE INPUT: true; the input reads as it did. -/
def scatterHoldsSpec : ChangeSpec := { name := "scatterHolds", fn := fun _ => fun
  | [d1, d2, d3] => { results := [.lit (.bool true)], args := [d1, d2, d3] }
  | _ => none }
def scatterHoldsRow : OpenClaim := { program := "ytipkmkmngcjdbaa", sum := "9f93ad664e99310c7a56c4b2fde70866b3cfcd8579fb4ee35c0a187ce8deed5c", func := "skylantern/skylanternlaw10.ScatterHolds", spec := "scatterHolds", unfollowed := true, recurses := true, plainKeys := false, apart := false }
def ScatterHoldsSaid : Prop := scatterHoldsRow.holds Try.pinned (OpenSpec.ofChange scatterHoldsSpec)

/-- ITS FALSE NEIGHBOUR: 'it returns false'. Refute it at one input. -/
def scatterHoldsWrong : ChangeSpec := { name := "scatterHolds", fn := fun _ => fun
  | [d1, d2, d3] => { results := [.lit (.bool false)], args := [d1, d2, d3] }
  | _ => none }
def ScatterHoldsWrongFalsely : Prop := scatterHoldsRow.holds Try.pinned (OpenSpec.ofChange scatterHoldsWrong)

/- THE SECOND FORM. 'bulk': how many values and letters a reading holds, each counted each time it is reached (what is shared counts as often as it is met; a slice's spare places count too). A statement '..UptoSaid' is the law's where the arguments, and the package variables that the reading takes, are together of bulk at most 1048576: NARROWER than '..Said'. Prove '..Said' where nothing that the law and all that it calls make is longer than what came in: it says more and counts as full. Else prove '..UptoSaid'. A law counts once. -/
mutual
def uptoBulk {H : Type} : DataW H → Nat
  | .lit (.string bytes) => bytes.length + 1
  | .lit _ => 1
  | .nil => 1
  | .ptr d => uptoBulk d + 1
  | .slice elems spare => uptoBulkAll elems + uptoBulkAll spare + 1
  | .agg parts => uptoBulkAll parts + 1
  | .iface _ d => uptoBulk d + 1
  | .map entries => uptoBulkEntries entries + 1
  | .held _ => 1
def uptoBulkAll {H : Type} : List (DataW H) → Nat
  | [] => 0
  | d :: r => uptoBulk d + uptoBulkAll r
def uptoBulkEntries {H : Type} : List (Lit × DataW H) → Nat
  | [] => 0
  | x :: r => uptoBulkEntry x + uptoBulkEntries r
def uptoBulkEntry {H : Type} : Lit × DataW H → Nat
  | (.string bytes, d) => bytes.length + uptoBulk d + 1
  | (_, d) => uptoBulk d + 1
 end
def uptoSmall : (H : Type) → List (DataW H) → Bool := fun _ ds => decide (uptoBulkAll ds ≤ 1048576)
def OpenSpec.upto (s : _root_.Go.ChangeSpec) : _root_.Go.OpenSpec := { _root_.Go.OpenSpec.ofChange s with cond := some uptoSmall }

/-- 'skylanternlaw10.ScatterPicks', WHERE WHAT IT READS IS OF BULK AT MOST 1048576: true; the input reads as it did. -/
def scatterPicksUptoRow : OpenClaim := { program := "ytipkmkmngcjdbaa", sum := "9f93ad664e99310c7a56c4b2fde70866b3cfcd8579fb4ee35c0a187ce8deed5c", func := "skylantern/skylanternlaw10.ScatterPicks", spec := "scatterPicks", unfollowed := true, recurses := true, plainKeys := false, apart := false, narrowed := true }
def ScatterPicksUptoSaid : Prop := scatterPicksUptoRow.holds Try.pinned (OpenSpec.upto scatterPicksSpec)

/-- 'skylanternlaw10.ScatterSpreads', WHERE WHAT IT READS IS OF BULK AT MOST 1048576: true; the input reads as it did. -/
def scatterSpreadsUptoRow : OpenClaim := { program := "ytipkmkmngcjdbaa", sum := "9f93ad664e99310c7a56c4b2fde70866b3cfcd8579fb4ee35c0a187ce8deed5c", func := "skylantern/skylanternlaw10.ScatterSpreads", spec := "scatterSpreads", unfollowed := true, recurses := true, plainKeys := false, apart := false, narrowed := true }
def ScatterSpreadsUptoSaid : Prop := scatterSpreadsUptoRow.holds Try.pinned (OpenSpec.upto scatterSpreadsSpec)

/-- 'skylanternlaw10.ScatterCovers', WHERE WHAT IT READS IS OF BULK AT MOST 1048576: true; the input reads as it did. -/
def scatterCoversUptoRow : OpenClaim := { program := "ytipkmkmngcjdbaa", sum := "9f93ad664e99310c7a56c4b2fde70866b3cfcd8579fb4ee35c0a187ce8deed5c", func := "skylantern/skylanternlaw10.ScatterCovers", spec := "scatterCovers", unfollowed := true, recurses := true, plainKeys := false, apart := false, narrowed := true }
def ScatterCoversUptoSaid : Prop := scatterCoversUptoRow.holds Try.pinned (OpenSpec.upto scatterCoversSpec)

/-- 'skylanternlaw10.ScatterFormations', WHERE WHAT IT READS IS OF BULK AT MOST 1048576: true; the input reads as it did. -/
def scatterFormationsUptoRow : OpenClaim := { program := "ytipkmkmngcjdbaa", sum := "9f93ad664e99310c7a56c4b2fde70866b3cfcd8579fb4ee35c0a187ce8deed5c", func := "skylantern/skylanternlaw10.ScatterFormations", spec := "scatterFormations", unfollowed := true, recurses := true, plainKeys := false, apart := false, narrowed := true }
def ScatterFormationsUptoSaid : Prop := scatterFormationsUptoRow.holds Try.pinned (OpenSpec.upto scatterFormationsSpec)

/-- 'skylanternlaw10.ScatterLimits', WHERE WHAT IT READS IS OF BULK AT MOST 1048576: true; the input reads as it did. -/
def scatterLimitsUptoRow : OpenClaim := { program := "ytipkmkmngcjdbaa", sum := "9f93ad664e99310c7a56c4b2fde70866b3cfcd8579fb4ee35c0a187ce8deed5c", func := "skylantern/skylanternlaw10.ScatterLimits", spec := "scatterLimits", unfollowed := true, recurses := true, plainKeys := false, apart := false, narrowed := true }
def ScatterLimitsUptoSaid : Prop := scatterLimitsUptoRow.holds Try.pinned (OpenSpec.upto scatterLimitsSpec)

/-- 'skylanternlaw10.ScatterHolds', WHERE WHAT IT READS IS OF BULK AT MOST 1048576: true; the input reads as it did. -/
def scatterHoldsUptoRow : OpenClaim := { program := "ytipkmkmngcjdbaa", sum := "9f93ad664e99310c7a56c4b2fde70866b3cfcd8579fb4ee35c0a187ce8deed5c", func := "skylantern/skylanternlaw10.ScatterHolds", spec := "scatterHolds", unfollowed := true, recurses := true, plainKeys := false, apart := false, narrowed := true }
def ScatterHoldsUptoSaid : Prop := scatterHoldsUptoRow.holds Try.pinned (OpenSpec.upto scatterHoldsSpec)

end Rows
end Go.Proofs.Ytipkmkmngcjdbaa
