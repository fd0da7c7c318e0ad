/-
  A list of cues, sorted as the library sorts it: the same cues, none before one that is less; condition: none.
-/
import Derived.Test.YtdhkklplijleiaaGreatDoorC19
import Derived.Sort.AssemblyPlain
namespace Go.Skm.Cue
open Go Go.Skm Go.Sort Go.Proofs
def ltD (x y : Cu) : Bool := decide (cmpC x y < 0)
theorem ltC (a b : Cu) : ltD a b = bef a b := by
  unfold ltD
  rw [Bool.eq_iff_iff, decide_eq_true_eq]
  exact cmpC_lt
theorem swoC : SWO (ltD) where
  irrefl x := by rw [ltC]; exact bef_irrefl x
  trans x y z h1 h2 := by rw [ltC] at *; exact bef_trans h1 h2
  ntrans x y z h1 h2 := by
    rw [ltC] at *
    cases h : bef x z with
    | false => rfl
    | true =>
      rcases bef_tri x y with g | g | g
      · rw [g] at h1; cases h1
      · rw [sam_bef_l g] at h; rw [h] at h2; cases h2
      · rw [bef_trans g h] at h2; cases h2
end Go.Skm.Cue
