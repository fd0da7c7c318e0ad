/-
  The tick at a time: the program's and the document's answer alike; condition: no list longer than Go allows.
-/
import Derived.Test.YtdhkklplijleiaaGreatDoorB5
namespace Go.Skm.Cue
open Go Go.Skm
structure IsTick (l : List Tm) (t r : Int) : Prop where
  lo : 0 ≤ r
  hi : r ≤ Top
  le : tmS l r ≤ t
  gt : r = Top ∨ t < tmS l (r + 1)
theorem IsTick.unique {l : List Tm} (v : Valid l) {t r s : Int} (a : IsTick l t r) (b : IsTick l t s) : r = s := by
  have h1 : ¬ r < s := fun h => by
    rcases a.gt with g | g
    · have := b.hi; omega
    · have := tmS_mono v (x := r + 1) (y := s) (by omega); have := b.le; omega
  have h2 : ¬ s < r := fun h => by
    rcases b.gt with g | g
    · have := a.hi; omega
    · have := tmS_mono v (x := s + 1) (y := r) (by omega); have := a.le; omega
  omega
def TickP (l : List Tm) (t : Int) (p : Int × Int) : Prop :=
  if validB l = true then (if 0 ≤ t ∧ t ≤ 3600000 then (p.2 = 0 ∧ IsTick l t p.1) else p = (0, 3)) else p = (0, 2)
theorem TickP.unique {l : List Tm} {t : Int} {p q : Int × Int} (a : TickP l t p) (b : TickP l t q) : p = q := by
  unfold TickP at a b
  by_cases hv : validB l = true
  · rw [if_pos hv] at a b
    by_cases h : 0 ≤ t ∧ t ≤ 3600000
    · rw [if_pos h] at a b
      exact Prod.ext (a.2.unique (valid_of hv) b.2) (by rw [a.1, b.1])
    · rw [if_neg h] at a b
      rw [a, b]
  · rw [if_neg hv] at a b
    rw [a, b]
section
variable (X : Ext) (hX : Mine X)
include hX
end
end Go.Skm.Cue
