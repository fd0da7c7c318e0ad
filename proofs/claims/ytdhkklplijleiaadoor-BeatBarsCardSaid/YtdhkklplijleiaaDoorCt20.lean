/-
  The sample's values; condition: none.
-/
import Derived.Test.YtdhkklplijleiaaDoorCt19
namespace Go.Skm.Beat
open Go Go.Skm

theorem smp_valid : validB smp = true := by decide
theorem smp_gap (r : Nat) (h : r ≤ 960) : exS smp r = r * 500000 := by
  simp only [exS, exF, seg, smp, List.length_cons, List.length_nil, List.getD_cons_zero, List.getD_cons_succ]
  simp
  omega
section
variable (X : Ext) (hX : Mine X)
include hX
theorem c32 : run tab X 32 [] [] = some ([.fresh true kT (encM smp)], []) :=
  run_of (hX _ (by decide) (by decide) (by decide)) (by
    rw [e32]
    rfl)
end
end Go.Skm.Beat
