/-
  The document's row, and a row of one colour; condition: lengths that fit.
-/
import Derived.Test.YtidoclepnecnbaaGreatDoorP7
namespace Go.Skm.Drw
open Go Go.Skm
theorem wrapU_eq {x : Int} (h1 : 0 ≤ x) (h2 : x ≤ 9223372036854775807) : IntKind.u64.wrap x = x := by
  have : ∀ y : Int, y = x % 2 ^ 64 → (if (false && decide (y ≥ 2 ^ (64 - 1))) = true then y - 2 ^ 64 else y) = x := by
    intro y hy
    rw [if_neg (by simp)]; omega
  exact this _ rfl
def rowL (p : Pi) (y : Int) (n : Nat) : List (Int × Int × Int) := (List.range n).map fun x : Nat => pixF (x : Int) y p.d (p.a, p.e, p.b)
@[simp] theorem rowL_length (p : Pi) (y : Int) (n : Nat) : (rowL p y n).length = n := by simp [rowL]
section
variable (X : Ext) (hX : Mine X)
include hX
omit hX in
end
end Go.Skm.Drw
