/-
  Points on a line at equal distances: their picks, spread and cover; the law of the limits, from the examples; condition: a library that copies lists.
-/
import Derived.Test.YtipkmkmngcjdbaaS6
namespace Go.Skm.Sct
open Go Go.Skm
def grid (s : Int) (n : Nat) : List V3 := (List.range n).map fun i : Nat => ⟨(i : Int) * s, 0, 0⟩
@[simp] theorem grid_length (s : Int) (n : Nat) : (grid s n).length = n := by simp [grid]
theorem cov_ge : ∀ (l ch : List V3) (n : Int), n ≤ cov l ch n
  | [], _, _ => Int.le_refl _
  | a :: l, ch, n => by have := cov_ge l ch (max n (nr a ch)); show n ≤ cov l ch (max n (nr a ch)); omega
theorem cov_all : ∀ (l ch : List V3) (n : Int), ∀ a ∈ l, nr a ch ≤ cov l ch n
  | [], _, _, a, h => by simp at h
  | b :: l, ch, n, a, h => by
    show nr a ch ≤ cov l ch (max n (nr b ch))
    rcases List.mem_cons.1 h with rfl | h
    · have := cov_ge l ch (max n (nr a ch)); omega
    · exact cov_all l ch _ a h
theorem cov_le : ∀ (l ch : List V3) (n m : Int), n ≤ m → (∀ a ∈ l, nr a ch ≤ m) → cov l ch n ≤ m
  | [], _, _, _, h, _ => h
  | b :: l, ch, n, m, h, h2 => by
    have := h2 b (by simp)
    exact cov_le l ch (max n (nr b ch)) m (by omega) (fun a ha => h2 a (by simp [ha]))
theorem pk_take (l : List V3) (k : Nat) : ∀ m, k ≤ m → (pk l m).take k = pk l k
  | 0, h => by rw [show k = 0 by omega]; rfl
  | m + 1, h => by
    by_cases e : k = m + 1
    · subst e; rw [List.take_of_length_le (by simp)]
    · show ((pk l m) ++ _).take k = _
      rw [List.take_append_of_le_length (by simp; omega), pk_take l k m (by omega)]
section
variable (X : Ext) (hX : Mine X)
include hX
theorem c19 (x y z : Int) : run tab X 19 [.p (.int .i64 x), .p (.int .i64 y), .p (.int .i64 z)] [] = some ([.p (eV ⟨x, y, z⟩)], []) :=
  run_of (hX _ rfl) (by rw [e19])
end
end Go.Skm.Sct
