/-
  The law of the grids: the caller overwrites its map; condition: the turns' answer.
-/
import Derived.Test.YtdhkklplijleiaaDoorCt17
namespace Go.Skm.Beat
open Go Go.Skm

section
variable (X : Ext)
theorem c7_own (c0 : Int) (c1 : List PV) (c2 c3 stop : Int) (b : Bool) (w : List PV) (k : Nat) (hk : k ≤ 70) (r)
    (hn : L tab (run tab X) 7 [] [.lp [1, 1, 1, 1, 1, 1, 1, 1, 0, 1, 0]] (S7_11111111010 c0 c1 c2 c3 stop b w 0 w.length 0) = some r) : ∀ (n i : Nat) (own : List PV), i + n = k →
    L tab (run tab X) 7 [] [.lp [1, 1, 1, 1, 1, 1, 1, 0, 1, 0]] (S7_1111111010 0 k c0 c1 c2 c3 i stop b own w 0 w.length) = some r := by
  intro n
  induction n with
  | zero =>
    intro i own h
    refine L_of ?_
    rw [e7_1111111010, condD, if_neg (by omega)]
    exact hn
  | succ n ih =>
    intro i own h
    have wn : IntKind.i64.wrap ((i : Int) + 1) = ((i + 1 : Nat) : Int) := by rw [wrap_eq (by omega) (by omega)]; omega
    refine L_of ?_
    rw [e7_1111111010, wn, ih (i + 1) _ (by omega)]
    simp only [condD, condA]
    repeat rw [if_pos (by omega)]
end
end Go.Skm.Beat
