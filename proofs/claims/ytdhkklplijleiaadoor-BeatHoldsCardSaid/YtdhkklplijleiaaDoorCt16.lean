/-
  The law of the grids: the round over the generator; condition: the next round's answer.
-/
import Derived.Test.YtdhkklplijleiaaDoorCt15
namespace Go.Skm.Beat
open Go Go.Skm

section
variable (X : Ext)

theorem c7_range (l : List Tm) (s : Nat) (c0 : Int) (c1 : List PV) (c2 c3 stop : Int) (b : Bool) (w : List PV) (hw : w.length ≤ 4294967296) (hs : ∀ x ∈ w, ∃ i, x = gE l s i) (turn : Int) (ht : turn = 0 ∨ turn = 1) (r)
    (hn : L tab (run tab X) 7 [] [.lp [1, 1, 1, 1, 1, 1, 1, 1, 0, 1, 0]] (S7_11111111010 c0 c1 c2 c3 stop b w 0 w.length (turn + 1)) = some r) : ∀ (m n : Nat), n + m = w.length →
    L tab (run tab X) 7 [] [.lp [1, 1, 1, 1, 1, 1, 1, 1, 0, 1, 0], .rg [1, 0, 0, 1, 0, 1, 0] [(false, [.int .i64]), (false, [.int .i64])] (w.drop n)] (S7_11111111010_1001010 c0 c1 c2 c3 c0 c1 c2 c3 stop b w 0 w.length turn n) = some r := by
  have wt : IntKind.i64.wrap (turn + 1) = turn + 1 := wrap_eq (by omega) (by omega)
  intro m
  induction m with
  | zero =>
    intro n h
    have e : n = w.length := by omega
    subst e
    rw [List.drop_length, e7_11111111010_1001010_nil, wt, hn, bne_self_eq_false, cond_false]
    cases turn == 1 <;> rfl
  | succ m ih =>
    intro n h
    have hlt : n < w.length := by omega
    obtain ⟨i, hi⟩ := hs _ (List.getElem_mem hlt)
    have wn : IntKind.i64.wrap ((n : Int) + 1) = ((n + 1 : Nat) : Int) := by rw [wrap_eq (by omega) (by omega)]; omega
    have hg : w.getD n .nil = gE l s i := by
      rw [List.getD_eq_getElem?_getD, List.getElem?_eq_getElem hlt, hi]
      rfl
    have hd : w.drop n = .agg [.int .i64 ((i * s : Nat) : Int), .int .i64 (gT l s i)] :: w.drop (n + 1) := by
      rw [List.drop_eq_getElem_cons hlt, hi]
      rfl
    have g0 : ((gE l s i).cell 0).toInt = ((i * s : Nat) : Int) := rfl
    have g1 : ((gE l s i).cell 1).toInt = gT l s i := rfl
    rw [hd, e7_11111111010_1001010_cons, wn, wt, hn, ih (n + 1) (by omega), Nat.zero_add, Int.toNat_natCast, hg, g0, g1, bne_self_eq_false, bne_self_eq_false]
    simp only [condD, condA, cond_false]
    rw [if_neg (by omega)]
    repeat rw [if_pos (by omega)]
    rcases ht with rfl | rfl
    · cases ((n + 1 : Nat) : Int) == stop <;> rfl
    · rfl
end
end Go.Skm.Beat
