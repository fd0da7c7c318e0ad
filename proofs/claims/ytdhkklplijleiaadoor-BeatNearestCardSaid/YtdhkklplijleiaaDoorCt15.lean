/-
  The laws of the times, of the ticks and of the nearest; condition: the known answers come out.
-/
import Derived.Test.YtdhkklplijleiaaDoorCt14
namespace Go.Skm.Beat
open Go Go.Skm

section
variable (X : Ext) (hX : Mine X)
include hX

theorem c5 (hk : Known X) (l : List Tm) (t : Int) : run tab X 5 [.p (.list true kT (encM l)), .p (.int .i64 t)] [] = some ([.p (.bool true)], []) :=
  run_of (hX _ (by decide) (by decide) (by decide)) (by
    have hm : (maxLen : Int) = 9223372036854775807 := by decide
    unfold Known at hk
    rw [kT, e5, condD, encM_length]
    by_cases h : (l.length : Int) > 70
    · rw [if_pos h, hk]; rfl
    · rw [if_neg h]
      obtain ⟨p, p1, p2⟩ := c16 X hX l (by omega) t
      obtain ⟨q, q1, q2⟩ := c20 X hX l t
      rw [q1.unique p1, kT] at q2
      rw [kT] at p2
      rw [p2, q2]
      change (bif (p.1 == p.1) then _ else _) = _
      rw [beq_self_eq_true, cond_true]
      change (bif (p.2 == p.2) then _ else _) = _
      rw [beq_self_eq_true, cond_true, hk]
      rfl)
theorem c6 (hk : Known X) (l : List Tm) (t s : Int) : run tab X 6 [.p (.list true kT (encM l)), .p (.int .i64 t), .p (.int .i64 s)] [] = some ([.p (.bool true)], []) :=
  run_of (hX _ (by decide) (by decide) (by decide)) (by
    have hm : (maxLen : Int) = 9223372036854775807 := by decide
    unfold Known at hk
    rw [kT, e6, condD, encM_length]
    by_cases h : (l.length : Int) > 70
    · rw [if_pos h, hk]; rfl
    · rw [if_neg h]
      obtain ⟨p, p1, p2⟩ := c17 X hX l (by omega) t s
      obtain ⟨q, q1, q2⟩ := c21 X hX l t s
      rw [q1.unique p1, kT] at q2
      rw [kT] at p2
      rw [p2, q2]
      change (bif (p.1 == p.1) then _ else _) = _
      rw [beq_self_eq_true, cond_true]
      change (bif (p.2 == p.2) then _ else _) = _
      rw [beq_self_eq_true, cond_true, hk]
      rfl)
omit hX in
theorem c4_loop (hk : Known X) (l : List PV) (hl : l.length ≤ 70) (a b c d : Int) : ∀ (n i : Nat), i + n = l.length → L tab (run tab X) 4 [] [.lp [1, 1, 1, 1, 1, 1, 1, 0, 1, 0]] (S4_1111111010 l 0 l.length a b a b c d c d i l) = some ([.p (.bool true)], []) := by
  unfold Known at hk
  intro n
  induction n with
  | zero =>
    intro i hi
    refine L_of ?_
    rw [e4_1111111010, condD, if_neg (by omega), hk]
    simp only [beq_self_eq_true, cond_true]
    rfl
  | succ n ih =>
    intro i hi
    have w : IntKind.i64.wrap ((i : Int) + 1) = ((i + 1 : Nat) : Int) := by rw [wrap_eq (by omega) (by omega)]; omega
    refine L_of ?_
    rw [e4_1111111010]
    simp only [w, ih (i + 1) (by omega), Nat.zero_add, beq_self_eq_true, Bool.and_true, Bool.not_true, cond_false, condD, condA]
    repeat rw [if_pos (by omega)]
theorem c4 (hk : Known X) (l : List Tm) (t : Int) : run tab X 4 [.p (.list true kT (encM l)), .p (.int .i64 t)] [] = some ([.p (.bool true)], []) :=
  run_of (hX _ (by decide) (by decide) (by decide)) (by
    have hm : (maxLen : Int) = 9223372036854775807 := by decide
    rw [kT, e4]
    simp only [condD, encM_length]
    by_cases h : (l.length : Int) > 70
    · unfold Known at hk
      rw [if_pos h, hk]; rfl
    · rw [if_neg h, if_pos (by omega)]
      have e : ((encM l).drop 0).take l.length = encM l := by rw [List.drop_zero, ← encM_length, List.take_length]
      have h14 := c14 X hX l (by omega) t
      have h18 := c18 X hX l t
      have h15 := c15 X hX l (by omega) t
      have h19 := c19 X hX l t
      have hl := c4_loop X hk (encM l) (by rw [encM_length]; omega) (exactR l t).1 (exactR l t).2 (timeR l t).1 (timeR l t).2 (encM l).length 0 (by omega)
      rw [encM_length] at hl
      rw [kT] at h14 h18 h15 h19
      rw [e, h14, h18, h15, h19]
      exact hl)
end
end Go.Skm.Beat
