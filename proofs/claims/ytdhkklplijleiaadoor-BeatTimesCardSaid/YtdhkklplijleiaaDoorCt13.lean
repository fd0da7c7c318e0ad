/-
  Bars: from a tick and back, the program's and the document's; condition: none.
-/
import Derived.Test.YtdhkklplijleiaaDoorCt12
namespace Go.Skm.Beat
open Go Go.Skm

def barV (a b c d : Int) : List AV × List Blk := ([.p (.int .i64 a), .p (.int .i64 b), .p (.int .i64 c), .p (.int .i64 d)], [])
def barR (tick beats : Int) : List AV × List Blk :=
  if 1 ≤ beats ∧ beats ≤ 32 then (if 0 ≤ tick ∧ tick ≤ 4194304 then barV (tick / 480 / beats + 1) (tick / 480 % beats + 1) (tick % 480) 0 else barV 0 0 0 3) else barV 0 0 0 2
def fromR (bar beat rest beats : Int) : Int × Int :=
  if 1 ≤ beats ∧ beats ≤ 32 then (if 1 ≤ bar ∧ bar ≤ 4194304 then (if 1 ≤ beat ∧ beat ≤ beats then (if 0 ≤ rest ∧ rest ≤ 479 then
    (if IntKind.i64.wrap ((IntKind.i64.wrap ((IntKind.i64.wrap ((IntKind.i64.wrap ((IntKind.i64.wrap ((IntKind.i64.wrap (bar - (1 : Int))) * beats)) + beat)) - (1 : Int))) * (480 : Int))) + rest) > 4194304 then (0, 3)
     else (IntKind.i64.wrap ((IntKind.i64.wrap ((IntKind.i64.wrap ((IntKind.i64.wrap ((IntKind.i64.wrap ((IntKind.i64.wrap (bar - (1 : Int))) * beats)) + beat)) - (1 : Int))) * (480 : Int))) + rest), 0))
    else (0, 3)) else (0, 3)) else (0, 3)) else (0, 2)
section
variable (X : Ext) (hX : Mine X)
include hX

theorem c28 (bar beat rest beats : Int) : run tab X 28 [.p (.int .i64 bar), .p (.int .i64 beat), .p (.int .i64 rest), .p (.int .i64 beats)] [] = some (pairR (fromR bar beat rest beats)) :=
  run_of (hX _ (by decide) (by decide) (by decide)) (by
    rw [e28]
    simp only [c34 X hX, Option.bind_some, List.headD_cons, pv_p, toBool_bool, condO, condD]
    unfold fromR
    split <;> try rfl
    split <;> try rfl
    split <;> try rfl
    split <;> try rfl
    split <;> rfl)
theorem c29 (bar beat rest beats : Int) : run tab X 29 [.p (.int .i64 bar), .p (.int .i64 beat), .p (.int .i64 rest), .p (.int .i64 beats)] [] = some (pairR (fromR bar beat rest beats)) :=
  run_of (hX _ (by decide) (by decide) (by decide)) (by
    rw [e29]
    simp only [c35 X hX, Option.bind_some, List.headD_cons, pv_p, toBool_bool, condO, condD]
    unfold fromR
    split <;> try rfl
    split <;> try rfl
    split <;> try rfl
    split <;> try rfl
    split <;> rfl)
theorem c24 (tick beats : Int) : run tab X 24 [.p (.int .i64 tick), .p (.int .i64 beats)] [] = some (barR tick beats) :=
  run_of (hX _ (by decide) (by decide) (by decide)) (by
    rw [e24]
    simp only [c34 X hX, Option.bind_some, List.headD_cons, pv_p, toBool_bool, condO, condD]
    unfold barR
    by_cases h : 1 ≤ beats ∧ beats ≤ 32
    · rw [if_pos h, if_pos h]
      by_cases g : 0 ≤ tick ∧ tick ≤ 4194304
      · have e0 : ¬ beats = 0 := by omega
        have q1 : 0 ≤ tick / 480 ∧ tick / 480 ≤ 4194304 := by omega
        have q2 := Int.ediv_nonneg q1.1 (show 0 ≤ beats by omega)
        have q3 := Int.ediv_le_self beats q1.1
        have q4 := Int.emod_nonneg (tick / 480) (show beats ≠ 0 by omega)
        have q5 := Int.emod_lt_of_pos (tick / 480) (show 0 < beats by omega)
        rw [if_pos g, if_pos g, if_neg e0, if_neg e0, Int.tdiv_eq_ediv_of_nonneg g.1, wrap_eq (x := tick / 480) (by omega) (by omega), Int.tdiv_eq_ediv_of_nonneg q1.1, Int.tmod_eq_emod_of_nonneg q1.1, Int.tmod_eq_emod_of_nonneg g.1, wrap_eq (x := tick / 480 / beats) (by omega) (by omega), wrap_eq (x := tick / 480 / beats + 1) (by omega) (by omega), wrap_eq (x := tick / 480 % beats + 1) (by omega) (by omega)]
        rfl
      · rw [if_neg g, if_neg g]; rfl
    · rw [if_neg h, if_neg h]; rfl)
theorem c25 (tick beats : Int) : run tab X 25 [.p (.int .i64 tick), .p (.int .i64 beats)] [] = some (barR tick beats) :=
  run_of (hX _ (by decide) (by decide) (by decide)) (by
    rw [e25]
    simp only [c35 X hX, Option.bind_some, List.headD_cons, pv_p, toBool_bool, condO, condD]
    unfold barR
    by_cases h : 1 ≤ beats ∧ beats ≤ 32
    · rw [if_pos h, if_pos h]
      by_cases g : 0 ≤ tick ∧ tick ≤ 4194304
      · have w : IntKind.i64.wrap (480 * beats) = 480 * beats := wrap_eq (by omega) (by omega)
        have e0 : ¬ beats = 0 := by omega
        have e1 : ¬ 480 * beats = 0 := by omega
        have q1 : 0 ≤ tick / 480 ∧ tick / 480 ≤ 4194304 := by omega
        have q2 := Int.ediv_nonneg q1.1 (show 0 ≤ beats by omega)
        have q3 := Int.ediv_le_self beats q1.1
        have q4 := Int.emod_nonneg (tick / 480) (show beats ≠ 0 by omega)
        have q5 := Int.emod_lt_of_pos (tick / 480) (show 0 < beats by omega)
        have q6 : tick / (480 * beats) = tick / 480 / beats := (Int.ediv_ediv_of_nonneg (show (0 : Int) ≤ 480 by decide)).symm
        rw [if_pos g, if_pos g, w, if_neg e1, if_neg e0, Int.tdiv_eq_ediv_of_nonneg g.1, Int.tdiv_eq_ediv_of_nonneg g.1, wrap_eq (x := tick / 480) (by omega) (by omega), Int.tmod_eq_emod_of_nonneg q1.1, Int.tmod_eq_emod_of_nonneg g.1, q6, wrap_eq (x := tick / 480 / beats) (by omega) (by omega), wrap_eq (x := tick / 480 / beats + 1) (by omega) (by omega), wrap_eq (x := tick / 480 % beats + 1) (by omega) (by omega)]
        rfl
      · rw [if_neg g, if_neg g]; rfl
    · rw [if_neg h, if_neg h]; rfl)
end
end Go.Skm.Beat
