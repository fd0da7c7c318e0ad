/-
  Pixel: both give the same colour, or the same error; condition: lengths that fit.
-/
import Derived.Test.YtidoclepnecnbaaGreatDoorP5
namespace Go.Skm.Drw
open Go Go.Skm
def pixR (p : Pi) (x y : Int) : List AV × List Blk :=
  bif validP p then (if 0 ≤ x ∧ x < p.w ∧ 0 ≤ y ∧ y < p.h then ([.p (colC (pixF x y p.d (p.a, p.e, p.b))), .p (.int .i64 0)], []) else ([.p (colP 0 0 0), .p (.int .i64 3)], []))
  else ([.p (colP 0 0 0), .p (.int .i64 2)], [])
section
variable (X : Ext) (hX : Mine X)
include hX
theorem c11 (p : Pi) (hl : p.d.length ≤ maxLen) (x y : Int) : run tab X 11 [.p (encP p), .p (.int .i64 x), .p (.int .i64 y)] [] = some (pixR p x y) :=
  run_of (hX _ rfl) (by
    rw [e11, c18 X hX p hl]
    unfold pixR
    simp only [Option.bind_some, List.headD_cons, pv_p, toBool_bool, condO]
    cases hv : validP p with
    | false => rfl
    | true =>
      have V := valid_iff.1 hv
      obtain ⟨w1, w2⟩ := V.w
      obtain ⟨h1, h2⟩ := V.h
      have ew : IntKind.i64.wrap (p.w - 1) = p.w - 1 := wrap_eq (by omega) (by omega)
      have eh : IntKind.i64.wrap (p.h - 1) = p.h - 1 := wrap_eq (by omega) (by omega)
      simp only [cond_true, c22 X hX, ew, eh, Option.bind_some, List.headD_cons, pv_p, toBool_bool]
      by_cases hx : 0 ≤ x ∧ x ≤ p.w - 1
      · by_cases hy : 0 ≤ y ∧ y ≤ p.h - 1
        · rw [if_pos (show 0 ≤ x ∧ x < p.w ∧ 0 ≤ y ∧ y < p.h by omega)]
          refine condP hx (condP hy ?_)
          refine bindS (c23 X hX p.d) (bindS (c40 X hX p.d hl) ?_)
          refine Eq.trans (c11_loop X hX p.d V.near (x := x) (y := y) ⟨by omega, by omega⟩ ⟨by omega, by omega⟩ (p.a, p.e, p.b) (encL p.d) p.d.length (Nat.le_refl _)) ?_
          rw [List.take_length]
        · rw [if_neg (by omega)]
          exact condP hx (condNP hy rfl)
      · rw [if_neg (by omega)]
        exact condNP hx rfl)
theorem c12 (p : Pi) (hl : p.d.length ≤ maxLen) (x y r e b : Int) : run tab X 12 [.p (encP p), .p (.int .i64 x), .p (.int .i64 y), .p (colP r e b)] [] =
    some ([.p (.bool ((pixR p x y).1.tail.headD .undef |>.pv.toInt |> fun c => bif c == 0 then (((((pixR p x y).1.headD .undef).pv.cell 0).toInt == r) && (((((pixR p x y).1.headD .undef).pv.cell 1).toInt == e) && (((((pixR p x y).1.headD .undef).pv.cell 2).toInt == b) && true))) else false))], []) :=
  run_of (hX _ rfl) (by
    rw [e12, c11 X hX p hl]
    simp only [Option.bind_some]
    cases ((pixR p x y).1.tail.headD .undef).pv.toInt == 0 <;> rfl)
end
end Go.Skm.Drw
