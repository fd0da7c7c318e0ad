/-
  What the functions on two and three vectors of the Hull seat return; condition: parts in range where that is said.
-/
import Derived.Test.YthdegeidcjdkeaaCt1
namespace Go.Skm.Hull
open Go Go.Skm

section
variable (X : Ext) (hX : ∀ f, f ≠ 30 → X f = none)
include hX

theorem c31 (a b : V3) : run tab X 31 [.p (encV a), .p (encV b)] [] = some ([.p (.int .i64 (cmpV a b))], []) := by
  have w1 : IntKind.i64.wrap (0 + 1) = 1 := by decide
  have w2 : IntKind.i64.wrap (1 + 1) = 2 := by decide
  have w3 : IntKind.i64.wrap (2 + 1) = 3 := by decide
  have h52 : ∀ v : V3, run tab X 52 [.p (.agg [.int .i64 v.x, .int .i64 v.y, .int .i64 v.z])] [] = some ([.p (.agg [.int .i64 v.x, .int .i64 v.y, .int .i64 v.z])], []) := fun v => c52 X hX v
  refine run_of (hX _ (by decide)) ?_
  rw [encV, encV, e31]
  simp only [h52, Option.bind_some, List.headD_cons, pv_p, cell_agg, List.getD_cons_zero, List.getD_cons_succ, toInt_int]
  have key : run tab X 53 [.p (.list false [.int .i64] [.int .i64 a.x, .int .i64 a.y, .int .i64 a.z]), .p (.list false [.int .i64] [.int .i64 b.x, .int .i64 b.y, .int .i64 b.z])] [] = some ([.p (.int .i64 (cmpV a b))], []) := by
    refine run_of (hX _ (by decide)) ?_
    rw [e53]
    refine L_of ?_
    rw [e53_1010]
    simp only [c73 X hX, w1, condD, condA, condN, List.length_cons, List.length_nil, Option.bind_some, List.headD_cons, pv_p, toInt_int]
    simp only [show ((0 : Int) < ((0 + 1 + 1 + 1 : Nat) : Int)) by decide, show ¬ ((0 : Int) ≥ ((0 + 1 + 1 + 1 : Nat) : Int)) by decide, Int.le_refl, if_true, if_false, Int.toNat_zero, List.getD_cons_zero, cell_int, toInt_int]
    unfold cmpV
    by_cases h1 : a.x < b.x
    · simp [cmpI, h1]
    by_cases h2 : a.x > b.x
    · simp [cmpI, h1, h2]
    rw [if_neg h1, if_neg h2]
    have e1 : cmpI a.x b.x = 0 := by simp [cmpI, h1, h2]
    rw [e1, if_pos rfl]
    refine L_of ?_
    rw [e53_1010]
    simp only [c73 X hX, w2, condD, condA, condN, List.length_cons, List.length_nil, Option.bind_some, List.headD_cons, pv_p, toInt_int]
    simp only [show ((1 : Int) < ((0 + 1 + 1 + 1 : Nat) : Int)) by decide, show ¬ ((1 : Int) ≥ ((0 + 1 + 1 + 1 : Nat) : Int)) by decide, show (0 : Int) ≤ 1 by decide, if_true, if_false, show (1 : Int).toNat = 1 from rfl, List.getD_cons_succ, List.getD_cons_zero, cell_int, toInt_int]
    by_cases h3 : a.y < b.y
    · simp [cmpI, h3]
    by_cases h4 : a.y > b.y
    · simp [cmpI, h3, h4]
    rw [if_neg h3, if_neg h4]
    have e2 : cmpI a.y b.y = 0 := by simp [cmpI, h3, h4]
    rw [e2, if_pos rfl]
    refine L_of ?_
    rw [e53_1010]
    simp only [c73 X hX, w3, condD, condA, condN, List.length_cons, List.length_nil, Option.bind_some, List.headD_cons, pv_p, toInt_int]
    simp only [show ((2 : Int) < ((0 + 1 + 1 + 1 : Nat) : Int)) by decide, show ¬ ((2 : Int) ≥ ((0 + 1 + 1 + 1 : Nat) : Int)) by decide, show (0 : Int) ≤ 2 by decide, if_true, if_false, show (2 : Int).toNat = 2 from rfl, List.getD_cons_succ, List.getD_cons_zero, cell_int, toInt_int]
    by_cases h5 : cmpI a.z b.z = 0
    · rw [if_pos h5, h5]
      refine L_of ?_
      rw [e53_1010]
      simp
    · rw [if_neg h5]
  rw [key]; rfl

theorem c35 (a b : V3) : run tab X 35 [.p (encV a), .p (encV b)] [] = some ([.p (.int .i64 (cmpV a b))], []) := by
  have w1 : IntKind.i64.wrap (0 + 1) = 1 := by decide
  have w2 : IntKind.i64.wrap (1 + 1) = 2 := by decide
  have w3 : IntKind.i64.wrap (2 + 1) = 3 := by decide
  have e0 : ∀ (v : V3) i, run tab X 54 [.p (.agg [.int .i64 v.x, .int .i64 v.y, .int .i64 v.z]), .p (.int .i64 i)] [] = some ([.p (.int .i64 (if i = 0 then v.x else if i = 1 then v.y else v.z))], []) := fun v i => c54 X hX v i
  refine run_of (hX _ (by decide)) ?_
  rw [encV, encV, e35]
  unfold cmpV
  refine L_of ?_
  rw [e35_1010]
  simp only [e0, w1, Option.bind_some, List.headD_cons, pv_p, toInt_int, condD]
  rw [if_pos (by decide)]
  simp only [if_true]
  by_cases h1 : a.x < b.x
  · rw [if_pos h1, if_pos h1]
  by_cases h2 : a.x > b.x
  · rw [if_neg h1, if_neg h1, if_pos h2, if_pos h2]
  rw [if_neg h1, if_neg h1, if_neg h2, if_neg h2]
  refine L_of ?_
  rw [e35_1010]
  simp only [e0, w2, Option.bind_some, List.headD_cons, pv_p, toInt_int, condD]
  rw [if_pos (by decide)]
  simp only [show ¬ ((1 : Int) = 0) by decide, if_false, if_true]
  by_cases h3 : a.y < b.y
  · rw [if_pos h3, if_pos h3]
  by_cases h4 : a.y > b.y
  · rw [if_neg h3, if_neg h3, if_pos h4, if_pos h4]
  rw [if_neg h3, if_neg h3, if_neg h4, if_neg h4]
  refine L_of ?_
  rw [e35_1010]
  simp only [e0, w3, Option.bind_some, List.headD_cons, pv_p, toInt_int, condD]
  rw [if_pos (by decide)]
  simp only [show ¬ ((2 : Int) = 0) by decide, show ¬ ((2 : Int) = 1) by decide, if_false]
  unfold cmpI
  by_cases h5 : a.z < b.z
  · rw [if_pos h5, if_pos h5]
  by_cases h6 : a.z > b.z
  · rw [if_neg h5, if_neg h5, if_pos h6, if_pos h6]
  rw [if_neg h5, if_neg h5, if_neg h6, if_neg h6]
  refine L_of ?_
  rw [e35_1010]
  simp

/-- Parts between -m and m. -/
def Bd (m : Int) (v : V3) : Prop := (-m ≤ v.x ∧ v.x ≤ m) ∧ (-m ≤ v.y ∧ v.y ≤ m) ∧ (-m ≤ v.z ∧ v.z ≤ m)
theorem c61 (a b : V3) (ha : Bd 1099511627776 a) (hb : Bd 1099511627776 b) : run tab X 61 [.p (encV a), .p (encV b)] [] = some ([.p (encV ⟨a.x + b.x, a.y + b.y, a.z + b.z⟩)], []) :=
  run_of (hX _ (by decide)) (by
    obtain ⟨a1, a2, a3⟩ := ha
    obtain ⟨b1, b2, b3⟩ := hb
    rw [encV, encV, e61, wrap_eq (by omega) (by omega), wrap_eq (by omega) (by omega), wrap_eq (by omega) (by omega)]; rfl)
end
end Go.Skm.Hull
