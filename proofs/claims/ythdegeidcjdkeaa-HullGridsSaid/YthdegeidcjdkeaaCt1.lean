/-
  What the small functions of the Hull seat return: comparisons, ranges, turns of points seen from above; condition: parts in range where that is said.
-/
import Derived.Test.YthdegeidcjdkeaaEqs
import Derived.Test.YthdegeidcjdkeaaSkmE
namespace Go.Skm.Hull
open Go Go.Skm

theorem mulB {a b m n : Int} (ha : -m ≤ a ∧ a ≤ m) (hb : -n ≤ b ∧ b ≤ n) : -(m * n) ≤ a * b ∧ a * b ≤ m * n := by
  have h1 : a.natAbs ≤ m.toNat := by omega
  have h2 : b.natAbs ≤ n.toNat := by omega
  have h3 := Nat.mul_le_mul h1 h2
  rw [← Int.natAbs_mul] at h3
  have h4 : ((m.toNat * n.toNat : Nat) : Int) = m * n := by
    rw [Int.natCast_mul, Int.toNat_of_nonneg (by omega), Int.toNat_of_nonneg (by omega)]
  omega

def sgn (n : Int) : Int := if n < 0 then -1 else if n > 0 then 1 else 0
def cmpI (x y : Int) : Int := if x < y then -1 else if x > y then 1 else 0
/-- Vectors compared: by x, then y, then z. -/
def cmpV (a b : V3) : Int := if a.x < b.x then -1 else if a.x > b.x then 1 else if a.y < b.y then -1 else if a.y > b.y then 1 else cmpI a.z b.z
/-- Twice the area of a triangle, with its sign. -/
def area (a b c : V3) : Int := (b.x - a.x) * (c.y - a.y) - (b.y - a.y) * (c.x - a.x)
def inM (m : Int) (v : V3) : Bool := decide (-m ≤ v.x ∧ v.x ≤ m) && (decide (-m ≤ v.y ∧ v.y ≤ m) && decide (-m ≤ v.z ∧ v.z ≤ m))
def turnS (a b c : V3) : Int := sgn (area a b c)

theorem inM_iff {m : Int} {v : V3} : inM m v = true ↔ (-m ≤ v.x ∧ v.x ≤ m) ∧ (-m ≤ v.y ∧ v.y ≤ m) ∧ (-m ≤ v.z ∧ v.z ≤ m) := by
  simp [inM]

section
variable (X : Ext) (hX : ∀ f, f ≠ 30 → X f = none)
include hX

theorem c80 (x : Int) : run tab X 80 [.p (.int .i64 x)] [] = some ([.p (.bool false)], []) :=
  run_of (hX _ (by decide)) (by rw [e80]; simp)
theorem c73 (x y : Int) : run tab X 73 [.p (.int .i64 x), .p (.int .i64 y)] [] = some ([.p (.int .i64 (cmpI x y))], []) :=
  run_of (hX _ (by decide)) (by
    rw [e73]
    simp only [c80 X hX, Option.bind_some, List.headD_cons, pv_p, toBool_bool, cond_false, condD, cmpI]
    split <;> (try split) <;> rfl)
theorem c54 (v : V3) (i : Int) : run tab X 54 [.p (encV v), .p (.int .i64 i)] [] = some ([.p (.int .i64 (if i = 0 then v.x else if i = 1 then v.y else v.z))], []) :=
  run_of (hX _ (by decide)) (by
    rw [encV, e54]
    simp only [condE]
    split <;> (try split) <;> rfl)
theorem c74 (n : Int) : run tab X 74 [.p (.int .i64 n)] [] = some ([.p (.int .i64 (sgn n))], []) :=
  run_of (hX _ (by decide)) (by
    rw [e74]
    simp only [condD, sgn]
    split <;> (try split) <;> rfl)
theorem c52 (v : V3) : run tab X 52 [.p (encV v)] [] = some ([.p (encV v)], []) := run_of (hX _ (by decide)) (by rw [encV, e52])

theorem c41 (v : V3) (m : Int) (hm : 0 ≤ m) (hm' : m ≤ 9223372036854775807) : run tab X 41 [.p (encV v), .p (.int .i64 m)] [] = some ([.p (.bool (inM m v))], []) := by
  have hn : IntKind.i64.wrap (0 - m) = -m := by rw [wrap_eq (by omega) (by omega)]; omega
  refine run_of (hX _ (by decide)) ?_
  rw [encV, e41]
  have e0 : ∀ i, run tab X 54 [.p (.agg [.int .i64 v.x, .int .i64 v.y, .int .i64 v.z]), .p (.int .i64 i)] [] = some ([.p (.int .i64 (if i = 0 then v.x else if i = 1 then v.y else v.z))], []) := fun i => c54 X hX v i
  refine L_of ?_
  rw [e41_1010]
  simp only [e0, hn, Option.bind_some, List.headD_cons, pv_p, toInt_int, condD]
  rw [if_pos (by decide)]
  simp only [if_true]
  by_cases h1 : v.x > m
  · rw [if_pos h1]; simp [inM]; omega
  rw [if_neg h1]
  by_cases h2 : v.x < -m
  · rw [if_pos h2]; simp [inM]; omega
  rw [if_neg h2]
  refine L_of ?_
  rw [e41_1010]
  simp only [e0, hn, Option.bind_some, List.headD_cons, pv_p, toInt_int, condD]
  have w1 : IntKind.i64.wrap (0 + 1) = 1 := by decide
  rw [w1, if_pos (by decide)]
  simp only [show ¬ ((1 : Int) = 0) by decide, if_false, if_true]
  by_cases h3 : v.y > m
  · rw [if_pos h3]; simp [inM]; omega
  rw [if_neg h3]
  by_cases h4 : v.y < -m
  · rw [if_pos h4]; simp [inM]; omega
  rw [if_neg h4]
  refine L_of ?_
  rw [e41_1010]
  simp only [e0, hn, Option.bind_some, List.headD_cons, pv_p, toInt_int, condD]
  have w2 : IntKind.i64.wrap (1 + 1) = 2 := by decide
  rw [w2, if_pos (by decide)]
  simp only [show ¬ ((2 : Int) = 0) by decide, show ¬ ((2 : Int) = 1) by decide, if_false]
  by_cases h5 : v.z > m
  · rw [if_pos h5]; simp [inM]; omega
  rw [if_neg h5]
  by_cases h6 : v.z < -m
  · rw [if_pos h6]; simp [inM]; omega
  rw [if_neg h6]
  refine L_of ?_
  rw [e41_1010]
  have w3 : IntKind.i64.wrap (2 + 1) = 3 := by decide
  rw [w3]
  have : inM m v = true := by rw [inM_iff]; omega
  simp [this]
theorem c17 (v : V3) : run tab X 17 [.p (encV v)] [] = some ([.p (.bool (inM 1048576 v))], []) :=
  run_of (hX _ (by decide)) (by
    rw [encV, e17]
    have := c41 X hX v 1048576 (by decide) (by decide)
    rw [encV] at this
    rw [this]; rfl)
theorem c24 (v : V3) : run tab X 24 [.p (encV v)] [] = some ([.p (.bool (inM 16777216 v))], []) :=
  run_of (hX _ (by decide)) (by
    rw [encV, e24]
    have := c41 X hX v 16777216 (by decide) (by decide)
    rw [encV] at this
    rw [this]; rfl)
theorem c49 (v : V3) (m : Int) (hm : 0 ≤ m) (hm' : m ≤ 9223372036854775807) : run tab X 49 [.p (.int .i64 m), .p (.list false [.int .i64] [.int .i64 v.x, .int .i64 v.y, .int .i64 v.z])] [] = some ([.p (.bool (inM m v))], []) := by
  have hn : IntKind.i64.wrap (0 - m) = -m := by rw [wrap_eq (by omega) (by omega)]; omega
  have w1 : IntKind.i64.wrap (0 + 1) = 1 := by decide
  have w2 : IntKind.i64.wrap (1 + 1) = 2 := by decide
  have w3 : IntKind.i64.wrap (2 + 1) = 3 := by decide
  refine run_of (hX _ (by decide)) ?_
  rw [e49]
  refine L_of ?_
  rw [e49_1010]
  simp only [hn, w1, condD, condA, List.length_cons, List.length_nil]
  simp only [show ((0 : Int) < ((0 + 1 + 1 + 1 : Nat) : Int)) by decide, Int.le_refl, if_true, Int.toNat_zero, List.getD_cons_zero, cell_int, toInt_int]
  by_cases h1 : v.x < -m
  · rw [if_pos h1]; simp [inM]; omega
  rw [if_neg h1]
  by_cases h2 : v.x > m
  · rw [if_pos h2]; simp [inM]; omega
  rw [if_neg h2]
  refine L_of ?_
  rw [e49_1010]
  simp only [hn, w2, condD, condA, List.length_cons, List.length_nil]
  simp only [show ((1 : Int) < ((0 + 1 + 1 + 1 : Nat) : Int)) by decide, show (0 : Int) ≤ 1 by decide, if_true, show (1 : Int).toNat = 1 from rfl, List.getD_cons_succ, List.getD_cons_zero, cell_int, toInt_int]
  by_cases h3 : v.y < -m
  · rw [if_pos h3]; simp [inM]; omega
  rw [if_neg h3]
  by_cases h4 : v.y > m
  · rw [if_pos h4]; simp [inM]; omega
  rw [if_neg h4]
  refine L_of ?_
  rw [e49_1010]
  simp only [hn, w3, condD, condA, List.length_cons, List.length_nil]
  simp only [show ((2 : Int) < ((0 + 1 + 1 + 1 : Nat) : Int)) by decide, show (0 : Int) ≤ 2 by decide, if_true, show (2 : Int).toNat = 2 from rfl, List.getD_cons_succ, List.getD_cons_zero, cell_int, toInt_int]
  by_cases h5 : v.z < -m
  · rw [if_pos h5]; simp [inM]; omega
  rw [if_neg h5]
  by_cases h6 : v.z > m
  · rw [if_pos h6]; simp [inM]; omega
  rw [if_neg h6]
  refine L_of ?_
  rw [e49_1010]
  have : inM m v = true := by rw [inM_iff]; omega
  simp [this]
theorem c29 (v : V3) : run tab X 29 [.p (encV v)] [] = some ([.p (.bool (inM 1048576 v))], []) :=
  run_of (hX _ (by decide)) (by rw [encV, e29, c49 X hX v _ (by decide) (by decide)]; rfl)
theorem c44 (v : V3) : run tab X 44 [.p (encV v)] [] = some ([.p (.bool (inM 16777216 v))], []) :=
  run_of (hX _ (by decide)) (by rw [encV, e44, c49 X hX v _ (by decide) (by decide)]; rfl)
end
end Go.Skm.Hull
