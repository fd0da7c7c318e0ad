/-
  Loops over lists of vectors of the Hull seat: equality, ranges, reversing, compacting, joining; condition: lists shorter than 2 to the 31st where that is said.
-/
import Derived.Test.YthdegeidcjdkeaaCt3
namespace Go.Skm.Hull
open Go Go.Skm

theorem drop_getD {l : List V3} {i : Nat} (h : i < l.length) : l.drop i = l.getD i default :: l.drop (i + 1) := by
  rw [List.drop_eq_getElem_cons h, List.getD_eq_getElem?_getD, List.getElem?_eq_getElem h]; rfl
theorem take_getD {l : List V3} {i : Nat} (h : i < l.length) : l.take (i + 1) = l.take i ++ [l.getD i default] := by
  rw [List.take_add_one, List.getD_eq_getElem?_getD, List.getElem?_eq_getElem h]; rfl
theorem wrap_nat {i : Nat} (h : i < 4611686018427387904) : IntKind.i64.wrap ((i : Int) + 1) = ((i + 1 : Nat) : Int) := by
  rw [wrap_eq (by omega) (by omega)]; omega
theorem wrap_pred {i : Nat} (h0 : 0 < i) (h : i < 4611686018427387904) : IntKind.i64.wrap ((i : Int) - 1) = ((i - 1 : Nat) : Int) := by
  rw [wrap_eq (by omega) (by omega)]; omega
theorem eqV (u v : V3) : ((u.x == v.x) && ((u.y == v.y) && ((u.z == v.z) && true))) = decide (u = v) := by
  by_cases h : u = v
  · subst h; simp
  · rw [decide_eq_false h]
    by_cases h1 : u.x = v.x
    · by_cases h2 : u.y = v.y
      · have h3 : (u.z == v.z) = false := by
          have : u.z ≠ v.z := fun h3 => h (V3.ext' h1 h2 h3)
          simpa using this
        simp [h3]
      · have : (u.y == v.y) = false := by simpa using h2
        simp [this]
    · have : (u.x == v.x) = false := by simpa using h1
      simp [this]

section
variable (X : Ext) (hX : ∀ f, f ≠ 30 → X f = none)
include hX

theorem c11 (a b : List V3) (ha : a.length ≤ 4611686018427387903) : run tab X 11 [.p (.list true kV (encL a)), .p (.list true kV (encL b))] [] = some ([.p (.bool (decide (a = b)))], []) := by
  refine run_of (hX _ (by decide)) ?_
  rw [e11]
  simp only [encL_length, condN]
  by_cases hl : (a.length : Int) = (b.length : Int)
  · rw [if_pos hl]
    have hl' : a.length = b.length := by omega
    have key : ∀ k i : Nat, i + k = a.length → L tab (run tab X) 11 [] [[1, 1, 0, 1, 0]] (S11_11010 (encL a) (encL b) (i : Int)) = some ([.p (.bool (decide (a.drop i = b.drop i)))], []) := by
      intro k
      induction k with
      | zero =>
        intro i hi
        refine L_of ?_
        rw [e11_11010]
        simp only [encL_length, condD]
        rw [if_neg (by omega), List.drop_eq_nil_of_le (by omega), List.drop_eq_nil_of_le (by omega)]; rfl
      | succ k ih =>
        intro i hi
        refine L_of ?_
        rw [e11_11010]
        simp only [encL_length, condD, condA, condO, encL_x, encL_y, encL_z, Int.toNat_natCast, eqV]
        rw [if_pos (by omega), if_pos (by omega), if_pos (by omega), if_pos (by omega), if_pos (by omega), wrap_nat (by omega)]
        by_cases h : a.getD i default = b.getD i default
        · rw [if_pos h, ih (i + 1) (by omega), drop_getD (l := a) (i := i) (by omega), drop_getD (l := b) (i := i) (by omega), h]
          simp
        · rw [if_neg h, drop_getD (l := a) (i := i) (by omega), drop_getD (l := b) (i := i) (by omega)]
          rw [decide_eq_false fun e => h (List.cons.inj e).1]
    simpa using key a.length 0 (by omega)
  · rw [if_neg hl]
    have : a ≠ b := fun e => hl (by rw [e])
    simp [this]

theorem c40 (a b : List V3) (ha : a.length ≤ 4611686018427387903) : run tab X 40 [.p (.list true kV (encL a)), .p (.list true kV (encL b))] [] = some ([.p (.bool (decide (a = b)))], []) := by
  refine run_of (hX _ (by decide)) ?_
  rw [e40]
  simp only [encL_length, condN]
  by_cases hl : (a.length : Int) = (b.length : Int)
  · rw [if_pos hl]
    have hl' : a.length = b.length := by omega
    have key : ∀ k i : Nat, i + k = a.length → L tab (run tab X) 40 [] [[1, 1, 0, 1, 0]] (S40_11010 (encL a) (encL b) (a.length : Int) (i : Int)) = some ([.p (.bool (decide (a.drop i = b.drop i)))], []) := by
      intro k
      induction k with
      | zero =>
        intro i hi
        refine L_of ?_
        rw [e40_11010]
        simp only [encL_length, condD]
        rw [if_neg (by omega), List.drop_eq_nil_of_le (by omega), List.drop_eq_nil_of_le (by omega)]; rfl
      | succ k ih =>
        intro i hi
        refine L_of ?_
        rw [e40_11010]
        simp only [encL_length, condD, condA, condO, encL_x, encL_y, encL_z, Int.toNat_natCast, eqV]
        rw [if_pos (by omega), if_pos (by omega), if_pos (by omega), if_pos (by omega), if_pos (by omega), wrap_nat (by omega)]
        by_cases h : a.getD i default = b.getD i default
        · rw [if_pos h, ih (i + 1) (by omega), drop_getD (l := a) (i := i) (by omega), drop_getD (l := b) (i := i) (by omega), h]
          simp
        · rw [if_neg h, drop_getD (l := a) (i := i) (by omega), drop_getD (l := b) (i := i) (by omega)]
          rw [decide_eq_false fun e => h (List.cons.inj e).1]
    simpa using key a.length 0 (by omega)
  · rw [if_neg hl]
    have : a ≠ b := fun e => hl (by rw [e])
    simp [this]

/-- Are all vectors of a list points? -/
def ptsB (l : List V3) : Bool := l.all (inM 1048576)
theorem c12 (l : List V3) (hl : l.length ≤ 4611686018427387903) : run tab X 12 [.p (.list true kV (encL l))] [] = some ([.p (.bool (ptsB l))], []) := by
  refine run_of (hX _ (by decide)) ?_
  rw [e12]
  have key : ∀ k i : Nat, i + k = l.length → L tab (run tab X) 12 [] [[1, 0, 1, 0]] (S12_1010 (encL l) (i : Int)) = some ([.p (.bool (ptsB (l.drop i)))], []) := by
    intro k
    induction k with
    | zero =>
      intro i hi
      refine L_of ?_
      rw [e12_1010]
      simp only [encL_length, condD]
      rw [if_neg (by omega), List.drop_eq_nil_of_le (by omega)]; rfl
    | succ k ih =>
      intro i hi
      refine L_of ?_
      rw [e12_1010]
      simp only [encL_length, condD, condA, condO, encL_x, encL_y, encL_z, Int.toNat_natCast, encV_mk, c17 X hX, Option.bind_some, List.headD_cons, pv_p, toBool_bool]
      rw [if_pos (by omega), if_pos (by omega), if_pos (by omega), wrap_nat (by omega), ih (i + 1) (by omega), drop_getD (l := l) (i := i) (by omega)]
      have e : (⟨(l.getD i default).x, (l.getD i default).y, (l.getD i default).z⟩ : V3) = l.getD i default := rfl
      rw [e]
      have e2 : ptsB (l.getD i default :: l.drop (i + 1)) = (inM 1048576 (l.getD i default) && ptsB (l.drop (i + 1))) := rfl
      rw [e2]
      cases inM 1048576 (l.getD i default) <;> rfl
  simpa using key l.length 0 (by omega)
end
end Go.Skm.Hull
