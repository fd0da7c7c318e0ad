/-
  Dots and pictures as pure values of the machine; the small functions; which pictures are valid; condition: parts in range where that is said.
-/
import Derived.Test.YtidoclepnecnbaaGreatDoorEqs
import Derived.Test.YtidoclepnecnbaaGreatDoorSkmE
namespace Go.Skm.Drw
open Go Go.Skm
def In64 (n : Int) : Prop := -9223372036854775808 ≤ n ∧ n ≤ 9223372036854775807
def In8 (n : Int) : Prop := 0 ≤ n ∧ n ≤ 255
theorem wrap8_eq {x : Int} (h : In8 x) : IntKind.u8.wrap x = x := by
  unfold In8 at h
  simp only [IntKind.wrap, IntKind.bits, IntKind.signed, Bool.false_and]
  simp
  omega
abbrev colP (r e b : Int) : PV := .agg [.int .u8 r, .int .u8 e, .int .u8 b]
theorem goMax_eq (a b : Int) : goMax a b = max a b := by unfold goMax; omega
theorem goMin_eq (a b : Int) : goMin a b = min a b := by unfold goMin; omega
theorem ba_getD (l : List UInt8) (i : Nat) : (ba l).data.getD i 0 = l.getD i 0 := by
  simp [ba, Array.getD_eq_getD_getElem?, List.getD_eq_getElem?_getD]
structure Dt where
  x : Int
  y : Int
  r : Int
  a : Int
  e : Int
  b : Int
  deriving DecidableEq
instance : Inhabited Dt := ⟨⟨0, 0, 0, 0, 0, 0⟩⟩
abbrev kD : List Kd := [.int .i64, .int .i64, .int .i64, .int .u8, .int .u8, .int .u8]
abbrev encD (v : Dt) : PV := .agg [.int .i64 v.x, .int .i64 v.y, .int .i64 v.r, .int .u8 v.a, .int .u8 v.e, .int .u8 v.b]
def encL (l : List Dt) : List PV := l.map encD
@[simp] theorem encL_length (l : List Dt) : (encL l).length = l.length := by simp [encL]
theorem encL_get (l : List Dt) (i : Nat) : (encL l)[i]? = (l[i]?).map encD := by simp [encL]
theorem encL_getD (l : List Dt) {i : Nat} (h : i < l.length) : (encL l).getD i .nil = encD (l.getD i default) := by
  rw [List.getD_eq_getElem?_getD, List.getD_eq_getElem?_getD, encL_get]; simp [h]
theorem encL_none (l : List Dt) {i : Nat} (h : ¬ i < l.length) : (encL l).getD i .nil = .nil := by
  rw [List.getD_eq_getElem?_getD, encL_get]; simp [h]
theorem dt_none (l : List Dt) {i : Nat} (h : ¬ i < l.length) : l.getD i default = default := by
  rw [List.getD_eq_getElem?_getD]; simp [h]
@[simp] theorem encL_x (l : List Dt) (i : Nat) : (((encL l).getD i .nil).cell 0).toInt = (l.getD i default).x := by
  by_cases h : i < l.length
  · rw [encL_getD l h]; rfl
  · rw [encL_none l h, dt_none l h]; rfl
@[simp] theorem encL_y (l : List Dt) (i : Nat) : (((encL l).getD i .nil).cell 1).toInt = (l.getD i default).y := by
  by_cases h : i < l.length
  · rw [encL_getD l h]; rfl
  · rw [encL_none l h, dt_none l h]; rfl
@[simp] theorem encL_r (l : List Dt) (i : Nat) : (((encL l).getD i .nil).cell 2).toInt = (l.getD i default).r := by
  by_cases h : i < l.length
  · rw [encL_getD l h]; rfl
  · rw [encL_none l h, dt_none l h]; rfl
@[simp] theorem encL_a (l : List Dt) (i : Nat) : (((encL l).getD i .nil).cell 3).toInt = (l.getD i default).a := by
  by_cases h : i < l.length
  · rw [encL_getD l h]; rfl
  · rw [encL_none l h, dt_none l h]; rfl
@[simp] theorem encL_e (l : List Dt) (i : Nat) : (((encL l).getD i .nil).cell 4).toInt = (l.getD i default).e := by
  by_cases h : i < l.length
  · rw [encL_getD l h]; rfl
  · rw [encL_none l h, dt_none l h]; rfl
@[simp] theorem encL_b (l : List Dt) (i : Nat) : (((encL l).getD i .nil).cell 5).toInt = (l.getD i default).b := by
  by_cases h : i < l.length
  · rw [encL_getD l h]; rfl
  · rw [encL_none l h, dt_none l h]; rfl
theorem encL_drop (l : List Dt) (n : Nat) : (encL l).drop n = encL (l.drop n) := by simp [encL]
theorem encL_take (l : List Dt) (n : Nat) : (encL l).take n = encL (l.take n) := by simp [encL]
theorem encL_append (l m : List Dt) : encL l ++ encL m = encL (l ++ m) := by simp [encL]
theorem encL_one (v : Dt) : [encD v] = encL [v] := rfl
theorem encL_full (l : List Dt) : (encL l).take l.length = encL l := by rw [List.take_of_length_le (by simp)]
structure Dt.ok (v : Dt) : Prop where
  x : In64 v.x
  y : In64 v.y
  r : In64 v.r
  a : In8 v.a
  e : In8 v.e
  b : In8 v.b
structure Pi where
  w : Int
  h : Int
  a : Int
  e : Int
  b : Int
  d : List Dt
  deriving DecidableEq
instance : Inhabited Pi := ⟨⟨0, 0, 0, 0, 0, []⟩⟩
abbrev encP (p : Pi) : PV := .agg [.int .i64 p.w, .int .i64 p.h, .int .u8 p.a, .int .u8 p.e, .int .u8 p.b, .list true kD (encL p.d)]
structure Pi.ok (p : Pi) : Prop where
  w : In64 p.w
  h : In64 p.h
  a : In8 p.a
  e : In8 p.e
  b : In8 p.b
  d : ∀ v ∈ p.d, v.ok
  len : p.d.length ≤ maxLen
def okD (d : Dt) : Bool := decide (-8192 ≤ d.x ∧ d.x ≤ 8192) && (decide (-8192 ≤ d.y ∧ d.y ≤ 8192) && decide (1 ≤ d.r ∧ d.r ≤ 4096))
def side (n : Int) : Bool := decide (1 ≤ n ∧ n ≤ 4096)
def validP (p : Pi) : Bool := side p.w && (side p.h && (decide (p.d.length ≤ 4096) && p.d.all okD))
structure Valid (p : Pi) : Prop where
  w : 1 ≤ p.w ∧ p.w ≤ 4096
  h : 1 ≤ p.h ∧ p.h ≤ 4096
  len : p.d.length ≤ 4096
  d : ∀ v ∈ p.d, (-8192 ≤ v.x ∧ v.x ≤ 8192) ∧ (-8192 ≤ v.y ∧ v.y ≤ 8192) ∧ (1 ≤ v.r ∧ v.r ≤ 4096)
theorem okD_iff {d : Dt} : okD d = true ↔ (-8192 ≤ d.x ∧ d.x ≤ 8192) ∧ (-8192 ≤ d.y ∧ d.y ≤ 8192) ∧ (1 ≤ d.r ∧ d.r ≤ 4096) := by simp [okD]
theorem valid_iff {p : Pi} : validP p = true ↔ Valid p := by
  simp only [validP, side, Bool.and_eq_true, decide_eq_true_eq, List.all_eq_true]
  exact ⟨fun ⟨h1, h2, h3, h4⟩ => ⟨h1, h2, h3, fun v hv => okD_iff.1 (h4 v hv)⟩, fun h => ⟨h.w, h.h, h.len, fun v hv => okD_iff.2 (h.d v hv)⟩⟩
def extB (f : Nat) : Bool := Nat.beq f 38 || (Nat.beq f 45 || (Nat.beq f 44 || Nat.beq f 27))
def Mine (X : Ext) : Prop := ∀ f, extB f = false → X f = none
section
variable (X : Ext) (hX : Mine X)
include hX
theorem c22 (n lo hi : Int) : run tab X 22 [.p (.int .i64 n), .p (.int .i64 lo), .p (.int .i64 hi)] [] = some ([.p (.bool (decide (lo ≤ n ∧ n ≤ hi)))], []) :=
  run_of (hX _ rfl) (by
    rw [e22]
    simp only [condD]
    by_cases h : lo ≤ n
    · rw [if_pos h]
      show some ([AV.p (PV.bool (decide (n ≤ hi)))], []) = _
      simp [h]
    · rw [if_neg h]; simp [h])
theorem c35 (d : Dt) : run tab X 35 [.p (encD d)] [] = some ([.p (.bool (!okD d))], []) :=
  run_of (hX _ rfl) (by
    rw [e35]
    simp only [c22 X hX, Option.bind_some, List.headD_cons, pv_p, toBool_bool]
    unfold okD
    cases decide (-8192 ≤ d.x ∧ d.x ≤ 8192) <;> cases decide (-8192 ≤ d.y ∧ d.y ≤ 8192) <;> cases decide (1 ≤ d.r ∧ d.r ≤ 4096) <;> rfl)
theorem c18_loop (p : Pi) (hl : p.d.length ≤ maxLen) : ∀ (n i : Nat), i + n = p.d.length →
    L tab (run tab X) 18 [] [.lp [1, 1, 0, 1, 0]] (S18_11010 (encL p.d) p.d.length i p.w p.h p.a p.e p.b (encL p.d)) = some ([.p (.bool ((p.d.drop i).all okD && (side p.w && (side p.h && decide (p.d.length ≤ 4096)))))], []) := by
  have hm : (maxLen : Int) = 9223372036854775807 := by decide
  intro n
  induction n with
  | zero =>
    intro i hi
    refine L_of ?_
    rw [e18_11010]
    simp only [condD, c22 X hX, Option.bind_some, List.headD_cons, pv_p, toBool_bool, encL_length]
    rw [if_neg (by omega), List.drop_eq_nil_of_le (by omega)]
    have e : leI ((p.d.length : Nat) : Int) 4096 = decide (p.d.length ≤ 4096) := by
      show decide _ = decide _
      simp only [decide_eq_decide]; omega
    rw [e]
    unfold side
    simp only [List.all_nil, Bool.true_and]
    by_cases h1 : 1 ≤ p.w ∧ p.w ≤ 4096
    · by_cases h2 : 1 ≤ p.h ∧ p.h ≤ 4096
      · rw [if_pos h1, if_pos h2]; simp [h1, h2]
      · rw [if_pos h1, if_neg h2]; simp [h1, h2]
    · rw [if_neg h1]; simp [h1]
  | succ n ih =>
    intro i hi
    have hlt : i < p.d.length := by omega
    have w : IntKind.i64.wrap ((i : Int) + 1) = ((i + 1 : Nat) : Int) := by rw [wrap_eq (by omega) (by omega)]; omega
    have hg : p.d.getD i default = p.d[i] := by simp [List.getD_eq_getElem?_getD, hlt]
    refine L_of ?_
    rw [e18_11010]
    have h32 := c35 X hX p.d[i]
    simp only [condD, condA, encL_length, encL_x, encL_y, encL_r, encL_a, encL_e, encL_b, Int.toNat_natCast, hg, w]
    rw [if_pos (by omega), if_pos (by omega), if_pos (by omega), List.drop_eq_getElem_cons hlt]
    refine bindS h32 ?_
    simp only [List.headD_cons, pv_p, toBool_bool, List.all_cons]
    cases okD p.d[i] with
    | false => rfl
    | true => exact ih (i + 1) (by omega)
theorem c18 (p : Pi) (hl : p.d.length ≤ maxLen) : run tab X 18 [.p (encP p)] [] = some ([.p (.bool (validP p))], []) :=
  run_of (hX _ rfl) (by
    rw [e18, encL_length]
    refine (c18_loop X hX p hl p.d.length 0 (by omega)).trans ?_
    unfold validP
    rw [List.drop_zero]
    cases p.d.all okD <;> cases side p.w <;> cases side p.h <;> cases decide (p.d.length ≤ 4096) <;> rfl)
end
end Go.Skm.Drw
