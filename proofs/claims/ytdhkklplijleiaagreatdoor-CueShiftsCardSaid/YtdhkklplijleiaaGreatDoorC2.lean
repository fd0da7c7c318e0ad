/-
  Times, names and valid cues: the program's tests and the document's come to the same; condition: a name's length fits.
-/
import Derived.Test.YtdhkklplijleiaaGreatDoorC1
namespace Go.Skm.Cue
open Go Go.Skm
def nmP (c : Int) (i : Nat) : Prop := (97 ≤ c ∧ c ≤ 122) ∨ (65 ≤ c ∧ c ≤ 90) ∨ (0 < i ∧ ((48 ≤ c ∧ c ≤ 57) ∨ c = 45 ∨ c = 95))
instance (c : Int) (i : Nat) : Decidable (nmP c i) := by unfold nmP; infer_instance
def nmAt (g : List UInt8) (i : Nat) : Bool := decide (nmP ((g.getD i 0).toNat : Int) i)
def nmAll (g : List UInt8) : Nat → Nat → Bool
  | _, 0 => true
  | i, n + 1 => nmAt g i && nmAll g (i + 1) n
def okN (g : List UInt8) : Bool := decide (1 ≤ g.length ∧ g.length ≤ 32) && nmAll g 0 g.length
def timeB (n : Int) : Bool := decide (0 ≤ n ∧ n ≤ 3600000)
def fineB (v : Cu) : Bool := timeB v.t && (timeB v.f && okN v.g)
section
variable (X : Ext) (hX : Mine X)
include hX
theorem c44 (n : Int) : run tab X 44 [.p (.int .i64 n)] [] = some ([.p (.bool (timeB n))], []) :=
  run_of (hX _ rfl) (by
    rw [e44]; unfold timeB
    simp only [condD]
    by_cases h : n ≥ 0
    · rw [if_pos h]; simp [show 0 ≤ n from h]
    · rw [if_neg h]; simp [show ¬ 0 ≤ n from h])
theorem c47 (n : Int) : run tab X 47 [.p (.int .i64 n)] [] = some ([.p (.bool (timeB n))], []) :=
  run_of (hX _ rfl) (by
    rw [e47]; unfold timeB
    simp only [condD]
    by_cases h : 0 ≤ n
    · rw [if_pos h]; simp [h]
    · rw [if_neg h]; simp [h])
omit hX in
set_option maxHeartbeats 1000000 in
theorem c46_loop (g : List UInt8) (hg : g.length ≤ maxLen) : ∀ (n i : Nat), i + n = g.length →
    L tab (run tab X) 46 [] [.lp [1, 0, 1, 0]] (S46_1010 (ba g) g.length i) = some ([.p (.bool (decide (1 ≤ g.length ∧ g.length ≤ 32) && nmAll g i n))], []) := by
  have hm : (maxLen : Int) = 9223372036854775807 := by decide
  intro n
  induction n with
  | zero =>
    intro i hi
    refine L_of ?_
    rw [e46_1010]
    simp only [condD, ba_size]
    rw [if_neg (by omega)]
    by_cases h : (g.length : Int) ≥ 1
    · have h' : 1 ≤ g.length := by omega
      rw [if_pos h]
      by_cases h2 : g.length ≤ 32
      · have h3 : (g.length : Int) ≤ 32 := by omega
        simp [h', h2, h3, nmAll]
      · have h3 : ¬ (g.length : Int) ≤ 32 := by omega
        simp [h2, h3]
    · have h' : ¬ 1 ≤ g.length := by omega
      rw [if_neg h]
      simp [h']
  | succ n ih =>
    intro i hi
    have w : IntKind.i64.wrap ((i : Int) + 1) = ((i + 1 : Nat) : Int) := by rw [wrap_eq (by omega) (by omega)]; omega
    have ih' := ih (i + 1) (by omega)
    have b1 : (0 : Int) ≤ (i : Int) := by omega
    have b2 : (i : Int) < (g.length : Int) := by omega
    refine L_of ?_
    rw [e46_1010]
    simp only [condD, condA, condE, ba_size, ba_getD, Int.toNat_natCast, w, ih', if_pos b1, if_pos b2, nmAll, nmAt]
    generalize (((g.getD i 0).toNat : Nat) : Int) = c
    by_cases hp : nmP c i
    · simp only [hp, decide_true, Bool.true_and]
      unfold nmP at hp
      repeat' split
      all_goals (first | rfl | (exfalso; omega))
    · simp only [hp, decide_false, Bool.false_and, Bool.and_false]
      unfold nmP at hp
      repeat' split
      all_goals (first | rfl | (exfalso; omega))
theorem c46 (g : List UInt8) (hg : g.length ≤ maxLen) : run tab X 46 [.p (.str (ba g))] [] = some ([.p (.bool (okN g))], []) :=
  run_of (hX _ rfl) (by
    rw [e46, ba_size]
    exact c46_loop X g hg g.length 0 (by omega))
omit hX in
set_option maxHeartbeats 2000000 in
theorem c45_loop (g : List UInt8) (hg : g.length ≤ maxLen) : ∀ (n i : Nat), i + n = g.length →
    L tab (run tab X) 45 [] [.lp [1, 1, 0, 1, 0]] (S45_11010 (ba g) i) = some ([.p (.bool (nmAll g i n))], []) := by
  have hm : (maxLen : Int) = 9223372036854775807 := by decide
  intro n
  induction n with
  | zero =>
    intro i hi
    refine L_of ?_
    rw [e45_11010]
    simp only [condD, ba_size]
    rw [if_neg (by omega)]
    rfl
  | succ n ih =>
    intro i hi
    have w : IntKind.i64.wrap ((i : Int) + 1) = ((i + 1 : Nat) : Int) := by rw [wrap_eq (by omega) (by omega)]; omega
    have ih' := ih (i + 1) (by omega)
    have b1 : (0 : Int) ≤ (i : Int) := by omega
    have b2 : (i : Int) < (g.length : Int) := by omega
    refine L_of ?_
    rw [e45_11010]
    simp only [condD, condA, condE, condO, ba_size, ba_getD, Int.toNat_natCast, w, ih', if_pos b1, if_pos b2, nmAll, nmAt]
    generalize (((g.getD i 0).toNat : Nat) : Int) = c
    by_cases hp : nmP c i
    · simp only [hp, decide_true, Bool.true_and]
      unfold nmP at hp
      repeat' split
      all_goals (first | rfl | (exfalso; omega))
    · simp only [hp, decide_false, Bool.false_and]
      unfold nmP at hp
      repeat' split
      all_goals (first | rfl | (exfalso; omega))
theorem c45 (g : List UInt8) (hg : g.length ≤ maxLen) : run tab X 45 [.p (.str (ba g))] [] = some ([.p (.bool (okN g))], []) :=
  run_of (hX _ rfl) (by
    rw [e45, ba_size]
    simp only [condD]
    have e : L tab (run tab X) 45 [] [.lp [1, 1, 0, 1, 0]] (S45_11010 (ba g) 0) = _ := c45_loop X g hg g.length 0 (by omega)
    rw [e]
    unfold okN
    by_cases h1 : (g.length : Int) < 1
    · have h1' : ¬ 1 ≤ g.length := by omega
      rw [if_pos h1]; simp [h1']
    · rw [if_neg h1]
      by_cases h2 : (g.length : Int) > 32
      · have h2' : ¬ g.length ≤ 32 := by omega
        rw [if_pos h2]; simp [h2']
      · rw [if_neg h2]
        have h1' : 1 ≤ g.length := by omega
        have h2' : g.length ≤ 32 := by omega
        simp [h1', h2'])
theorem c52 (v : Cu) (hv : v.g.length ≤ maxLen) : run tab X 52 [.p (encC v)] [] = some ([.p (.bool (fineB v))], []) :=
  run_of (hX _ rfl) (by
    rw [e52, c47 X hX, c47 X hX, c46 X hX v.g hv]
    simp only [Option.bind_some, List.headD_cons, pv_p, toBool_bool, fineB]
    cases timeB v.t <;> cases timeB v.f <;> rfl)
theorem c15 (v : Cu) (hv : v.g.length ≤ maxLen) : run tab X 15 [.p (encC v)] [] = some ([.p (.bool (fineB v))], []) :=
  run_of (hX _ rfl) (by
    rw [e15, c44 X hX, c44 X hX, c45 X hX v.g hv]
    simp only [Option.bind_some, List.headD_cons, pv_p, toBool_bool, fineB]
    cases timeB v.t <;> cases timeB v.f <;> rfl)
theorem c59 (v : Cu) (hv : v.g.length ≤ maxLen) : run tab X 59 [.p (encC v)] [] = some ([.p (.bool (!fineB v))], []) :=
  run_of (hX _ rfl) (by
    rw [e59, c52 X hX v hv]
    rfl)
theorem c43 (a b : Cu) : run tab X 43 [.p (encC a), .p (encC b)] [] = some ([.p (.bool (bef a b))], []) :=
  run_of (hX _ rfl) (by
    rw [e43]
    simp only [condD, condE, ba_toList]
    unfold bef
    by_cases h1 : a.t < b.t
    · rw [if_pos h1]; simp [h1]
    · rw [if_neg h1]
      by_cases h2 : a.t = b.t
      · rw [if_pos h2]; simp [h2]
      · rw [if_neg h2]; simp [h1, h2])
end
end Go.Skm.Cue
