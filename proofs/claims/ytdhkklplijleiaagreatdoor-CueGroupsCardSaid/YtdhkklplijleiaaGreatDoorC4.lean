/-
  A part of a mixture of colours: the program's quotient is the number that the document looks for; condition: parts of a colour, a fraction.
-/
import Derived.Test.YtdhkklplijleiaaGreatDoorC3
namespace Go.Skm.Cue
open Go Go.Skm
theorem wrap8_eq {x : Int} (h : In8 x) : IntKind.u8.wrap x = x := by
  unfold In8 at h
  have : ∀ y : Int, y = x % 2 ^ 8 → (if (false && decide (y ≥ 2 ^ (8 - 1))) = true then y - 2 ^ 8 else y) = x := by
    intro y hy
    rw [if_neg (by simp)]; omega
  exact this _ rfl
def fracB (num den : Int) : Bool := decide ((1 ≤ den ∧ den ≤ 3600000) ∧ 0 ≤ num ∧ num ≤ den)
def mixV (a b num den : Int) : Int := (2 * (a * (den - num) + b * num) + den) / (2 * den)
theorem mix_bd {a b num den : Int} (ha : In8 a) (hb : In8 b) (_hd : 1 ≤ den) (h0 : 0 ≤ num) (h1 : num ≤ den) :
    0 ≤ a * (den - num) ∧ a * (den - num) ≤ 255 * (den - num) ∧ 0 ≤ b * num ∧ b * num ≤ 255 * num := by
  unfold In8 at ha hb
  exact ⟨Int.mul_nonneg ha.1 (by omega), Int.mul_le_mul_of_nonneg_right ha.2 (by omega), Int.mul_nonneg hb.1 h0, Int.mul_le_mul_of_nonneg_right hb.2 h0⟩
theorem mixV_spec {a b num den : Int} (hd : 1 ≤ den) (n : Int) :
    n = mixV a b num den ↔ 2 * den * n ≤ 2 * (a * (den - num) + b * num) + den ∧ 2 * (a * (den - num) + b * num) + den < 2 * den * n + 2 * den := by
  unfold mixV
  generalize 2 * (a * (den - num) + b * num) + den = Z
  have e := Int.mul_ediv_add_emod Z (2 * den)
  have e1 := Int.emod_nonneg Z (show 2 * den ≠ 0 by omega)
  have e2 := Int.emod_lt_of_pos Z (show 0 < 2 * den by omega)
  constructor
  · rintro rfl
    constructor <;> omega
  · rintro ⟨h1, h2⟩
    have k1 : n ≤ Z / (2 * den) := (Int.le_ediv_iff_mul_le (by omega)).2 (by rw [Int.mul_comm]; exact h1)
    have k2 : Z / (2 * den) < n + 1 := (Int.ediv_lt_iff_lt_mul (by omega)).2 (by rw [Int.mul_comm, Int.mul_add]; omega)
    omega
theorem mixV_in {a b num den : Int} (ha : In8 a) (hb : In8 b) (hd : 1 ≤ den) (h0 : 0 ≤ num) (h1 : num ≤ den) : In8 (mixV a b num den) := by
  obtain ⟨p1, p2, p3, p4⟩ := mix_bd ha hb hd h0 h1
  unfold In8 mixV
  constructor
  · exact Int.ediv_nonneg (by omega) (by omega)
  · have : (2 * (a * (den - num) + b * num) + den) / (2 * den) < 256 := (Int.ediv_lt_iff_lt_mul (by omega)).2 (by omega)
    omega
section
variable (X : Ext) (hX : Mine X)
include hX
theorem c80 {a b num den : Int} (ha : In8 a) (hb : In8 b) (hf : fracB num den = true) : run tab X 80 [.p (.int .u8 a), .p (.int .u8 b), .p (.int .i64 num), .p (.int .i64 den)] [] = some ([.p (.int .u8 (mixV a b num den))], []) := by
  simp only [fracB, decide_eq_true_eq] at hf
  obtain ⟨⟨d1, d2⟩, h0, h1⟩ := hf
  obtain ⟨p1, p2, p3, p4⟩ := mix_bd ha hb d1 h0 h1
  have hi := mixV_in ha hb d1 h0 h1
  have ha' := ha; have hb' := hb
  unfold In8 at ha' hb'
  refine run_of (hX _ rfl) ?_
  rw [e80, wrap_eq (x := 2 * den) (by omega) (by omega), wrap_eq (x := a) (by omega) (by omega), wrap_eq (x := b) (by omega) (by omega), wrap_eq (x := den - num) (by omega) (by omega)]
  rw [wrap_eq (x := a * (den - num)) (by omega) (by omega), wrap_eq (x := b * num) (by omega) (by omega), wrap_eq (x := a * (den - num) + b * num) (by omega) (by omega), wrap_eq (x := 2 * (a * (den - num) + b * num)) (by omega) (by omega), wrap_eq (x := 2 * (a * (den - num) + b * num) + den) (by omega) (by omega)]
  rw [Int.tdiv_eq_ediv_of_nonneg (by omega)]
  change cond (!(decide (2 * den = 0))) (some (([AV.p (PV.int .u8 (IntKind.u8.wrap (IntKind.i64.wrap (mixV a b num den))))], []) : List AV × List Blk)) none = _
  have hi' := hi
  unfold In8 at hi'
  rw [wrap_eq (x := mixV a b num den) (by omega) (by omega), wrap8_eq hi, decide_eq_false (by omega)]; rfl
omit hX in
theorem c115_loop {a b num den : Int} (ha : In8 a) (hb : In8 b) (hf : fracB num den = true) : ∀ (n : Nat) (i : Int), 0 ≤ i → i + n = mixV a b num den →
    L tab (run tab X) 115 [] [.lp [1, 0, 1, 0]] (S115_1010 a b num den i) = some ([.p (.int .u8 (mixV a b num den))], []) := by
  simp only [fracB, decide_eq_true_eq] at hf
  obtain ⟨⟨d1, d2⟩, h0, h1⟩ := hf
  obtain ⟨p1, p2, p3, p4⟩ := mix_bd ha hb d1 h0 h1
  have hi := mixV_in ha hb d1 h0 h1
  have ha' := ha; have hb' := hb; have hi' := hi
  unfold In8 at ha' hb' hi'
  have q1 : 0 ≤ a * num := Int.mul_nonneg ha'.1 h0
  have q2 : a * num ≤ 255 * num := Int.mul_le_mul_of_nonneg_right ha'.2 h0
  have eA : a * den = a * (den - num) + a * num := by rw [← Int.mul_add]; congr 1; omega
  have eB : (b - a) * num = b * num - a * num := Int.sub_mul ..
  have tree : ∀ i : Int, 0 ≤ i → i ≤ 255 → R tab (run tab X) 115 [] [.lp [1, 0, 1, 0]] (S115_1010 a b num den i) =
      if i = mixV a b num den then some ([.p (.int .u8 i)], []) else L tab (run tab X) 115 [] [.lp [1, 0, 1, 0]] (S115_1010 a b num den (i + 1)) := by
    intro i i0 i1
    have r1 : 0 ≤ i * den := Int.mul_nonneg i0 (by omega)
    have r2 : i * den ≤ 255 * den := Int.mul_le_mul_of_nonneg_right i1 (by omega)
    have eN : 2 * i * den = 2 * (i * den) := Int.mul_assoc ..
    have sp := mixV_spec (a := a) (b := b) (num := num) d1 i
    have eM : 2 * den * i = 2 * (i * den) := by rw [Int.mul_assoc, Int.mul_comm den]
    rw [eM] at sp
    rw [e115_1010, wrap_eq (x := 0 - den) (by omega) (by omega), wrap_eq (x := a * den) (by omega) (by omega), wrap_eq (x := b - a) (by omega) (by omega), wrap_eq (x := (b - a) * num) (by omega) (by omega), wrap_eq (x := a * den + (b - a) * num) (by omega) (by omega), wrap_eq (x := 2 * (a * den + (b - a) * num)) (by omega) (by omega)]
    rw [wrap_eq (x := 2 * i) (by omega) (by omega), wrap_eq (x := 2 * i * den) (by omega) (by omega), wrap_eq (x := 2 * (a * den + (b - a) * num) - 2 * i * den) (by omega) (by omega), wrap_eq (x := i + 1) (by omega) (by omega), wrap8_eq (x := i) ⟨i0, i1⟩]
    simp only [condD]
    rw [if_pos (by omega)]
    by_cases hm : i = mixV a b num den
    · have := sp.1 hm
      rw [if_pos (by omega), if_pos (by omega)]
      exact (if_pos hm).symm
    · rw [if_neg hm]
      have hn : ¬ (-den ≤ 2 * (a * den + (b - a) * num) - 2 * i * den ∧ 2 * (a * den + (b - a) * num) - 2 * i * den < den) := fun h => hm (sp.2 (by omega))
      by_cases g : 0 - den ≤ 2 * (a * den + (b - a) * num) - 2 * i * den
      · rw [if_pos g, if_neg (fun h => hn ⟨by omega, h⟩)]
      · rw [if_neg g]
  intro n
  induction n with
  | zero =>
    intro i i0 hi
    refine L_of ?_
    rw [tree i i0 (by omega), if_pos (by omega)]
    rw [show i = mixV a b num den by omega]
  | succ n ih =>
    intro i i0 hi
    refine L_of ?_
    rw [tree i i0 (by omega), if_neg (by omega)]
    exact ih (i + 1) (by omega) (by omega)
theorem c115 {a b num den : Int} (ha : In8 a) (hb : In8 b) (hf : fracB num den = true) : run tab X 115 [.p (.int .i64 a), .p (.int .i64 b), .p (.int .i64 num), .p (.int .i64 den)] [] = some ([.p (.int .u8 (mixV a b num den))], []) := by
  have hf' := hf
  simp only [fracB, decide_eq_true_eq] at hf'
  have hi := mixV_in ha hb hf'.1.1 hf'.2.1 hf'.2.2
  unfold In8 at hi
  refine run_of (hX _ rfl) ?_
  rw [e115]
  exact c115_loop X ha hb hf (mixV a b num den).toNat 0 (Int.le_refl _) (by omega)
end
abbrev colP (r e b : Int) : PV := .agg [.int .u8 r, .int .u8 e, .int .u8 b]
def mixR (r1 e1 b1 r2 e2 b2 num den : Int) : List AV × List Blk :=
  if fracB num den then ([.p (colP (mixV r1 r2 num den) (mixV e1 e2 num den) (mixV b1 b2 num den)), .p (.int .i64 0)], []) else ([.p (colP 0 0 0), .p (.int .i64 2)], [])
section
variable (X : Ext) (hX : Mine X)
include hX
theorem c51 {r1 e1 b1 r2 e2 b2 : Int} (num den : Int) (h1 : In8 r1) (h2 : In8 e1) (h3 : In8 b1) (h4 : In8 r2) (h5 : In8 e2) (h6 : In8 b2) :
    run tab X 51 [.p (colP r1 e1 b1), .p (colP r2 e2 b2), .p (.int .i64 num), .p (.int .i64 den)] [] = some (mixR r1 e1 b1 r2 e2 b2 num den) :=
  run_of (hX _ rfl) (by
    rw [e51]
    simp only [condD]
    unfold mixR
    by_cases hf : fracB num den = true
    · have hf' := hf
      simp only [fracB, decide_eq_true_eq] at hf'
      rw [if_neg (by omega), if_neg (by omega), if_neg (by omega), if_neg (by omega), c80 X hX h1 h4 hf, c80 X hX h2 h5 hf, c80 X hX h3 h6 hf, if_pos hf]
      rfl
    · rw [if_neg hf]
      simp only [fracB, decide_eq_true_eq] at hf
      repeat' split
      all_goals (first | rfl | (exfalso; omega)))
theorem c85 {r1 e1 b1 r2 e2 b2 : Int} (num den : Int) (h1 : In8 r1) (h2 : In8 e1) (h3 : In8 b1) (h4 : In8 r2) (h5 : In8 e2) (h6 : In8 b2) :
    run tab X 85 [.p (colP r1 e1 b1), .p (colP r2 e2 b2), .p (.int .i64 num), .p (.int .i64 den)] [] = some (mixR r1 e1 b1 r2 e2 b2 num den) :=
  run_of (hX _ rfl) (by
    have w : ∀ {x : Int}, In8 x → IntKind.i64.wrap x = x := fun h => wrap_eq (by unfold In8 at h; omega) (by unfold In8 at h; omega)
    rw [e85, w h1, w h2, w h3, w h4, w h5, w h6]
    simp only [condD]
    unfold mixR
    by_cases hf : fracB num den = true
    · have hf' := hf
      simp only [fracB, decide_eq_true_eq] at hf'
      rw [if_neg (by omega), if_neg (by omega), if_neg (by omega), if_neg (by omega), c115 X hX h1 h4 hf, c115 X hX h2 h5 hf, c115 X hX h3 h6 hf, if_pos hf]
      rfl
    · rw [if_neg hf]
      simp only [fracB, decide_eq_true_eq] at hf
      repeat' split
      all_goals (first | rfl | (exfalso; omega)))
end
end Go.Skm.Cue
