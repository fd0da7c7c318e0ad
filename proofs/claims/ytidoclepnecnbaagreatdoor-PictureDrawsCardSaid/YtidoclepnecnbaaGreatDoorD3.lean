/-
  Where a point is seen: quotients, roots and spots, for both; condition: a valid camera, a point, a radius.
-/
import Derived.Test.YtidoclepnecnbaaGreatDoorD2
namespace Go.Skm.Drw
open Go Go.Skm
theorem tdm (a : Int) {b : Int} (hb : 0 < b) : b * a.tdiv b + a.tmod b = a ∧ -b < a.tmod b ∧ a.tmod b < b := by
  refine ⟨Int.mul_tdiv_add_tmod a b, ?_, ?_⟩
  · have := Int.lt_tmod_of_pos a hb; omega
  · exact Int.tmod_lt_of_pos a hb
theorem ediv_uniq {a b q : Int} (hb : 0 < b) (h1 : b * q ≤ a) (h2 : a < b * q + b) : a / b = q := by
  apply Int.le_antisymm
  · have : a / b < q + 1 := by
      rw [Int.ediv_lt_iff_lt_mul hb, Int.add_mul, Int.mul_comm q b]; omega
    omega
  · rw [Int.le_ediv_iff_mul_le hb, Int.mul_comm]; omega
theorem tdiv_neg_or (a : Int) {b : Int} (hb : 0 < b) : (a.tmod b < 0 ∧ a / b = a.tdiv b - 1) ∨ (0 ≤ a.tmod b ∧ a / b = a.tdiv b) := by
  obtain ⟨h1, h2, h3⟩ := tdm a hb
  by_cases h : a.tmod b < 0
  · refine .inl ⟨h, ediv_uniq hb ?_ ?_⟩
    · rw [Int.mul_sub]; omega
    · rw [Int.mul_sub]; omega
  · refine .inr ⟨by omega, ediv_uniq hb (by omega) (by omega)⟩
theorem floor_rest (a : Int) {b : Int} (hb : 0 < b) : (a.tmod b + b).tmod b = a % b := by
  obtain ⟨h1, h2, h3⟩ := tdm a hb
  have hm := Int.mul_ediv_add_emod a b
  rw [Int.tmod_eq_emod_of_nonneg (by omega)]
  rcases tdiv_neg_or a hb with ⟨g1, g2⟩ | ⟨g1, g2⟩
  · rw [g2, Int.mul_sub] at hm
    rw [Int.emod_eq_of_lt (by omega) (by omega)]; omega
  · rw [g2] at hm
    rw [show a.tmod b + b = a.tmod b + b * 1 by omega, Int.add_mul_emod_self_left, Int.emod_eq_of_lt g1 h3]; omega
theorem floor_quo (a : Int) {b : Int} (hb : 0 < b) : (a - a % b).tdiv b = a / b := by
  have hm := Int.mul_ediv_add_emod a b
  rw [show a - a % b = b * (a / b) by omega, Int.mul_tdiv_cancel_left _ (by omega)]
theorem ediv_bd {a b A : Int} (hb : 1 ≤ b) (h1 : -A ≤ a) (h2 : a ≤ A) : -A ≤ a / b ∧ a / b ≤ A := by
  have hb' : 0 < b := by omega
  constructor
  · rw [Int.le_ediv_iff_mul_le hb']
    have hA : 0 ≤ A := by omega
    have := Int.mul_le_mul_of_nonneg_left hb hA
    rw [Int.neg_mul]; omega
  · rcases Int.le_total 0 a with h | h
    · exact Int.le_trans (Int.ediv_le_self b h) h2
    · have : a / b < 1 := by rw [Int.ediv_lt_iff_lt_mul hb']; omega
      omega
theorem tdiv_nn {a b : Int} (ha : 0 ≤ a) (hb : 1 ≤ b) : a.tdiv b = a / b ∧ 0 ≤ a / b ∧ a / b ≤ a := ⟨Int.tdiv_eq_ediv_of_nonneg ha, Int.ediv_nonneg ha (by omega), Int.ediv_le_self b ha⟩
section
variable (X : Ext) (hX : Mine X)
include hX
theorem c53 {a b : Int} (hb : 1 ≤ b) (hb2 : b ≤ 1000000000000) (h1 : -1000000000000000 ≤ a) (h2 : a ≤ 1000000000000000) : run tab X 53 [.p (.int .i64 a), .p (.int .i64 b)] [] = some ([.p (.int .i64 (a / b))], []) :=
  run_of (hX _ rfl) (by
    have hb' : 0 < b := by omega
    obtain ⟨g1, g2, g3⟩ := tdm a hb'
    have hr := floor_rest a hb'
    have hm := Int.mul_ediv_add_emod a b
    have e0 := Int.emod_nonneg a (show b ≠ 0 by omega)
    have e1 := Int.emod_lt_of_pos a hb'
    have e2 := ediv_bd hb h1 h2
    have hbz : (!eqI b 0) = true := by
      have : ¬ b = 0 := by omega
      simp [this]
    rw [e53, wrap_eq (x := a.tmod b + b) (by omega) (by omega), hr, wrap_eq (x := a - a % b) (by omega) (by omega), floor_quo a hb', wrap_eq (x := a / b) (by omega) (by omega)]
    exact condT hbz (condT hbz (condT hbz rfl)))
theorem c60 {a b : Int} (hb : 1 ≤ b) (hb2 : b ≤ 1000000000000) (h1 : -1000000000000000 ≤ a) (h2 : a ≤ 1000000000000000) : run tab X 60 [.p (.int .i64 a), .p (.int .i64 b)] [] = some ([.p (.int .i64 (a / b))], []) :=
  run_of (hX _ rfl) (by
    have hb' : 0 < b := by omega
    have e2 := ediv_bd hb h1 h2
    have hbz : (!eqI b 0) = true := by
      have : ¬ b = 0 := by omega
      simp [this]
    rw [e60]
    refine condT hbz (condT hbz ?_)
    have g := tdiv_neg_or a hb'
    generalize a / b = q at *
    generalize a.tdiv b = t at *
    rcases g with ⟨g1, g2⟩ | ⟨g1, g2⟩
    · refine condP g1 ?_
      rw [wrap_eq (x := t) (by omega) (by omega), wrap_eq (x := t - 1) (by omega) (by omega), g2]
    · refine condNP (show ¬ a.tmod b < 0 by omega) ?_
      rw [wrap_eq (x := t) (by omega) (by omega), g2])
def IsRoot (n r : Int) : Prop := 0 ≤ r ∧ r * r ≤ n ∧ n < (r + 1) * (r + 1)
omit hX in
theorem root_uniq {n r s : Int} (h1 : IsRoot n r) (h2 : IsRoot n s) : r = s := by
  obtain ⟨a1, a2, a3⟩ := h1
  obtain ⟨b1, b2, b3⟩ := h2
  rcases Int.lt_trichotomy r s with h | h | h
  · have : (r + 1) * (r + 1) ≤ s * s := Int.mul_le_mul (by omega) (by omega) (by omega) (by omega)
    omega
  · exact h
  · have : (s + 1) * (s + 1) ≤ r * r := Int.mul_le_mul (by omega) (by omega) (by omega) (by omega)
    omega
omit hX in
theorem pow2_half (k : Nat) : (((2 ^ (k + 1) : Nat) : Int)).fdiv (2 ^ 1) = ((2 ^ k : Nat) : Int) := by
  have : (2 : Nat) ^ (k + 1) = 2 ^ k * 2 := Nat.pow_succ 2 k
  rw [Int.fdiv_eq_ediv_of_nonneg _ (by decide), this]
  omega
omit hX in
theorem c54_loop (n : Int) : ∀ (k : Nat) (r : Int), k ≤ 30 → 0 ≤ r → r + 2 * ((2 ^ k : Nat) : Int) ≤ 2147483648 → r * r ≤ n → n < (r + 2 * ((2 ^ k : Nat) : Int)) * (r + 2 * ((2 ^ k : Nat) : Int)) →
    ∃ s, L tab (run tab X) 54 [] [.lp [1, 1, 0, 1, 0]] (S54_11010 n r ((2 ^ k : Nat) : Int)) = some ([.p (.int .i64 s)], []) ∧ IsRoot n s := by
  intro k
  induction k with
  | zero =>
    intro r hk h0 h1 h2 h3
    have fin : ∀ s, IsRoot n s → L tab (run tab X) 54 [] [.lp [1, 1, 0, 1, 0]] (S54_11010 n s 0) = some ([.p (.int .i64 s)], []) := fun s _ => by
      refine L_of ?_
      rw [e54_11010]
      exact condNP (show ¬ (0 : Int) > 0 by omega) rfl
    have hp : ((2 ^ 0 : Nat) : Int) = 1 := rfl
    rw [hp] at h1 h3 ⊢
    have w : IntKind.i64.wrap (r + 1) = r + 1 := wrap_eq (by omega) (by omega)
    have hf : (1 : Int).fdiv (2 ^ 1) = 0 := by decide
    have sb : (r + 1) * (r + 1) ≤ 2147483648 * 2147483648 := Int.mul_le_mul (by omega) (by omega) (by omega) (by omega)
    have sn := sq_nn (r + 1)
    have w2 : IntKind.i64.wrap ((r + 1) * (r + 1)) = (r + 1) * (r + 1) := wrap_eq (by omega) (by omega)
    by_cases h : (r + 1) * (r + 1) ≤ n
    · have hr : IsRoot n (r + 1) := ⟨by omega, h, by rwa [show r + 2 * 1 = r + 1 + 1 by omega] at h3⟩
      refine ⟨r + 1, L_of ?_, hr⟩
      rw [e54_11010, w, w2, hf]
      exact condP (show (1 : Int) > 0 by omega) (condP h (fin _ hr))
    · have hr : IsRoot n r := ⟨h0, h2, by omega⟩
      refine ⟨r, L_of ?_, hr⟩
      rw [e54_11010, w, w2, hf]
      exact condP (show (1 : Int) > 0 by omega) (condNP h (fin _ hr))
  | succ k ih =>
    intro r hk h0 h1 h2 h3
    have hp : ((2 ^ (k + 1) : Nat) : Int) = 2 * ((2 ^ k : Nat) : Int) := by
      have : (2 : Nat) ^ (k + 1) = 2 ^ k * 2 := Nat.pow_succ 2 k
      rw [this]; omega
    have hpos : 1 ≤ ((2 ^ k : Nat) : Int) := by
      have := Nat.one_le_two_pow (n := k)
      omega
    have hf := pow2_half k
    generalize hQ : ((2 ^ k : Nat) : Int) = Q at *
    generalize hR : ((2 ^ (k + 1) : Nat) : Int) = R at *
    subst hp
    have w : IntKind.i64.wrap (r + 2 * Q) = r + 2 * Q := wrap_eq (by omega) (by omega)
    have sb : (r + 2 * Q) * (r + 2 * Q) ≤ 2147483648 * 2147483648 := Int.mul_le_mul (by omega) (by omega) (by omega) (by omega)
    have sn := sq_nn (r + 2 * Q)
    have w2 : IntKind.i64.wrap ((r + 2 * Q) * (r + 2 * Q)) = (r + 2 * Q) * (r + 2 * Q) := wrap_eq (by omega) (by omega)
    by_cases h : (r + 2 * Q) * (r + 2 * Q) ≤ n
    · obtain ⟨s, hs, hr⟩ := ih (r + 2 * Q) (by omega) (by omega) (by omega) h (by rwa [show r + 2 * (2 * Q) = r + 2 * Q + 2 * Q by omega] at h3)
      refine ⟨s, L_of ?_, hr⟩
      rw [e54_11010, w, w2, hf]
      exact condP (show 2 * Q > 0 by omega) (condP h hs)
    · obtain ⟨s, hs, hr⟩ := ih r (by omega) h0 (by omega) h2 (by omega)
      refine ⟨s, L_of ?_, hr⟩
      rw [e54_11010, w, w2, hf]
      exact condP (show 2 * Q > 0 by omega) (condNP h hs)
theorem c54 {n : Int} (h0 : 0 ≤ n) (h1 : n ≤ 1000000000000000000) : ∃ s, run tab X 54 [.p (.int .i64 n)] [] = some ([.p (.int .i64 s)], []) ∧ IsRoot n s := by
  obtain ⟨s, hs, hr⟩ := c54_loop X n 30 0 (by omega) (by omega) (by decide) (by omega) (by
    have : (0 + 2 * ((2 ^ 30 : Nat) : Int)) * (0 + 2 * ((2 ^ 30 : Nat) : Int)) = 4611686018427387904 := by decide
    rw [this]; omega)
  exact ⟨s, run_of (hX _ rfl) (by rw [e54]; exact hs), hr⟩
end
end Go.Skm.Drw
