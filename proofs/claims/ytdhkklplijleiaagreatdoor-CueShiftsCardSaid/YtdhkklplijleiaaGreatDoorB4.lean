/-
  Times of ticks, the search for the first tick that is late enough, the tick at a time: the program's and the document's; condition: a valid map, numbers in range where that is said.
-/
import Derived.Test.YtdhkklplijleiaaGreatDoorB3
namespace Go.Skm.Cue
open Go Go.Skm
def tmS (l : List Tm) (x : Int) : Int := (exS l x + 240000) / 480000
theorem max_mono {a b m : Int} (h : a ≤ b) (hm : 0 ≤ m) : max 0 a * m ≤ max 0 b * m := Int.mul_le_mul_of_nonneg_right (by omega) hm
theorem seg_mono {l : List Tm} (v : Valid l) {x y : Int} (h : x ≤ y) {i : Nat} (hi : i < l.length) : seg l x i ≤ seg l y i := by
  have hm := v.m i hi
  unfold seg
  split
  · exact max_mono (by omega) (by omega)
  · exact max_mono (by omega) (by omega)
theorem exF_mono {l : List Tm} (v : Valid l) {x y : Int} (h : x ≤ y) : ∀ (n i : Nat), i + n ≤ l.length → exF l x i n ≤ exF l y i n
  | 0, _, _ => Int.le_refl _
  | n + 1, i, hi => by
    have h1 := seg_mono v h (i := i) (by omega)
    have h2 := exF_mono v h n (i + 1) (by omega)
    simp only [exF]; omega
theorem exS_mono {l : List Tm} (v : Valid l) {x y : Int} (h : x ≤ y) : exS l x ≤ exS l y := exF_mono v h _ _ (by omega)
theorem tmS_mono {l : List Tm} (v : Valid l) {x y : Int} (h : x ≤ y) : tmS l x ≤ tmS l y := by
  have := exS_mono v h
  unfold tmS; omega
theorem exS_zero {l : List Tm} (v : Valid l) : exS l 0 = 0 := exF_zero v _ _ (by omega) fun _ _ h => v.nonneg h
theorem tmS_zero {l : List Tm} (v : Valid l) : tmS l 0 = 0 := by unfold tmS; rw [exS_zero v]; decide
theorem tmS_bd {l : List Tm} (v : Valid l) {x : Int} (hx : x ≤ Top) : 0 ≤ tmS l x ∧ tmS l x ≤ 3355443201 := by
  have := exS_bd v hx
  unfold tmS; omega
theorem search_gen (Lf : Int → Int → Option (List AV × List Blk)) (p : Nat → Bool) (N : Nat) (hstop : ∀ i : Nat, i ≤ N → Lf i i = some ([.p (.int .i64 i)], []))
    (hstep : ∀ (i j : Nat) r, i < j → j ≤ N → (if p ((i + j) / 2) = true then Lf i ((i + j) / 2 : Nat) else Lf ((i + j) / 2 + 1 : Nat) j) = some r → Lf i j = some r) :
    ∃ r : Nat, r ≤ N ∧ Lf (0 : Nat) N = some ([.p (.int .i64 r)], []) ∧ (r = 0 ∨ p (r - 1) = false) ∧ (r = N ∨ p r = true) := by
  have key : ∀ (d i j : Nat), j - i ≤ d → i ≤ j → j ≤ N → (i = 0 ∨ p (i - 1) = false) → (j = N ∨ p j = true) → ∃ r : Nat, r ≤ N ∧ Lf i j = some ([.p (.int .i64 r)], []) ∧ (r = 0 ∨ p (r - 1) = false) ∧ (r = N ∨ p r = true) := by
    intro d
    induction d with
    | zero =>
      intro i j h1 h2 h3 h4 h5
      have : i = j := by omega
      subst this
      exact ⟨i, h3, hstop i h3, h4, h5⟩
    | succ d ih =>
      intro i j h1 h2 h3 h4 h5
      by_cases e : i = j
      · subst e
        exact ⟨i, h3, hstop i h3, h4, h5⟩
      · by_cases hp : p ((i + j) / 2) = true
        · obtain ⟨r, g1, g2, g3⟩ := ih i ((i + j) / 2) (by omega) (by omega) (by omega) h4 (.inr hp)
          exact ⟨r, g1, hstep i j _ (by omega) h3 (by rw [if_pos hp]; exact g2), g3⟩
        · obtain ⟨r, g1, g2, g3⟩ := ih ((i + j) / 2 + 1) j (by omega) (by omega) h3 (.inr (by rw [Nat.add_sub_cancel]; simpa using hp)) h5
          exact ⟨r, g1, hstep i j _ (by omega) h3 (by rw [if_neg hp]; exact g2), g3⟩
  exact key N 0 N (by omega) (by omega) (by omega) (.inl rfl) (.inl rfl)
section
variable (X : Ext) (hX : Mine X)
include hX
theorem c91 {l : List Tm} (v : Valid l) {x : Int} (h0 : 0 ≤ x) (hx : x ≤ Top) : run tab X 91 [.p (.list true kT (encM l)), .p (.int .i64 x)] [] = some ([.p (.int .i64 (tmS l x))], []) :=
  run_of (hX _ rfl) (by
    have hb := exS_bd v hx
    rw [e91]
    have := c129 X hX v h0 hx
    rw [kT] at this
    simp only [this, Option.bind_some, List.headD_cons, pv_p, toInt_int]
    rw [wrap_eq (x := exS l x + 240000) (by omega) (by omega), Int.tdiv_eq_ediv_of_nonneg (by omega), wrap_eq (by omega) (by omega)]
    rfl)
theorem c98 {x : Int} (h0 : 0 ≤ x) (hx : x ≤ 1610612736000000) : run tab X 98 [.p (.int .i64 x)] [] = some ([.p (.int .i64 ((x + 240000) / 480000))], []) :=
  run_of (hX _ rfl) (by
    rw [e98]
    rw [wrap_eq (x := 2 * x) (by omega) (by omega), wrap_eq (x := 2 * x + 480000) (by omega) (by omega), Int.tdiv_eq_ediv_of_nonneg (by omega), wrap_eq (by omega) (by omega)]
    rw [show (2 * x + 480000) / 960000 = (x + 240000) / 480000 by omega])
end
end Go.Skm.Cue
