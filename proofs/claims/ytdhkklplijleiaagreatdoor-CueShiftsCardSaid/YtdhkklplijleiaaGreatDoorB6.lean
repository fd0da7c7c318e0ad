/-
  The tick at a time: the program's and the document's answer alike; condition: no list longer than Go allows.
-/
import Derived.Test.YtdhkklplijleiaaGreatDoorB5
namespace Go.Skm.Cue
open Go Go.Skm
structure IsTick (l : List Tm) (t r : Int) : Prop where
  lo : 0 ≤ r
  hi : r ≤ Top
  le : tmS l r ≤ t
  gt : r = Top ∨ t < tmS l (r + 1)
theorem IsTick.unique {l : List Tm} (v : Valid l) {t r s : Int} (a : IsTick l t r) (b : IsTick l t s) : r = s := by
  have h1 : ¬ r < s := fun h => by
    rcases a.gt with g | g
    · have := b.hi; omega
    · have := tmS_mono v (x := r + 1) (y := s) (by omega); have := b.le; omega
  have h2 : ¬ s < r := fun h => by
    rcases b.gt with g | g
    · have := a.hi; omega
    · have := tmS_mono v (x := s + 1) (y := r) (by omega); have := a.le; omega
  omega
def TickP (l : List Tm) (t : Int) (p : Int × Int) : Prop :=
  if validB l = true then (if 0 ≤ t ∧ t ≤ 3600000 then (p.2 = 0 ∧ IsTick l t p.1) else p = (0, 3)) else p = (0, 2)
theorem TickP.unique {l : List Tm} {t : Int} {p q : Int × Int} (a : TickP l t p) (b : TickP l t q) : p = q := by
  unfold TickP at a b
  by_cases hv : validB l = true
  · rw [if_pos hv] at a b
    by_cases h : 0 ≤ t ∧ t ≤ 3600000
    · rw [if_pos h] at a b
      exact Prod.ext (a.2.unique (valid_of hv) b.2) (by rw [a.1, b.1])
    · rw [if_neg h] at a b
      rw [a, b]
  · rw [if_neg hv] at a b
    rw [a, b]
section
variable (X : Ext) (hX : Mine X)
include hX
theorem c96_loop {l : List Tm} (v : Valid l) (t : Int) : ∀ (d : Nat) (i j : Int), j - i ≤ d → 0 ≤ i → i < j → j ≤ Top + 1 → tmS l i ≤ t → (j = Top + 1 ∨ t < tmS l j) →
    ∃ r, IsTick l t r ∧ L tab (run tab X) 96 [] [.lp [1, 1, 1, 1, 0, 0]] (S96_111100 (encM l) t i j) = some (pairR (r, 0)) := by
  have hT : Top = 4194304 := rfl
  intro d
  induction d with
  | zero => intro i j h1 h2 h3; omega
  | succ d ih =>
    intro i j h1 h2 h3 h4 h5 h6
    by_cases h : j - i > 1
    · have w : IntKind.i64.wrap ((IntKind.i64.wrap (i + j)).tdiv 2) = (i + j) / 2 := by
        rw [wrap_eq (x := i + j) (by omega) (by omega), Int.tdiv_eq_ediv_of_nonneg (by omega), wrap_eq (by omega) (by omega)]
      have h43 := c99 X hX v (x := (i + j) / 2) (by omega) (by omega)
      have hb := exS_bd v (x := (i + j) / 2) (by omega)
      have h44 := c98 X hX hb.1 hb.2
      rw [kT] at h43
      by_cases hp : tmS l ((i + j) / 2) ≤ t
      · obtain ⟨r, g1, g2⟩ := ih ((i + j) / 2) j (by omega) (by omega) (by omega) h4 hp h6
        refine ⟨r, g1, L_of ?_⟩
        rw [e96_111100, w, h43]
        simp only [condD, Option.bind_some, List.headD_cons, pv_p, toInt_int, h44]
        rw [wrap_eq (x := j - i) (by omega) (by omega), if_pos h]
        change (if tmS l ((i + j) / 2) ≤ t then _ else _) = _
        rw [if_pos hp]
        exact g2
      · obtain ⟨r, g1, g2⟩ := ih i ((i + j) / 2) (by omega) (by omega) (by omega) (by omega) h5 (.inr (by omega))
        refine ⟨r, g1, L_of ?_⟩
        rw [e96_111100, w, h43]
        simp only [condD, Option.bind_some, List.headD_cons, pv_p, toInt_int, h44]
        rw [wrap_eq (x := j - i) (by omega) (by omega), if_pos h]
        change (if tmS l ((i + j) / 2) ≤ t then _ else _) = _
        rw [if_neg hp]
        exact g2
    · have e : j = i + 1 := by omega
      subst e
      refine ⟨i, ⟨h2, by omega, h5, by omega⟩, L_of ?_⟩
      rw [e96_111100]
      simp only [condD]
      rw [wrap_eq (x := i + 1 - i) (by omega) (by omega), if_neg h]
      rfl
theorem c96 (l : List Tm) (t : Int) : ∃ p, TickP l t p ∧ run tab X 96 [.p (.list true kT (encM l)), .p (.int .i64 t)] [] = some (pairR p) := by
  have hT : Top = 4194304 := rfl
  have h13 := c67 X hX l
  rw [kT] at h13 ⊢
  unfold TickP
  cases hv : validB l with
  | false =>
    refine ⟨(0, 2), by simp, run_of (hX _ rfl) ?_⟩
    rw [e96, h13, hv]
    rfl
  | true =>
    by_cases h : 0 ≤ t ∧ t ≤ 3600000
    · obtain ⟨r, g1, g2⟩ := c96_loop X hX (valid_of hv) t 4194305 0 4194305 (by omega) (by omega) (by omega) (by omega) (by rw [tmS_zero (valid_of hv)]; omega) (.inl (by omega))
      refine ⟨(r, 0), by simp [h, g1], run_of (hX _ rfl) ?_⟩
      rw [e96, h13, hv]
      simp only [c95 X hX, Option.bind_some, List.headD_cons, pv_p, toBool_bool, condO, condD, cond_true]
      rw [if_pos h]
      exact g2
    · refine ⟨(0, 3), by simp [h], run_of (hX _ rfl) ?_⟩
      rw [e96, h13, hv]
      simp only [c95 X hX, Option.bind_some, List.headD_cons, pv_p, toBool_bool, condO, condD, cond_true]
      rw [if_neg h]
      rfl
end
end Go.Skm.Cue
