/-
  The tick at a time: the program's and the document's answer alike; condition: no list longer than Go allows.
-/
import Derived.Test.YtdhkklplijleiaaDoorCt5
namespace Go.Skm.Beat
open Go Go.Skm

/-- r is the last tick whose time is not past t. -/
structure IsTick (l : List Tm) (t r : Int) : Prop where
  lo : 0 ≤ r
  hi : r ≤ Top
  le : tmS l r ≤ t
  gt : r = Top ∨ t < tmS l (r + 1)
theorem IsTick.unique {l : List Tm} (v : Valid l) {t r s : Int} (a : IsTick l t r) (b : IsTick l t s) : r = s := by
  have h1 : ¬ r < s := fun h => by
    rcases a.gt with g | g
    · have := b.hi; omega
    · have := tmS_mono v (x := r + 1) (y := s) (by omega); have := b.le; omega
  have h2 : ¬ s < r := fun h => by
    rcases b.gt with g | g
    · have := a.hi; omega
    · have := tmS_mono v (x := s + 1) (y := r) (by omega); have := a.le; omega
  omega
/-- The answer of Tick. -/
def TickP (l : List Tm) (t : Int) (p : Int × Int) : Prop :=
  if validB l = true then (if 0 ≤ t ∧ t ≤ 3600000 then (p.2 = 0 ∧ IsTick l t p.1) else p = (0, 3)) else p = (0, 2)
theorem TickP.unique {l : List Tm} {t : Int} {p q : Int × Int} (a : TickP l t p) (b : TickP l t q) : p = q := by
  unfold TickP at a b
  by_cases hv : validB l = true
  · rw [if_pos hv] at a b
    by_cases h : 0 ≤ t ∧ t ≤ 3600000
    · rw [if_pos h] at a b
      exact Prod.ext (a.2.unique (valid_of hv) b.2) (by rw [a.1, b.1])
    · rw [if_neg h] at a b
      rw [a, b]
  · rw [if_neg hv] at a b
    rw [a, b]

theorem checkR_one (l : List Tm) (t : Int) : checkR l 1 [t] = if validB l = true then (if 0 ≤ t ∧ t ≤ 3600000 then 0 else 3) else 2 := by
  have hT : Top = 4194304 := rfl
  unfold checkR
  by_cases hv : validB l = true
  · rw [if_pos ⟨hv, by omega, by omega⟩, if_pos hv]
    by_cases h : 0 ≤ t ∧ t ≤ 3600000
    · rw [if_pos h, if_pos (by simp [timesOk, h])]
    · rw [if_neg h, if_neg (by simpa [timesOk] using h)]
  · rw [if_neg (fun h => hv h.1), if_neg hv]

section
variable (X : Ext) (hX : Mine X)
include hX

theorem c20_loop {l : List Tm} (v : Valid l) (t : Int) : ∀ (d : Nat) (i j : Int), j - i ≤ d → 0 ≤ i → i < j → j ≤ Top + 1 → tmS l i ≤ t → (j = Top + 1 ∨ t < tmS l j) →
    ∃ r, IsTick l t r ∧ L tab (run tab X) 20 [] [.lp [1, 1, 1, 1, 0, 0]] (S20_111100 (encM l) t i j) = some (pairR (r, 0)) := by
  have hT : Top = 4194304 := rfl
  intro d
  induction d with
  | zero => intro i j h1 h2 h3; omega
  | succ d ih =>
    intro i j h1 h2 h3 h4 h5 h6
    by_cases h : j - i > 1
    · have w : IntKind.i64.wrap ((IntKind.i64.wrap (i + j)).tdiv 2) = (i + j) / 2 := by
        rw [wrap_eq (x := i + j) (by omega) (by omega), Int.tdiv_eq_ediv_of_nonneg (by omega), wrap_eq (by omega) (by omega)]
      have h43 := c43 X hX v (x := (i + j) / 2) (by omega) (by omega)
      have hb := exS_bd v (x := (i + j) / 2) (by omega)
      have h44 := c44 X hX hb.1 hb.2
      rw [kT] at h43
      by_cases hp : tmS l ((i + j) / 2) ≤ t
      · obtain ⟨r, g1, g2⟩ := ih ((i + j) / 2) j (by omega) (by omega) (by omega) h4 hp h6
        refine ⟨r, g1, L_of ?_⟩
        rw [e20_111100, w, h43]
        simp only [condD, Option.bind_some, List.headD_cons, pv_p, toInt_int, h44]
        rw [wrap_eq (x := j - i) (by omega) (by omega), if_pos h]
        change (if tmS l ((i + j) / 2) ≤ t then _ else _) = _
        rw [if_pos hp]
        exact g2
      · obtain ⟨r, g1, g2⟩ := ih i ((i + j) / 2) (by omega) (by omega) (by omega) (by omega) h5 (.inr (by omega))
        refine ⟨r, g1, L_of ?_⟩
        rw [e20_111100, w, h43]
        simp only [condD, Option.bind_some, List.headD_cons, pv_p, toInt_int, h44]
        rw [wrap_eq (x := j - i) (by omega) (by omega), if_pos h]
        change (if tmS l ((i + j) / 2) ≤ t then _ else _) = _
        rw [if_neg hp]
        exact g2
    · have e : j = i + 1 := by omega
      subst e
      refine ⟨i, ⟨h2, by omega, h5, by omega⟩, L_of ?_⟩
      rw [e20_111100]
      simp only [condD]
      rw [wrap_eq (x := i + 1 - i) (by omega) (by omega), if_neg h]
      rfl
theorem c20 (l : List Tm) (t : Int) : ∃ p, TickP l t p ∧ run tab X 20 [.p (.list true kT (encM l)), .p (.int .i64 t)] [] = some (pairR p) := by
  have hT : Top = 4194304 := rfl
  have h13 := c13 X hX l
  rw [kT] at h13 ⊢
  unfold TickP
  cases hv : validB l with
  | false =>
    refine ⟨(0, 2), by simp, run_of (hX _ (by decide) (by decide) (by decide)) ?_⟩
    rw [e20, h13, hv]
    rfl
  | true =>
    by_cases h : 0 ≤ t ∧ t ≤ 3600000
    · obtain ⟨r, g1, g2⟩ := c20_loop X hX (valid_of hv) t 4194305 0 4194305 (by omega) (by omega) (by omega) (by omega) (by rw [tmS_zero (valid_of hv)]; omega) (.inl (by omega))
      refine ⟨(r, 0), by simp [h, g1], run_of (hX _ (by decide) (by decide) (by decide)) ?_⟩
      rw [e20, h13, hv]
      simp only [c35 X hX, Option.bind_some, List.headD_cons, pv_p, toBool_bool, condO, condD, cond_true]
      rw [if_pos h]
      exact g2
    · refine ⟨(0, 3), by simp [h], run_of (hX _ (by decide) (by decide) (by decide)) ?_⟩
      rw [e20, h13, hv]
      simp only [c35 X hX, Option.bind_some, List.headD_cons, pv_p, toBool_bool, condO, condD, cond_true]
      rw [if_neg h]
      rfl
theorem c16 (l : List Tm) (hl : l.length ≤ maxLen) (t : Int) : ∃ p, TickP l t p ∧ run tab X 16 [.p (.list true kT (encM l)), .p (.int .i64 t)] [] = some (pairR p) := by
  have hT : Top = 4194304 := rfl
  have h38 := c38 X hX l hl 1 [t] (show 1 ≤ maxLen by decide)
  rw [checkR_one] at h38
  rw [kT] at h38 ⊢
  unfold TickP
  by_cases hv : validB l = true
  · rw [if_pos hv] at h38
    simp only [if_pos hv]
    by_cases h : 0 ≤ t ∧ t ≤ 3600000
    · rw [if_pos h] at h38
      simp only [if_pos h]
      obtain ⟨r, g1, g2, g3, g4⟩ := c39t X hX (valid_of hv) t
      rw [kT] at g2
      refine ⟨(r, 0), ⟨rfl, by omega, g1, ?_, g4⟩, run_of (hX _ (by decide) (by decide) (by decide)) ?_⟩
      · rcases g3 with g3 | g3
        · subst g3
          have := tmS_zero (valid_of hv)
          change tmS l 0 ≤ t
          omega
        · exact g3
      · rw [e16]
        refine (congrArg (Option.bind · _) h38).trans ?_
        refine (congrArg (Option.bind · _) g2).trans ?_
        rfl
    · rw [if_neg h] at h38
      simp only [if_neg h]
      refine ⟨(0, 3), rfl, run_of (hX _ (by decide) (by decide) (by decide)) ?_⟩
      rw [e16]
      exact (congrArg (Option.bind · _) h38).trans rfl
  · rw [if_neg hv] at h38
    simp only [if_neg hv]
    refine ⟨(0, 2), rfl, run_of (hX _ (by decide) (by decide) (by decide)) ?_⟩
    rw [e16]
    exact (congrArg (Option.bind · _) h38).trans rfl
end
end Go.Skm.Beat
