/-
  The laws HullSides and HullSizes, of the program run by the machine; condition: the sorting function is as said.
-/
import Derived.Test.YthdegeidcjdkeaaLw2
namespace Go.Skm.Hull
open Go Go.Skm

section
variable (X : Ext) (hX : ∀ f, f ≠ 30 → X f = none) (hS : SortOk X)
include hX hS

theorem law4 (h : List V3) (p : V3) : run tab X 4 [.p (.list true kV (encL h)), .p (encV p)] [] = some ([.p (.bool true)], []) := by
  refine run_of (hX _ (by decide)) ?_
  have k := c9 X hX hS
  have q1 := c14 X hX hS h p
  have q2 := c17 X hX p
  simp only [encV] at q1 q2 ⊢
  rw [e4]
  simp only [condD, encL_length, k, Option.bind_some, List.headD_cons, pv_p, toBool_bool]
  by_cases h10 : h.length > 10
  · rw [if_pos (by omega)]
  rw [if_neg (by omega)]
  simp only [q1, c15 X hX h (by omega), c16 X hX hS h, Option.bind_some, List.headD_cons, List.tail_cons, pv_p, toBool_bool, toInt_int, beq_self_eq_true, condNb]
  cases hv : hullV h with
  | false =>
    have e : sideP h p = (0, 2) := if_neg fun x => by rw [hv] at x; exact absurd x.1 (by simp)
    rw [e]; rfl
  | true =>
    simp only [condNb, q2, Option.bind_some, List.headD_cons, pv_p, toBool_bool]
    cases hp : inM 1048576 p with
    | false =>
      have e : sideP h p = (0, 2) := if_neg fun x => by rw [hp] at x; exact absurd x.2 (by simp)
      rw [e]; rfl
    | true =>
      simp only [condNb]
      have e : sideP h p = (sideF h p, 0) := if_pos ⟨hv, hp⟩
      obtain ⟨h0, hl, hb, -⟩ := hullV_ok hv
      have q3 := c18 X hX h p (by omega) (fun v hv => (hb v hv).mono (by decide)) ((inM_bd.1 hp).mono (by decide))
      simp only [encV] at q3
      rw [← side_eq hv p] at q3
      simp only [q3, Option.bind_some, List.headD_cons, pv_p, toInt_int, e, beq_self_eq_true, cond_true]

theorem law5 (h : List V3) (d : V3) : run tab X 5 [.p (.list true kV (encL h)), .p (encV d)] [] = some ([.p (.bool true)], []) := by
  refine run_of (hX _ (by decide)) ?_
  have k := c9 X hX hS
  have q1 := c19 X hX hS h
  have q2 := c20 X hX hS h
  have q3 := c21 X hX hS h d
  have q4 := c24 X hX d
  simp only [encV] at q3 q4 ⊢
  rw [e5]
  simp only [condD, encL_length, k, Option.bind_some, List.headD_cons, pv_p, toBool_bool]
  by_cases h10 : h.length > 10
  · rw [if_pos (by omega)]
  rw [if_neg (by omega)]
  simp only [q1, q2, q3, c15 X hX h (by omega), Option.bind_some, List.headD_cons, List.tail_cons, pv_p, toBool_bool, toInt_int]
  have nn : ∀ {α : Type} (n : Int) (a b : α), cond (n != n) a b = b := fun n a b => by simp
  cases hv : hullV h with
  | false =>
    have e1 : areaP h = (0, 2) := if_neg (by rw [hv]; simp)
    have e2 : diaP h = ((0, 0, 0), 2) := if_neg (by rw [hv]; simp)
    have e3 : extP h d = ((0, 0), 2) := if_neg fun x => by rw [hv] at x; exact absurd x.1 (by simp)
    rw [e1, e2, e3]; rfl
  | true =>
    simp only [condNb]
    have e1 : areaP h = (shoe h h.length 0 0, 0) := if_pos hv
    have e2 : diaP h = (dia h, 0) := if_pos hv
    obtain ⟨h0, hl, hb, -⟩ := hullV_ok hv
    have q5 := c22 X hX h (by omega) (fun v hv => (hb v hv).mono (by decide))
    have q6 := c23 X hX h (by omega) hb
    rw [← shoe_eq_fan h h0] at q6
    simp only [q5, q6, e1, e2, Option.bind_some, List.headD_cons, List.tail_cons, pv_p, toInt_int, nn, q4, toBool_bool]
    cases hp : inM 16777216 d with
    | false =>
      have e3 : extP h d = ((0, 0), 2) := if_neg fun x => by rw [hp] at x; exact absurd x.2 (by simp)
      rw [e3]; rfl
    | true =>
      simp only [condNb]
      have e3 : extP h d = (ext h d, 0) := if_pos ⟨hv, hp⟩
      have q7 := c25 X hX h d h0 (by omega) hb (inM_bd.1 hp)
      simp only [encV] at q7
      simp only [q7, e3, Option.bind_some, List.headD_cons, List.tail_cons, pv_p, toInt_int, beq_self_eq_true, cond_true]
end
end Go.Skm.Hull
