/-
  The laws HullHulls and HullMerges, of the program run by the machine; condition: the sorting function is as said.
-/
import Derived.Test.YthdegeidcjdkeaaCt13
namespace Go.Skm.Hull
open Go Go.Skm

section
variable (X : Ext) (hX : ∀ f, f ≠ 30 → X f = none) (hS : SortOk X)
include hX hS

theorem law3 (l : List V3) : run tab X 3 [.p (.list true kV (encL l))] [] = some ([.p (.bool true)], []) := by
  refine run_of (hX _ (by decide)) ?_
  rw [e3]
  have k := c9 X hX hS
  simp only [condD, encL_length, k, Option.bind_some, List.headD_cons, pv_p, toBool_bool]
  by_cases h12 : l.length > 12
  · rw [if_pos (by omega)]
  rw [if_neg (by omega), if_pos (by omega)]
  simp only [take_all', c10 X hX hS, Option.bind_some, List.headD_cons, List.tail_cons, freshList_fresh, take_all, pv_p, toInt_int]
  rw [c11 X hX l l (by omega)]
  simp only [c12 X hX l (by omega), Option.bind_some, List.headD_cons, pv_p, toBool_bool, decide_true, condNb, encL_length]
  cases hp : ptsB l with
  | false =>
    have e : hullF l = ([], 2) := by unfold hullF; rw [if_neg (by omega), hp, if_neg (by simp)]
    rw [e]; rfl
  | true =>
    simp only [condNb]
    by_cases h0 : l.length = 0
    · have e : hullF l = ([], 9) := by unfold hullF; rw [if_neg (by omega), hp, if_pos rfl, if_pos h0]
      rw [e]
      simp only [condE]
      rw [if_pos (by omega)]; rfl
    · have e : hullF l = (hullC l, 0) := by unfold hullF; rw [if_neg (by omega), hp, if_pos rfl, if_neg h0]
      have hn : l ≠ [] := by intro e; subst e; simp at h0
      rw [e]
      simp only [condE]
      rw [if_neg (by omega)]
      simp only [d13 X hX l hn (by omega) (ptsB_bd.1 hp), Option.bind_some, List.headD_cons, freshList_fresh, take_all]
      rw [c11 X hX (hullC l) (hullC l) (by have := hullC_len l; omega)]
      simp only [Option.bind_some, List.headD_cons, pv_p, toBool_bool, decide_true, cond_true]
      rfl

theorem law6 (a b : List V3) : run tab X 6 [.p (.list true kV (encL a)), .p (.list true kV (encL b))] [] = some ([.p (.bool true)], []) := by
  refine run_of (hX _ (by decide)) ?_
  rw [e6]
  have k := c9 X hX hS
  simp only [condD, encL_length, k, Option.bind_some, List.headD_cons, pv_p, toBool_bool]
  by_cases ha : a.length > 7
  · rw [if_pos (by omega)]
  rw [if_neg (by omega)]
  by_cases hb : b.length > 7
  · rw [if_pos (by omega)]
  rw [if_neg (by omega), c15 X hX a (by omega), c15 X hX b (by omega)]
  simp only [c26 X hX hS, Option.bind_some, List.headD_cons, List.tail_cons, freshList_fresh, pv_p, toInt_int, toBool_bool, encL_length]
  cases va : hullV a with
  | false =>
    have e : mergeF a b = ([], 2) := by unfold mergeF; rw [va, if_neg (by simp)]
    rw [e]; rfl
  | true =>
    simp only [condNb]
    cases vb : hullV b with
    | false =>
      have e : mergeF a b = ([], 2) := by unfold mergeF; rw [va, if_pos rfl, vb, if_neg (by simp)]
      rw [e]; rfl
    | true =>
      simp only [condNb]
      have e : mergeF a b = ((hullF (a ++ b)).1, 0) := by unfold mergeF; rw [va, if_pos rfl, vb, if_pos rfl]
      obtain ⟨a1, a2, a3, a4⟩ := hullV_ok va
      obtain ⟨b1, b2, b3, b4⟩ := hullV_ok vb
      have hp : ptsB (a ++ b) = true := ptsB_bd.2 fun v hv => (List.mem_append.1 hv).elim (a3 v) (b3 v)
      have hla : (a ++ b).length = a.length + b.length := List.length_append
      have hn : a ++ b ≠ [] := by intro e; have := congrArg List.length e; rw [hla] at this; simp only [List.length_nil] at this; omega
      have e2 : hullF (a ++ b) = (hullC (a ++ b), 0) := by
        unfold hullF; rw [if_neg (by omega), hp, if_pos rfl, if_neg (by omega)]
      rw [e, e2, if_pos (by omega), if_pos (by omega)]
      have e3 : List.take (a.length + b.length) (List.drop 0 (List.take a.length (List.drop 0 (encL a)) ++ encL b)) = encL (a ++ b) := by
        rw [take_all', encL_append, List.drop_zero, List.take_of_length_le (by simp)]
      rw [e3]
      simp only [d13 X hX (a ++ b) hn (by omega) (ptsB_bd.1 hp), Option.bind_some, List.headD_cons, freshList_fresh, take_all, take_all']
      rw [c11 X hX (hullC (a ++ b)) (hullC (a ++ b)) (by have := hullC_len (a ++ b); omega)]
      simp only [Option.bind_some, List.headD_cons, pv_p, toBool_bool, decide_true, cond_true]
      rfl
end
end Go.Skm.Hull
