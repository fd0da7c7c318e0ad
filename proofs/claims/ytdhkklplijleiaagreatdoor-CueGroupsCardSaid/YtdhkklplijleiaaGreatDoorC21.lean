/-
  Six of the laws answer true; condition: the library's answers, arguments in range.
-/
import Derived.Test.YtdhkklplijleiaaGreatDoorC20
namespace Go.Skm.Cue
open Go Go.Skm
theorem takeU (l : List Cu) : (encU l).take l.length = encU l := List.take_of_length_le (by simp)
theorem takeB (l : List By) : (encB l).take l.length = encB l := List.take_of_length_le (by simp)
theorem small_len {l : List Cu} {n : Int} (h : smallB l n = true) : (l.length : Int) ≤ n := by
  simp only [smallB, Bool.and_eq_true, decide_eq_true_eq] at h; exact h.1
theorem ofR_len (l : List Cu) (g : By) : (ofR l g).1.length ≤ l.length := by
  unfold ofR ofG
  split
  · exact List.length_filter_le _ _
  · simp
theorem shiftR_len (l : List Cu) (b : Int) : (shiftR l b).1.length ≤ l.length := by
  unfold shiftR
  split
  · split <;> simp
  · simp
theorem refG_len : ∀ (l : List Cu) (out : List By), (refG l out).length ≤ l.length + out.length
  | [], out => by simp [refG]
  | v :: r, out => by
    have h1 := refG_len r (insN v.g out)
    have h2 := insN_len v.g out
    rw [refG, List.length_cons]; omega
theorem grpR_len (l : List Cu) : (grpR l).1.length ≤ l.length := by
  unfold grpR
  split
  · have := refG_len l []; simpa using this
  · simp
theorem refS_len : ∀ (m out : List Cu) (b : Bool), (refS m out b).1.length ≤ m.length + out.length
  | [], out, b => by simp [refS]
  | c :: r, out, b => by
    unfold refS
    split
    · have := refS_len r out true; rw [List.length_cons]; omega
    · have h1 := refS_len r (ins c out) b
      have h2 := (ins_perm c out).length_eq
      rw [List.length_cons] at h2 ⊢; omega
theorem snapR_len (l : List Cu) (tm : List Tm) (s : Int) : (snapR l tm s).1.length ≤ l.length := by
  unfold snapR
  split
  · split
    · split
      · simp
      · have := refS_len (l.map (sn tm s)) [] false; simpa using this
    · simp
  · simp
section
variable (X : Ext) (hX : Mine X)
include hX
theorem law7 (hK : Known X) (hT : Texts X) (hS : SortS X) (l : List Cu) (ho : Oks l) (hl : l.length ≤ maxLen) (g : By) (hg : g.length ≤ maxLen) : run tab X 7 [.p (.list true kC (encU l)), .p (.str (ba g))] [] = some ([.p (.bool true)], []) :=
  run_of (hX _ rfl) (by
    have hm : maxLen = 9223372036854775807 := by decide
    rw [e7, List.drop_zero, List.take_length]
    refine bindS (c13 X hX l hl 40) ?_
    cases hs : smallB l 40 with
    | false => exact condT rfl (bindS hK rfl)
    | true =>
      have hlen := small_len hs
      refine condF rfl ?_
      by_cases h : g.length > 100
      · exact condP (show ((ba g).size : Int) > 100 by rw [ba_size]; omega) (bindS hK rfl)
      · refine condNP (show ¬ ((ba g).size : Int) > 100 by rw [ba_size]; omega) ?_
        refine condP (show (encU l).length ≤ 2147483648 by rw [encU_length]; omega) ?_
        refine bindS (c25 X hX hT hS l ho.nam (by omega)) (bindS (c26 X hX l ho.nam (by omega)) (bindS (c27 X hX hT l ho.nam (by omega) g hg) (bindS (c28 X hX l ho.nam (by omega) g hg) ?_)))
        have h1 := grpR_len l
        have h2 := ofR_len l g
        simp only [listR, namesR, List.headD_cons, List.tail_cons, freshList_fresh, List.drop_zero, encU_length, encB_length, takeU, takeB, pv_p, toInt_int]
        refine bindS (c29 X hX _ _ (by omega)) (condT (decide_eq_true rfl) (condT (beq_self_eq_true _) ?_))
        refine bindS (c19 X hX _ _ (by omega)) (condT (decide_eq_true rfl) (condT (beq_self_eq_true _) ?_))
        refine bindS (c23 X hX l l _ hl (by omega)) (condT (decide_eq_true rfl) (bindS hK rfl)))
theorem law8 (hK : Known X) (hT : Texts X) (hO : SortC X) (l : List Cu) (ho : Oks l) (hl : l.length ≤ maxLen) (by_ : Int) (hb : In64 by_) (tm : List Tm) (ht : tm.length ≤ maxLen) (s : Int) : run tab X 8 [.p (.list true kC (encU l)), .p (.int .i64 by_), .p (.list true kT (encM tm)), .p (.int .i64 s)] [] = some ([.p (.bool true)], []) :=
  run_of (hX _ rfl) (by
    have hm : maxLen = 9223372036854775807 := by decide
    rw [e8, List.drop_zero, List.take_length]
    refine bindS (c13 X hX l hl 40) ?_
    cases hs : smallB l 40 with
    | false => exact condT rfl (bindS hK rfl)
    | true =>
      have hlen := small_len hs
      refine condF rfl ?_
      by_cases h : tm.length > 20
      · exact condP (show ((encM tm).length : Int) > 20 by rw [encM_length]; omega) (bindS hK rfl)
      · refine condNP (show ¬ ((encM tm).length : Int) > 20 by rw [encM_length]; omega) ?_
        refine condP (show (encU l).length ≤ 2147483648 by rw [encU_length]; omega) ?_
        refine bindS (c20 X hX hT l ho.nam (by omega) by_) (bindS (c30 X hX l ho.nam (by omega) by_ hb) (bindS (c31 X hX hT hO l ho.nam (by omega) tm ht s) (bindS (c32 X hX l ho.nam (by omega) tm s) ?_)))
        have h1 := shiftR_len l by_
        have h2 := snapR_len l tm s
        simp only [listR, List.headD_cons, List.tail_cons, freshList_fresh, List.drop_zero, encU_length, takeU, pv_p, toInt_int]
        refine bindS (c19 X hX _ _ (by omega)) (condT (decide_eq_true rfl) (condT (beq_self_eq_true _) ?_))
        refine bindS (c19 X hX _ _ (by omega)) (condT (decide_eq_true rfl) (condT (beq_self_eq_true _) ?_))
        refine bindS (c23 X hX l l _ hl (by omega)) (condT (decide_eq_true rfl) ?_)
        refine bindS (c23 X hX l l _ hl (by omega)) (condT (decide_eq_true rfl) (bindS hK rfl)))
end
end Go.Skm.Cue
