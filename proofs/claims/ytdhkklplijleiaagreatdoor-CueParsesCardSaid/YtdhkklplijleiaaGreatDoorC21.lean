/-
  Six of the laws answer true; condition: the library's answers, arguments in range.
-/
import Derived.Test.YtdhkklplijleiaaGreatDoorC20
namespace Go.Skm.Cue
open Go Go.Skm
theorem takeU (l : List Cu) : (encU l).take l.length = encU l := List.take_of_length_le (by simp)
theorem takeB (l : List By) : (encB l).take l.length = encB l := List.take_of_length_le (by simp)
theorem small_len {l : List Cu} {n : Int} (h : smallB l n = true) : (l.length : Int) ≤ n := by
  simp only [smallB, Bool.and_eq_true, decide_eq_true_eq] at h; exact h.1
theorem addR_len (l : List Cu) (c : Cu) : (addR l c).1.length ≤ l.length + 1 := by
  have := (ins_perm c l).length_eq
  unfold addR
  split
  · split
    · simp
    · split
      · simp
      · simp only [this]; simp
  · simp
theorem shiftR_len (l : List Cu) (b : Int) : (shiftR l b).1.length ≤ l.length := by
  unfold shiftR
  split
  · split <;> simp
  · simp
section
variable (X : Ext) (hX : Mine X)
include hX
theorem law5 (hK : Known X) (hT : Texts X) (l : List Cu) (ho : Oks l) (hl : l.length ≤ maxLen) (c : Cu) (hc : c.ok) : run tab X 5 [.p (.list true kC (encU l)), .p (encC c)] [] = some ([.p (.bool true)], []) :=
  run_of (hX _ rfl) (by
    have hm : maxLen = 9223372036854775807 := by decide
    rw [e5, List.drop_zero, List.take_length]
    refine bindS (c13 X hX l hl 1010) ?_
    cases hs : smallB l 1010 with
    | false => exact condT rfl (bindS hK rfl)
    | true =>
      have hlen := small_len hs
      refine condF rfl ?_
      by_cases hg : c.g.length > 100
      · exact condP (show ((ba c.g).size : Int) > 100 by rw [ba_size]; omega) (bindS hK rfl)
      · refine condNP (show ¬ ((ba c.g).size : Int) > 100 by rw [ba_size]; omega) ?_
        refine condP (show (encU l).length ≤ 2147483648 by rw [encU_length]; omega) ?_
        refine bindS (c17 X hX hT l ho.nam (by omega) c hc.g) (bindS (c21 X hX l ho.nam (by omega) c hc.g) (bindS (c22 X hX hT.cmp l ho.nam hl) (bindS (c14 X hX l ho.nam hl) ?_)))
        have ha := addR_len l c
        refine condT (beq_self_eq_true (validC l)) ?_
        simp only [listR, List.headD_cons, List.tail_cons, freshList_fresh, List.drop_zero, encU_length, takeU, pv_p, toInt_int]
        refine bindS (c19 X hX _ _ (by omega)) (condT (decide_eq_true rfl) (condT (beq_self_eq_true _) ?_))
        refine bindS (c23 X hX l l _ hl (by omega)) (condT (decide_eq_true rfl) (bindS hK rfl)))
theorem law6 (hK : Known X) (hT : Texts X) (l : List Cu) (ho : Oks l) (hl : l.length ≤ maxLen) (g : By) (hg : g.length ≤ maxLen) (t : Int) : run tab X 6 [.p (.list true kC (encU l)), .p (.str (ba g)), .p (.int .i64 t)] [] = some ([.p (.bool true)], []) :=
  run_of (hX _ rfl) (by
    have hm : maxLen = 9223372036854775807 := by decide
    rw [e6]
    refine bindS (c13 X hX l hl 40) ?_
    cases hs : smallB l 40 with
    | false => exact condT rfl (bindS hK rfl)
    | true =>
      have hlen := small_len hs
      refine condF rfl ?_
      by_cases h : g.length > 100
      · exact condP (show ((ba g).size : Int) > 100 by rw [ba_size]; omega) (bindS hK rfl)
      · refine condNP (show ¬ ((ba g).size : Int) > 100 by rw [ba_size]; omega) ?_
        refine bindS (c16 X hX hT l ho (by omega) g hg t) (bindS (c24 X hX l ho (by omega) g hg t) ?_)
        refine condT (by simp) (condT (beq_self_eq_true _) (bindS hK rfl)))
theorem law9 (hK : Known X) (hT : Texts X) (c : Cu) (hc : c.ok) : run tab X 9 [.p (encC c)] [] = some ([.p (.bool true)], []) :=
  run_of (hX _ rfl) (by
    have hm : maxLen = 9223372036854775807 := by decide
    rw [e9]
    by_cases hg : c.g.length > 100
    · exact condP (show ((ba c.g).size : Int) > 100 by rw [ba_size]; omega) (bindS hK rfl)
    · refine condNP (show ¬ ((ba c.g).size : Int) > 100 by rw [ba_size]; omega) ?_
      refine bindS (c33 X hX hT c hc.g hc.r hc.e hc.b) (bindS (c34 X hX c hc.g hc.r hc.e hc.b) ?_)
      refine condF (by simp) ?_
      unfold txR
      by_cases hf : fineB c = true
      · rw [if_pos hf]
        refine condF rfl (condF rfl ?_)
        obtain ⟨t1, t2, t3⟩ := fineB_iff.1 hf
        have l1 := itoa_len t1.1 t1.2
        have l2 := itoa_len t2.1 t2.2
        have l3 := okN_len t3
        have hlen : (textOf c).length ≤ 100000000 := by
          have l4 : (colT c.r c.e c.b).length = 7 := rfl
          unfold textOf
          simp only [List.length_append, List.length_cons, List.length_nil, l4]; omega
        obtain ⟨p, p1, p2⟩ := c11 X hX hT (textOf c) hlen
        rw [p1.unique (.inl ⟨c, ⟨hf, hc.r, hc.e, hc.b⟩, rfl, rfl⟩)] at p2
        refine bindS p2 (condT rfl (condT ?_ (bindS hK rfl)))
        exact (cu_eq c c).trans (decide_eq_true rfl)
      · rw [if_neg hf]
        exact condF rfl (condT rfl (bindS hK rfl)))
theorem law3 (hK : Known X) (hT : Texts X) (s : By) : run tab X 3 [.p (.str (ba s))] [] = some ([.p (.bool true)], []) :=
  run_of (hX _ rfl) (by
    rw [e3]
    by_cases hg : s.length > 200
    · exact condP (show ((ba s).size : Int) > 200 by rw [ba_size]; omega) (bindS hK rfl)
    · refine condNP (show ¬ ((ba s).size : Int) > 200 by rw [ba_size]; omega) ?_
      obtain ⟨p, p1, p2⟩ := c11 X hX hT s (by omega)
      obtain ⟨q, q1, q2⟩ := c12 X hX s (by omega)
      rw [← p1.unique q1] at q2
      refine bindS p2 (bindS q2 ?_)
      cases p with
      | none => exact condT rfl (condT rfl (bindS hK rfl))
      | some v => exact condT ((cu_eq v v).trans (decide_eq_true rfl)) (condT rfl (bindS hK rfl)))
end
end Go.Skm.Cue
