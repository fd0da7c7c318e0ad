/-
  Formations, by the program and by the document; the chapter's examples; two laws; condition: figures that fit, and a library that copies, sorts, and gives a set's keys in order.
-/
import Derived.Test.YtipkmkmngcjdbaaS11
import Derived.Test.YtipkmkmngcjdbaaS7
namespace Go.Skm.Sct
open Go Go.Skm
theorem amax_ge (f : Nat → Int) : ∀ m i b, f b ≤ f (amax f m i b) ∧ ∀ j, i ≤ j → j < i + m → f j ≤ f (amax f m i b)
  | 0, i, b => ⟨Int.le_refl _, fun j h1 h2 => by omega⟩
  | m + 1, i, b => by
    have h := amax_ge f m (i + 1) (if f i > f b then i else b)
    show f b ≤ f (amax f m (i + 1) (if f i > f b then i else b)) ∧ _
    have h0 : f b ≤ f (if f i > f b then i else b) ∧ f i ≤ f (if f i > f b then i else b) := by split <;> omega
    refine ⟨by omega, fun j h1 h2 => ?_⟩
    by_cases e : j = i
    · subst e
      show f j ≤ f (amax f m (j + 1) (if f j > f b then j else b))
      omega
    · exact h.2 j (by omega) (by omega)
theorem pk_nodup (l : List V3) : ∀ m, m ≤ l.length → (pk l m).Nodup
  | 0, _ => List.nodup_nil
  | m + 1, h => by
    have ih := pk_nodup l m (by omega)
    show (pk l m ++ [amax (keyP l (pk l m)) l.length 0 0]).Nodup
    rw [List.nodup_append]
    refine ⟨ih, by simp, fun a ha b hb e => ?_⟩
    simp only [List.mem_singleton] at hb
    subst hb
    obtain ⟨j, h1, h2⟩ := pigeon (n := l.length) (ks := pk l m) (by rw [pk_length]; omega)
    have h3 := (amax_ge (keyP l (pk l m)) l.length 0 0).2 j (by omega) (by omega)
    have h4 : 0 ≤ keyP l (pk l m) j := by unfold keyP; rw [if_neg h2]; exact mn_ge (by decide) (by decide) _
    have h5 : keyP l (pk l m) (amax (keyP l (pk l m)) l.length 0 0) = -1 := by
      rw [← e]; unfold keyP; rw [if_pos ha]
    omega
theorem pick_ok {l : List V3} (hl : up l = true) (many : Int) : (pickR l many).1.Nodup ∧ ∀ v ∈ (pickR l many).1, v ∈ l := by
  unfold pickR
  split
  · next h =>
    split
    · exact ⟨List.nodup_nil, by simp⟩
    · next h2 =>
      have hm : many.toNat ≤ l.length := by omega
      have hk := pk_lt l many.toNat hm
      refine ⟨?_, fun v hv => ?_⟩
      · show ((pk l many.toNat).map (at_ l)).Nodup
        have := pk_nodup l many.toNat hm
        unfold List.Nodup at this ⊢
        rw [List.pairwise_map]
        refine this.imp_of_mem ?_
        intro a b ha hb hab
        exact up_ne hl hab (hk a ha) (hk b hb)
      · obtain ⟨k, h3, rfl⟩ := List.mem_map.1 hv
        exact at_mem (hk k h3)
  · exact ⟨List.nodup_nil, by simp⟩
def Sort34 (X : Ext) : Prop := ∀ l : List V3, l.length ≤ 100000 → ∃ m, run tab X 34 [.slice 100000 3 0 l.length, .p (.fn 35 [])] [.arr true kV (encL l)] = some ([], [.arr true kV (encL m)]) ∧ m.Perm l ∧ m.Pairwise fun a b => cmpV b a ≠ -1
theorem sort_up {l m : List V3} (hn : l.Nodup) (h1 : m.Perm l) (h2 : m.Pairwise fun a b => cmpV b a ≠ -1) : m = sdL l := by
  refine sdL_eq ?_ fun v => h1.mem_iff
  have hm : m.Nodup := h1.nodup_iff.2 hn
  exact (h2.and hm).imp fun {a b} h => by
    rcases cmp_or a b with e | e | e
    · exact e
    · exact absurd (cmp_eq.1 e) h.2
    · exact absurd (cmp_gt.1 e) h.1
def formR (f : List Sh) (many : Int) : List V3 × Int :=
  if many < 0 then ([], 2) else if (ptsR f).2 ≠ 0 then ([], (ptsR f).2) else if (pickR (ptsR f).1 many).2 ≠ 0 then ([], (pickR (ptsR f).1 many).2) else (sdL (pickR (ptsR f).1 many).1, 0)
theorem pts_up (f : List Sh) : Up (ptsR f).1 ∧ (ptsR f).1.length ≤ 4096 := by
  unfold ptsR ptsE
  split
  · split
    · split
      · exact ⟨List.Pairwise.nil, by simp⟩
      · exact ⟨sdL_up _, by simp only; omega⟩
    · exact ⟨List.Pairwise.nil, by simp⟩
  · exact ⟨List.Pairwise.nil, by simp⟩
theorem fr (l : List PV) : (l.drop 0).take l.length = l := by rw [List.drop_zero, List.take_of_length_le (Nat.le_refl _)]
section
variable (X : Ext) (hX : Mine X)
include hX
theorem c17 (hK : Clones X) (h49 : Keys49 X) (h34 : Sort34 X) (f : List Sh) (hf : Fits f) (many : Int) : run tab X 17 [.p (.list true kS (encF f)), .p (.int .i64 many)] [] = some ([.fresh true kV (encL (formR f many).1), .p (.int .i64 (formR f many).2)], []) :=
  run_of (hX _ rfl) (by
    rw [e17]
    unfold formR
    by_cases h0 : many < 0
    · rw [if_pos h0]; exact condP h0 rfl
    rw [if_neg h0]
    refine condNP h0 (bindS (c33 X hX h49 f hf) ?_)
    obtain ⟨hu, hl⟩ := pts_up f
    have hu' := up_iff.2 hu
    simp only [List.headD_cons, List.tail_cons, freshList_fresh, pv_p, toInt_int, fr]
    by_cases h1 : (ptsR f).2 = 0
    · rw [if_neg (by omega)]
      refine condEq h1 (bindS (c10 X hX hK _ (by omega) many) ?_)
      simp only [List.headD_cons, List.tail_cons, freshList_fresh, pv_p, toInt_int]
      by_cases h2 : (pickR (ptsR f).1 many).2 = 0
      · rw [if_neg (by omega)]
        have hp := pickR_len (ptsR f).1 many
        obtain ⟨m, m1, m2, m3⟩ := h34 (pickR (ptsR f).1 many).1 (by omega)
        refine condEq h2 ?_
        rw [encL_length]
        refine bindS m1 ?_
        have e := sort_up (pick_ok hu' many).1 m2 m3
        simp only [List.headD_cons, xs_arr, List.drop_zero]
        rw [List.take_of_length_le (by rw [encL_length, m2.length_eq]; exact Nat.le_refl _), e]
      · rw [if_pos h2]; exact condNe h2 rfl
    · rw [if_pos h1]; exact condNe h1 rfl)
def rowV (l : List Int) : List V3 := l.map fun x => ⟨x, 0, 0⟩
theorem c23 (l : List Int) (hl : l.length ≤ 1000) : run tab X 23 [.p (.list false [.int .i64] (encI l))] [] = some ([.fresh true kV (encL (rowV l))], []) := by
  have go : ∀ n i (out : List V3), i + n = l.length → out = rowV (l.take i) → L tab (run tab X) 23 [] [.lp [1, 1, 0, 1, 0]] (S23_11010 0 out.length (encI l) ((l.length : Nat) : Int) (i : Int) (encL out)) = some ([.fresh true kV (encL (rowV l))], []) := by
    intro n
    induction n with
    | zero =>
      intro i out hi ho
      refine L_of ?_
      rw [e23_11010]
      refine condNP (by omega) ?_
      rw [List.drop_zero, List.take_of_length_le (by simp), ho, List.take_of_length_le (by omega)]
    | succ n ih =>
      intro i out hi ho
      have hlt : i < l.length := by omega
      have hol : out.length = i := by rw [ho]; simp [rowV]; omega
      refine L_of ?_
      rw [e23_11010]
      refine condP (by omega) (condT (by rw [encI_length]; exact gd hlt) ?_)
      have ec : (((encI l).getD i .nil).cell 0).toInt = l[i] := by rw [List.getD_eq_getElem?_getD]; simp [encI, hlt]
      rw [tn, ec]
      refine bindS (c19 X hX l[i] 0 0) (condP (p := out.length + 1 ≤ 2147483648) (by omega) ?_)
      rw [List.drop_zero, List.take_of_length_le (by simp), wr1 (by omega)]
      have e : encL out ++ [PV.agg [.int .i64 l[i], .int .i64 0, .int .i64 0]] = encL (out ++ [⟨l[i], 0, 0⟩]) := by
        rw [← encL_append]; rfl
      have := ih (i + 1) (out ++ [⟨l[i], 0, 0⟩]) (by omega) (by
        rw [ho]; unfold rowV; rw [List.take_succ_eq_append_getElem hlt, List.map_append]; rfl)
      rw [← e, List.length_append] at this
      exact this
  exact run_of (hX _ rfl) (by rw [e23, encI_length]; exact go l.length 0 [] (by simp) (by simp [rowV]))
omit hX in
theorem p1 : pickR (rowV [0, 1, 4, 10]) 4 = (rowV [0, 10, 4, 1], 0) := by decide +kernel
omit hX in
theorem p2 : pickR (rowV [0, 1, 4, 10]) 2 = (rowV [0, 10], 0) := by decide +kernel
omit hX in
theorem p3 : pickR (rowV [0, 1, 4, 10]) 5 = ([], 3) := by decide +kernel
omit hX in
theorem p4 : pickR [⟨-1, 0, 0⟩, ⟨0, 0, 0⟩, ⟨1, 0, 0⟩, ⟨1, 1, 0⟩] 3 = ([⟨-1, 0, 0⟩, ⟨1, 1, 0⟩, ⟨0, 0, 0⟩], 0) := by decide +kernel
omit hX in
theorem p5 : sprR (rowV [0, 1, 4]) = (1, 0) := by decide +kernel
omit hX in
theorem p6 : sprR (rowV [0]) = (0, 9) := by decide +kernel
omit hX in
theorem p7 : covR (rowV [0, 1, 4]) (rowV [0, 4]) = (1, 0) := by decide +kernel
omit hX in
theorem p8 : covR [] (rowV [0]) = (0, 0) := by decide +kernel
omit hX in
theorem p9 : covR (rowV [0]) [] = (0, 9) := by decide +kernel
omit hX in
theorem p10 : formR [⟨2, rowV [0, 8], 4, 0, 0, 0⟩] 3 = (rowV [0, 4, 8], 0) := by decide +kernel
theorem known (hK : Clones X) (h49 : Keys49 X) (h34 : Sort34 X) : Known X := by
  have a1 := c23 X hX [0, 1, 4, 10] (by decide)
  have a2 := c23 X hX [0, 10, 4, 1] (by decide)
  have a3 := c23 X hX [0, 10] (by decide)
  have a4 := c23 X hX [0, 1, 4] (by decide)
  have a5 := c23 X hX [0] (by decide)
  have a6 := c23 X hX [0, 4] (by decide)
  have a7 := c23 X hX [0, 8] (by decide)
  have a8 := c23 X hX [0, 4, 8] (by decide)
  have b1 := c10 X hX hK (rowV [0, 1, 4, 10]) (by decide) 4
  have b2 := c10 X hX hK (rowV [0, 1, 4, 10]) (by decide) 2
  have b3 := c10 X hX hK (rowV [0, 1, 4, 10]) (by decide) 5
  have b4 := c10 X hX hK [⟨-1, 0, 0⟩, ⟨0, 0, 0⟩, ⟨1, 0, 0⟩, ⟨1, 1, 0⟩] (by decide) 3
  have d1 := c13 X hX (rowV [0, 1, 4]) (by decide)
  have d2 := c13 X hX (rowV [0]) (by decide)
  have d3 := c15 X hX (rowV [0, 1, 4]) (rowV [0, 4]) (by decide) (by decide)
  have d4 := c15 X hX [] (rowV [0]) (by decide) (by decide)
  have d5 := c15 X hX (rowV [0]) [] (by decide) (by decide)
  have d6 := c17 X hX hK h49 h34 [⟨2, rowV [0, 8], 4, 0, 0, 0⟩] ⟨by decide, by intro s hs; simp at hs; subst hs; decide⟩ 3
  have s1 := fun (a : List V3) (h : a.length ≤ 2147483648) => c12 X hX a a h
  rw [p1] at b1
  rw [p2] at b2
  rw [p3] at b3
  rw [p4] at b4
  rw [p5] at d1
  rw [p6] at d2
  rw [p7] at d3
  rw [p8] at d4
  rw [p9] at d5
  rw [p10] at d6
  refine run_of (hX _ rfl) ?_
  rw [e9]
  refine bindS a1 ?_
  simp only [List.headD_cons, freshList_fresh]
  refine bindS b1 (bindS b2 (bindS b3 ?_))
  refine bindS (c19 X hX (-1) 0 0) (bindS (c19 X hX 0 0 0) (bindS (c19 X hX 1 0 0) (bindS (c19 X hX 1 1 0) ?_)))
  refine bindS b4 (bindS a2 ?_)
  simp only [List.headD_cons, List.tail_cons, freshList_fresh, pv_p, toInt_int]
  refine bindS (s1 (rowV [0, 10, 4, 1]) (by decide)) ?_
  simp only [List.headD_cons, pv_p, toBool_bool, decide_true, Bool.not_true, cond_false]
  refine condEq rfl (bindS a3 ?_)
  simp only [List.headD_cons, freshList_fresh]
  refine bindS (s1 (rowV [0, 10]) (by decide)) ?_
  simp only [List.headD_cons, pv_p, toBool_bool, decide_true, Bool.not_true, cond_false]
  refine condEq rfl (condEq rfl ?_)
  refine bindS (c19 X hX (-1) 0 0) (bindS (c19 X hX 1 1 0) (bindS (c19 X hX 0 0 0) ?_))
  simp only [List.headD_cons, pv_p, toInt_int, cell_agg, List.getD_cons_zero, List.getD_cons_succ]
  refine bindS (s1 [⟨-1, 0, 0⟩, ⟨1, 1, 0⟩, ⟨0, 0, 0⟩] (by decide)) ?_
  simp only [List.headD_cons, pv_p, toBool_bool, decide_true, Bool.not_true, cond_false]
  refine condEq rfl (bindS a4 ?_)
  simp only [List.headD_cons, freshList_fresh]
  refine bindS d1 (bindS a5 ?_)
  simp only [List.headD_cons, freshList_fresh]
  refine bindS d2 (bindS a4 (bindS a6 ?_))
  simp only [List.headD_cons, freshList_fresh]
  refine bindS d3 (bindS a5 ?_)
  simp only [List.headD_cons, freshList_fresh]
  refine bindS d4 (bindS a5 ?_)
  simp only [List.headD_cons, freshList_fresh]
  refine bindS d5 (bindS a7 ?_)
  simp only [List.headD_cons, freshList_fresh]
  refine bindS d6 ?_
  simp only [List.headD_cons, List.tail_cons, freshList_fresh, pv_p, toInt_int]
  refine condEqs rfl (condEqs rfl (condEqs rfl (condEqs rfl (condEqs rfl (condEqs rfl (condEqs rfl (condEqs rfl (bindS a8 ?_))))))))
  simp only [List.headD_cons, freshList_fresh]
  refine bindS (s1 (rowV [0, 4, 8]) (by decide)) ?_
  rfl
end
end Go.Skm.Sct
