/-
  Formations, by the program and by the document; the chapter's examples; two laws; condition: figures that fit, and a library that copies, sorts, and gives a set's keys in order.
-/
import Derived.Test.YtipkmkmngcjdbaaS12
import Derived.Test.YtipkmkmngcjdbaaS7
namespace Go.Skm.Sct
open Go Go.Skm
theorem amax_ge (f : Nat → Int) : ∀ m i b,f b ≤ f (amax f m i b) ∧ ∀ j,i ≤ j → j < i + m → f j ≤ f (amax f m i b)
  | 0,i,b => ⟨Int.le_refl _,fun j h1 h2 => by omega⟩
  | m + 1,i,b => by
    have h := amax_ge f m (i + 1) (if f i > f b then i else b)
    show f b ≤ f (amax f m (i + 1) (if f i > f b then i else b)) ∧ _
    have h0 : f b ≤ f (if f i > f b then i else b) ∧ f i ≤ f (if f i > f b then i else b) := by split <;> omega
    refine ⟨by omega,fun j h1 h2 => ?_⟩
    by_cases e : j = i
    · subst e
      show f j ≤ f (amax f m (j + 1) (if f j > f b then j else b))
      omega
    · exact h.2 j (by omega) (by omega)
theorem pk_nodup (l : List V3) : ∀ m,m ≤ l.length → (pk l m).Nodup
  | 0,_ => List.nodup_nil
  | m + 1,h => by
    have ih := pk_nodup l m (by omega)
    show (pk l m ++ [amax (keyP l (pk l m)) l.length 0 0]).Nodup
    rw [List.nodup_append]
    refine ⟨ih,by simp,fun a ha b hb e => ?_⟩
    simp only [List.mem_singleton] at hb
    subst hb
    obtain ⟨j,h1,h2⟩ := pigeon (n := l.length) (ks := pk l m) (by rw [pk_length]; omega)
    have h3 := (amax_ge (keyP l (pk l m)) l.length 0 0).2 j (by omega) (by omega)
    have h4 : 0 ≤ keyP l (pk l m) j := by unfold keyP; rw [if_neg h2]; exact mn_ge (by decide) (by decide) _
    have h5 : keyP l (pk l m) (amax (keyP l (pk l m)) l.length 0 0) = -1 := by
      rw [← e]; unfold keyP; rw [if_pos ha]
    omega
theorem pick_ok {l : List V3} (hl : up l = true) (many : Int) : (pickR l many).1.Nodup ∧ ∀ v ∈ (pickR l many).1,v ∈ l := by
  unfold pickR
  split
  · next h =>
    split
    · exact ⟨List.nodup_nil,by simp⟩
    · next h2 =>
      have hm : many.toNat ≤ l.length := by omega
      have hk := pk_lt l many.toNat hm
      refine ⟨?_,fun v hv => ?_⟩
      · show ((pk l many.toNat).map (at_ l)).Nodup
        have := pk_nodup l many.toNat hm
        unfold List.Nodup at this ⊢
        rw [List.pairwise_map]
        refine this.imp_of_mem ?_
        intro a b ha hb hab
        exact up_ne hl hab (hk a ha) (hk b hb)
      · obtain ⟨k,h3,rfl⟩ := List.mem_map.1 hv
        exact at_mem (hk k h3)
  · exact ⟨List.nodup_nil,by simp⟩
def Sort34 (X : Ext) : Prop := ∀ l : List V3,l.length ≤ 100000 → ∃ m,run tab X 34 [.slice 100000 3 0 l.length,.p (.fn 35 [])] [.arr true kV (encL l)] = some ([],[.arr true kV (encL m)]) ∧ m.Perm l ∧ m.Pairwise fun a b => cmpV b a ≠ -1
theorem sort_up {l m : List V3} (hn : l.Nodup) (h1 : m.Perm l) (h2 : m.Pairwise fun a b => cmpV b a ≠ -1) : m = sdL l := by
  refine sdL_eq ?_ fun v => h1.mem_iff
  have hm : m.Nodup := h1.nodup_iff.2 hn
  exact (h2.and hm).imp fun {a b} h => by
    rcases cmp_or a b with e | e | e
    · exact e
    · exact absurd (cmp_eq.1 e) h.2
    · exact absurd (cmp_gt.1 e) h.1
def formR (f : List Sh) (many : Int) : List V3 × Int :=
  if many < 0 then ([],2) else if (ptsR f).2 ≠ 0 then ([],(ptsR f).2) else if (pickR (ptsR f).1 many).2 ≠ 0 then ([],(pickR (ptsR f).1 many).2) else (sdL (pickR (ptsR f).1 many).1,0)
theorem pts_up (f : List Sh) : Up (ptsR f).1 ∧ (ptsR f).1.length ≤ 4096 := by
  unfold ptsR ptsE
  split
  · split
    · split
      · exact ⟨List.Pairwise.nil,by simp⟩
      · exact ⟨sdL_up _,by simp only; omega⟩
    · exact ⟨List.Pairwise.nil,by simp⟩
  · exact ⟨List.Pairwise.nil,by simp⟩
theorem pts_bad {f : List Sh} (h : figB f = false) : ptsR f = ([],2) := by unfold ptsR; rw [if_neg (by simp [h])]
theorem fr (l : List PV) : (l.drop 0).take l.length = l := by rw [List.drop_zero,List.take_of_length_le (Nat.le_refl _)]
section
variable (X : Ext) (hX : Mine X)
include hX
theorem c17 (hK : Clones X) (h49 : Keys49 X) (h34 : Sort34 X) (f : List Sh) (hf : Fits f) (many : Int) : run tab X 17 [.p (.list true kS (encF f)),.p (.int .i64 many)] [] = some ([.fresh true kV (encL (formR f many).1),.p (.int .i64 (formR f many).2)],[]) :=
  run_of (hX _ rfl) (by
    rw [e17]
    unfold formR
    by_cases h0 : many < 0
    · rw [if_pos h0]; exact condP h0 rfl
    rw [if_neg h0]
    refine condNP h0 (bindS (c33 X hX h49 f hf) ?_)
    obtain ⟨hu,hl⟩ := pts_up f
    have hu' := up_iff.2 hu
    simp only [List.headD_cons,List.tail_cons,freshList_fresh,pv_p,toInt_int,fr]
    by_cases h1 : (ptsR f).2 = 0
    · rw [if_neg (by omega)]
      refine condEq h1 (bindS (c10 X hX hK _ (by omega) many) ?_)
      simp only [List.headD_cons,List.tail_cons,freshList_fresh,pv_p,toInt_int]
      by_cases h2 : (pickR (ptsR f).1 many).2 = 0
      · rw [if_neg (by omega)]
        have hp := pickR_len (ptsR f).1 many
        obtain ⟨m,m1,m2,m3⟩ := h34 (pickR (ptsR f).1 many).1 (by omega)
        refine condEq h2 ?_
        rw [encL_length]
        refine bindS m1 ?_
        have e := sort_up (pick_ok hu' many).1 m2 m3
        simp only [List.headD_cons,xs_arr,List.drop_zero]
        rw [List.take_of_length_le (by rw [encL_length,m2.length_eq]; exact Nat.le_refl _),e]
      · rw [if_pos h2]; exact condNe h2 rfl
    · rw [if_pos h1]; exact condNe h1 rfl)
theorem l18 (l p : List V3) (hl : l.length ≤ 2147483648) (hp : p.length ≤ 2147483648) : ∀ n i (out : List V3),i + n = l.length → out.length ≤ i →
    L tab (run tab X) 18 [] [.lp [1,1,1,1,1,1,1,0,1,0]] (S18_1111111010 0 l.length 0 p.length 0 out.length (i : Int) (encL l) (encL p) (encL out)) = some ([.fresh true kV (encL (out ++ (l.drop i).filter fun v => decide (v ∈ p))),.p (.int .i64 0)],[]) := by
  intro n
  induction n with
  | zero =>
    intro i out hi ho
    refine L_of ?_
    rw [e18_1111111010,List.drop_eq_nil_of_le (show l.length ≤ i by omega)]
    refine condNP (by omega) ?_
    rw [List.drop_zero,List.take_of_length_le (by simp)]
    simp
  | succ n ih =>
    intro i out hi ho
    have hlt : i < l.length := by omega
    refine L_of ?_
    rw [e18_1111111010]
    refine condP (by omega) (condT (gd hlt) ?_)
    rw [List.drop_zero,List.take_of_length_le (by simp),List.drop_zero,List.take_of_length_le (by simp)]
    simp only [tn,Nat.zero_add,encL_x,encL_y,encL_z]
    refine bindS (c29 X hX p (at_ l i) hp) ?_
    simp only [List.headD_cons,pv_p,toBool_bool]
    rw [drop_at hlt,wr1 (show i < 1099511627776 by omega)]
    by_cases h : at_ l i ∈ p
    · refine condP h (condT (gd hlt) (condP (p := out.length + 1 ≤ 2147483648) (by omega) ?_))
      have e : encL out ++ [PV.agg [.int .i64 (l.getD i default).x,.int .i64 (l.getD i default).y,.int .i64 (l.getD i default).z]] = encL (out ++ [at_ l i]) := by
        rw [encV_mk,encL_one,encL_append]; rfl
      rw [e]
      have := ih (i + 1) (out ++ [at_ l i]) (by omega) (by simp; omega)
      rw [List.filter_cons,if_pos (by simpa using h)]
      simpa using this
    · refine condNP h ?_
      have := ih (i + 1) out (by omega) (by omega)
      rw [List.filter_cons,if_neg (by simpa using h)]
      exact this
theorem c18 (f : List Sh) (hf : Fits f) (many : Int) : run tab X 18 [.p (.list true kS (encF f)),.p (.int .i64 many)] [] = some ([.fresh true kV (encL (formR f many).1),.p (.int .i64 (formR f many).2)],[]) :=
  run_of (hX _ rfl) (by
    rw [e18]
    unfold formR
    by_cases h0 : many < 0
    · rw [if_pos h0]; exact condP h0 rfl
    rw [if_neg h0]
    refine condNP h0 (bindS (c36 X hX f hf) ?_)
    simp only [List.headD_cons,pv_p,toBool_bool]
    obtain ⟨hu,hl⟩ := pts_up f
    have hu' := up_iff.2 hu
    cases hb : figB f
    · rw [pts_bad hb]; rfl
    · refine bindS (c37 X hX f hb) ?_
      simp only [List.headD_cons,List.tail_cons,freshList_fresh,pv_p,toInt_int,fr]
      by_cases h1 : (ptsR f).2 = 0
      · rw [if_neg (by omega)]
        refine condEq h1 (bindS (c11 X hX _ (by omega) many) ?_)
        simp only [List.headD_cons,List.tail_cons,freshList_fresh,pv_p,toInt_int,encL_length]
        by_cases h2 : (pickR (ptsR f).1 many).2 = 0
        · rw [if_neg (by omega)]
          have hp := pickR_len (ptsR f).1 many
          refine condEq h2 ?_
          refine (l18 X hX (ptsR f).1 (pickR (ptsR f).1 many).1 (by omega) (by omega) (ptsR f).1.length 0 [] (by omega) (by simp)).trans ?_
          have e : [] ++ ((ptsR f).1.drop 0).filter (fun v => decide (v ∈ (pickR (ptsR f).1 many).1)) = sdL (pickR (ptsR f).1 many).1 := by
            rw [List.nil_append,List.drop_zero]
            refine sdL_eq (hu.filter _) fun v => ?_
            rw [List.mem_filter,decide_eq_true_eq]
            exact ⟨fun h => h.2,fun h => ⟨(pick_ok hu' many).2 v h,h⟩⟩
          rw [e]
        · rw [if_pos h2]; exact condNe h2 rfl
      · rw [if_pos h1]; exact condNe h1 rfl)
def rowV (l : List Int) : List V3 := l.map fun x => ⟨x,0,0⟩
theorem c23 (l : List Int) (hl : l.length ≤ 1000) : run tab X 23 [.p (.list false [.int .i64] (encI l))] [] = some ([.fresh true kV (encL (rowV l))],[]) := by
  have go : ∀ n i (out : List V3),i + n = l.length → out = rowV (l.take i) → L tab (run tab X) 23 [] [.lp [1,1,0,1,0]] (S23_11010 0 out.length (encI l) ((l.length : Nat) : Int) (i : Int) (encL out)) = some ([.fresh true kV (encL (rowV l))],[]) := by
    intro n
    induction n with
    | zero =>
      intro i out hi ho
      refine L_of ?_
      rw [e23_11010]
      refine condNP (by omega) ?_
      rw [List.drop_zero,List.take_of_length_le (by simp),ho,List.take_of_length_le (by omega)]
    | succ n ih =>
      intro i out hi ho
      have hlt : i < l.length := by omega
      have hol : out.length = i := by rw [ho]; simp [rowV]; omega
      refine L_of ?_
      rw [e23_11010]
      refine condP (by omega) (condT (by rw [encI_length]; exact gd hlt) ?_)
      have ec : (((encI l).getD i .nil).cell 0).toInt = l[i] := by rw [List.getD_eq_getElem?_getD]; simp [encI,hlt]
      rw [tn,ec]
      refine bindS (c19 X hX l[i] 0 0) (condP (p := out.length + 1 ≤ 2147483648) (by omega) ?_)
      rw [List.drop_zero,List.take_of_length_le (by simp),wr1 (by omega)]
      have e : encL out ++ [PV.agg [.int .i64 l[i],.int .i64 0,.int .i64 0]] = encL (out ++ [⟨l[i],0,0⟩]) := by
        rw [← encL_append]; rfl
      have := ih (i + 1) (out ++ [⟨l[i],0,0⟩]) (by omega) (by
        rw [ho]; unfold rowV; rw [List.take_succ_eq_append_getElem hlt,List.map_append]; rfl)
      rw [← e,List.length_append] at this
      exact this
  exact run_of (hX _ rfl) (by rw [e23,encI_length]; exact go l.length 0 [] (by simp) (by simp [rowV]))
omit hX in
theorem p1 : pickR (rowV [0,1,4,10]) 4 = (rowV [0,10,4,1],0) := by decide +kernel
omit hX in
theorem p2 : pickR (rowV [0,1,4,10]) 2 = (rowV [0,10],0) := by decide +kernel
omit hX in
theorem p3 : pickR (rowV [0,1,4,10]) 5 = ([],3) := by decide +kernel
omit hX in
theorem p4 : pickR [⟨-1,0,0⟩,⟨0,0,0⟩,⟨1,0,0⟩,⟨1,1,0⟩] 3 = ([⟨-1,0,0⟩,⟨1,1,0⟩,⟨0,0,0⟩],0) := by decide +kernel
omit hX in
theorem p5 : sprR (rowV [0,1,4]) = (1,0) := by decide +kernel
omit hX in
theorem p6 : sprR (rowV [0]) = (0,9) := by decide +kernel
omit hX in
theorem p7 : covR (rowV [0,1,4]) (rowV [0,4]) = (1,0) := by decide +kernel
omit hX in
theorem p8 : covR [] (rowV [0]) = (0,0) := by decide +kernel
omit hX in
theorem p9 : covR (rowV [0]) [] = (0,9) := by decide +kernel
omit hX in
theorem p10 : formR [⟨2,rowV [0,8],4,0,0,0⟩] 3 = (rowV [0,4,8],0) := by decide +kernel
theorem known (hK : Clones X) (h49 : Keys49 X) (h34 : Sort34 X) : Known X := by
  have a1 := c23 X hX [0,1,4,10] (by decide)
  have a2 := c23 X hX [0,10,4,1] (by decide)
  have a3 := c23 X hX [0,10] (by decide)
  have a4 := c23 X hX [0,1,4] (by decide)
  have a5 := c23 X hX [0] (by decide)
  have a6 := c23 X hX [0,4] (by decide)
  have a7 := c23 X hX [0,8] (by decide)
  have a8 := c23 X hX [0,4,8] (by decide)
  have b1 := c10 X hX hK (rowV [0,1,4,10]) (by decide) 4
  have b2 := c10 X hX hK (rowV [0,1,4,10]) (by decide) 2
  have b3 := c10 X hX hK (rowV [0,1,4,10]) (by decide) 5
  have b4 := c10 X hX hK [⟨-1,0,0⟩,⟨0,0,0⟩,⟨1,0,0⟩,⟨1,1,0⟩] (by decide) 3
  have d1 := c13 X hX (rowV [0,1,4]) (by decide)
  have d2 := c13 X hX (rowV [0]) (by decide)
  have d3 := c15 X hX (rowV [0,1,4]) (rowV [0,4]) (by decide) (by decide)
  have d4 := c15 X hX [] (rowV [0]) (by decide) (by decide)
  have d5 := c15 X hX (rowV [0]) [] (by decide) (by decide)
  have d6 := c17 X hX hK h49 h34 [⟨2,rowV [0,8],4,0,0,0⟩] ⟨by decide,by intro s hs; simp at hs; subst hs; decide⟩ 3
  have s1 := fun (a : List V3) (h : a.length ≤ 2147483648) => c12 X hX a a h
  rw [p1] at b1
  rw [p2] at b2
  rw [p3] at b3
  rw [p4] at b4
  rw [p5] at d1
  rw [p6] at d2
  rw [p7] at d3
  rw [p8] at d4
  rw [p9] at d5
  rw [p10] at d6
  refine run_of (hX _ rfl) ?_
  rw [e9]
  refine bindS a1 ?_
  simp only [List.headD_cons,freshList_fresh]
  refine bindS b1 (bindS b2 (bindS b3 ?_))
  refine bindS (c19 X hX (-1) 0 0) (bindS (c19 X hX 0 0 0) (bindS (c19 X hX 1 0 0) (bindS (c19 X hX 1 1 0) ?_)))
  refine bindS b4 (bindS a2 ?_)
  simp only [List.headD_cons,List.tail_cons,freshList_fresh,pv_p,toInt_int]
  refine bindS (s1 (rowV [0,10,4,1]) (by decide)) ?_
  simp only [List.headD_cons,pv_p,toBool_bool,decide_true,Bool.not_true,cond_false]
  refine condEq rfl (bindS a3 ?_)
  simp only [List.headD_cons,freshList_fresh]
  refine bindS (s1 (rowV [0,10]) (by decide)) ?_
  simp only [List.headD_cons,pv_p,toBool_bool,decide_true,Bool.not_true,cond_false]
  refine condEq rfl (condEq rfl ?_)
  refine bindS (c19 X hX (-1) 0 0) (bindS (c19 X hX 1 1 0) (bindS (c19 X hX 0 0 0) ?_))
  simp only [List.headD_cons,pv_p,toInt_int,cell_agg,List.getD_cons_zero,List.getD_cons_succ]
  refine bindS (s1 [⟨-1,0,0⟩,⟨1,1,0⟩,⟨0,0,0⟩] (by decide)) ?_
  simp only [List.headD_cons,pv_p,toBool_bool,decide_true,Bool.not_true,cond_false]
  refine condEq rfl (bindS a4 ?_)
  simp only [List.headD_cons,freshList_fresh]
  refine bindS d1 (bindS a5 ?_)
  simp only [List.headD_cons,freshList_fresh]
  refine bindS d2 (bindS a4 (bindS a6 ?_))
  simp only [List.headD_cons,freshList_fresh]
  refine bindS d3 (bindS a5 ?_)
  simp only [List.headD_cons,freshList_fresh]
  refine bindS d4 (bindS a5 ?_)
  simp only [List.headD_cons,freshList_fresh]
  refine bindS d5 (bindS a7 ?_)
  simp only [List.headD_cons,freshList_fresh]
  refine bindS d6 ?_
  simp only [List.headD_cons,List.tail_cons,freshList_fresh,pv_p,toInt_int]
  refine condEqs rfl (condEqs rfl (condEqs rfl (condEqs rfl (condEqs rfl (condEqs rfl (condEqs rfl (condEqs rfl (bindS a8 ?_))))))))
  simp only [List.headD_cons,freshList_fresh]
  refine bindS (s1 (rowV [0,4,8]) (by decide)) ?_
  rfl
theorem l6 (hN : Known X) (hK : Clones X) (h49 : Keys49 X) (h34 : Sort34 X) (f : List Sh) (hf : f.length ≤ 3) (many : Int) : ∀ n i,i + n = f.length → (∀ s ∈ f.take i,s.c.length ≤ 6) →
    L tab (run tab X) 6 [] [.lp [1,1,0,1,0]] (S6_11010 (encF f) many (encF f) ((f.length : Nat) : Int) (i : Int)) = some ([.p (.bool true)],[]) := by
  intro n
  induction n with
  | zero =>
    intro i hi hs
    rw [List.take_of_length_le (by omega)] at hs
    have hft : Fits f := ⟨by omega,fun s h => by have := hs s h; omega⟩
    refine L_of ?_
    rw [e6_11010]
    refine condNP (by omega) (bindS (c17 X hX hK h49 h34 f hft many) (bindS (c18 X hX f hft many) ?_))
    simp only [List.headD_cons,List.tail_cons,freshList_fresh,fr,pv_p,toInt_int]
    have hl : (formR f many).1.length ≤ 2147483648 := by
      unfold formR
      repeat' split
      all_goals (try simp)
      have h1 := sdL_len (pickR (ptsR f).1 many).1
      have h2 := pickR_len (ptsR f).1 many
      have h3 := (pts_up f).2
      omega
    refine bindS (c12 X hX _ _ hl) ?_
    simp only [List.headD_cons,pv_p,toBool_bool,decide_true,cond_true]
    exact condEqs rfl (known_end X hN)
  | succ n ih =>
    intro i hi hs
    have hlt : i < f.length := by omega
    have e1 := wr1 (show i < 1099511627776 by omega)
    have kn := known_end X hN
    have el : ((((encF f).getD i .nil).cell 1).toList).length = (sat f i).c.length := by rw [encF_getD f hlt]; simp
    refine L_of ?_
    rw [e6_11010,e1]
    refine condP (by omega) (condT (by rw [encF_length]; exact gd hlt) ?_)
    have iteD : ∀ {p : Prop} {d : Decidable p} {a b x : Option (List AV × List Blk)},a = x → b = x → cond (@decide p d) a b = x := by
      intro p d a b x h1 h2
      by_cases h : p
      · exact condP h h1
      · exact condNP h h2
    rw [tn,el]
    by_cases h6 : (sat f i).c.length > 6
    · exact condP (by omega) kn
    · have nx := ih (i + 1) (by omega) (fun s h => by
        rw [List.take_succ_eq_append_getElem hlt] at h
        rcases List.mem_append.1 h with h | h
        · exact hs s h
        · simp only [List.mem_singleton] at h
          rw [h,← sat_eq hlt]; omega)
      exact condNP (by omega) (iteD (iteD kn (iteD (iteD kn nx) nx)) (iteD (iteD kn nx) nx))
theorem law6 (hN : Known X) (hK : Clones X) (h49 : Keys49 X) (h34 : Sort34 X) (f : List Sh) (many : Int) : run tab X 6 [.p (.list true kS (encF f)),.p (.int .i64 many)] [] = some ([.p (.bool true)],[]) :=
  run_of (hX _ rfl) (by
    have kn := known_end X hN
    have iteD : ∀ {p : Prop} {d : Decidable p} {a b x : Option (List AV × List Blk)},a = x → b = x → cond (@decide p d) a b = x := by
      intro p d a b x h1 h2
      by_cases h : p
      · exact condP h h1
      · exact condNP h h2
    rw [e6,encF_length]
    by_cases h : f.length > 3
    · exact condP (by omega) kn
    · have go := l6 X hX hN hK h49 h34 f (by omega) many f.length 0 (by omega) (by simp)
      exact condNP (by omega) (iteD (iteD kn go) go))
theorem l7 (hN : Known X) (hK : Clones X) (many s : Int) (hm : 1 ≤ many) (hm2 : many ≤ 30) (hs : 1 ≤ s) (hs2 : s ≤ 200) : ∀ n i,i + n = 4097 →
    L tab (run tab X) 7 [] [.lp [1,1,1,0,1,0]] (S7_111010 many s 0 i (i : Int) (encL (grid s i))) = some ([.p (.bool true)],[]) := by
  intro n
  induction n with
  | zero =>
    intro i hi
    have e : i = 4097 := by omega
    subst e
    exact l7end X hX hN hK many s hm hm2 hs hs2
  | succ n ih =>
    intro i hi
    have h1 : 0 ≤ (i : Int) * s := Int.mul_nonneg (by omega) (by omega)
    have h2 : (i : Int) * s ≤ 4096 * 200 := Int.mul_le_mul (by omega) hs2 (by omega) (by omega)
    refine L_of ?_
    rw [e7_111010]
    rw [wrap_eq (x := (i : Int) * s) (by omega) (by omega)]
    refine condP (by omega) (bindS (c19 X hX _ 0 0) (condP (p := i + 1 ≤ 2147483648) (by omega) ?_))
    rw [List.drop_zero,List.take_of_length_le (by simp),wr1 (by omega)]
    simp only [List.headD_cons,pv_p,cell_agg,List.getD_cons_zero,List.getD_cons_succ,toInt_int]
    have e : encL (grid s i) ++ [PV.agg [.int .i64 ((i : Int) * s),.int .i64 0,.int .i64 0]] = encL (grid s (i + 1)) := by
      rw [grid_succ,← encL_append]; rfl
    rw [e]
    exact ih (i + 1) (by omega)
theorem law7 (hN : Known X) (hK : Clones X) (many s : Int) : run tab X 7 [.p (.int .i64 many),.p (.int .i64 s)] [] = some ([.p (.bool true)],[]) :=
  run_of (hX _ rfl) (by
    have kn := known_end X hN
    rw [e7]
    by_cases h1 : many < 1
    · exact condP h1 kn
    refine condNP h1 ?_
    by_cases h2 : many > 30
    · exact condP h2 kn
    refine condNP h2 ?_
    by_cases h3 : s < 1
    · exact condP h3 kn
    refine condNP h3 ?_
    by_cases h4 : s > 200
    · exact condP h4 kn
    refine condNP h4 ?_
    exact l7 X hX hN hK many s (by omega) (by omega) (by omega) (by omega) 4097 0 (by omega))
end
end Go.Skm.Sct
