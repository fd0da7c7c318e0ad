/-
  The document's hull, whole; condition: parts in range, and a way round the corners.
-/
import Derived.Test.YthdegeidcjdkeaaCt11
namespace Go.Skm.Hull
open Go Go.Skm

theorem insD_drop_lt {p : V3} {s : List V3} {a : Nat} (ha : a < s.length) (h : cmpV (s.getD a default) p < 0) : s.take a ++ insD p (s.drop a) = s.take (a + 1) ++ insD p (s.drop (a + 1)) := by
  rw [drop_getD ha, insD, if_pos h, take_getD ha, List.append_assoc]; rfl
theorem insD_drop_eq {p : V3} {s : List V3} {a : Nat} (ha : a < s.length) (h : ¬ cmpV (s.getD a default) p < 0) (h2 : s.getD a default = p) : s.take a ++ insD p (s.drop a) = s := by
  rw [drop_getD ha, insD, if_neg h, if_pos h2, ← drop_getD ha, List.take_append_drop]
theorem insD_drop_gt {p : V3} {s : List V3} {a : Nat} (ha : a < s.length) (h : ¬ cmpV (s.getD a default) p < 0) (h2 : s.getD a default ≠ p) : s.take a ++ insD p (s.drop a) = s.take a ++ p :: s.drop a := by
  rw [drop_getD ha, insD, if_neg h, if_neg h2]
theorem insD_drop_end {p : V3} {s : List V3} {a : Nat} (ha : s.length ≤ a) : s.take a ++ insD p (s.drop a) = s.take a ++ p :: s.drop a := by
  rw [List.drop_of_length_le ha]; rfl
theorem condV (u v : V3) {α : Type} (x y : α) : cond (u.x == v.x) (cond (u.y == v.y) (cond (u.z == v.z) x y) y) y = if u = v then x else y := by
  have := eqV u v
  by_cases h : u = v
  · subst h; simp
  · rw [if_neg h]
    rw [decide_eq_false h] at this
    cases h1 : u.x == v.x <;> cases h2 : u.y == v.y <;> cases h3 : u.z == v.z <;> simp_all
theorem ins_form (s : List V3) (p : V3) (a : Nat) (ha : a ≤ s.length) :
    ((((encL s).drop (0 + 0)).take ((a : Int) - 0).toNat).drop 0).take ((a : Int) - 0).toNat ++ ((([.agg [.int .i64 p.x, .int .i64 p.y, .int .i64 p.z]] : List PV) ++ (((encL s).drop (0 + a)).take ((s.length : Int) - (a : Int)).toNat)).drop 0).take (1 + ((s.length : Int) - (a : Int)).toNat) = encL (s.take a ++ p :: s.drop a) := by
  have e1 : ((a : Int) - 0).toNat = a := by omega
  have e2 : ((s.length : Int) - (a : Int)).toNat = s.length - a := by omega
  rw [e1, e2, Nat.zero_add, Nat.zero_add, List.drop_zero, List.drop_zero, List.drop_zero, encL_take, encL_take, encL_drop, encL_take, encV_mk, encL_one, encL_append, encL_take, encL_append]
  congr 1
  rw [List.take_take, Nat.min_self, List.take_of_length_le (l := s.drop a) (by simp), List.take_of_length_le (l := [_] ++ _) (by simp; omega)]
  rfl

section
variable (X : Ext) (hX : ∀ f, f ≠ 30 → X f = none)
include hX

theorem c13_ins (l : List V3) (hl : l.length ≤ 10000) {x : List AV × List Blk} (i : Nat) (hi : i < l.length) (s : List V3) (hs : s.length ≤ i)
    (hnext : L tab (run tab X) 13 [] [[1, 1, 0, 1, 0]] (S13_11010 (encL l) 0 (insD (flatV (gt l i)) s).length ((i + 1 : Nat) : Int) (encL (insD (flatV (gt l i)) s))) = some x) :
    L tab (run tab X) 13 [] [[1, 1, 0, 1, 0]] (S13_11010 (encL l) 0 s.length (i : Int) (encL s)) = some x := by
  refine L_of ?_
  rw [e13_11010]
  simp only [condD, condA, encL_length, Int.toNat_natCast, encL_x, encL_y]
  rw [if_pos (by omega), if_pos (by omega), if_pos (by omega), if_pos (by omega), if_pos (by omega)]
  have key : ∀ c a : Nat, a + c = s.length → insD (flatV (gt l i)) s = s.take a ++ insD (flatV (gt l i)) (s.drop a) →
      L tab (run tab X) 13 [] [[1, 1, 0, 1, 0], [1, 0, 0, 1, 1, 0, 0]] (S13_11010_1001100 (encL l) 0 s.length (i : Int) (a : Int) (encL s) (flatV (gt l i)).x (flatV (gt l i)).y (flatV (gt l i)).z) = some x := by
    intro c
    induction c with
    | zero =>
      intro a ha he
      refine L_of ?_
      rw [e13_11010_1001100]
      simp only [condD, condA, Int.toNat_natCast, wrap_nat (show i < 4611686018427387904 by omega)]
      rw [if_neg (by omega), if_neg (by omega), ins_form s _ a (by omega)]
      rw [insD_drop_end (by omega)] at he
      rw [if_pos (by omega), if_pos (by omega), if_pos (by omega), if_pos (by omega), if_pos (by omega), if_pos (by omega), if_pos (by omega), if_pos (by omega), if_pos (by omega), if_pos (by omega)]
      rw [he] at hnext
      have el : (s.take a ++ flatV (gt l i) :: s.drop a).length = ((a : Int) - 0).toNat + (1 + ((s.length : Int) - (a : Int)).toNat) := by
        simp only [List.length_append, List.length_cons, List.length_take, List.length_drop]; omega
      rw [← el]
      exact hnext
    | succ c ih =>
      intro a ha he
      refine L_of ?_
      rw [e13_11010_1001100]
      have q := c35 X hX (gt s a) (flatV (gt l i))
      simp only [encV, gt] at q
      simp only [condD, condA, Int.toNat_natCast, Nat.zero_add, encL_x, encL_y, encL_z, wrap_nat (show i < 4611686018427387904 by omega), wrap_nat (show a < 4611686018427387904 by omega), gt]
      rw [if_pos (by omega), if_pos (by omega), if_pos (by omega)]
      simp only [q, Option.bind_some, List.headD_cons, pv_p, toInt_int]
      change (if cmpV (gt s a) (flatV (gt l i)) < 0 then _ else _) = _
      by_cases h1 : cmpV (gt s a) (flatV (gt l i)) < 0
      · rw [if_pos h1]
        exact ih (a + 1) (by omega) (he.trans (insD_drop_lt (by omega) h1))
      rw [if_neg h1, if_pos (by omega), if_pos (by omega), if_pos (by omega)]
      simp only [cond_true, condV]
      change (if gt s a = flatV (gt l i) then _ else _) = _
      by_cases h2 : gt s a = flatV (gt l i)
      · rw [if_pos h2]
        rw [he, insD_drop_eq (by omega) h1 h2] at hnext
        exact hnext
      · rw [if_neg h2]
        rw [insD_drop_gt (by omega) h1 h2] at he
        rw [he] at hnext
        have el : (s.take a ++ flatV (gt l i) :: s.drop a).length = ((a : Int) - 0).toNat + (1 + ((s.length : Int) - (a : Int)).toNat) := by
          simp only [List.length_append, List.length_cons, List.length_take, List.length_drop]; omega
        have fm := ins_form s (flatV (gt l i)) a (by omega)
        simp only [Nat.zero_add] at fm
        rw [← fm, el] at hnext
        rw [if_pos (by omega), if_pos (by omega), if_pos (by omega), if_pos (by omega), if_pos (by omega), if_pos (by omega), if_pos (by omega), if_pos (by omega), if_pos (by omega), if_pos (by omega)]
        exact hnext
  exact key s.length 0 (by omega) rfl

theorem c13_flat (l : List V3) (hl : l.length ≤ 10000) {x : List AV × List Blk} 
    (hnext : L tab (run tab X) 13 [] [[1, 1, 1, 1, 0, 1, 0]] (S13_1111010 0 (flatD [] l).length 0 0 0 (encL (flatD [] l)) []) = some x) :
    run tab X 13 [.p (.list true kV (encL l))] [] = some x := by
  refine run_of (hX _ (by decide)) ?_
  rw [e13]
  have key : ∀ k i : Nat, i + k = l.length → ∀ s : List V3, s.length ≤ i → flatD s (l.drop i) = flatD [] l → L tab (run tab X) 13 [] [[1, 1, 0, 1, 0]] (S13_11010 (encL l) 0 s.length (i : Int) (encL s)) = some x := by
    intro k
    induction k with
    | zero =>
      intro i hi s hs he
      refine L_of ?_
      rw [e13_11010]
      simp only [condD, encL_length]
      rw [if_neg (by omega)]
      rw [List.drop_of_length_le (by omega), flatD] at he
      rw [he]
      exact hnext
    | succ k ih =>
      intro i hi s hs he
      refine c13_ins X hX l hl i (by omega) s hs (ih (i + 1) (by omega) _ ?_ ?_)
      · have := insD_len (flatV (gt l i)) s; omega
      · rw [drop_getD (by omega), flatD] at he
        exact he
  exact key l.length 0 (by omega) [] (by simp) rfl

theorem c13_corn (f : List V3) (hl : f.length ≤ 10000) (hb : ∀ v ∈ f, Bd 16777216 v) {x : List AV × List Blk} (c0 : V3) (c : List V3) (hc : f.filter (fun p => !covR f p) = c0 :: c)
    (hnext : L tab (run tab X) 13 [] [[1, 1, 1, 1, 1, 1, 0, 0]] (S13_11111100 0 (c.length + 1) 0 1 (encL (c0 :: c)) (encL [c0])) = some x) :
    L tab (run tab X) 13 [] [[1, 1, 1, 1, 0, 1, 0]] (S13_1111010 0 f.length 0 0 0 (encL f) []) = some x := by
  have key : ∀ k i : Nat, i + k = f.length → ∀ s : List V3, s.length ≤ i → s ++ (f.drop i).filter (fun p => !covR f p) = c0 :: c → L tab (run tab X) 13 [] [[1, 1, 1, 1, 0, 1, 0]] (S13_1111010 0 f.length 0 s.length (i : Int) (encL f) (encL s)) = some x := by
    intro k
    induction k with
    | zero =>
      intro i hi s hs he
      refine L_of ?_
      rw [e13_1111010]
      rw [List.drop_of_length_le (by omega), List.filter_nil, List.append_nil] at he
      subst he
      simp only [condD, List.length_cons]
      rw [if_neg (by omega), if_pos (by omega)]
      exact hnext
    | succ k ih =>
      intro i hi s hs he
      refine L_of ?_
      rw [e13_1111010]
      have q := c36 X hX f (gt f i) (by omega) hb (hb _ (gt_mem (by omega)))
      have ht : ((encL f).drop 0).take f.length = encL f := by rw [List.drop_zero, List.take_of_length_le (by simp)]
      simp only [encV, gt] at q
      simp only [condD, condA, condO, Int.toNat_natCast, Nat.zero_add, encL_x, encL_y, encL_z, wrap_nat (show i < 4611686018427387904 by omega), ht, q, Option.bind_some, List.headD_cons, pv_p, toBool_bool]
      rw [if_pos (by omega), if_pos (by omega), if_pos (by omega)]
      rw [drop_getD (by omega), List.filter_cons] at he
      by_cases hcv : covR f (f.getD i default) = true
      · rw [if_neg (by rw [hcv]; simp)] at he
        rw [hcv]
        exact ih (i + 1) (by omega) s (by omega) he
      · have hcv' : covR f (f.getD i default) = false := by simpa using hcv
        rw [if_pos (by rw [hcv']; rfl)] at he
        rw [hcv']
        simp only [cond_false]
        rw [if_pos (by omega), if_pos (by omega), if_pos (by omega), List.drop_zero, List.take_of_length_le (by simp), encV_mk, encL_one, encL_append]
        have := ih (i + 1) (by omega) (s ++ [f.getD i default]) (by simp; omega) (by rw [List.append_assoc]; exact he)
        rw [List.length_append] at this
        exact this
  exact key f.length 0 (by omega) [] (by simp) (by simpa using hc)

theorem c13_wrap (c : List V3) (hl : c.length ≤ 10000) (hb : ∀ v ∈ c, Bd 16777216 v) (h : List V3) (hh : ∀ v ∈ h, Bd 16777216 v) (hlen : h.length = c.length) (i : Nat) (hi : 0 < i) (hi2 : i < h.length)
    (hf : c.find? (fineD c (gt h (i - 1))) = some (gt h i)) {x : List AV × List Blk}
    (hnext : L tab (run tab X) 13 [] [[1, 1, 1, 1, 1, 1, 0, 0]] (S13_11111100 0 c.length 0 (i + 1) (encL c) (encL (h.take (i + 1)))) = some x) :
    L tab (run tab X) 13 [] [[1, 1, 1, 1, 1, 1, 0, 0]] (S13_11111100 0 c.length 0 i (encL c) (encL (h.take i))) = some x := by
  have ha : gt (h.take i) (i - 1) = gt h (i - 1) := by
    unfold gt
    rw [List.getD_eq_getElem?_getD, List.getD_eq_getElem?_getD, List.getElem?_take, if_pos (by omega)]
  refine L_of ?_
  rw [e13_11111100]
  simp only [condD, condA, wrap_pred hi (by omega), Int.toNat_natCast, Nat.zero_add, encL_x, encL_y, encL_z]
  rw [if_pos (by omega), if_pos (by omega), if_pos (by omega)]
  change L tab (run tab X) 13 [] _ (S13_11111100_10110 0 c.length 0 i 0 (encL c) (encL (h.take i)) (gt (h.take i) (i - 1)).x (gt (h.take i) (i - 1)).y (gt (h.take i) (i - 1)).z) = _
  rw [ha]
  have ba := hh _ (gt_mem (h := h) (i := i - 1) (by omega))
  have test : ∀ j : Nat, j < c.length → ∀ k m : Nat, m + k = c.length → ∀ fine : Bool,
      (fine && (c.drop m).all (fun q => decide (turnS (gt h (i - 1)) (gt c j) q ≥ 0))) = fineD c (gt h (i - 1)) (gt c j) →
      (fineD c (gt h (i - 1)) (gt c j) = true → gt c j = gt h i) →
      (fineD c (gt h (i - 1)) (gt c j) = false → L tab (run tab X) 13 [] [[1, 1, 1, 1, 1, 1, 0, 0], [1, 0, 1, 1, 0]] (S13_11111100_10110 0 c.length 0 i ((j + 1 : Nat) : Int) (encL c) (encL (h.take i)) (gt h (i - 1)).x (gt h (i - 1)).y (gt h (i - 1)).z) = some x) →
      L tab (run tab X) 13 [] [[1, 1, 1, 1, 1, 1, 0, 0], [1, 0, 1, 1, 0], [1, 0, 0, 1, 1, 0, 1, 0]] (S13_11111100_10110_10011010 0 c.length 0 i (j : Int) fine (m : Int) (encL c) (encL (h.take i)) (gt h (i - 1)).x (gt h (i - 1)).y (gt h (i - 1)).z (gt c j).x (gt c j).y (gt c j).z) = some x := by
    intro j hj k
    induction k with
    | zero =>
      intro m hm fine he hyes hno
      refine L_of ?_
      rw [e13_11111100_10110_10011010]
      rw [List.drop_of_length_le (by omega), List.all_nil, Bool.and_true] at he
      subst he
      simp only [condD, wrap_nat (show j < 4611686018427387904 by omega)]
      rw [if_neg (by omega)]
      cases hfin : fineD c (gt h (i - 1)) (gt c j) with
      | true =>
        simp only [cond_true]
        have e := hyes hfin
        rw [if_pos (by omega), List.drop_zero, List.take_of_length_le (by simp; omega), e, encV_mk, encL_one, encL_append]
        rw [take_getD (by omega)] at hnext
        exact hnext
      | false => exact hno hfin
    | succ k ih =>
      intro m hm fine he hyes hno
      refine L_of ?_
      rw [e13_11111100_10110_10011010]
      have q := c37 X hX (gt h (i - 1)) (gt c j) (gt c m) ba (hb _ (gt_mem hj)) (hb _ (gt_mem (by omega)))
      simp only [encV] at q
      simp only [condD, condA, Int.toNat_natCast, Nat.zero_add, encL_x, encL_y, encL_z, wrap_nat (show m < 4611686018427387904 by omega)]
      rw [if_pos (by omega)]
      rw [drop_getD (by omega), List.all_cons] at he
      cases fine with
      | false =>
        simp only [cond_false]
        refine ih (m + 1) (by omega) false ?_ hyes hno
        rw [Bool.false_and] at he ⊢
        exact he
      | true =>
        simp only [cond_true]
        rw [if_pos (by omega), if_pos (by omega)]
        change ((run tab X 37 [.p (.agg [.int .i64 (gt h (i - 1)).x, .int .i64 (gt h (i - 1)).y, .int .i64 (gt h (i - 1)).z]), .p (.agg [.int .i64 (gt c j).x, .int .i64 (gt c j).y, .int .i64 (gt c j).z]), .p (.agg [.int .i64 (gt c m).x, .int .i64 (gt c m).y, .int .i64 (gt c m).z])] []).bind _) = _
        rw [q]
        refine ih (m + 1) (by omega) (decide (turnS (gt h (i - 1)) (gt c j) (gt c m) ≥ 0)) ?_ hyes hno
        rw [Bool.true_and] at he
        exact he
  have find : ∀ k j : Nat, j + k = c.length → (c.drop j).find? (fineD c (gt h (i - 1))) = some (gt h i) → L tab (run tab X) 13 [] [[1, 1, 1, 1, 1, 1, 0, 0], [1, 0, 1, 1, 0]] (S13_11111100_10110 0 c.length 0 i (j : Int) (encL c) (encL (h.take i)) (gt h (i - 1)).x (gt h (i - 1)).y (gt h (i - 1)).z) = some x := by
    intro k
    induction k with
    | zero =>
      intro j hj hf
      rw [List.drop_of_length_le (by omega)] at hf
      simp at hf
    | succ k ih =>
      intro j hj hf
      refine L_of ?_
      rw [e13_11111100_10110]
      simp only [condD, condA, Int.toNat_natCast, Nat.zero_add, encL_x, encL_y, encL_z]
      rw [if_pos (by omega), if_pos (by omega), if_pos (by omega)]
      rw [drop_getD (by omega), List.find?_cons] at hf
      refine test j (by omega) c.length 0 (by omega) _ ?_ ?_ ?_
      · rw [List.drop_zero]
        unfold fineD
        congr 2
        exact eqV (gt h (i - 1)) (gt c j)
      · intro hfin
        change (match fineD c (gt h (i - 1)) (gt c j) with | true => some (gt c j) | false => _) = _ at hf
        rw [hfin] at hf
        exact Option.some.inj hf
      · intro hfin
        change (match fineD c (gt h (i - 1)) (gt c j) with | true => some (gt c j) | false => _) = _ at hf
        rw [hfin] at hf
        exact ih (j + 1) (by omega) hf
  exact find c.length 0 (by omega) hf

omit hX in
theorem wrap_at {c : List V3} : ∀ {t : List V3} {a : V3}, Wrap c a t → ∀ i, i < t.length → c.find? (fineD c (gt (a :: t) i)) = some (gt (a :: t) (i + 1))
  | [], _, _, i, hi => by simp at hi
  | b :: r, a, ⟨h1, _⟩, 0, _ => h1
  | b :: r, a, ⟨_, h2⟩, i + 1, hi => wrap_at h2 i (by simpa using hi)

theorem c13 (l : List V3) (hl : l.length ≤ 10000) (hb : ∀ v ∈ l, Bd 1048576 v) (a : V3) (t : List V3) (c : List V3) (hc : cornD l = a :: c) (hlen : t.length = c.length) (ht : ∀ v ∈ t, Bd 16777216 v) (hw : Wrap (a :: c) a t) :
    run tab X 13 [.p (.list true kV (encL l))] [] = some ([.fresh true kV (encL (a :: t))], []) := by
  have hbf : ∀ v ∈ flatD [] l, Bd 16777216 v := by
    intro v hv
    rcases (flatD_mem l [] v).1 hv with h | ⟨u, hu, rfl⟩
    · simp at h
    · have := (hb u hu).mono (n := 16777216) (by decide)
      exact ⟨this.1, this.2.1, by simp [flatV]⟩
  have hbc : ∀ v ∈ a :: c, Bd 16777216 v := by
    intro v hv
    rw [← hc] at hv
    exact hbf v (List.mem_filter.1 hv).1
  have hll : (flatD [] l).length ≤ 10000 := by have := flatD_len l []; simp at this; omega
  have hcl : (a :: c).length ≤ 10000 := by
    rw [← hc]
    exact Nat.le_trans (List.length_filter_le _ _) hll
  have hbh : ∀ v ∈ a :: t, Bd 16777216 v := by
    intro v hv
    rcases List.mem_cons.1 hv with rfl | hv
    · exact hbc _ (by simp)
    · exact ht v hv
  refine c13_flat X hX l hl (c13_corn X hX _ hll hbf a c hc ?_)
  have key : ∀ k i : Nat, i + k = (a :: t).length → 0 < i → L tab (run tab X) 13 [] [[1, 1, 1, 1, 1, 1, 0, 0]] (S13_11111100 0 (a :: c).length 0 i (encL (a :: c)) (encL ((a :: t).take i))) = some ([.fresh true kV (encL (a :: t))], []) := by
    intro k
    induction k with
    | zero =>
      intro i hi h0
      refine L_of ?_
      rw [e13_11111100]
      simp only [condD]
      rw [if_neg (by simp at hi ⊢; omega), List.drop_zero, encL_take, List.take_take, Nat.min_self, List.take_of_length_le (by omega)]
    | succ k ih =>
      intro i hi h0
      refine c13_wrap X hX (a :: c) hcl hbc (a :: t) hbh (by simp [hlen]) i h0 (by omega) ?_ (ih (i + 1) (by omega) (by omega))
      have := wrap_at hw (i - 1) (by simp at hi; omega)
      rwa [show i - 1 + 1 = i from by omega] at this
  exact key t.length 1 (by simp; omega) (by omega)
end
end Go.Skm.Hull
