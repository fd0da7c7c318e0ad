/-
  Equal lists, membership, the nearest point, the cover and the spread of a set: program and document; condition: lists that fit.
-/
import Derived.Test.YtipkmkmngcjdbaaS2
namespace Go.Skm.Sct
open Go Go.Skm
theorem at_eq {l : List V3} {i : Nat} (h : i < l.length) : at_ l i = l[i] := by unfold at_; rw [List.getD_eq_getElem?_getD]; simp [h]
theorem drop_at {l : List V3} {i : Nat} (h : i < l.length) : l.drop i = at_ l i :: l.drop (i + 1) := by rw [List.drop_eq_getElem_cons h, at_eq h]
theorem at_mem {l : List V3} {i : Nat} (h : i < l.length) : at_ l i ∈ l := by rw [at_eq h]; exact List.getElem_mem h
theorem mem_at {l : List V3} {v : V3} (h : v ∈ l) : ∃ i, i < l.length ∧ v = at_ l i := by
  obtain ⟨i, hi, e⟩ := List.getElem_of_mem h
  exact ⟨i, hi, by rw [at_eq hi, e]⟩
theorem ext_at {a b : List V3} (h : a.length = b.length) (h2 : ∀ j, j < a.length → at_ a j = at_ b j) : a = b := by
  apply List.ext_getElem h
  intro j h1 h3
  have := h2 j h1
  rwa [at_eq h1, at_eq h3] at this
theorem veq (a b : V3) : ((a.x == b.x) && ((a.y == b.y) && ((a.z == b.z) && true))) = decide (a = b) := by
  rw [Bool.eq_iff_iff]
  simp only [Bool.and_true, Bool.and_eq_true, beq_iff_eq, decide_eq_true_eq]
  constructor
  · intro h; exact V3.ext' h.1 h.2.1 h.2.2
  · intro h; rw [h]; exact ⟨rfl, rfl, rfl⟩
theorem allP_iff {l : List V3} : allP l = true ↔ ∀ v ∈ l, pnt v = true := by
  unfold allP
  rw [allFrom_iff]
  constructor
  · intro h v hv
    obtain ⟨i, hi, rfl⟩ := mem_at hv
    exact h i (by omega) hi
  · intro h j _ hj
    exact h _ (at_mem hj)
theorem mn_nil (n : Int) (p : V3) : mn n p [] = n := rfl
theorem mn_cons (n : Int) (p q : V3) (l : List V3) : mn n p (q :: l) = mn (min n (d2 p q)) p l := rfl
theorem mn_le : ∀ (l : List V3) (n : Int) (p : V3), mn n p l ≤ n
  | [], n, p => Int.le_refl _
  | q :: l, n, p => by rw [mn_cons]; have := mn_le l (min n (d2 p q)) p; omega
theorem mn_all : ∀ (l : List V3) (n : Int) (p : V3), ∀ q ∈ l, mn n p l ≤ d2 p q
  | [], n, p, q, h => by simp at h
  | c :: l, n, p, q, h => by
    rw [mn_cons]
    rcases List.mem_cons.1 h with rfl | h
    · have := mn_le l (min n (d2 p q)) p; omega
    · exact mn_all l _ p q h
theorem mn_or : ∀ (l : List V3) (n : Int) (p : V3), mn n p l = n ∨ ∃ q ∈ l, mn n p l = d2 p q
  | [], n, p => .inl rfl
  | c :: l, n, p => by
    rw [mn_cons]
    rcases mn_or l (min n (d2 p c)) p with h | ⟨q, h1, h2⟩
    · rw [h]
      by_cases h3 : n ≤ d2 p c
      · left; omega
      · right; exact ⟨c, by simp, by omega⟩
    · exact .inr ⟨q, by simp [h1], h2⟩
theorem mn_append (n : Int) (p : V3) (l m : List V3) : mn n p (l ++ m) = mn (mn n p l) p m := by unfold mn; rw [List.foldl_append]
theorem nr_far {p : V3} (hp : pnt p = true) {l : List V3} (h : ∀ v ∈ l, pnt v = true) (h0 : l ≠ []) : mn far p l = nr p l := by
  cases l with
  | nil => exact absurd rfl h0
  | cons c cs =>
    rw [mn_cons]
    have := d2_far hp (h c (by simp))
    rw [Int.min_eq_right (by omega)]
    rfl
theorem nr_all {p : V3} {l : List V3} {q : V3} (h : q ∈ l) : nr p l ≤ d2 p q := by
  cases l with
  | nil => simp at h
  | cons c cs =>
    show mn (d2 p c) p cs ≤ _
    rcases List.mem_cons.1 h with rfl | h
    · exact mn_le _ _ _
    · exact mn_all _ _ _ q h
theorem nr_or {p : V3} {l : List V3} (h : l ≠ []) : ∃ q ∈ l, nr p l = d2 p q := by
  cases l with
  | nil => exact absurd rfl h
  | cons c cs =>
    rcases mn_or cs (d2 p c) p with h | ⟨q, h1, h2⟩
    · exact ⟨c, by simp, h⟩
    · exact ⟨q, by simp [h1], h2⟩
section
variable (X : Ext) (hX : Mine X)
include hX
omit hX in
theorem l12 (a b : List V3) (hl : a.length ≤ 2147483648) (hab : a.length = b.length) : ∀ m i, i + m = a.length → L tab (run tab X) 12 [] [.lp [1, 1, 0, 1, 0]] (S12_11010 (encL a) (encL b) (i : Int)) = some ([.p (.bool (allFrom (fun j => decide (at_ a j = at_ b j)) i a.length))], []) := by
  intro m
  induction m with
  | zero =>
    intro i hi
    refine L_of ?_
    rw [e12_11010, allFrom_nil (by omega)]; exact condNP (by rw [encL_length]; omega) rfl
  | succ m ih =>
    intro i hi
    have hlt : i < a.length := by omega
    refine L_of ?_
    rw [e12_11010]
    refine condP (by rw [encL_length]; omega) (condT (by rw [encL_length]; exact gd hlt) (condT (by rw [encL_length]; exact gd (by omega)) ?_))
    simp only [tn, encL_x, encL_y, encL_z, veq, wr1 (show i < 1099511627776 by omega)]
    rw [allFrom_cons hlt, ih (i + 1) (by omega)]
    show cond (!decide (at_ a i = at_ b i)) _ _ = _
    cases decide (at_ a i = at_ b i) <;> rfl
theorem c12 (a b : List V3) (hl : a.length ≤ 2147483648) : run tab X 12 [.p (.list true kV (encL a)), .p (.list true kV (encL b))] [] = some ([.p (.bool (decide (a = b)))], []) :=
  run_of (hX _ rfl) (by
    rw [e12]
    by_cases h : a.length = b.length
    · refine condEq (by rw [encL_length, encL_length, h]) ?_
      refine (l12 X a b hl h a.length 0 (by omega)).trans ?_
      have : allFrom (fun j => decide (at_ a j = at_ b j)) 0 a.length = decide (a = b) := by
        rw [Bool.eq_iff_iff, allFrom_iff]
        simp only [decide_eq_true_eq]
        exact ⟨fun h2 => ext_at h fun j hj => h2 j (by omega) hj, fun h2 j _ _ => by rw [h2]⟩
      rw [this]
    · refine condNe (by rw [encL_length, encL_length]; omega) ?_
      have : ¬ a = b := fun e => h (by rw [e])
      simp [this])
end
def cov (l ch : List V3) (n : Int) : Int := l.foldl (fun n a => max n (nr a ch)) n
def covR (l ch : List V3) : Int × Int := if isSet l = true ∧ pts ch = true then (if ch = [] then (0, 9) else (cov l ch 0, 0)) else (0, 2)
theorem set_pts {l : List V3} (h : isSet l = true) : l.length ≤ 4096 ∧ ∀ v ∈ l, pnt v = true := by
  unfold isSet pts at h
  simp only [Bool.and_eq_true, decide_eq_true_eq] at h
  exact ⟨h.2.1, allP_iff.1 h.2.2⟩
theorem pts_pts {l : List V3} (h : pts l = true) : l.length ≤ 4096 ∧ ∀ v ∈ l, pnt v = true := by
  unfold pts at h
  simp only [Bool.and_eq_true, decide_eq_true_eq] at h
  exact ⟨h.1, allP_iff.1 h.2⟩
section
variable (X : Ext) (hX : Mine X)
include hX
theorem l15i (l ch : List V3) (most : Int) (i : Nat) (a : V3) (hp : pnt a = true) (hl : ch.length ≤ 2147483648) (hc : ∀ v ∈ ch, pnt v = true) (r : List AV × List Blk) : ∀ m k n, k + m = ch.length →
    L tab (run tab X) 15 [] [.lp [1, 1, 1, 1, 0, 1, 0]] (S15_1111010 (encL ch) (max most (mn n a (ch.drop k))) (encL l) ((l.length : Nat) : Int) (IntKind.i64.wrap ((i : Int) + 1))) = some r →
    L tab (run tab X) 15 [] [.lp [1, 1, 1, 1, 0, 1, 0], .lp [1, 1, 0, 0, 1, 1, 0, 1, 0]] (S15_1111010_110011010 (encL ch) most n (encL l) ((l.length : Nat) : Int) (i : Int) (encL ch) ((ch.length : Nat) : Int) (k : Int) a.x a.y a.z) = some r := by
  intro m
  induction m with
  | zero =>
    intro k n hk h
    refine L_of ?_
    rw [e15_1111010_110011010]
    refine condNP (by omega) ?_
    rw [List.drop_eq_nil_of_le (by omega), mn_nil] at h
    rw [goMax_eq]; exact h
  | succ m ih =>
    intro k n hk h
    have hlt : k < ch.length := by omega
    have c28' := c28 X hX a (ch.getD k default) hp (hc _ (at_mem hlt))
    refine L_of ?_
    rw [e15_1111010_110011010]
    refine condP (by omega) (condT (by rw [encL_length]; exact gd hlt) ?_)
    simp only [tn, encL_x, encL_y, encL_z, c28', Option.bind_some, List.headD_cons, pv_p, toInt_int, wr1 (show k < 1099511627776 by omega), goMin_eq]
    rw [drop_at hlt, mn_cons] at h
    exact ih (k + 1) _ (by omega) h
theorem l15 (l ch : List V3) (hl : l.length ≤ 2147483648) (hla : ∀ v ∈ l, pnt v = true) (hch : ch.length ≤ 2147483648) (hc : ∀ v ∈ ch, pnt v = true) (h0 : ch ≠ []) : ∀ m i n, i + m = l.length →
    L tab (run tab X) 15 [] [.lp [1, 1, 1, 1, 0, 1, 0]] (S15_1111010 (encL ch) n (encL l) ((l.length : Nat) : Int) (i : Int)) = some ([.p (.int .i64 (cov (l.drop i) ch n)), .p (.int .i64 0)], []) := by
  intro m
  induction m with
  | zero =>
    intro i n hi
    refine L_of ?_
    rw [e15_1111010, List.drop_eq_nil_of_le (by omega)]
    exact condNP (by omega) rfl
  | succ m ih =>
    intro i n hi
    have hlt : i < l.length := by omega
    refine L_of ?_
    rw [e15_1111010]
    refine condP (by omega) (condT (by rw [encL_length]; exact gd hlt) ?_)
    simp only [tn, encL_x, encL_y, encL_z, encL_length]
    refine l15i X hX l ch n i (l.getD i default) (hla _ (at_mem hlt)) hch hc _ ch.length 0 _ (by omega) ?_
    rw [wr1 (show i < 1099511627776 by omega), List.drop_zero]
    change L tab (run tab X) 15 [] _ (S15_1111010 (encL ch) (max n (mn far (at_ l i) ch)) _ _ _) = _
    rw [nr_far (hla _ (at_mem hlt)) hc h0, ih (i + 1) _ (by omega), drop_at hlt]
    rfl
theorem c15 (l ch : List V3) (hl : l.length ≤ 2147483648) (hch : ch.length ≤ 2147483648) : run tab X 15 [.p (.list true kV (encL l)), .p (.list true kV (encL ch))] [] = some ([.p (.int .i64 (covR l ch).1), .p (.int .i64 (covR l ch).2)], []) :=
  run_of (hX _ rfl) (by
    rw [e15, c24 X hX l hl]
    simp only [Option.bind_some, List.headD_cons, pv_p, toBool_bool]
    unfold covR
    by_cases h1 : isSet l = true
    · rw [h1, c31 X hX]
      simp only [Option.bind_some, List.headD_cons, pv_p, toBool_bool, Bool.not_true, cond_false]
      by_cases h2 : pts ch = true
      · rw [h2, if_pos (by simp)]
        simp only [Bool.not_true, cond_false]
        by_cases h3 : ch = []
        · rw [if_pos h3]; exact condEqs (by rw [h3]; rfl) rfl
        · rw [if_neg h3]
          refine condNes (by rw [encL_length]; have := List.length_pos_iff.2 h3; omega) ?_
          rw [encL_length]
          exact l15 X hX l ch hl (set_pts h1).2 hch (pts_pts h2).2 h3 l.length 0 0 (by omega)
      · have h2' : pts ch = false := by simpa using h2
        rw [h2', if_neg (by simp)]; rfl
    · have h1' : isSet l = false := by simpa using h1
      rw [h1', if_neg (by simp)]; rfl)
end
end Go.Skm.Sct
