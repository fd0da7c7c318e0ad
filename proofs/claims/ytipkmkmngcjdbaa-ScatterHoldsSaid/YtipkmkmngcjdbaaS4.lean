/-
  The order of a set's points; the spread of a set, by the program (which leaves a round early) and by the document; condition: lists that fit.
-/
import Derived.Test.YtipkmkmngcjdbaaS3
namespace Go.Skm.Sct
open Go Go.Skm
theorem cmp_lt {a b : V3} : cmpV a b = -1 ↔ a.x < b.x ∨ (a.x = b.x ∧ (a.y < b.y ∨ (a.y = b.y ∧ a.z < b.z))) := by
  unfold cmpV cmpI; repeat' split
  all_goals simp <;> omega
theorem cmp_gt {a b : V3} : cmpV a b = 1 ↔ cmpV b a = -1 := by
  rw [cmp_lt]
  unfold cmpV cmpI; repeat' split
  all_goals simp <;> omega
theorem cmp_eq {a b : V3} : cmpV a b = 0 ↔ a = b := by
  constructor
  · intro h
    apply V3.ext' <;> (revert h; unfold cmpV cmpI; repeat' split) <;> simp <;> omega
  · rintro rfl; simp [cmpV, cmpI]
theorem lt_trans {a b c : V3} (h1 : cmpV a b = -1) (h2 : cmpV b c = -1) : cmpV a c = -1 := by
  rw [cmp_lt] at *; omega
theorem up_lt {l : List V3} (h : up l = true) {i : Nat} : ∀ {j : Nat}, i < j → j < l.length → cmpV (at_ l i) (at_ l j) = -1 := by
  have h1 : ∀ j, j + 1 < l.length → cmpV (at_ l j) (at_ l (j + 1)) = -1 := fun j hj => of_decide_eq_true (allFrom_iff.1 h j (by omega) (by omega))
  intro j
  induction j with
  | zero => intro h; omega
  | succ j ih =>
    intro hij hj
    by_cases e : i = j
    · subst e; exact h1 i hj
    · exact lt_trans (ih (by omega) (by omega)) (h1 j hj)
theorem set_up {l : List V3} (h : isSet l = true) : up l = true := by
  unfold isSet at h; simp only [Bool.and_eq_true] at h; exact h.1
theorem up_x {l : List V3} (h : up l = true) {i j : Nat} (hij : i < j) (hj : j < l.length) : (at_ l i).x ≤ (at_ l j).x := by
  have := cmp_lt.1 (up_lt h hij hj); omega
theorem up_ne {l : List V3} (h : up l = true) {i j : Nat} (hij : i ≠ j) (hi : i < l.length) (hj : j < l.length) : at_ l i ≠ at_ l j := by
  intro e
  rcases Nat.lt_or_gt_of_ne hij with h1 | h1
  · have := up_lt h h1 hj; rw [e, cmp_eq.2 rfl] at this; omega
  · have := up_lt h h1 hi; rw [e, cmp_eq.2 rfl] at this; omega
def brk : Int → V3 → List V3 → Int
  | n, _, [] => n
  | n, a, b :: bs => if (b.x - a.x) * (b.x - a.x) ≥ n then n else brk (min n (d2 a b)) a bs
theorem d2_x (a b : V3) : (b.x - a.x) * (b.x - a.x) ≤ d2 a b := by
  rw [d2_comm]
  have h2 := sq_nn (b.y - a.y)
  have h3 := sq_nn (b.z - a.z)
  unfold d2; omega
theorem mn_far : ∀ (bs : List V3) (n : Int) (a : V3), (∀ b ∈ bs, n ≤ d2 a b) → mn n a bs = n
  | [], _, _, _ => rfl
  | b :: bs, n, a, h => by
    rw [mn_cons, Int.min_eq_left (h b (by simp))]
    exact mn_far bs n a fun c hc => h c (by simp [hc])
theorem brk_mn : ∀ (bs : List V3) (n : Int) (a : V3), (∀ b ∈ bs, a.x ≤ b.x) → bs.Pairwise (fun b c => b.x ≤ c.x) → brk n a bs = mn n a bs
  | [], _, _, _, _ => rfl
  | b :: bs, n, a, h1, h2 => by
    unfold brk
    by_cases h : (b.x - a.x) * (b.x - a.x) ≥ n
    · rw [if_pos h, mn_far]
      intro c hc
      refine Int.le_trans ?_ (d2_x a c)
      refine Int.le_trans h ?_
      have e1 : a.x ≤ b.x := h1 b (by simp)
      have e2 : b.x ≤ c.x := by
        rcases List.mem_cons.1 hc with rfl | hc
        · omega
        · exact (List.pairwise_cons.1 h2).1 c hc
      exact Int.mul_le_mul (by omega) (by omega) (by omega) (by omega)
    · rw [if_neg h, mn_cons]
      exact brk_mn bs _ a (fun c hc => h1 c (by simp [hc])) (List.pairwise_cons.1 h2).2
def spF : List V3 → Int → Int
  | [], n => n
  | a :: l, n => spF l (mn n a l)
theorem at_cons (a : V3) (l : List V3) (i : Nat) : at_ (a :: l) (i + 1) = at_ l i := rfl
def sprR (l : List V3) : Int × Int := if isSet l = true then (if l.length < 2 then (0, 9) else (spF l far, 0)) else (0, 2)
theorem drop_sorted {l : List V3} (h : up l = true) {i : Nat} (hi : i < l.length) : (∀ b ∈ l.drop (i + 1), (at_ l i).x ≤ b.x) ∧ (l.drop (i + 1)).Pairwise (fun b c => b.x ≤ c.x) := by
  constructor
  · intro b hb
    obtain ⟨j, hj, rfl⟩ := List.getElem_of_mem hb
    rw [List.getElem_drop]
    rw [List.length_drop] at hj
    rw [← at_eq (show i + 1 + j < l.length by omega)]
    exact up_x h (by omega) (by omega)
  · rw [List.pairwise_iff_getElem]
    intro j k hj hk hjk
    rw [List.getElem_drop, List.getElem_drop]
    rw [List.length_drop] at hj hk
    rw [← at_eq (show i + 1 + j < l.length by omega), ← at_eq (show i + 1 + k < l.length by omega)]
    exact up_x h (by omega) (by omega)
section
variable (X : Ext) (hX : Mine X)
include hX
theorem l13i (l t : List V3) (i : Nat) (a : V3) (hp : pnt a = true) (ht : t.length ≤ 2147483648) (hc : ∀ v ∈ t, pnt v = true) (r : List AV × List Blk) : ∀ m k n, k + m = t.length →
    L tab (run tab X) 13 [] [.lp [1, 1, 1, 1, 0, 1, 0]] (S13_1111010 (encL l) (brk n a (t.drop k)) (encL l) ((l.length : Nat) : Int) (IntKind.i64.wrap ((i : Int) + 1))) = some r →
    L tab (run tab X) 13 [] [.lp [1, 1, 1, 1, 0, 1, 0], .lp [1, 1, 0, 0, 1, 1, 0]] (S13_1111010_1100110 (encL l) n (encL l) ((l.length : Nat) : Int) (i : Int) (encL t) ((t.length : Nat) : Int) (k : Int) a.x a.y a.z) = some r := by
  intro m
  induction m with
  | zero =>
    intro k n hk h
    refine L_of ?_
    rw [e13_1111010_1100110]
    refine condNP (by omega) ?_
    rw [List.drop_eq_nil_of_le (by omega)] at h
    exact h
  | succ m ih =>
    intro k n hk h
    have hlt : k < t.length := by omega
    have hb := hc _ (at_mem hlt)
    have c28' := c28 X hX a (t.getD k default) hp hb
    have q1 := pnt_iff.1 hp
    have q2 := pnt_iff.1 hb
    refine L_of ?_
    rw [e13_1111010_1100110]
    refine condP (by omega) (condT (by rw [encL_length]; exact gd hlt) ?_)
    simp only [tn, encL_x, encL_y, encL_z]
    rw [drop_at hlt] at h
    unfold brk at h
    change cond (decide (IntKind.i64.wrap (IntKind.i64.wrap ((at_ t k).x - a.x) * IntKind.i64.wrap ((at_ t k).x - a.x)) ≥ n)) _ _ = _
    have q3 := sq_bd q2.1 q1.1
    rw [wrap_eq (x := (at_ t k).x - a.x) (by omega) (by omega), wrap_eq (by omega) (by omega)]
    by_cases hd : ((at_ t k).x - a.x) * ((at_ t k).x - a.x) ≥ n
    · rw [if_pos hd] at h
      exact condP hd h
    · rw [if_neg hd] at h
      refine condNP hd ?_
      simp only [c28', Option.bind_some, List.headD_cons, pv_p, toInt_int, wr1 (show k < 1099511627776 by omega), goMin_eq]
      exact ih (k + 1) _ (by omega) h
theorem l13 (l : List V3) (hl : l.length ≤ 2147483648) (hla : ∀ v ∈ l, pnt v = true) (hu : up l = true) : ∀ m i n, i + m = l.length →
    L tab (run tab X) 13 [] [.lp [1, 1, 1, 1, 0, 1, 0]] (S13_1111010 (encL l) n (encL l) ((l.length : Nat) : Int) (i : Int)) = some ([.p (.int .i64 (spF (l.drop i) n)), .p (.int .i64 0)], []) := by
  intro m
  induction m with
  | zero =>
    intro i n hi
    refine L_of ?_
    rw [e13_1111010, show l.drop i = [] from List.drop_eq_nil_of_le (by omega)]
    exact condNP (by omega) rfl
  | succ m ih =>
    intro i n hi
    have hlt : i < l.length := by omega
    refine L_of ?_
    rw [e13_1111010, wr1 (show i < 1099511627776 by omega)]
    refine condP (by omega) (condT (by rw [encL_length]; exact gd hlt) (condT (by simp only [Bool.and_eq_true, decide_eq_true_eq, encL_length]; omega) ?_))
    have e1 : (((encL l).length : Nat) : Int) - ((i + 1 : Nat) : Int) = ((l.length - (i + 1) : Nat) : Int) := by rw [encL_length]; omega
    rw [e1]
    simp only [tn, encL_x, encL_y, encL_z, encL_drop, encL_take, encL_length]
    rw [List.take_of_length_le (show (l.drop (i + 1)).length ≤ l.length - (i + 1) by simp)]
    refine l13i X hX l (l.drop (i + 1)) i (l.getD i default) (hla _ (at_mem hlt)) (by rw [List.length_drop]; omega) (fun v hv => hla v (List.mem_of_mem_drop hv)) _ (l.drop (i + 1)).length 0 n (by omega) ?_
    rw [wr1 (show i < 1099511627776 by omega), List.drop_zero, ih (i + 1) _ (by omega), drop_at hlt]
    obtain ⟨h1, h2⟩ := drop_sorted hu hlt
    change some ([AV.p (PV.int .i64 (spF (l.drop (i + 1)) (brk n (at_ l i) (l.drop (i + 1))))), _], _) = _
    rw [brk_mn _ _ _ h1 h2]; rfl
theorem c13 (l : List V3) (hl : l.length ≤ 2147483648) : run tab X 13 [.p (.list true kV (encL l))] [] = some ([.p (.int .i64 (sprR l).1), .p (.int .i64 (sprR l).2)], []) :=
  run_of (hX _ rfl) (by
    rw [e13, c24 X hX l hl]
    simp only [Option.bind_some, List.headD_cons, pv_p, toBool_bool]
    unfold sprR
    by_cases h1 : isSet l = true
    · rw [h1, if_pos rfl]
      simp only [Bool.not_true, cond_false]
      by_cases h2 : l.length < 2
      · rw [if_pos h2]; exact condP (by rw [encL_length]; omega) rfl
      · rw [if_neg h2]
        refine condNP (by rw [encL_length]; omega) ?_
        rw [encL_length]
        exact l13 X hX l hl (set_pts h1).2 (set_up h1) l.length 0 _ (by omega)
    · have h1' : isSet l = false := by simpa using h1
      rw [h1', if_neg (by simp)]; rfl)
end
end Go.Skm.Sct
