/-
  A map that is cut at a tick: it is valid, and no time changes; condition: a valid map with room, a tick between two.
-/
import Derived.Test.YtdhkklplijleiaaDoorCt24
namespace Go.Skm.Beat
open Go Go.Skm

/-- The exact time of tick x, by the list. -/
def exL (x : Int) : List Tm → Int
  | [] => 0
  | [a] => max 0 (x - a.k) * a.m
  | a :: b :: r => max 0 (min x b.k - a.k) * a.m + exL x (b :: r)
theorem exF_exL (l : List Tm) (x : Int) : ∀ (n i : Nat), i + n = l.length → exF l x i n = exL x (l.drop i)
  | 0, i, h => by rw [List.drop_eq_nil_of_le (by omega)]; rfl
  | n + 1, i, h => by
    have ih := exF_exL l x n (i + 1) (by omega)
    have hi : i < l.length := by omega
    have e : l.getD i default = l[i] := by simp [List.getD_eq_getElem?_getD, hi]
    rw [exF, ih, List.drop_eq_getElem_cons hi]
    unfold seg
    by_cases h2 : i + 1 < l.length
    · have e2 : l.getD (i + 1) default = l[i + 1] := by simp [List.getD_eq_getElem?_getD, h2]
      rw [if_pos h2, List.drop_eq_getElem_cons h2, exL, e, e2]
    · rw [if_neg h2, List.drop_eq_nil_of_le (by omega), exL, exL, e, Int.add_zero]
theorem exS_exL (l : List Tm) (x : Int) : exS l x = exL x l := by
  unfold exS
  rw [exF_exL l x l.length 0 (by omega), List.drop_zero]
theorem exL_cut (x cut : Int) (a : Tm) (r : List Tm) (h1 : a.k ≤ cut) (h2 : ∀ b ∈ r.head?, cut ≤ b.k) : ∀ xs : List Tm, exL x (xs ++ a :: ⟨cut, a.m⟩ :: r) = exL x (xs ++ a :: r)
  | [] => by
    cases r with
    | nil =>
      simp only [List.nil_append, exL]
      rw [← Int.add_mul]
      congr 1; omega
    | cons b r =>
      have := h2 b (by simp)
      simp only [List.nil_append, exL]
      rw [← Int.add_assoc, ← Int.add_mul]
      congr 2; omega
  | [y] => by
    have ih := exL_cut x cut a r h1 h2 []
    simp only [List.nil_append] at ih
    change max 0 (min x a.k - y.k) * y.m + exL x (a :: ⟨cut, a.m⟩ :: r) = max 0 (min x a.k - y.k) * y.m + exL x (a :: r)
    rw [ih]
  | y :: z :: xs => by
    have ih := exL_cut x cut a r h1 h2 (z :: xs)
    change max 0 (min x z.k - y.k) * y.m + exL x (z :: xs ++ a :: ⟨cut, a.m⟩ :: r) = max 0 (min x z.k - y.k) * y.m + exL x (z :: xs ++ a :: r)
    rw [ih]
/-- The map l, cut behind the first p. -/
def cutL (l : List Tm) (p : Nat) (cut : Int) : List Tm := l.take p ++ ⟨cut, (l.getD (p - 1) default).m⟩ :: l.drop p
theorem exS_cut {l : List Tm} {p : Nat} {cut : Int} (h0 : 1 ≤ p) (h1 : p ≤ l.length) (h2 : (l.getD (p - 1) default).k < cut) (h3 : p < l.length → cut < (l.getD p default).k) (x : Int) : exS (cutL l p cut) x = exS l x := by
  rw [exS_exL, exS_exL]
  obtain ⟨q, rfl⟩ : ∃ q, p = q + 1 := ⟨p - 1, by omega⟩
  have hq : q < l.length := by omega
  have e : l.getD q default = l[q] := by simp [List.getD_eq_getElem?_getD, hq]
  rw [Nat.add_sub_cancel, e] at h2
  have ht : l.take (q + 1) = l.take q ++ [l[q]] := by rw [List.take_add_one, List.getElem?_eq_getElem hq]; rfl
  have hd : l = l.take q ++ l[q] :: l.drop (q + 1) := by
    rw [← List.drop_eq_getElem_cons hq, List.take_append_drop]
  unfold cutL
  rw [Nat.add_sub_cancel, e, ht, List.append_assoc]
  conv => rhs; rw [hd]
  refine exL_cut x cut l[q] (l.drop (q + 1)) (by omega) (fun b hb => ?_) (l.take q)
  by_cases hl : q + 1 < l.length
  · rw [List.drop_eq_getElem_cons hl] at hb
    simp only [List.head?_cons, Option.mem_def, Option.some.injEq] at hb
    have := h3 hl
    have e2 : l.getD (q + 1) default = l[q + 1] := by simp [List.getD_eq_getElem?_getD, hl]
    rw [e2, hb] at this
    omega
  · rw [List.drop_eq_nil_of_le (by omega)] at hb
    simp at hb
theorem cutL_length {l : List Tm} {p : Nat} {cut : Int} (h1 : p ≤ l.length) : (cutL l p cut).length = l.length + 1 := by
  unfold cutL
  simp only [List.length_append, List.length_take, List.length_cons, List.length_drop]; omega
theorem cutL_get {l : List Tm} {p : Nat} {cut : Int} (h1 : p ≤ l.length) (i : Nat) : (cutL l p cut).getD i default = if i < p then l.getD i default else if i = p then ⟨cut, (l.getD (p - 1) default).m⟩ else l.getD (i - 1) default := by
  unfold cutL
  simp only [List.getD_eq_getElem?_getD]
  by_cases h : i < p
  · rw [if_pos h, List.getElem?_append_left (by simp; omega), List.getElem?_take, if_pos h]
  · rw [if_neg h, List.getElem?_append_right (by simp; omega)]
    have e : (l.take p).length = p := by simp; omega
    rw [e]
    by_cases h2 : i = p
    · rw [if_pos h2, h2, Nat.sub_self]; rfl
    · rw [if_neg h2]
      obtain ⟨j, hj⟩ : ∃ j, i - p = j + 1 := ⟨i - p - 1, by omega⟩
      rw [hj, List.getElem?_cons_succ, List.getElem?_drop]
      congr 2; omega
theorem allOk_of {l : List Tm} : ∀ {n i : Nat}, (∀ j, i ≤ j → j < i + n → okAt l j = true) → allOk l i n = true
  | 0, _, _ => rfl
  | n + 1, i, h => by
    simp only [allOk, Bool.and_eq_true]
    exact ⟨h i (by omega) (by omega), allOk_of fun j h1 h2 => h j (by omega) (by omega)⟩
theorem validB_of {l : List Tm} (v : Valid l) : validB l = true := by
  simp only [validB, Bool.and_eq_true, decide_eq_true_eq]
  refine ⟨allOk_of fun j _ hj => ?_, v.pos, v.len, v.zero⟩
  simp only [okAt, Bool.and_eq_true, decide_eq_true_eq]
  refine ⟨v.m j (by omega), v.k j (by omega), ?_⟩
  by_cases h : j = 0
  · exact .inl h
  · exact .inr (v.lt (by omega) (by omega))
theorem cutL_valid {l : List Tm} (v : Valid l) (hl : l.length ≤ 60) {p : Nat} {cut : Int} (hc : cut ≤ 4194304) (h0 : 1 ≤ p) (h1 : p ≤ l.length) (h2 : (l.getD (p - 1) default).k < cut) (h3 : p < l.length → cut < (l.getD p default).k) : Valid (cutL l p cut) := by
  have hlen := cutL_length (cut := cut) h1
  have g := cutL_get (cut := cut) h1
  refine ⟨by omega, by omega, ?_, fun i hi => ?_, fun i hi => ?_, fun i hi => ?_⟩
  · rw [g, if_pos (by omega)]; exact v.zero
  · rw [g]
    split
    · exact v.m i (by omega)
    · split
      · exact v.m (p - 1) (by omega)
      · exact v.m (i - 1) (by omega)
  · rw [g]
    split
    · exact v.k i (by omega)
    · split
      · exact hc
      · exact v.k (i - 1) (by omega)
  · rw [g, g]
    by_cases a : i < p
    · rw [if_pos a]
      by_cases b : i + 1 < p
      · rw [if_pos b]; exact v.up i (by omega)
      · rw [if_neg b, if_pos (by omega)]
        have : i = p - 1 := by omega
        rw [this]; exact h2
    · rw [if_neg a, if_neg (show ¬ i + 1 < p by omega), if_neg (show ¬ i + 1 = p by omega)]
      by_cases b : i = p
      · rw [if_pos b, b, Nat.add_sub_cancel]; exact h3 (by omega)
      · rw [if_neg b, Nat.add_sub_cancel]
        have := v.up (i - 1) (by omega)
        rwa [show i - 1 + 1 = i by omega] at this
/-- How far the cut map has been laid behind i. -/
def cutW (l : List Tm) (p : Nat) (cut : Int) (i : Nat) : List Tm := if i ≤ p then l.take i else (cutL l p cut).take (i + 1)
theorem cutW_length {l : List Tm} {p : Nat} {cut : Int} (_h1 : p ≤ l.length) {i : Nat} (hi : i ≤ l.length) : (cutW l p cut i).length ≤ i + 1 := by
  unfold cutW
  split <;> simp <;> omega
theorem take_snoc (l : List Tm) {i : Nat} (h : i < l.length) : l.take i ++ [l.getD i default] = l.take (i + 1) := by
  rw [List.take_add_one, List.getD_eq_getElem?_getD, List.getElem?_eq_getElem h]; rfl
theorem cutW_low {l : List Tm} {p : Nat} {cut : Int} (h1 : p ≤ l.length) {i : Nat} (hi : i < p) : cutW l p cut i ++ [l.getD i default] = cutW l p cut (i + 1) := by
  unfold cutW
  rw [if_pos (by omega), if_pos (by omega), take_snoc l (by omega)]
theorem cutW_at {l : List Tm} {p : Nat} {cut : Int} (h1 : p < l.length) : cutW l p cut p ++ [⟨cut, (l.getD (p - 1) default).m⟩] ++ [l.getD p default] = cutW l p cut (p + 1) := by
  have hlen := cutL_length (cut := cut) (Nat.le_of_lt h1)
  have g := cutL_get (cut := cut) (Nat.le_of_lt h1)
  unfold cutW
  rw [if_pos (Nat.le_refl _), if_neg (by omega)]
  rw [← take_snoc (cutL l p cut) (i := p + 1) (by omega), ← take_snoc (cutL l p cut) (i := p) (by omega), g, g, if_neg (by omega), if_pos rfl, if_neg (by omega), if_neg (by omega), Nat.add_sub_cancel]
  congr 2
  unfold cutL
  rw [List.take_append_of_le_length (by simp; omega)]
  rw [List.take_take, Nat.min_self]
theorem cutW_high {l : List Tm} {p : Nat} {cut : Int} (h1 : p ≤ l.length) {i : Nat} (hp : p < i) (hi : i < l.length) : cutW l p cut i ++ [l.getD i default] = cutW l p cut (i + 1) := by
  have hlen := cutL_length (cut := cut) h1
  have g := cutL_get (cut := cut) h1
  unfold cutW
  rw [if_neg (by omega), if_neg (by omega), ← take_snoc (cutL l p cut) (i := i + 1) (by omega), g, if_neg (by omega), if_neg (by omega), Nat.add_sub_cancel]
theorem cutW_end {l : List Tm} {p : Nat} {cut : Int} (h1 : p < l.length) : cutW l p cut l.length = cutL l p cut := by
  have hlen := cutL_length (cut := cut) (Nat.le_of_lt h1)
  unfold cutW
  rw [if_neg (by omega), ← hlen, List.take_length]
theorem cutW_last {l : List Tm} {cut : Int} : cutW l l.length cut l.length ++ [⟨cut, (l.getD (l.length - 1) default).m⟩] = cutL l l.length cut := by
  unfold cutW cutL
  rw [if_pos (Nat.le_refl _), List.drop_length]
/-- Where a map is cut. -/
theorem cut_place {l : List Tm} (v : Valid l) {cut : Int} (hc : 1 ≤ cut) : ∃ p, 1 ≤ p ∧ p ≤ l.length ∧ (∀ j, j < p → (l.getD j default).k < cut) ∧ (p < l.length → cut ≤ (l.getD p default).k) := by
  have key : ∀ d i : Nat, i + d = l.length → 1 ≤ i → (∀ j, j < i → (l.getD j default).k < cut) → ∃ p, 1 ≤ p ∧ p ≤ l.length ∧ (∀ j, j < p → (l.getD j default).k < cut) ∧ (p < l.length → cut ≤ (l.getD p default).k) := by
    intro d
    induction d with
    | zero => intro i hi h1 h; exact ⟨i, h1, by omega, h, fun h => by omega⟩
    | succ d ih =>
      intro i hi h1 h
      by_cases g : (l.getD i default).k < cut
      · refine ih (i + 1) (by omega) (by omega) fun j hj => ?_
        by_cases e : j = i
        · rw [e]; exact g
        · exact h j (by omega)
      · exact ⟨i, h1, by omega, h, fun _ => by omega⟩
  have := v.pos
  refine key (l.length - 1) 1 (by omega) (Nat.le_refl 1) fun j hj => ?_
  have : j = 0 := by omega
  rw [this, v.zero]; omega
end Go.Skm.Beat
