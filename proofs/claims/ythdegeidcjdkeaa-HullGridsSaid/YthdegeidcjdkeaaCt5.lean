/-
  The chain of points at which the way turns left; condition: points with parts in range.
-/
import Derived.Test.YthdegeidcjdkeaaCt4
namespace Go.Skm.Hull
open Go Go.Skm

/-- The stack without the points at which the way to p does not turn left. -/
def popS (p : V3) : List V3 → List V3
  | b :: a :: r => if turnS a b p ≤ 0 then popS p (a :: r) else b :: a :: r
  | s => s
def chainR (s : List V3) (l : List V3) : List V3 := l.foldl (fun s p => p :: popS p s) s
def chainL (l : List V3) : List V3 := (chainR [] l).reverse

theorem popS_sub (p : V3) : ∀ (s : List V3) (v : V3), v ∈ popS p s → v ∈ s
  | [], v, h => h
  | [_], v, h => h
  | b :: a :: r, v, h => by
    unfold popS at h
    split at h
    · exact List.mem_cons_of_mem _ (popS_sub p (a :: r) v h)
    · exact h
theorem popS_len (p : V3) : ∀ (s : List V3), (popS p s).length ≤ s.length
  | [] => Nat.le_refl _
  | [_] => Nat.le_refl _
  | b :: a :: r => by
    unfold popS
    split
    · exact Nat.le_trans (popS_len p (a :: r)) (Nat.le_succ _)
    · exact Nat.le_refl _
theorem take_get {ob s : List V3} (h : ob.take s.length = s.reverse) {i : Nat} (hi : i < s.length) : ob.getD i default = s.reverse.getD i default := by
  rw [List.getD_eq_getElem?_getD, List.getD_eq_getElem?_getD, ← h, List.getElem?_take, if_pos hi]

section
variable (X : Ext) (hX : ∀ f, f ≠ 30 → X f = none)
include hX

theorem c33_inner (T : List PV) (n i : Int) (p : V3) (hp : Bd 16777216 p) {x : List AV × List Blk} : ∀ (s ob : List V3), ob.take s.length = s.reverse → s.length < 2147483648 → (∀ v ∈ s, Bd 16777216 v) →
    L tab (run tab X) 33 [] [[1, 1, 0, 1, 0]] (S33_11010 0 ((popS p s).length + 1) T n (IntKind.i64.wrap (i + 1)) (encL ((popS p s).reverse ++ [p]))) = some x →
    L tab (run tab X) 33 [] [[1, 1, 0, 1, 0], [1, 1, 0, 0, 1, 0, 0]] (S33_11010_1100100 0 s.length T n i (encL ob) p.x p.y p.z) = some x := by
  have push : ∀ (s ob : List V3), ob.take s.length = s.reverse → s.length < 2147483648 → L tab (run tab X) 33 [] [[1, 1, 0, 1, 0]] (S33_11010 0 (s.length + 1) T n (IntKind.i64.wrap (i + 1)) (encL (s.reverse ++ [p]))) = some x →
      (if s.length + 1 ≤ 2147483648 then L tab (run tab X) 33 [] [[1, 1, 0, 1, 0]] (S33_11010 0 (s.length + 1) T n (IntKind.i64.wrap (i + 1)) ((((encL ob).drop 0).take s.length) ++ ([.agg [.int .i64 p.x, .int .i64 p.y, .int .i64 p.z]] : List PV))) else none) = some x := by
    intro s ob h1 h2 h3
    rw [if_pos (by omega), List.drop_zero, encL_take, h1]
    have : ([.agg [.int .i64 p.x, .int .i64 p.y, .int .i64 p.z]] : List PV) = encL [p] := rfl
    rw [this, encL_append]
    exact h3
  intro s
  induction s with
  | nil =>
    intro ob h1 h2 h3 h4
    refine L_of ?_
    rw [e33_11010_1100100]
    simp only [condD]
    rw [if_neg (by simp)]
    exact push [] ob h1 h2 h4
  | cons b s ih =>
    intro ob h1 h2 h3 h4
    cases s with
    | nil =>
      refine L_of ?_
      rw [e33_11010_1100100]
      simp only [condD]
      rw [if_neg (by simp)]
      exact push [b] ob h1 h2 h4
    | cons a r =>
      simp only [List.length_cons] at h2
      have g1 : ob.getD r.length default = a := by
        rw [take_get h1 (by simp; omega)]
        simp [List.getD_eq_getElem?_getD]
      have g2 : ob.getD (r.length + 1) default = b := by
        rw [take_get h1 (by simp)]
        simp [List.getD_eq_getElem?_getD]
      have hlen : ((b :: a :: r).length : Int) = (r.length : Int) + 2 := by simp; omega
      refine L_of ?_
      rw [e33_11010_1100100]
      have w2 : IntKind.i64.wrap ((r.length : Int) + 2 - 2) = (r.length : Int) := by rw [wrap_eq (by omega) (by omega)]; omega
      have w1 : IntKind.i64.wrap ((r.length : Int) + 2 - 1) = ((r.length + 1 : Nat) : Int) := by rw [wrap_eq (by omega) (by omega)]; omega
      have e1 : (⟨a.x, a.y, a.z⟩ : V3) = a := rfl
      have e2 : (⟨b.x, b.y, b.z⟩ : V3) = b := rfl
      have e3 : (⟨p.x, p.y, p.z⟩ : V3) = p := rfl
      simp only [hlen, w1, w2, Int.toNat_natCast, Nat.zero_add, encL_x, encL_y, encL_z, g1, g2, encV_mk, e1, e2, e3]
      rw [c38 X hX a b p (h3 a (by simp)) (h3 b (by simp)) hp]
      simp only [condD, condA, Option.bind_some]
      rw [if_pos (by omega), if_pos (by omega), if_pos (by omega), if_pos (by omega), if_pos (by omega)]
      change (if turnS a b p ≤ 0 then _ else _) = _
      unfold popS at h4
      by_cases ht : turnS a b p ≤ 0
      · rw [if_pos ht] at h4 ⊢
        rw [if_pos (by omega), if_pos (by omega), if_pos (by omega)]
        have e4 : (((r.length + 1 : Nat) : Int) - 0).toNat = (a :: r).length := by simp
        rw [e4]
        refine ih ob ?_ (by simp; omega) (fun v hv => h3 v (by simp at hv ⊢; exact .inr hv)) h4
        have := congrArg (List.take (a :: r).length) h1
        rw [List.take_take, List.reverse_cons] at this
        rw [Nat.min_eq_left (by simp)] at this
        rw [this, List.take_left' (by simp)]
      · rw [if_neg ht] at h4 ⊢
        have e5 := push (b :: a :: r) ob h1 (by simp; omega) h4
        simpa only [encV_mk, List.length_cons] using e5

theorem c33 (l : List V3) (hl : l.length < 2147483648) (hb : ∀ v ∈ l, Bd 16777216 v) : run tab X 33 [.p (.list true kV (encL l))] [] = some ([.fresh true kV (encL (chainL l))], []) := by
  refine run_of (hX _ (by decide)) ?_
  rw [e33]
  have key : ∀ k i : Nat, i + k = l.length → ∀ s : List V3, s.length ≤ i → (∀ v ∈ s, Bd 16777216 v) → L tab (run tab X) 33 [] [[1, 1, 0, 1, 0]] (S33_11010 0 s.length (encL l) (l.length : Int) (i : Int) (encL s.reverse)) = some ([.fresh true kV (encL (chainR s (l.drop i)).reverse)], []) := by
    intro k
    induction k with
    | zero =>
      intro i hi s hs hbs
      refine L_of ?_
      rw [e33_11010]
      simp only [condD]
      rw [if_neg (by omega), List.drop_zero, encL_take, List.take_of_length_le (by simp), List.drop_eq_nil_of_le (by omega)]
      rfl
    | succ k ih =>
      intro i hi s hs hbs
      refine L_of ?_
      rw [e33_11010]
      simp only [encL_length, condD, condA, encL_x, encL_y, encL_z, Int.toNat_natCast]
      rw [if_pos (by omega), if_pos (by omega), if_pos (by omega)]
      have hm : l.getD i default ∈ l := by
        rw [List.getD_eq_getElem?_getD, List.getElem?_eq_getElem (by omega)]
        exact List.getElem_mem _
      refine c33_inner X hX (encL l) _ _ (l.getD i default) (hb _ hm) s s.reverse (by rw [List.take_of_length_le (by simp)]) (by omega) hbs ?_
      rw [wrap_nat (by omega)]
      have := ih (i + 1) (by omega) (l.getD i default :: popS (l.getD i default) s) (by have := popS_len (l.getD i default) s; rw [List.length_cons]; omega) (fun v hv => by
        rcases List.mem_cons.1 hv with rfl | hv
        · exact hb _ hm
        · exact hbs v (popS_sub _ _ _ hv))
      rw [List.length_cons, List.reverse_cons] at this
      rw [this, drop_getD (l := l) (i := i) (by omega)]
      rfl
  have := key l.length 0 (by omega) [] (Nat.le_refl _) (by simp)
  simpa [chainL] using this
end
end Go.Skm.Hull
