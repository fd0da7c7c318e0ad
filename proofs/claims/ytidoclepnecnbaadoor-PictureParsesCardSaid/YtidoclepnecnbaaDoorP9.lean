/-
  Which dots touch a part: the document looks at the part's places one by one, the program at the nearest one alone; condition: a valid picture's dot, a part that is not far away.
-/
import Derived.Test.YtidoclepnecnbaaDoorP6
namespace Go.Skm.Pic
open Go Go.Skm
def anyK (d : Dt) (i : Int) : Int → Nat → Bool
  | _, 0 => false
  | k, n + 1 => cov d i k || anyK d i (k + 1) n
def anyI (d : Dt) (y : Int) (n : Nat) : Int → Nat → Bool
  | _, 0 => false
  | i, m + 1 => anyK d i y n || anyI d y n (i + 1) m
theorem anyK_iff {d : Dt} {i : Int} : ∀ {n : Nat} {k : Int}, anyK d i k n = true ↔ ∃ j, k ≤ j ∧ j < k + n ∧ cov d i j = true
  | 0, k => by simp [anyK]; intro j h1 h2; omega
  | n + 1, k => by
    simp only [anyK, Bool.or_eq_true, anyK_iff (n := n)]
    constructor
    · rintro (h | ⟨j, h1, h2, h3⟩)
      · exact ⟨k, by omega, by omega, h⟩
      · exact ⟨j, by omega, by omega, h3⟩
    · rintro ⟨j, h1, h2, h3⟩
      by_cases e : j = k
      · subst e; exact .inl h3
      · exact .inr ⟨j, by omega, by omega, h3⟩
theorem anyI_iff {d : Dt} {y : Int} {n : Nat} : ∀ {m : Nat} {i : Int}, anyI d y n i m = true ↔ ∃ j k, i ≤ j ∧ j < i + m ∧ y ≤ k ∧ k < y + n ∧ cov d j k = true
  | 0, i => by simp [anyI]; intro j h1 h2; omega
  | m + 1, i => by
    simp only [anyI, Bool.or_eq_true, anyI_iff (m := m), anyK_iff]
    constructor
    · rintro (⟨k, h1, h2, h3⟩ | ⟨j, k, h1, h2, h3, h4, h5⟩)
      · exact ⟨i, k, by omega, by omega, h1, h2, h3⟩
      · exact ⟨j, k, by omega, by omega, h3, h4, h5⟩
    · rintro ⟨j, k, h1, h2, h3, h4, h5⟩
      by_cases e : j = i
      · subst e; exact .inl ⟨k, h3, h4, h5⟩
      · exact .inr ⟨j, k, by omega, by omega, h3, h4, h5⟩
theorem off_le {d x i : Int} {w : Nat} (h1 : x ≤ i) (h2 : i < x + w) : off d x w * off d x w ≤ (i - d) * (i - d) := by
  have sq : ∀ a b : Int, 0 ≤ a → a ≤ b → a * a ≤ b * b := fun a b h0 h => Int.mul_le_mul h h h0 (by omega)
  have nn : ∀ a : Int, 0 ≤ a * a := fun a => by
    rcases Int.le_total 0 a with h | h
    · exact Int.mul_nonneg h h
    · have := Int.mul_nonneg (show 0 ≤ -a by omega) (show 0 ≤ -a by omega)
      rwa [Int.neg_mul_neg] at this
  by_cases e1 : d < x
  · exact sq _ _ (by unfold off; omega) (by unfold off; omega)
  · by_cases e2 : x + w - 1 < d
    · have := sq (-(off d x w)) (-(i - d)) (by unfold off; omega) (by unfold off; omega)
      rwa [Int.neg_mul_neg, Int.neg_mul_neg] at this
    · have : off d x w = 0 := by unfold off; omega
      rw [this, Int.zero_mul]
      exact nn _
theorem touch_any (d : Dt) (x y : Int) {w h : Nat} (hw : 1 ≤ w) (hh : 1 ≤ h) : anyI d y h x w = touch d x y w h := by
  rw [Bool.eq_iff_iff, anyI_iff]
  constructor
  · rintro ⟨j, k, h1, h2, h3, h4, h5⟩
    have a1 := off_le (d := d.x) h1 h2
    have a2 := off_le (d := d.y) h3 h4
    simp only [cov, decide_eq_true_eq] at h5
    simp only [touch, decide_eq_true_eq]
    omega
  · intro ht
    refine ⟨off d.x x w + d.x, off d.y y h + d.y, by unfold off; omega, by unfold off; omega, by unfold off; omega, by unfold off; omega, ?_⟩
    simp only [cov, decide_eq_true_eq]
    simp only [touch, decide_eq_true_eq] at ht
    rwa [show off d.x x w + d.x - d.x = off d.x x w by omega, show off d.y y h + d.y - d.y = off d.y y h by omega]
section
variable (X : Ext) (hX : Mine X)
include hX
theorem c48_inner {d : Dt} (hd : d.near) {x y i : Int} {w h : Nat} (_hx : Near x) (hy : -80000 ≤ y ∧ y ≤ 80000) (hi : Near i) (_hw : w ≤ 10000) (hh : h ≤ 10000) {r : List AV × List Blk}
    (hno : L tab (run tab X) 48 [] [.lp [1, 0, 1, 0]] (S48_1010 x y w h (i + 1) d.x d.y d.r d.a d.e d.b) = some r) : ∀ (n : Nat) (k : Int), k + n = y + h → y ≤ k →
    L tab (run tab X) 48 [] [.lp [1, 0, 1, 0], .lp [1, 0, 0, 1, 0]] (S48_1010_10010 x y w h i k d.x d.y d.r d.a d.e d.b) = some (bif anyK d i k n then ([.p (.bool true)], []) else r) := by
  unfold Near at hi
  intro n
  induction n with
  | zero =>
    intro k hk h1
    refine L_of ?_
    rw [e48_1010_10010, wrap_eq (x := y + h) (by omega) (by omega), wrap_eq (x := i + 1) (by omega) (by omega)]
    refine condNP (show ¬ k < y + h by omega) ?_
    exact hno
  | succ n ih =>
    intro k hk h1
    have ih' := ih (k + 1) (by omega) (by omega)
    refine L_of ?_
    rw [e48_1010_10010, wrap_eq (x := y + h) (by omega) (by omega), wrap_eq (x := k + 1) (by omega) (by omega)]
    refine condP (show k < y + h by omega) ?_
    refine bindS (c29 X hX hd (x := i) (y := k) ⟨by omega, by omega⟩ ⟨by omega, by omega⟩) ?_
    simp only [List.headD_cons, pv_p, toBool_bool, anyK]
    cases cov d i k with
    | true => rfl
    | false => exact ih'
theorem c48_loop {d : Dt} (hd : d.near) {x y : Int} {w h : Nat} (hx : -80000 ≤ x ∧ x ≤ 80000) (hy : -80000 ≤ y ∧ y ≤ 80000) (hw : w ≤ 10000) (hh : h ≤ 10000) : ∀ (m : Nat) (i : Int), i + m = x + w → x ≤ i →
    L tab (run tab X) 48 [] [.lp [1, 0, 1, 0]] (S48_1010 x y w h i d.x d.y d.r d.a d.e d.b) = some ([.p (.bool (anyI d y h i m))], []) := by
  intro m
  induction m with
  | zero =>
    intro i hi h1
    refine L_of ?_
    rw [e48_1010, wrap_eq (x := x + w) (by omega) (by omega)]
    exact condNP (show ¬ i < x + w by omega) rfl
  | succ m ih =>
    intro i hi h1
    have ih' := ih (i + 1) (by omega) (by omega)
    refine L_of ?_
    rw [e48_1010, wrap_eq (x := x + w) (by omega) (by omega)]
    refine condP (show i < x + w by omega) ?_
    refine (c48_inner X hX hd (x := x) (y := y) (i := i) ⟨by omega, by omega⟩ hy ⟨by omega, by omega⟩ hw hh ih' h y (by omega) (by omega)).trans ?_
    rw [anyI]
    cases anyK d i y h <;> rfl
theorem c48 {d : Dt} (hd : d.near) {x y : Int} {w h : Nat} (hx : -80000 ≤ x ∧ x ≤ 80000) (hy : -80000 ≤ y ∧ y ≤ 80000) (hw : 1 ≤ w ∧ w ≤ 10000) (hh : 1 ≤ h ∧ h ≤ 10000) :
    run tab X 48 [.p (encD d), .p (.int .i64 x), .p (.int .i64 y), .p (.int .i64 (w : Int)), .p (.int .i64 (h : Int))] [] = some ([.p (.bool (touch d x y w h))], []) :=
  run_of (hX _ rfl) (by
    rw [e48, ← touch_any d x y hw.1 hh.1]
    exact c48_loop X hX hd hx hy hw.2 hh.2 w x (by omega) (by omega))
end
end Go.Skm.Pic
