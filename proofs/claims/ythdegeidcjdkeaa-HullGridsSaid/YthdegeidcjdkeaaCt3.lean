/-
  Differences, products, turns, lines and triangles of the Hull seat's vectors; condition: parts in range where that is said.
-/
import Derived.Test.YthdegeidcjdkeaaCt2
namespace Go.Skm.Hull
open Go Go.Skm

def crossW (p q r s : Int) : Int := IntKind.i64.wrap (IntKind.i64.wrap (p * q) - IntKind.i64.wrap (r * s))
def subV (a b : V3) : V3 := ⟨a.x - b.x, a.y - b.y, a.z - b.z⟩
def negV (a : V3) : V3 := ⟨-a.x, -a.y, -a.z⟩
/-- A point on the line between two others, seen from above. -/
def onS (a b p : V3) : Bool := (turnS a b p == 0) && (decide (goMin a.x b.x ≤ p.x) && (decide (p.x ≤ goMax a.x b.x) && (decide (goMin a.y b.y ≤ p.y) && decide (p.y ≤ goMax a.y b.y))))
/-- A point in a triangle. -/
def inS (a b c p : V3) : Bool := onS a b p || (onS b c p || (onS c a p || ((turnS a b p != 0) && ((turnS a b p == turnS b c p) && (turnS b c p == turnS c a p)))))
theorem inM_bd {m : Int} {v : V3} : inM m v = true ↔ Bd m v := inM_iff
theorem Bd.mono {m n : Int} {v : V3} (h : Bd m v) (hmn : m ≤ n) : Bd n v := by
  obtain ⟨h1, h2, h3⟩ := h
  exact ⟨by omega, by omega, by omega⟩

section
variable (X : Ext) (hX : ∀ f, f ≠ 30 → X f = none)
include hX

theorem c28 (v : V3) (h : Bd 1099511627776 v) : run tab X 28 [.p (encV v)] [] = some ([.p (encV (negV v))], []) :=
  run_of (hX _ (by decide)) (by
    obtain ⟨a1, a2, a3⟩ := h
    rw [encV, e28, wrap_eq (by omega) (by omega), wrap_eq (by omega) (by omega), wrap_eq (by omega) (by omega)]
    simp [negV, encV])
theorem c47 (a b : V3) (ha : Bd 34359738368 a) (hb : Bd 34359738368 b) : run tab X 47 [.p (encV a), .p (encV b)] [] = some ([.p (encV (subV a b))], []) :=
  run_of (hX _ (by decide)) (by
    have h1 := c28 X hX b (hb.mono (by decide))
    have h2 := c61 X hX a (negV b) (ha.mono (by decide)) (by
      obtain ⟨b1, b2, b3⟩ := hb
      exact ⟨by simp [negV]; omega, by simp [negV]; omega, by simp [negV]; omega⟩)
    simp only [encV, negV] at h1 h2
    rw [encV, encV, e47]
    simp only [h1, Option.bind_some, List.headD_cons, pv_p, cell_agg, List.getD_cons_zero, List.getD_cons_succ, toInt_int]
    simp only [h2, Option.bind_some, List.headD_cons, pv_p, cell_agg, List.getD_cons_zero, List.getD_cons_succ, toInt_int, encV, subV, Int.sub_eq_add_neg])
theorem c46 (a b : V3) : run tab X 46 [.p (encV a), .p (encV b)] [] = some ([.p (encV ⟨crossW a.y b.z a.z b.y, crossW a.z b.x a.x b.z, crossW a.x b.y a.y b.x⟩)], []) := by
  have e0 : ∀ (v : V3) i, run tab X 54 [.p (.agg [.int .i64 v.x, .int .i64 v.y, .int .i64 v.z]), .p (.int .i64 i)] [] = some ([.p (.int .i64 (if i = 0 then v.x else if i = 1 then v.y else v.z))], []) := fun v i => c54 X hX v i
  refine run_of (hX _ (by decide)) ?_
  rw [encV, encV, e46]
  refine L_of ?_
  rw [e46_11010_c0]
  simp only [e0, Option.bind_some, List.headD_cons, pv_p, toInt_int]
  refine L_of ?_
  rw [e46_11010_c1]
  simp only [e0, Option.bind_some, List.headD_cons, pv_p, toInt_int]
  refine L_of ?_
  rw [e46_11010_c2]
  simp only [e0, Option.bind_some, List.headD_cons, pv_p, toInt_int]
  refine L_of ?_
  rw [e46_11010_c3]
  rfl

omit hX in
theorem area_bd {a b c : V3} (ha : Bd 16777216 a) (hb : Bd 16777216 b) (hc : Bd 16777216 c) :
    (-1125899906842624 ≤ (b.x - a.x) * (c.y - a.y) ∧ (b.x - a.x) * (c.y - a.y) ≤ 1125899906842624) ∧ (-1125899906842624 ≤ (b.y - a.y) * (c.x - a.x) ∧ (b.y - a.y) * (c.x - a.x) ≤ 1125899906842624) := by
  obtain ⟨a1, a2, _⟩ := ha
  obtain ⟨b1, b2, _⟩ := hb
  obtain ⟨c1, c2, _⟩ := hc
  have h1 := mulB (a := b.x - a.x) (b := c.y - a.y) (m := 33554432) (n := 33554432) (by omega) (by omega)
  have h2 := mulB (a := b.y - a.y) (b := c.x - a.x) (m := 33554432) (n := 33554432) (by omega) (by omega)
  omega
omit hX in
theorem crossW_eq {p q r s m : Int} (h1 : -m ≤ p * q ∧ p * q ≤ m) (h2 : -m ≤ r * s ∧ r * s ≤ m) (hm : m ≤ 4611686018427387903) : crossW p q r s = p * q - r * s := by
  unfold crossW
  rw [wrap_eq (x := p * q) (by omega) (by omega), wrap_eq (x := r * s) (by omega) (by omega), wrap_eq (by omega) (by omega)]
theorem c37 (a b c : V3) (ha : Bd 16777216 a) (hb : Bd 16777216 b) (hc : Bd 16777216 c) : run tab X 37 [.p (encV a), .p (encV b), .p (encV c)] [] = some ([.p (.int .i64 (turnS a b c))], []) :=
  run_of (hX _ (by decide)) (by
    have h1 := c47 X hX b a (hb.mono (by decide)) (ha.mono (by decide))
    have h2 := c47 X hX c a (hc.mono (by decide)) (ha.mono (by decide))
    have h3 := c46 X hX (subV b a) (subV c a)
    have hz := area_bd ha hb hc
    have e := crossW_eq hz.1 hz.2 (by decide)
    simp only [encV, subV] at h1 h2 h3
    rw [encV, encV, encV, e37]
    simp only [h1, h2, Option.bind_some, List.headD_cons, pv_p, cell_agg, List.getD_cons_zero, List.getD_cons_succ, toInt_int]
    simp only [h3, Option.bind_some, List.headD_cons, pv_p, cell_agg, List.getD_cons_zero, List.getD_cons_succ, toInt_int, e, condD]
    unfold turnS area sgn
    by_cases g1 : (b.x - a.x) * (c.y - a.y) - (b.y - a.y) * (c.x - a.x) > 0
    · rw [if_pos g1, if_neg (by omega), if_pos g1]
    · rw [if_neg g1]
      by_cases g2 : (b.x - a.x) * (c.y - a.y) - (b.y - a.y) * (c.x - a.x) < 0
      · rw [if_pos g2, if_pos g2]
      · rw [if_neg g2, if_neg g2, if_neg g1])
theorem c56 (a b c : V3) (ha : Bd 16777216 a) (hb : Bd 16777216 b) (hc : Bd 16777216 c) : run tab X 56 [.p (encV a), .p (encV b), .p (encV c)] [] = some ([.p (.int .i64 (turnS a b c)), .p (.int .i64 0)], []) :=
  run_of (hX _ (by decide)) (by
    have h1 := c44 X hX a
    have h2 := c44 X hX b
    have h3 := c44 X hX c
    rw [inM_bd.2 ha] at h1
    rw [inM_bd.2 hb] at h2
    rw [inM_bd.2 hc] at h3
    have hz := area_bd ha hb hc
    obtain ⟨a1, a2, _⟩ := ha
    obtain ⟨b1, b2, _⟩ := hb
    obtain ⟨c1, c2, _⟩ := hc
    simp only [encV] at h1 h2 h3
    rw [encV, encV, encV, e56]
    simp only [h1, h2, h3, Option.bind_some, List.headD_cons, pv_p, toBool_bool, Bool.not_true, cond_false]
    rw [wrap_eq (x := b.x - a.x) (by omega) (by omega), wrap_eq (x := c.y - a.y) (by omega) (by omega), wrap_eq (x := b.y - a.y) (by omega) (by omega), wrap_eq (x := c.x - a.x) (by omega) (by omega)]
    rw [wrap_eq (x := (b.x - a.x) * (c.y - a.y)) (by omega) (by omega), wrap_eq (x := (b.y - a.y) * (c.x - a.x)) (by omega) (by omega), wrap_eq (by omega) (by omega), c74 X hX]
    rfl)
theorem c38 (a b c : V3) (ha : Bd 16777216 a) (hb : Bd 16777216 b) (hc : Bd 16777216 c) : run tab X 38 [.p (encV a), .p (encV b), .p (encV c)] [] = some ([.p (.int .i64 (turnS a b c))], []) :=
  run_of (hX _ (by decide)) (by
    have h1 := c56 X hX a b c ha hb hc
    simp only [encV] at h1
    rw [encV, encV, encV, e38, h1]; rfl)
theorem c42 (a b p : V3) (ha : Bd 16777216 a) (hb : Bd 16777216 b) (hp : Bd 16777216 p) : run tab X 42 [.p (encV a), .p (encV b), .p (encV p)] [] = some ([.p (.bool (onS a b p))], []) :=
  run_of (hX _ (by decide)) (by
    have h1 := c37 X hX a b p ha hb hp
    simp only [encV] at h1
    rw [encV, encV, encV, e42]
    simp only [h1, Option.bind_some, List.headD_cons, pv_p, toInt_int, onS]
    cases (turnS a b p == 0) <;> simp only [cond_false, cond_true, Bool.false_and, Bool.true_and]
    cases (decide (goMin a.x b.x ≤ p.x)) <;> simp only [cond_false, cond_true, Bool.false_and, Bool.true_and]
    cases (decide (p.x ≤ goMax a.x b.x)) <;> simp only [cond_false, cond_true, Bool.false_and, Bool.true_and]
    cases (decide (goMin a.y b.y ≤ p.y)) <;> simp only [cond_false, cond_true, Bool.false_and, Bool.true_and])
theorem c55 (a b c p : V3) (ha : Bd 16777216 a) (hb : Bd 16777216 b) (hc : Bd 16777216 c) (hp : Bd 16777216 p) : run tab X 55 [.p (encV a), .p (encV b), .p (encV c), .p (encV p)] [] = some ([.p (.bool (inS a b c p))], []) :=
  run_of (hX _ (by decide)) (by
    have h1 := c37 X hX a b p ha hb hp
    have h2 := c37 X hX b c p hb hc hp
    have h3 := c37 X hX c a p hc ha hp
    have h4 := c42 X hX a b p ha hb hp
    have h5 := c42 X hX b c p hb hc hp
    have h6 := c42 X hX c a p hc ha hp
    simp only [encV] at h1 h2 h3 h4 h5 h6
    rw [encV, encV, encV, encV, e55]
    simp only [h1, h2, h3, h4, h5, h6, Option.bind_some, List.headD_cons, pv_p, toInt_int, toBool_bool, inS]
    cases onS a b p <;> simp only [cond_false, cond_true, Bool.false_or, Bool.true_or]
    cases onS b c p <;> simp only [cond_false, cond_true, Bool.false_or, Bool.true_or]
    cases onS c a p <;> simp only [cond_false, cond_true, Bool.false_or, Bool.true_or]
    cases (turnS a b p != 0) <;> simp only [cond_false, cond_true, Bool.false_and, Bool.true_and]
    cases (turnS a b p == turnS b c p) <;> simp only [cond_false, cond_true, Bool.false_and, Bool.true_and])
end
end Go.Skm.Hull
