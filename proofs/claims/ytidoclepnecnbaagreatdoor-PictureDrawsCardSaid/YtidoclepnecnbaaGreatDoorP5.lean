/-
  The colour at a place: both look it up alike; condition: a valid picture's dots, a place that is not far away.
-/
import Derived.Test.YtidoclepnecnbaaGreatDoorP1
namespace Go.Skm.Drw
open Go Go.Skm
def Near (n : Int) : Prop := -100000 ≤ n ∧ n ≤ 100000
structure Dt.near (d : Dt) : Prop where
  x : -8192 ≤ d.x ∧ d.x ≤ 8192
  y : -8192 ≤ d.y ∧ d.y ≤ 8192
  r : 1 ≤ d.r ∧ d.r ≤ 4096
theorem Valid.near {p : Pi} (h : Valid p) : ∀ v ∈ p.d, v.near := fun v hv => ⟨(h.d v hv).1, (h.d v hv).2.1, (h.d v hv).2.2⟩
theorem sq_bd {a : Int} (h1 : -200000 ≤ a) (h2 : a ≤ 200000) : 0 ≤ a * a ∧ a * a ≤ 40000000000 := by
  have key : ∀ b : Int, 0 ≤ b → b ≤ 200000 → 0 ≤ b * b ∧ b * b ≤ 40000000000 := fun b h1 h2 => ⟨Int.mul_nonneg h1 h1, by
    have := Int.mul_le_mul h2 h2 h1 (by omega)
    omega⟩
  rcases Int.le_total 0 a with h | h
  · exact key a h h2
  · have := key (-a) (by omega) (by omega)
    rwa [Int.neg_mul_neg] at this
def cov (d : Dt) (x y : Int) : Bool := decide ((x - d.x) * (x - d.x) + (y - d.y) * (y - d.y) ≤ d.r * d.r)
def off (d x w : Int) : Int := min (max d x) (x + w - 1) - d
def touch (d : Dt) (x y w h : Int) : Bool := decide (off d.x x w * off d.x x w + off d.y y h * off d.y y h ≤ d.r * d.r)
theorem off_one (d x : Int) : off d x 1 = x - d := by unfold off; omega
theorem touch_one (d : Dt) (x y : Int) : touch d x y 1 1 = cov d x y := by
  unfold touch cov
  rw [off_one, off_one]
def pixF (x y : Int) : List Dt → Int × Int × Int → Int × Int × Int
  | [], c => c
  | d :: l, c => pixF x y l (if cov d x y then (d.a, d.e, d.b) else c)
abbrev colC (c : Int × Int × Int) : PV := colP c.1 c.2.1 c.2.2
theorem pixF_app (x y : Int) : ∀ (l m : List Dt) (c : Int × Int × Int), pixF x y (l ++ m) c = pixF x y m (pixF x y l c)
  | [], _, _ => rfl
  | d :: l, m, c => by rw [List.cons_append, pixF, pixF, pixF_app x y l m]
theorem dt_get {l : List Dt} {i : Nat} (h : i < l.length) : l.getD i default = l[i] := by simp [List.getD_eq_getElem?_getD, h]
section
variable (X : Ext) (hX : Mine X)
include hX
theorem c24 {d : Dt} (hd : d.near) {x y w h : Int} (hx : Near x) (hy : Near y) (hw : 1 ≤ w ∧ w ≤ 10000) (hh : 1 ≤ h ∧ h ≤ 10000) :
    run tab X 24 [.p (encD d), .p (.int .i64 x), .p (.int .i64 y), .p (.int .i64 w), .p (.int .i64 h)] [] = some ([.p (.bool (touch d x y w h))], []) :=
  run_of (hX _ rfl) (by
    obtain ⟨d1, d2, d3⟩ := hd
    unfold Near at hx hy
    have o1 : -200000 ≤ off d.x x w ∧ off d.x x w ≤ 200000 := by unfold off; omega
    have o2 : -200000 ≤ off d.y y h ∧ off d.y y h ≤ 200000 := by unfold off; omega
    have b1 := sq_bd o1.1 o1.2
    have b2 := sq_bd o2.1 o2.2
    have b3 := sq_bd (a := d.r) (by omega) (by omega)
    have w1 : IntKind.i64.wrap (goMin (goMax d.x x) (IntKind.i64.wrap (IntKind.i64.wrap (x + w) - 1)) - d.x) = off d.x x w := by
      rw [wrap_eq (x := x + w) (by omega) (by omega), wrap_eq (x := x + w - 1) (by omega) (by omega), goMin_eq, goMax_eq]
      exact wrap_eq (by omega) (by omega)
    have w2 : IntKind.i64.wrap (goMin (goMax d.y y) (IntKind.i64.wrap (IntKind.i64.wrap (y + h) - 1)) - d.y) = off d.y y h := by
      rw [wrap_eq (x := y + h) (by omega) (by omega), wrap_eq (x := y + h - 1) (by omega) (by omega), goMin_eq, goMax_eq]
      exact wrap_eq (by omega) (by omega)
    rw [e24, w1, w2, wrap_eq (x := off d.x x w * off d.x x w) (by omega) (by omega), wrap_eq (x := off d.y y h * off d.y y h) (by omega) (by omega),
      wrap_eq (x := off d.x x w * off d.x x w + off d.y y h * off d.y y h) (by omega) (by omega), wrap_eq (x := d.r * d.r) (by omega) (by omega)]
    rfl)
theorem c24a {d : Dt} (hd : d.near) {x y : Int} (hx : Near x) (hy : Near y) : run tab X 24 [.p (encD d), .p (.int .i64 x), .p (.int .i64 y), .p (.int .i64 1), .p (.int .i64 1)] [] = some ([.p (.bool (cov d x y))], []) := by
  rw [← touch_one]
  exact c24 X hX hd hx hy (by omega) (by omega)
end
def backF (l : List Dt) : Nat → List PV
  | 0 => []
  | n + 1 => .agg [.int .i64 (n : Int), encD (l.getD n default)] :: backF l n
section
variable (X : Ext) (hX : Mine X)
include hX
theorem c40_loop (l : List Dt) (hl : l.length ≤ maxLen) : ∀ (n : Nat) (acc : List PV), n ≤ l.length →
    L tab (run tab X) 40 [.log true []] [.lp [1, 0]] (S40_10 (encL l) ((n : Int) - 1) acc) = some ([], [.log true (acc ++ backF l n)]) := by
  have _ := hX
  have hm : (maxLen : Int) = 9223372036854775807 := by decide
  intro n
  induction n with
  | zero =>
    intro acc hn
    refine L_of ?_
    rw [e40_10]
    simp only [condD]
    rw [if_neg (by omega), backF, List.append_nil]
  | succ n ih =>
    intro acc hn
    have e1 : ((n + 1 : Nat) : Int) - 1 = (n : Int) := by omega
    have w : IntKind.i64.wrap ((n : Int) - 1) = (n : Int) - 1 := wrap_eq (by omega) (by omega)
    have ih' := ih (acc ++ [.agg [.int .i64 (n : Int), encD (l.getD n default)]]) (by omega)
    refine L_of ?_
    rw [e1, e40_10]
    simp only [condD, condA, encL_length, encL_x, encL_y, encL_r, encL_a, encL_e, encL_b, Int.toNat_natCast, w]
    rw [if_pos (by omega), if_pos (by omega), if_pos (by omega)]
    refine Eq.trans ih' ?_
    rw [List.append_assoc]; rfl
theorem c40 (l : List Dt) (hl : l.length ≤ maxLen) : run tab X 40 [.yld, .p (.ref [.list true kD (encL l)])] [.log true []] = some ([], [.log true (backF l l.length)]) :=
  run_of (hX _ rfl) (by
    have hm : (maxLen : Int) = 9223372036854775807 := by decide
    rw [e40, encL_length, wrap_eq (by omega) (by omega)]
    exact c40_loop X hX l hl l.length [] (Nat.le_refl _))
theorem c23 (l : List Dt) : run tab X 23 [.p (.list true kD (encL l))] [] = some ([.p (.fn 40 [.ref [.list true kD (encL l)]])], []) :=
  run_of (hX _ rfl) (e23 _ _)
theorem c11_loop (l : List Dt) (hn : ∀ v ∈ l, v.near) {x y : Int} (hx : Near x) (hy : Near y) (c : Int × Int × Int) (u : List PV) : ∀ n : Nat, n ≤ l.length →
    L tab (run tab X) 11 [] [.rg [1, 0, 1, 1, 1, 1, 0, 1, 0] [(false, [.int .i64]), (true, kD)] (backF l n)] (S11_101111010 u x y 0 0 0 c.1 c.2.1 c.2.2) = some ([.p (colC (pixF x y (l.take n) c)), .p (.int .i64 0)], []) := by
  intro n
  induction n with
  | zero =>
    intro _
    rw [backF, e11_101111010_nil]
    rfl
  | succ n ih =>
    intro h
    have hlt : n < l.length := by omega
    have hc := c24a X hX (hn l[n] (List.getElem_mem hlt)) hx hy
    have ht : l.take (n + 1) = l.take n ++ [l[n]] := by rw [List.take_succ_eq_append_getElem hlt]
    rw [backF, dt_get hlt, ht, pixF_app]
    rw [e11_101111010_cons]
    refine bindS hc ?_
    simp only [List.headD_cons, pv_p, toBool_bool, pixF]
    cases cov l[n] x y with
    | true => rfl
    | false =>
      simp only [cond_false, Bool.false_eq_true, if_false]
      exact ih (by omega)
end
end Go.Skm.Drw
