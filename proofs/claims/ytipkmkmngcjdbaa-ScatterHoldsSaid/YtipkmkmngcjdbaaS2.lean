/-
  Distances, lists of points, the nearest of some points: what the small functions on lists return, for both; condition: lists that fit, points where that is said.
-/
import Derived.Test.YtipkmkmngcjdbaaS1
import Derived.Test.YtipkmkmngcjdbaaSkmG
namespace Go.Skm.Sct
open Go Go.Skm
theorem gd {k n : Nat} (h : k < n) : (leI (0 : Int) (k : Int) && ltI (k : Int) ((n : Nat) : Int)) = true := by
  simp only [Bool.and_eq_true, decide_eq_true_eq]; omega
theorem wr1 {k : Nat} (h : k < 1099511627776) : IntKind.i64.wrap ((k : Int) + 1) = ((k + 1 : Nat) : Int) := by
  rw [wrap_eq (by omega) (by omega)]; omega
theorem condEq {α : Type} {x y : Int} {a b r : α} (h : x = y) (h2 : b = r) : cond (x != y) a b = r := by rw [h, bne_self_eq_false]; exact h2
theorem condNe {α : Type} {x y : Int} {a b r : α} (h : ¬ x = y) (h2 : a = r) : cond (x != y) a b = r := by
  have : (x != y) = true := by simpa using h
  rw [this]; exact h2
theorem condEqs {α : Type} {x y : Int} {a b r : α} (h : x = y) (h2 : a = r) : cond (x == y) a b = r := by rw [h, beq_self_eq_true]; exact h2
theorem condNes {α : Type} {x y : Int} {a b r : α} (h : ¬ x = y) (h2 : b = r) : cond (x == y) a b = r := by
  have : (x == y) = false := by simpa using h
  rw [this]; exact h2
theorem tn (k : Nat) : ((k : Nat) : Int).toNat = k := Int.toNat_natCast k
@[simp] theorem v3_eta (v : V3) : (⟨v.x, v.y, v.z⟩ : V3) = v := rfl
def allFrom (p : Nat → Bool) (i n : Nat) : Bool := (List.range' i (n - i)).all p
theorem allFrom_nil {p : Nat → Bool} {i n : Nat} (h : n ≤ i) : allFrom p i n = true := by
  unfold allFrom; rw [show n - i = 0 by omega]; rfl
theorem allFrom_cons {p : Nat → Bool} {i n : Nat} (h : i < n) : allFrom p i n = (p i && allFrom p (i + 1) n) := by
  unfold allFrom; rw [show n - i = (n - (i + 1)) + 1 by omega, List.range'_succ]; rfl
theorem allFrom_iff {p : Nat → Bool} {i n : Nat} : allFrom p i n = true ↔ ∀ j, i ≤ j → j < n → p j = true := by
  unfold allFrom
  simp only [List.all_eq_true, List.mem_range'_1]
  constructor
  · intro h j h1 h2; exact h j ⟨h1, by omega⟩
  · intro h j hj; exact h j hj.1 (by omega)
def at_ (l : List V3) (i : Nat) : V3 := l.getD i default
def pnt (v : V3) : Bool := inM 1048576 v
theorem pnt_iff {v : V3} : pnt v = true ↔ (-1048576 ≤ v.x ∧ v.x ≤ 1048576) ∧ (-1048576 ≤ v.y ∧ v.y ≤ 1048576) ∧ (-1048576 ≤ v.z ∧ v.z ≤ 1048576) := inM_iff
def allP (l : List V3) : Bool := allFrom (fun j => pnt (at_ l j)) 0 l.length
def pts (l : List V3) : Bool := decide (l.length ≤ 4096) && allP l
def lt_ (l : List V3) (j : Nat) : Bool := decide (cmpV (at_ l j) (at_ l (j + 1)) = -1)
def up (l : List V3) : Bool := allFrom (lt_ l) 0 (l.length - 1)
def isSet (l : List V3) : Bool := up l && pts l
def d2 (a b : V3) : Int := (a.x - b.x) * (a.x - b.x) + (a.y - b.y) * (a.y - b.y) + (a.z - b.z) * (a.z - b.z)
theorem d2_comm (a b : V3) : d2 a b = d2 b a := by
  unfold d2
  have h : ∀ x y : Int, (x - y) * (x - y) = (y - x) * (y - x) := fun x y => by rw [← Int.neg_sub y x, Int.neg_mul_neg]
  rw [h a.x, h a.y, h a.z]
theorem sq_nn (a : Int) : 0 ≤ a * a := by
  rcases Int.le_total 0 a with h | h
  · exact Int.mul_nonneg h h
  · have := Int.mul_nonneg (show 0 ≤ -a by omega) (show 0 ≤ -a by omega)
    rwa [Int.neg_mul_neg] at this
theorem d2_nn (a b : V3) : 0 ≤ d2 a b := by
  have h1 := sq_nn (a.x - b.x)
  have h2 := sq_nn (a.y - b.y)
  have h3 := sq_nn (a.z - b.z)
  unfold d2; omega
abbrev far : Int := 1125899906842624
theorem sq_bd {x y : Int} (hx : -1048576 ≤ x ∧ x ≤ 1048576) (hy : -1048576 ≤ y ∧ y ≤ 1048576) : 0 ≤ (x - y) * (x - y) ∧ (x - y) * (x - y) ≤ 4398046511104 := by
  have := mulB (a := x - y) (b := x - y) (m := 2097152) (n := 2097152) (by omega) (by omega)
  exact ⟨sq_nn _, this.2⟩
theorem d2_far {a b : V3} (ha : pnt a = true) (hb : pnt b = true) : d2 a b < far := by
  rw [pnt_iff] at ha hb
  have h1 := sq_bd ha.1 hb.1
  have h2 := sq_bd ha.2.1 hb.2.1
  have h3 := sq_bd ha.2.2 hb.2.2
  unfold d2 far; omega
def mn (n : Int) (p : V3) (l : List V3) : Int := l.foldl (fun n q => min n (d2 p q)) n
def nr (p : V3) : List V3 → Int
  | [] => 0
  | c :: cs => mn (d2 p c) p cs
theorem goMin_eq (a b : Int) : goMin a b = min a b := by unfold goMin; omega
theorem goMax_eq (a b : Int) : goMax a b = max a b := by unfold goMax; omega
theorem dotd {a b : V3} (ha : pnt a = true) (hb : pnt b = true) : IntKind.i64.wrap ((IntKind.i64.wrap ((IntKind.i64.wrap ((a.x - b.x) * (a.x - b.x))) + (IntKind.i64.wrap ((a.y - b.y) * (a.y - b.y))))) + (IntKind.i64.wrap ((a.z - b.z) * (a.z - b.z)))) = d2 a b := by
  rw [pnt_iff] at ha hb
  have h1 := sq_bd ha.1 hb.1
  have h2 := sq_bd ha.2.1 hb.2.1
  have h3 := sq_bd ha.2.2 hb.2.2
  rw [wrap_eq (x := (a.x - b.x) * (a.x - b.x)) (by omega) (by omega), wrap_eq (x := (a.y - b.y) * (a.y - b.y)) (by omega) (by omega), wrap_eq (x := (a.z - b.z) * (a.z - b.z)) (by omega) (by omega), wrap_eq (x := (a.x - b.x) * (a.x - b.x) + (a.y - b.y) * (a.y - b.y)) (by omega) (by omega), wrap_eq (by omega) (by omega)]
  rfl
theorem pnt_valid {v : V3} (h : pnt v = true) : inM 16777216 v = true := by
  rw [pnt_iff] at h; rw [inM_iff]; omega
theorem cmp_or (a b : V3) : cmpV a b = -1 ∨ cmpV a b = 0 ∨ cmpV a b = 1 := by
  unfold cmpV cmpI; repeat' split
  all_goals simp
section
variable (X : Ext) (hX : Mine X)
include hX
theorem c65 (x y : Int) : run tab X 65 [.p (.int .i64 x), .p (.int .i64 y)] [] = some ([.p (.int .i64 (IntKind.i64.wrap (x - y)))], []) :=
  run_of (hX _ rfl) (by rw [e65])
theorem c64d (a b : V3) (ha : pnt a = true) (hb : pnt b = true) : run tab X 64 [.p (eV a), .p (eV b), .p (.fn 65 [])] [] = some ([.p (eV ⟨a.x - b.x, a.y - b.y, a.z - b.z⟩)], []) :=
  run_of (hX _ rfl) (by
    rw [pnt_iff] at ha hb
    rw [e64d, c65 X hX, c65 X hX, c65 X hX]
    rw [wrap_eq (x := a.x - b.x) (by omega) (by omega), wrap_eq (x := a.y - b.y) (by omega) (by omega), wrap_eq (x := a.z - b.z) (by omega) (by omega)]
    rfl)
theorem c66 (a : V3) : run tab X 66 [.p (eV a), .p (eV a)] [] = some ([.p (.int .i64 (IntKind.i64.wrap ((IntKind.i64.wrap ((IntKind.i64.wrap (a.x * a.x)) + (IntKind.i64.wrap (a.y * a.y)))) + (IntKind.i64.wrap (a.z * a.z)))))], []) :=
  run_of (hX _ rfl) (by rw [e66])
theorem u63 (v : V3) : run tab X 63 [.p (eV v)] [] = some ([.p (.bool (inM 16777216 v))], []) := c63 X hX v
theorem u45 (v : V3) : run tab X 45 [.p (eV v)] [] = some ([.p (.bool (pnt v))], []) := c45 X hX v
theorem u46 (v : V3) : run tab X 46 [.p (eV v)] [] = some ([.p (.bool (pnt v))], []) := c46 X hX v
theorem u35 (a b : V3) : run tab X 35 [.p (eV a), .p (eV b)] [] = some ([.p (.int .i64 (cmpV a b))], []) := c35 X hX a b
theorem u38 (a b : V3) : run tab X 38 [.p (eV a), .p (eV b)] [] = some ([.p (.int .i64 (cmpV a b))], []) := c38 X hX a b
theorem u58 (v : V3) (i : Int) : run tab X 58 [.p (eV v), .p (.int .i64 i)] [] = some ([.p (.int .i64 (if i = 0 then v.x else if i = 1 then v.y else v.z))], []) := c58 X hX v i
theorem c42 (a b : V3) (ha : pnt a = true) (hb : pnt b = true) : run tab X 42 [.p (eV a), .p (eV b)] [] = some ([.p (.int .i64 (d2 a b)), .p (.int .i64 0)], []) :=
  run_of (hX _ rfl) (by
    rw [e42]
    simp only [u63 X hX, pnt_valid ha, pnt_valid hb, Option.bind_some, List.headD_cons, pv_p, toBool_bool, Bool.not_true, cond_false, c64d X hX a b ha hb, cell_agg, List.getD_cons_zero, List.getD_cons_succ, toInt_int]
    rw [c66 X hX ⟨a.x - b.x, a.y - b.y, a.z - b.z⟩]
    simp only [Option.bind_some, List.headD_cons, pv_p, toInt_int, dotd ha hb])
theorem c28 (a b : V3) (ha : pnt a = true) (hb : pnt b = true) : run tab X 28 [.p (eV a), .p (eV b)] [] = some ([.p (.int .i64 (d2 a b))], []) :=
  run_of (hX _ rfl) (by rw [e28, c42 X hX a b ha hb]; rfl)
theorem c60 (v : V3) (h : pnt v = true) : run tab X 60 [.p (eV v)] [] = some ([.p (eV ⟨-v.x, -v.y, -v.z⟩)], []) :=
  run_of (hX _ rfl) (by
    rw [pnt_iff] at h
    rw [e60, wrap_eq (x := 0 - v.x) (by omega) (by omega), wrap_eq (x := 0 - v.y) (by omega) (by omega), wrap_eq (x := 0 - v.z) (by omega) (by omega)]
    simp)
theorem u59 (a b : V3) (ha : Bd 1099511627776 a) (hb : Bd 1099511627776 b) : run tab X 59 [.p (eV a), .p (eV b)] [] = some ([.p (eV ⟨a.x + b.x, a.y + b.y, a.z + b.z⟩)], []) := c59 X hX a b ha hb
theorem c40 (a b : V3) (ha : pnt a = true) (hb : pnt b = true) : run tab X 40 [.p (eV a), .p (eV b)] [] = some ([.p (eV ⟨a.x - b.x, a.y - b.y, a.z - b.z⟩)], []) :=
  run_of (hX _ rfl) (by
    rw [e40, c60 X hX b hb]
    simp only [Option.bind_some, List.headD_cons, pv_p, cell_agg, List.getD_cons_zero, List.getD_cons_succ, toInt_int]
    rw [pnt_iff] at ha hb
    have := u59 X hX a ⟨-b.x, -b.y, -b.z⟩ ⟨by omega, by omega, by omega⟩ ⟨by simp only; omega, by simp only; omega, by simp only; omega⟩
    simp only at this
    rw [this]
    simp only [Option.bind_some, List.headD_cons, pv_p, cell_agg, List.getD_cons_zero, List.getD_cons_succ, toInt_int, ← Int.sub_eq_add_neg])
theorem c39 (a : V3) : run tab X 39 [.p (eV a), .p (eV a)] [] = some ([.p (.int .i64 (IntKind.i64.wrap ((IntKind.i64.wrap ((IntKind.i64.wrap (0 + IntKind.i64.wrap (a.x * a.x))) + (IntKind.i64.wrap (a.y * a.y)))) + (IntKind.i64.wrap (a.z * a.z)))))], []) := by
  have w1 : IntKind.i64.wrap (0 + 1) = 1 := by decide
  have w2 : IntKind.i64.wrap (1 + 1) = 2 := by decide
  have w3 : IntKind.i64.wrap (2 + 1) = 3 := by decide
  refine run_of (hX _ rfl) ?_
  rw [e39]
  refine L_of ?_
  rw [e39_11010]
  simp only [u58 X hX, w1, Option.bind_some, List.headD_cons, pv_p, toInt_int]
  refine condP (by decide) ?_
  refine L_of ?_
  rw [e39_11010]
  simp only [u58 X hX, w2, Option.bind_some, List.headD_cons, pv_p, toInt_int]
  refine condP (by decide) ?_
  refine L_of ?_
  rw [e39_11010]
  simp only [u58 X hX, w3, Option.bind_some, List.headD_cons, pv_p, toInt_int]
  refine condP (by decide) ?_
  refine L_of ?_
  rw [e39_11010]
  exact condNP (by decide) rfl
theorem c21 (a b : V3) (ha : pnt a = true) (hb : pnt b = true) : run tab X 21 [.p (eV a), .p (eV b)] [] = some ([.p (.int .i64 (d2 a b))], []) :=
  run_of (hX _ rfl) (by
    rw [e21, c40 X hX a b ha hb]
    simp only [Option.bind_some, List.headD_cons, pv_p, cell_agg, List.getD_cons_zero, List.getD_cons_succ, toInt_int]
    rw [c39 X hX ⟨a.x - b.x, a.y - b.y, a.z - b.z⟩]
    have h := dotd ha hb
    have h1 := sq_bd (pnt_iff.1 ha).1 (pnt_iff.1 hb).1
    have w : IntKind.i64.wrap (0 + IntKind.i64.wrap ((a.x - b.x) * (a.x - b.x))) = IntKind.i64.wrap ((a.x - b.x) * (a.x - b.x)) := by
      rw [wrap_eq (x := (a.x - b.x) * (a.x - b.x)) (by omega) (by omega), wrap_eq (by omega) (by omega)]; omega
    simp only [Option.bind_some, List.headD_cons, pv_p, toInt_int, w, h])
theorem c44 (v : V3) : run tab X 44 [.p (eV v)] [] = some ([.p (.bool (!pnt v))], []) :=
  run_of (hX _ rfl) (by rw [e44, u45 X hX]; rfl)
theorem l67 (l : List V3) (hl : l.length ≤ 2147483648) : ∀ m i, i + m = l.length → ∃ r : Int, L tab (run tab X) 67 [] [.lp [1, 0, 1, 0]] (S67_1010p (encL l) ((l.length : Nat) : Int) (i : Int)) = some ([.p (.int .i64 r)], []) ∧
    decide (r ≥ 0) = !allFrom (fun j => pnt (at_ l j)) i l.length := by
  intro m
  induction m with
  | zero =>
    intro i hi
    refine ⟨-1, L_of ?_, ?_⟩
    · rw [e67_1010p]; exact condNP (by omega) rfl
    · rw [allFrom_nil (by omega)]; rfl
  | succ m ih =>
    intro i hi
    have hlt : i < l.length := by omega
    obtain ⟨r, h1, h2⟩ := ih (i + 1) (by omega)
    by_cases hp : pnt (at_ l i) = true
    · refine ⟨r, L_of ?_, ?_⟩
      · rw [e67_1010p]
        refine condP (by omega) (condT (by rw [encL_length]; exact gd hlt) ?_)
        simp only [tn, encL_x, encL_y, encL_z, c44 X hX, Option.bind_some, List.headD_cons, pv_p, toBool_bool, wr1 (show i < 1099511627776 by omega)]
        change pnt (l.getD i default) = true at hp
        rw [hp]
        exact h1
      · rw [h2, allFrom_cons hlt, hp]; simp
    · refine ⟨i, L_of ?_, ?_⟩
      · rw [e67_1010p]
        refine condP (by omega) (condT (by rw [encL_length]; exact gd hlt) ?_)
        simp only [tn, encL_x, encL_y, encL_z, c44 X hX, Option.bind_some, List.headD_cons, pv_p, toBool_bool]
        have hp' : pnt (l.getD i default) = false := by simpa [at_] using hp
        rw [hp']
        rfl
      · rw [allFrom_cons hlt]
        have hp' : pnt (at_ l i) = false := by simpa using hp
        rw [hp']; simp
theorem c43p (l : List V3) (hl : l.length ≤ 2147483648) : run tab X 43 [.p (.list true kV (encL l)), .p (.fn 44 [])] [] = some ([.p (.bool (!allP l))], []) :=
  run_of (hX _ rfl) (by
    obtain ⟨r, h1, h2⟩ := l67 X hX l hl l.length 0 (by omega)
    have h67 : run tab X 67 [.p (.list true kV (encL l)), .p (.fn 44 [])] [] = some ([.p (.int .i64 r)], []) := run_of (hX _ rfl) (by rw [e67p, encL_length]; exact h1)
    rw [e43p, h67]
    simp only [Option.bind_some, List.headD_cons, pv_p, toInt_int]
    rw [show geI r 0 = _ from h2]; rfl)
theorem c31 (l : List V3) : run tab X 31 [.p (.list true kV (encL l))] [] = some ([.p (.bool (pts l))], []) :=
  run_of (hX _ rfl) (by
    rw [e31]
    by_cases h : l.length ≤ 4096
    · refine condP (by rw [encL_length]; omega) ?_
      rw [c43p X hX l (by omega)]
      simp [pts, h]
    · refine condNP (by rw [encL_length]; omega) ?_
      simp [pts, h])
theorem l32 (l : List V3) (hl : l.length ≤ 2147483648) : ∀ m i, i + m = l.length → L tab (run tab X) 32 [] [.lp [1, 0, 1, 0]] (S32_1010 (encL l) (i : Int)) = some ([.p (.bool (allFrom (fun j => pnt (at_ l j)) i l.length))], []) := by
  intro m
  induction m with
  | zero =>
    intro i hi
    refine L_of ?_
    rw [e32_1010, allFrom_nil (by omega)]; exact condNP (by rw [encL_length]; omega) rfl
  | succ m ih =>
    intro i hi
    have hlt : i < l.length := by omega
    refine L_of ?_
    rw [e32_1010]
    refine condP (by rw [encL_length]; omega) (condT (by rw [encL_length]; exact gd hlt) ?_)
    simp only [tn, encL_x, encL_y, encL_z, u46 X hX, Option.bind_some, List.headD_cons, pv_p, toBool_bool, wr1 (show i < 1099511627776 by omega)]
    rw [allFrom_cons hlt, ih (i + 1) (by omega)]
    show cond (!pnt (at_ l i)) _ _ = _
    cases pnt (at_ l i) <;> rfl
theorem c32 (l : List V3) (hl : l.length ≤ 2147483648) : run tab X 32 [.p (.list true kV (encL l))] [] = some ([.p (.bool (allP l))], []) :=
  run_of (hX _ rfl) (by rw [e32]; exact l32 X hX l hl l.length 0 (by omega))
theorem l24 (l : List V3) (hl : l.length ≤ 2147483648) : ∀ m i, i + 1 + m = l.length → L tab (run tab X) 24 [] [.lp [1, 0, 1, 0]] (S24_1010 (encL l) ((i + 1 : Nat) : Int)) = some ([.p (.bool (allFrom (lt_ l) i (l.length - 1) && pts l))], []) := by
  intro m
  induction m with
  | zero =>
    intro i hi
    refine L_of ?_
    rw [e24_1010, allFrom_nil (by omega)]
    refine condNP (by rw [encL_length]; omega) ?_
    rw [c31 X hX]; rfl
  | succ m ih =>
    intro i hi
    have hlt : i + 1 < l.length := by omega
    have w : IntKind.i64.wrap (((i + 1 : Nat) : Int) - 1) = (i : Int) := by rw [wrap_eq (by omega) (by omega)]; omega
    refine L_of ?_
    rw [e24_1010, w]
    refine condP (by rw [encL_length]; omega) (condT (by rw [encL_length]; exact gd (by omega)) (condT (by rw [encL_length]; exact gd hlt) ?_))
    simp only [tn, encL_x, encL_y, encL_z, u35 X hX, Option.bind_some, List.headD_cons, pv_p, toInt_int, wr1 (show i + 1 < 1099511627776 by omega)]
    rw [allFrom_cons (show i < l.length - 1 by omega), ih (i + 1) (by omega)]
    have := cmp_or (l.getD i default) (l.getD (i + 1) default)
    by_cases h : cmpV (l.getD i default) (l.getD (i + 1) default) = -1
    · refine condNP (by omega) ?_
      have h' : lt_ l i = true := decide_eq_true h
      rw [h']; rfl
    · refine condP (by omega) ?_
      have h' : lt_ l i = false := decide_eq_false h
      rw [h']; rfl
theorem c24 (l : List V3) (hl : l.length ≤ 2147483648) : run tab X 24 [.p (.list true kV (encL l))] [] = some ([.p (.bool (isSet l))], []) :=
  run_of (hX _ rfl) (by
    rw [e24]
    by_cases h : l = []
    · subst h
      refine L_of ?_
      rw [e24_1010]
      refine condNP (by rw [encL_length]; decide) ?_
      rw [c31 X hX]; rfl
    · exact l24 X hX l hl (l.length - 1) 0 (by have := List.length_pos_iff.2 h; omega))
theorem l20 (l : List V3) (hl : l.length ≤ 2147483648) : ∀ m i, (i + 1 + m = l.length ∨ (i = 0 ∧ l = [])) → L tab (run tab X) 20 [] [.lp [1, 0, 1, 0]] (S20_1010 (encL l) (i : Int)) = some ([.p (.bool (allFrom (lt_ l) i (l.length - 1) && pts l))], []) := by
  intro m
  have hend : ∀ i, i < 1099511627776 → l.length ≤ i + 1 → L tab (run tab X) 20 [] [.lp [1, 0, 1, 0]] (S20_1010 (encL l) (i : Int)) = some ([.p (.bool (allFrom (lt_ l) i (l.length - 1) && pts l))], []) := by
    intro i hi h
    refine L_of ?_
    rw [e20_1010, allFrom_nil (by omega), wr1 hi]
    refine condNP (by rw [encL_length]; omega) ?_
    by_cases h4 : l.length ≤ 4096
    · refine condP (by rw [encL_length]; omega) ?_
      rw [c32 X hX l hl]; simp [pts, h4]
    · refine condNP (by rw [encL_length]; omega) ?_
      simp [pts, h4]
  induction m with
  | zero =>
    intro i hi
    rcases hi with hi | ⟨rfl, rfl⟩
    · exact hend i (by omega) (by omega)
    · exact hend 0 (by omega) (by simp)
  | succ m ih =>
    intro i hi
    rcases hi with hi | ⟨rfl, rfl⟩
    · have hlt : i + 1 < l.length := by omega
      refine L_of ?_
      rw [e20_1010, wr1 (show i < 1099511627776 by omega)]
      refine condP (by rw [encL_length]; omega) (condT (by rw [encL_length]; exact gd (by omega)) (condT (by rw [encL_length]; exact gd hlt) ?_))
      simp only [tn, encL_x, encL_y, encL_z, u38 X hX, Option.bind_some, List.headD_cons, pv_p, toInt_int]
      rw [allFrom_cons (show i < l.length - 1 by omega), ih (i + 1) (.inl (by omega))]
      by_cases h : cmpV (l.getD i default) (l.getD (i + 1) default) = -1
      · refine condEq h ?_
        have h' : lt_ l i = true := decide_eq_true h
        rw [h']; rfl
      · refine condNe h ?_
        have h' : lt_ l i = false := decide_eq_false h
        rw [h']; rfl
    · exact hend 0 (by omega) (by simp)
theorem c20 (l : List V3) (hl : l.length ≤ 2147483648) : run tab X 20 [.p (.list true kV (encL l))] [] = some ([.p (.bool (isSet l))], []) :=
  run_of (hX _ rfl) (by
    rw [e20]
    by_cases h : l = []
    · exact l20 X hX l hl 0 0 (.inr ⟨rfl, h⟩)
    · exact l20 X hX l hl (l.length - 1) 0 (.inl (by have := List.length_pos_iff.2 h; omega)))
end
end Go.Skm.Sct
