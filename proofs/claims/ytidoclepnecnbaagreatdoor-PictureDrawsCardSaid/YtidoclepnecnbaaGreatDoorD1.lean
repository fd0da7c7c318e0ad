/-
  Vectors, cameras and spots as pure values of the machine; which points and cameras are valid, for both; condition: none.
-/
import Derived.Test.YtidoclepnecnbaaGreatDoorP24
namespace Go.Skm.Drw
open Go Go.Skm
structure V3 where
  x : Int
  y : Int
  z : Int
  deriving DecidableEq
instance : Inhabited V3 := ⟨⟨0, 0, 0⟩⟩
abbrev kV : List Kd := [.int .i64, .int .i64, .int .i64]
abbrev encV (v : V3) : PV := .agg [.int .i64 v.x, .int .i64 v.y, .int .i64 v.z]
def encW (l : List V3) : List PV := l.map encV
@[simp] theorem encW_length (l : List V3) : (encW l).length = l.length := by simp [encW]
theorem encW_getD (l : List V3) {i : Nat} (h : i < l.length) : (encW l).getD i .nil = encV l[i] := by
  rw [List.getD_eq_getElem?_getD]; simp [encW, h]
structure Cam where
  e : V3
  r : V3
  u : V3
  f : V3
  fo : Int
  w : Int
  h : Int
  n : Int
abbrev kCam : List Kd := [.int .i64, .int .i64, .int .i64, .int .i64, .int .i64, .int .i64, .int .i64, .int .i64, .int .i64, .int .i64, .int .i64, .int .i64, .int .i64, .int .i64, .int .i64, .int .i64]
abbrev encCam (c : Cam) : PV := .agg [.int .i64 c.e.x, .int .i64 c.e.y, .int .i64 c.e.z, .int .i64 c.r.x, .int .i64 c.r.y, .int .i64 c.r.z, .int .i64 c.u.x, .int .i64 c.u.y, .int .i64 c.u.z, .int .i64 c.f.x, .int .i64 c.f.y, .int .i64 c.f.z, .int .i64 c.fo, .int .i64 c.w, .int .i64 c.h, .int .i64 c.n]
structure Sp where
  i : Int
  x : Int
  y : Int
  r : Int
  z : Int
  deriving DecidableEq
instance : Inhabited Sp := ⟨⟨0, 0, 0, 0, 0⟩⟩
abbrev kS : List Kd := [.int .i64, .int .i64, .int .i64, .int .i64, .int .i64]
abbrev encS (s : Sp) : PV := .agg [.int .i64 s.i, .int .i64 s.x, .int .i64 s.y, .int .i64 s.r, .int .i64 s.z]
def encT (l : List Sp) : List PV := l.map encS
@[simp] theorem encT_length (l : List Sp) : (encT l).length = l.length := by simp [encT]
theorem encT_getD (l : List Sp) {i : Nat} (h : i < l.length) : (encT l).getD i .nil = encS l[i] := by
  rw [List.getD_eq_getElem?_getD]; simp [encT, h]
def rng (n lo hi : Int) : Bool := decide (lo ≤ n ∧ n ≤ hi)
def pt (v : V3) : Bool := rng v.x (-1048576) 1048576 && (rng v.y (-1048576) 1048576 && rng v.z (-1048576) 1048576)
def ax (v : V3) : Bool := rng v.x (-100) 100 && (rng v.y (-100) 100 && rng v.z (-100) 100)
def wdot (a b : V3) : Int := IntKind.i64.wrap ((IntKind.i64.wrap ((IntKind.i64.wrap (a.x * b.x)) + (IntKind.i64.wrap (a.y * b.y)))) + (IntKind.i64.wrap (a.z * b.z)))
def dotV (a b : V3) : Int := a.x * b.x + a.y * b.y + a.z * b.z
theorem wdot_comm (a b : V3) : wdot a b = wdot b a := by
  unfold wdot
  rw [Int.mul_comm a.x, Int.mul_comm a.y, Int.mul_comm a.z]
def camV (c : Cam) : Bool := pt c.e && (ax c.r && (ax c.u && (ax c.f && (decide (wdot c.r c.u = 0 ∧ wdot c.r c.f = 0 ∧ wdot c.u c.f = 0 ∧ wdot c.u c.u = wdot c.r c.r ∧ wdot c.f c.f = wdot c.r c.r ∧ wdot c.r c.r ≠ 0) && (rng c.fo 1 4096 && (rng c.w 1 4096 && (rng c.h 1 4096 && rng c.n 1 1073741824)))))))
theorem mul_bd {a b A B : Int} (h1 : -A ≤ a) (h2 : a ≤ A) (h3 : -B ≤ b) (h4 : b ≤ B) : -(A * B) ≤ a * b ∧ a * b ≤ A * B := by
  have hA : 0 ≤ A := by omega
  have hB : 0 ≤ B := by omega
  have key : ∀ x y : Int, 0 ≤ x → x ≤ A → 0 ≤ y → y ≤ B → 0 ≤ x * y ∧ x * y ≤ A * B := fun x y hx hx' hy hy' => ⟨Int.mul_nonneg hx hy, Int.mul_le_mul hx' hy' hy hA⟩
  rcases Int.le_total 0 a with ha | ha
  · rcases Int.le_total 0 b with hb | hb
    · have := key a b ha h2 hb h4; omega
    · have := key a (-b) ha h2 (by omega) (by omega); rw [Int.mul_neg] at this; omega
  · rcases Int.le_total 0 b with hb | hb
    · have := key (-a) b (by omega) (by omega) hb h4; rw [Int.neg_mul] at this; omega
    · have := key (-a) (-b) (by omega) (by omega) (by omega) (by omega); rw [Int.neg_mul_neg] at this; omega
structure Bd (v : V3) (B : Int) : Prop where
  x : -B ≤ v.x ∧ v.x ≤ B
  y : -B ≤ v.y ∧ v.y ≤ B
  z : -B ≤ v.z ∧ v.z ≤ B
theorem dot_bd {a b : V3} {A B : Int} (ha : Bd a A) (hb : Bd b B) : -(3 * (A * B)) ≤ dotV a b ∧ dotV a b ≤ 3 * (A * B) := by
  have h1 := mul_bd ha.x.1 ha.x.2 hb.x.1 hb.x.2
  have h2 := mul_bd ha.y.1 ha.y.2 hb.y.1 hb.y.2
  have h3 := mul_bd ha.z.1 ha.z.2 hb.z.1 hb.z.2
  unfold dotV
  omega
theorem wdot_eq {a b : V3} {A B : Int} (ha : Bd a A) (hb : Bd b B) (h : 3 * (A * B) ≤ 9223372036854775807) : wdot a b = dotV a b := by
  have h1 := mul_bd ha.x.1 ha.x.2 hb.x.1 hb.x.2
  have h2 := mul_bd ha.y.1 ha.y.2 hb.y.1 hb.y.2
  have h3 := mul_bd ha.z.1 ha.z.2 hb.z.1 hb.z.2
  unfold wdot dotV
  rw [wrap_eq (x := a.x * b.x) (by omega) (by omega), wrap_eq (x := a.y * b.y) (by omega) (by omega), wrap_eq (x := a.z * b.z) (by omega) (by omega), wrap_eq (x := a.x * b.x + a.y * b.y) (by omega) (by omega), wrap_eq (by omega) (by omega)]
theorem ax_bd {v : V3} (h : ax v = true) : Bd v 100 := by
  simp only [ax, rng, Bool.and_eq_true, decide_eq_true_eq] at h
  exact ⟨h.1, h.2.1, h.2.2⟩
theorem pt_bd {v : V3} (h : pt v = true) : Bd v 1048576 := by
  simp only [pt, rng, Bool.and_eq_true, decide_eq_true_eq] at h
  exact ⟨h.1, h.2.1, h.2.2⟩
theorem sq_nn (a : Int) : 0 ≤ a * a := by
  rcases Int.le_total 0 a with h | h
  · exact Int.mul_nonneg h h
  · have := Int.mul_nonneg (show 0 ≤ -a by omega) (show 0 ≤ -a by omega)
    rwa [Int.neg_mul_neg] at this
theorem wdot_nn {v : V3} (h : ax v = true) : 0 ≤ wdot v v := by
  rw [wdot_eq (ax_bd h) (ax_bd h) (by decide)]
  unfold dotV
  have h1 := sq_nn v.x
  have h2 := sq_nn v.y
  have h3 := sq_nn v.z
  omega
section
variable (X : Ext) (hX : Mine X)
include hX
theorem c48 (n lo hi : Int) : run tab X 48 [.p (.int .i64 n), .p (.int .i64 lo), .p (.int .i64 hi)] [] = some ([.p (.bool (rng n lo hi))], []) :=
  run_of (hX _ rfl) (by
    rw [e48]
    simp only [condD]
    unfold rng
    by_cases h : lo ≤ n
    · rw [if_pos h]
      show some ([AV.p (PV.bool (decide (n ≤ hi)))], []) = _
      simp [h]
    · rw [if_neg h]; simp [h])
theorem c57 (n lo hi : Int) : run tab X 57 [.p (.int .i64 n), .p (.int .i64 lo), .p (.int .i64 hi)] [] = some ([.p (.bool (rng n lo hi))], []) :=
  run_of (hX _ rfl) (by
    rw [e57]
    unfold rng
    by_cases h : n ≥ lo
    · refine condP h ?_
      show some ([AV.p (PV.bool (decide (n ≤ hi)))], []) = _
      have h' : lo ≤ n := h
      simp [h']
    · refine condNP h ?_
      have h' : ¬ lo ≤ n := h
      simp [h'])
theorem c74 (n lo hi : Int) : run tab X 74 [.p (.int .i64 n), .p (.int .i64 lo), .p (.int .i64 hi)] [] = some ([.p (.bool (rng n lo hi))], []) :=
  run_of (hX _ rfl) (by
    rw [e74]
    unfold rng
    by_cases h : n ≥ lo
    · refine condP h ?_
      show some ([AV.p (PV.bool (decide (n ≤ hi)))], []) = _
      have h' : lo ≤ n := h
      simp [h']
    · refine condNP h ?_
      have h' : ¬ lo ≤ n := h
      simp [h'])
theorem c58 (v : V3) : run tab X 58 [.p (encV v)] [] = some ([.p (.bool (pt v))], []) :=
  run_of (hX _ rfl) (by
    rw [e58]
    simp only [c74 X hX, Option.bind_some, List.headD_cons, pv_p, toBool_bool]
    unfold pt
    cases rng v.x (-1048576) 1048576 <;> cases rng v.y (-1048576) 1048576 <;> cases rng v.z (-1048576) 1048576 <;> rfl)
theorem c73 (v : V3) : run tab X 73 [.p (encV v)] [] = some ([.p (.bool (ax v))], []) :=
  run_of (hX _ rfl) (by
    rw [e73]
    simp only [c57 X hX, Option.bind_some, List.headD_cons, pv_p, toBool_bool]
    unfold ax
    cases rng v.x (-100) 100 <;> cases rng v.y (-100) 100 <;> cases rng v.z (-100) 100 <;> rfl)
theorem c52 (a b : V3) : run tab X 52 [.p (encV a), .p (encV b)] [] = some ([.p (.int .i64 (wdot a b))], []) := run_of (hX _ rfl) (by rw [e52]; rfl)
theorem c59 (a b : V3) : run tab X 59 [.p (encV a), .p (encV b)] [] = some ([.p (.int .i64 (wdot a b))], []) := run_of (hX _ rfl) (by rw [e59]; rfl)
omit hX in
theorem c70_step (x y z : Int) (i : Nat) (hi : i < 3) (n : Int) (hn : [x, y, z].getD i 0 = n) {r : Option (List AV × List Blk)}
    (h : L tab (run tab X) 70 [] [.lp [1, 0, 1, 0]] (S70_1010 1048576 [.int .i64 x, .int .i64 y, .int .i64 z] 3 ((i + 1 : Nat) : Int)) = r) (b : Bool) (hb : r = some ([.p (.bool b)], [])) :
    L tab (run tab X) 70 [] [.lp [1, 0, 1, 0]] (S70_1010 1048576 [.int .i64 x, .int .i64 y, .int .i64 z] 3 (i : Int)) = some ([.p (.bool (rng n (-1048576) 1048576 && b))], []) := by
  have w1 : IntKind.i64.wrap ((i : Int) + 1) = ((i + 1 : Nat) : Int) := by rw [wrap_eq (by omega) (by omega)]; omega
  have w2 : IntKind.i64.wrap (0 - 1048576) = -1048576 := by decide
  have hg : ((([.int .i64 x, .int .i64 y, .int .i64 z] : List PV).getD (i : Int).toNat .nil).cell 0).toInt = n := by
    match i, hi, hn with
    | 0, _, hn => exact hn
    | 1, _, hn => exact hn
    | 2, _, hn => exact hn
  refine L_of ?_
  rw [e70_1010, w1, w2, hg, h, hb]
  refine condP (show (i : Int) < 3 by omega) ?_
  refine condT (by simp only [leI, ltI, Bool.and_eq_true, decide_eq_true_eq, List.length_cons, List.length_nil]; omega) ?_
  unfold rng
  by_cases h1 : n < -1048576
  · refine condP h1 ?_
    have : ¬ (-1048576 ≤ n ∧ n ≤ 1048576) := by omega
    simp [this]
  · refine condNP h1 ?_
    by_cases h2 : n > 1048576
    · refine condP h2 ?_
      have : ¬ (-1048576 ≤ n ∧ n ≤ 1048576) := by omega
      simp [this]
    · refine condNP h2 ?_
      have : -1048576 ≤ n ∧ n ≤ 1048576 := by omega
      simp [this]
theorem c51 (v : V3) : run tab X 51 [.p (encV v)] [] = some ([.p (.bool (pt v))], []) :=
  run_of (hX _ rfl) (by
    have h70 : run tab X 70 [.p (.int .i64 1048576), .p (.list false [.int .i64] [.int .i64 v.x, .int .i64 v.y, .int .i64 v.z])] [] = some ([.p (.bool (pt v))], []) :=
      run_of (hX _ rfl) (by
        rw [e70]
        have h3 : L tab (run tab X) 70 [] [.lp [1, 0, 1, 0]] (S70_1010 1048576 [.int .i64 v.x, .int .i64 v.y, .int .i64 v.z] 3 ((2 + 1 : Nat) : Int)) = some ([.p (.bool true)], []) := by
          refine L_of ?_
          rw [e70_1010]
          exact condNP (show ¬ ((2 + 1 : Nat) : Int) < 3 by omega) rfl
        have h2 := c70_step X v.x v.y v.z 2 (by omega) v.z rfl h3 true rfl
        have h1 := c70_step X v.x v.y v.z 1 (by omega) v.y rfl h2 _ rfl
        have h0 := c70_step X v.x v.y v.z 0 (by omega) v.x rfl h1 _ rfl
        unfold pt
        rw [Bool.and_true] at h0
        exact h0)
    rw [e51]
    exact bindS h70 rfl)
theorem ax_chain (v : V3) {K : Option (List AV × List Blk)} :
    ((run tab X 48 [.p (.int .i64 v.x), .p (.int .i64 (-100)), .p (.int .i64 100)] []).bind fun r1 => bif (!(r1.1.headD .undef).pv.toBool) then (some ([.p (.bool false)], []) : Option (List AV × List Blk)) else
      (run tab X 48 [.p (.int .i64 v.y), .p (.int .i64 (-100)), .p (.int .i64 100)] []).bind fun r2 => bif (!(r2.1.headD .undef).pv.toBool) then some ([.p (.bool false)], []) else
        (run tab X 48 [.p (.int .i64 v.z), .p (.int .i64 (-100)), .p (.int .i64 100)] []).bind fun r3 => bif (!(r3.1.headD .undef).pv.toBool) then some ([.p (.bool false)], []) else K) = bif ax v then K else some ([.p (.bool false)], []) := by
  simp only [c48 X hX, Option.bind_some, List.headD_cons, pv_p, toBool_bool]
  unfold ax
  cases rng v.x (-100) 100 <;> cases rng v.y (-100) 100 <;> cases rng v.z (-100) 100 <;> rfl
theorem c56 (c : Cam) : run tab X 56 [.p (encCam c)] [] = some ([.p (.bool (camV c))], []) :=
  run_of (hX _ rfl) (by
    have d := c59 X hX
    rw [e56, c58 X hX c.e, c73 X hX c.r, c73 X hX c.u, c73 X hX c.f, d c.r c.r, d c.u c.u, d c.f c.f, d c.r c.u, d c.r c.f, d c.u c.f]
    simp only [c57 X hX, Option.bind_some, List.headD_cons, pv_p, toBool_bool, toInt_int]
    unfold camV
    cases pt c.e with
    | false => rfl
    | true =>
    cases ax c.r with
    | false => rfl
    | true =>
    cases ax c.u with
    | false => rfl
    | true =>
    cases ax c.f with
    | false => rfl
    | true =>
      simp only [condO, condN, condE, cond_true, Bool.true_and]
      generalize wdot c.r c.r = a
      generalize wdot c.u c.u = b
      generalize wdot c.f c.f = e
      generalize wdot c.r c.u = f
      generalize wdot c.r c.f = g
      generalize wdot c.u c.f = k
      by_cases h1 : a = 0
      · rw [if_pos h1]; simp [h1]
      rw [if_neg h1]
      by_cases h2 : b = a
      · rw [if_pos h2]
        by_cases h3 : e = a
        · rw [if_pos h3]
          by_cases h4 : f = 0
          · rw [if_pos h4]
            by_cases h5 : g = 0
            · rw [if_pos h5]
              by_cases h6 : k = 0
              · rw [if_pos h6]
                have : decide (f = 0 ∧ g = 0 ∧ k = 0 ∧ b = a ∧ e = a ∧ a ≠ 0) = true := decide_eq_true ⟨h4, h5, h6, h2, h3, h1⟩
                rw [this]
                cases rng c.fo 1 4096 <;> cases rng c.w 1 4096 <;> cases rng c.h 1 4096 <;> rfl
              · rw [if_neg h6]; simp [h6]
            · rw [if_neg h5]; simp [h5]
          · rw [if_neg h4]; simp [h4]
        · rw [if_neg h3]; simp [h3]
      · rw [if_neg h2]; simp [h2])
end
end Go.Skm.Drw
