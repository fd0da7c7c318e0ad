/-
  The spot of a point, as the document has it; condition: a valid camera, a point, a radius.
-/
import Derived.Test.YtidoclepnecnbaaGreatDoorD4
namespace Go.Skm.Drw
open Go Go.Skm
section
variable (X : Ext)
theorem c34_halve (z n m : Int) (hz : (!eqI z 0) = true) (hm : IntKind.i64.wrap ((IntKind.i64.wrap (n.tdiv z)).tdiv z) = m) (s : Int) (hs : IsRoot m s) (b0 b1 b2 b3 b4 x0 x1 x2 x3 x4 : Int) : ∀ (k : Nat) (low high : Int), (high - low).toNat ≤ k → 0 ≤ low → low < high → high ≤ 1073741824 → low * low ≤ m → m < high * high →
    L tab (run tab X) 34 [] [.lp [1, 1, 1, 1, 1, 1, 1, 1, 1, 0, 0]] (S34_11111111100 z n low high b0 b1 b2 b3 b4 x0 x1 x2 x3 x4) = some ([.p (encS ⟨x0, x1, x2, max 1 s, x4⟩), .p (.bool true)], []) := by
  intro k
  induction k with
  | zero => intro low high hk h0 h1; omega
  | succ k ih =>
    intro low high hk h0 h1 h2 h3 h4
    have w : IntKind.i64.wrap (high - low) = high - low := wrap_eq (by omega) (by omega)
    have w1 : IntKind.i64.wrap (low + high) = low + high := wrap_eq (by omega) (by omega)
    have w2 : IntKind.i64.wrap ((low + high).tdiv 2) = (low + high) / 2 := by rw [Int.tdiv_eq_ediv_of_nonneg (by omega), wrap_eq (by omega) (by omega)]
    have sb : (low + high) / 2 * ((low + high) / 2) ≤ 1073741824 * 1073741824 := Int.mul_le_mul (by omega) (by omega) (by omega) (by omega)
    have sn := sq_nn ((low + high) / 2)
    have w3 : IntKind.i64.wrap ((low + high) / 2 * ((low + high) / 2)) = (low + high) / 2 * ((low + high) / 2) := wrap_eq (by omega) (by omega)
    refine L_of ?_
    rw [e34_11111111100, w, w1, w2, w3, hm]
    by_cases h : high - low > 1
    · refine condP h (condT hz (condT hz ?_))
      by_cases hq : (low + high) / 2 * ((low + high) / 2) ≤ m
      · refine condP hq ?_
        exact ih _ _ (by omega) (by omega) (by omega) h2 hq h4
      · refine condNP hq ?_
        exact ih _ _ (by omega) h0 (by omega) (by omega) h3 (by omega)
    · refine condNP h ?_
      have e : high = low + 1 := by omega
      have : s = low := root_uniq hs ⟨h0, h3, by rwa [e] at h4⟩
      rw [this, goMax_eq]
theorem c34_double (z n m : Int) (hz : (!eqI z 0) = true) (hm : IntKind.i64.wrap ((IntKind.i64.wrap (n.tdiv z)).tdiv z) = m) (h0 : 0 ≤ m) (h1 : m ≤ 1000000000000000000) (s : Int) (hs : IsRoot m s) (b0 b1 b2 b3 b4 x0 x1 x2 x3 x4 : Int) : ∀ (j k : Nat), k + j = 30 →
    L tab (run tab X) 34 [] [.lp [1, 1, 1, 1, 1, 1, 1, 1, 0, 0]] (S34_1111111100 z n 0 ((2 ^ k : Nat) : Int) b0 b1 b2 b3 b4 x0 x1 x2 x3 x4) = some ([.p (encS ⟨x0, x1, x2, max 1 s, x4⟩), .p (.bool true)], []) := by
  intro j
  induction j with
  | zero =>
    intro k hk
    have e : ((2 ^ k : Nat) : Int) = 1073741824 := by rw [show k = 30 by omega]; rfl
    have w : IntKind.i64.wrap ((1073741824 : Int) * 1073741824) = 1152921504606846976 := by decide
    refine L_of ?_
    rw [e34_1111111100, e, w, hm]
    refine condT hz (condT hz (condNP (show ¬ (1152921504606846976 : Int) ≤ m by omega) ?_))
    exact c34_halve X z n m hz hm s hs b0 b1 b2 b3 b4 x0 x1 x2 x3 x4 1073741824 0 1073741824 (by omega) (by omega) (by omega) (by omega) (by omega) (by omega)
  | succ j ih =>
    intro k hk
    have hp : ((2 ^ (k + 1) : Nat) : Int) = 2 * ((2 ^ k : Nat) : Int) := by
      have : (2 : Nat) ^ (k + 1) = 2 ^ k * 2 := Nat.pow_succ 2 k
      rw [this]; omega
    have hle : (2 : Nat) ^ k ≤ 2 ^ 29 := Nat.pow_le_pow_right (by omega) (by omega)
    have hpos : 1 ≤ (2 : Nat) ^ k := Nat.one_le_two_pow
    have ih' := ih (k + 1) (by omega)
    rw [hp] at ih'
    generalize (2 : Nat) ^ k = Q at *
    have sb : (Q : Int) * Q ≤ 536870912 * 536870912 := Int.mul_le_mul (by omega) (by omega) (by omega) (by omega)
    have sn := sq_nn (Q : Int)
    have w : IntKind.i64.wrap ((Q : Int) * Q) = (Q : Int) * Q := wrap_eq (by omega) (by omega)
    have w2 : IntKind.i64.wrap (2 * (Q : Int)) = 2 * (Q : Int) := wrap_eq (by omega) (by omega)
    refine L_of ?_
    rw [e34_1111111100, w, w2, hm]
    refine condT hz (condT hz ?_)
    by_cases h : (Q : Int) * Q ≤ m
    · exact condP h ih'
    · refine condNP h ?_
      exact c34_halve X z n m hz hm s hs b0 b1 b2 b3 b4 x0 x1 x2 x3 x4 Q 0 Q (by omega) (by omega) (by omega) (by omega) (by omega) (by omega)
variable (hX : Mine X)
include hX
theorem c34 (c : Cam) (hc : CamOk c) (hu : 0 ≤ wdot c.u c.u) (p : V3) (hp : Bd p 1048576) {rad : Int} (h0 : 0 ≤ rad) (h1 : rad ≤ 1000) (s : Int) (hs : ∀ x y z, spotI c p = some (x, y, z) → IsRoot (num c rad / z / z) s) :
    run tab X 34 [.p (encCam c), .p (encV p), .p (.int .i64 rad)] [] = some (spotR s (spotI c p)) := by
  obtain ⟨w1, w2, w3⟩ := sub_wrap hp hc.e
  have hsb := sub_bd hp hc.e
  have bz := wdot_bd hsb hc.f (by decide)
  have bx := wdot_bd hsb hc.r (by decide)
  have by_ := wdot_bd hsb hc.u (by decide)
  have hf := hc.fo
  have hw := hc.w
  have hh := hc.h
  have hn := hc.n
  have mx := mul_bd (a := c.fo) (A := 4096) (by omega) (by omega) bx.1 bx.2
  have my := mul_bd (a := c.fo) (A := 4096) (by omega) (by omega) by_.1 by_.2
  obtain ⟨n1, n2, n3⟩ := num_bd X hX hc hu h0 h1
  have d52 := c59 X hX
  have e52 : run tab X 59 [.p (encV (sub p c.e)), .p (encV c.f)] [] = some ([.p (.int .i64 (wdot (sub p c.e) c.f))], []) := d52 _ _
  have t1 : IntKind.i64.wrap (c.w.tdiv 2) = c.w / 2 := by rw [Int.tdiv_eq_ediv_of_nonneg (by omega), wrap_eq (by omega) (by omega)]
  have t2 : IntKind.i64.wrap (c.h.tdiv 2) = c.h / 2 := by rw [Int.tdiv_eq_ediv_of_nonneg (by omega), wrap_eq (by omega) (by omega)]
  unfold spotI at hs ⊢
  refine run_of (hX _ rfl) ?_
  by_cases hz : wdot (sub p c.e) c.f < c.n
  · rw [e34, w1, w2, w3, if_pos hz]
    exact bindS e52 (condP hz rfl)
  · rw [if_neg hz] at hs ⊢
    have fx := c60 X hX (a := c.fo * wdot (sub p c.e) c.r) (b := wdot (sub p c.e) c.f) (by omega) (by omega) (by omega) (by omega)
    have fy := c60 X hX (a := c.fo * wdot (sub p c.e) c.u) (b := wdot (sub p c.e) c.f) (by omega) (by omega) (by omega) (by omega)
    have qx := ediv_bd (a := c.fo * wdot (sub p c.e) c.r) (b := wdot (sub p c.e) c.f) (by omega) mx.1 mx.2
    have qy := ediv_bd (a := c.fo * wdot (sub p c.e) c.u) (b := wdot (sub p c.e) c.f) (by omega) my.1 my.2
    have wx : IntKind.i64.wrap (c.fo * wdot (sub p c.e) c.r) = c.fo * wdot (sub p c.e) c.r := wrap_eq (by omega) (by omega)
    have wy : IntKind.i64.wrap (c.fo * wdot (sub p c.e) c.u) = c.fo * wdot (sub p c.e) c.u := wrap_eq (by omega) (by omega)
    generalize hqx : c.fo * wdot (sub p c.e) c.r / wdot (sub p c.e) c.f = qX at *
    generalize hqy : c.fo * wdot (sub p c.e) c.u / wdot (sub p c.e) c.f = qY at *
    have vx : IntKind.i64.wrap (c.w / 2 + qX) = c.w / 2 + qX := wrap_eq (by omega) (by omega)
    have vy : IntKind.i64.wrap (c.h / 2 - qY) = c.h / 2 - qY := wrap_eq (by omega) (by omega)
    have q1 := tdiv_nn (a := num c rad) (b := wdot (sub p c.e) c.f) n3.1 (by omega)
    have q2 := tdiv_nn (a := num c rad / wdot (sub p c.e) c.f) (b := wdot (sub p c.e) c.f) q1.2.1 (by omega)
    have u4 : IntKind.i64.wrap ((IntKind.i64.wrap ((num c rad).tdiv (wdot (sub p c.e) c.f))).tdiv (wdot (sub p c.e) c.f)) = num c rad / wdot (sub p c.e) c.f / wdot (sub p c.e) c.f := by
      rw [q1.1, wrap_eq (x := num c rad / wdot (sub p c.e) c.f) (by omega) (by omega), q2.1, wrap_eq (by omega) (by omega)]
    have f2 : c.fo * c.fo ≤ 4096 * 4096 := Int.mul_le_mul hf.2 hf.2 (by omega) (by omega)
    have f0 := sq_nn c.fo
    have f3 : 0 ≤ c.fo * c.fo * rad := Int.mul_nonneg f0 h0
    have f4 : c.fo * c.fo * rad ≤ 16777216 * 1000 := Int.mul_le_mul (by omega) h1 h0 (by omega)
    have ea : c.fo * c.fo * rad * rad = c.fo * rad * (c.fo * rad) := by ac_rfl
    have u1 : IntKind.i64.wrap (c.fo * c.fo) = c.fo * c.fo := wrap_eq (by omega) (by omega)
    have u2 : IntKind.i64.wrap (c.fo * c.fo * rad) = c.fo * c.fo * rad := wrap_eq (by omega) (by omega)
    have u3 : IntKind.i64.wrap (c.fo * c.fo * rad * rad) = c.fo * rad * (c.fo * rad) := by rw [ea, wrap_eq (by omega) (by omega)]
    have u5 : IntKind.i64.wrap (c.fo * rad * (c.fo * rad) * wdot c.r c.r) = num c rad := by
      rw [← hc.same]
      exact wrap_eq (by unfold num at n3; omega) (by unfold num at n3; omega)
    have hzz : (!eqI (wdot (sub p c.e) c.f) 0) = true := by
      have : ¬ wdot (sub p c.e) c.f = 0 := by omega
      simp [this]
    rw [e34, w1, w2, w3, t1, t2]
    refine bindS e52 (condNP hz (bindS (d52 (sub p c.e) c.r) ?_))
    simp only [List.headD_cons, pv_p, toInt_int]
    rw [wx]
    refine bindS fx (bindS (d52 (sub p c.e) c.u) ?_)
    simp only [List.headD_cons, pv_p, toInt_int]
    rw [wy]
    refine bindS fy ?_
    simp only [List.headD_cons, pv_p, toInt_int]
    rw [vx, vy]
    by_cases a1 : c.w / 2 + qX < 0
    · rw [if_neg (by omega)]; exact condP a1 rfl
    refine condNP a1 ?_
    by_cases a2 : c.w / 2 + qX ≥ c.w
    · rw [if_neg (by omega)]; exact condP a2 rfl
    refine condNP a2 ?_
    by_cases a3 : c.h / 2 - qY < 0
    · rw [if_neg (by omega)]; exact condP a3 rfl
    refine condNP a3 ?_
    by_cases a4 : c.h / 2 - qY ≥ c.h
    · rw [if_neg (by omega)]; exact condP a4 rfl
    refine condNP a4 ?_
    have hin : 0 ≤ c.w / 2 + qX ∧ c.w / 2 + qX ≤ c.w - 1 ∧ 0 ≤ c.h / 2 - qY ∧ c.h / 2 - qY ≤ c.h - 1 := ⟨by omega, by omega, by omega, by omega⟩
    rw [if_pos hin] at hs ⊢
    refine bindS (d52 c.r c.r) ?_
    simp only [List.headD_cons, pv_p, toInt_int]
    rw [u1, u2, u3, u5]
    exact c34_double X _ _ _ hzz u4 q2.2.1 (by omega) s (hs _ _ _ rfl) 0 0 0 0 0 0 (c.w / 2 + qX) (c.h / 2 - qY) 0 (wdot (sub p c.e) c.f) 30 0 rfl
end
end Go.Skm.Drw
