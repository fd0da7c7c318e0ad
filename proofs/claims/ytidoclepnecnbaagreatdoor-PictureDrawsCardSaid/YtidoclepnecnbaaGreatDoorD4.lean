/-
  The spot of a point, for both; condition: a valid camera, a point, a radius.
-/
import Derived.Test.YtidoclepnecnbaaGreatDoorD3
namespace Go.Skm.Drw
open Go Go.Skm
structure CamOk (c : Cam) : Prop where
  e : Bd c.e 1048576
  r : Bd c.r 100
  u : Bd c.u 100
  f : Bd c.f 100
  same : wdot c.u c.u = wdot c.r c.r
  fo : 1 ≤ c.fo ∧ c.fo ≤ 4096
  w : 1 ≤ c.w ∧ c.w ≤ 4096
  h : 1 ≤ c.h ∧ c.h ≤ 4096
  n : 1 ≤ c.n ∧ c.n ≤ 1073741824
theorem cam_ok {c : Cam} (h : camV c = true) : CamOk c := by
  simp only [camV, rng, Bool.and_eq_true, decide_eq_true_eq] at h
  obtain ⟨h1, h2, h3, h4, ⟨_, _, _, h5, _⟩, h6, h7, h8, h9⟩ := h
  exact ⟨pt_bd h1, ax_bd h2, ax_bd h3, ax_bd h4, h5, h6, h7, h8, h9⟩
def sub (p e : V3) : V3 := ⟨p.x - e.x, p.y - e.y, p.z - e.z⟩
theorem sub_bd {p e : V3} (hp : Bd p 1048576) (he : Bd e 1048576) : Bd (sub p e) 2097152 := by
  have a1 := hp.x
  have a2 := hp.y
  have a3 := hp.z
  have b1 := he.x
  have b2 := he.y
  have b3 := he.z
  exact ⟨by simp only [sub]; omega, by simp only [sub]; omega, by simp only [sub]; omega⟩
theorem sub_wrap {p e : V3} (hp : Bd p 1048576) (he : Bd e 1048576) : IntKind.i64.wrap (p.x - e.x) = (sub p e).x ∧ IntKind.i64.wrap (p.y - e.y) = (sub p e).y ∧ IntKind.i64.wrap (p.z - e.z) = (sub p e).z := by
  have a1 := hp.x
  have a2 := hp.y
  have a3 := hp.z
  have b1 := he.x
  have b2 := he.y
  have b3 := he.z
  exact ⟨wrap_eq (by omega) (by omega), wrap_eq (by omega) (by omega), wrap_eq (by omega) (by omega)⟩
theorem wdot_bd {a b : V3} {A B : Int} (ha : Bd a A) (hb : Bd b B) (h : 3 * (A * B) ≤ 9223372036854775807) : -(3 * (A * B)) ≤ wdot a b ∧ wdot a b ≤ 3 * (A * B) := by
  rw [wdot_eq ha hb h]; exact dot_bd ha hb
def num (c : Cam) (rad : Int) : Int := c.fo * rad * (c.fo * rad) * wdot c.u c.u
def spotI (c : Cam) (p : V3) : Option (Int × Int × Int) :=
  if wdot (sub p c.e) c.f < c.n then none else
    if 0 ≤ c.w / 2 + c.fo * wdot (sub p c.e) c.r / wdot (sub p c.e) c.f ∧ c.w / 2 + c.fo * wdot (sub p c.e) c.r / wdot (sub p c.e) c.f ≤ c.w - 1 ∧
       0 ≤ c.h / 2 - c.fo * wdot (sub p c.e) c.u / wdot (sub p c.e) c.f ∧ c.h / 2 - c.fo * wdot (sub p c.e) c.u / wdot (sub p c.e) c.f ≤ c.h - 1 then
      some (c.w / 2 + c.fo * wdot (sub p c.e) c.r / wdot (sub p c.e) c.f, c.h / 2 - c.fo * wdot (sub p c.e) c.u / wdot (sub p c.e) c.f, wdot (sub p c.e) c.f) else none
def spotR (s : Int) : Option (Int × Int × Int) → List AV × List Blk
  | some (x, y, z) => ([.p (encS ⟨0, x, y, max 1 s, z⟩), .p (.bool true)], [])
  | none => ([.p (encS ⟨0, 0, 0, 0, 0⟩), .p (.bool false)], [])
section
variable (X : Ext) (hX : Mine X)
include hX
theorem num_bd {c : Cam} (hc : CamOk c) (hu : 0 ≤ wdot c.u c.u) {rad : Int} (h0 : 0 ≤ rad) (h1 : rad ≤ 1000) : (0 ≤ c.fo * rad ∧ c.fo * rad ≤ 4096000) ∧ (0 ≤ c.fo * rad * (c.fo * rad) ∧ c.fo * rad * (c.fo * rad) ≤ 16777216000000) ∧ 0 ≤ num c rad ∧ num c rad ≤ 503316480000000000 := by
  have _ := hX
  have f := hc.fo
  have d := (wdot_bd hc.u hc.u (by decide)).2
  have a1 : 0 ≤ c.fo * rad := Int.mul_nonneg (by omega) h0
  have a2 : c.fo * rad ≤ 4096 * 1000 := Int.mul_le_mul f.2 h1 h0 (by omega)
  have b1 : 0 ≤ c.fo * rad * (c.fo * rad) := Int.mul_nonneg a1 a1
  have b2 : c.fo * rad * (c.fo * rad) ≤ 4096000 * 4096000 := Int.mul_le_mul (by omega) (by omega) a1 (by omega)
  have c1 : 0 ≤ c.fo * rad * (c.fo * rad) * wdot c.u c.u := Int.mul_nonneg b1 hu
  have c2 : c.fo * rad * (c.fo * rad) * wdot c.u c.u ≤ 16777216000000 * 30000 := Int.mul_le_mul (by omega) (by omega) hu (by omega)
  unfold num
  omega
theorem c30 (c : Cam) (hc : CamOk c) (hu : 0 ≤ wdot c.u c.u) (p : V3) (hp : Bd p 1048576) {rad : Int} (h0 : 0 ≤ rad) (h1 : rad ≤ 1000) :
    ∃ s, run tab X 30 [.p (encCam c), .p (encV p), .p (.int .i64 rad)] [] = some (spotR s (spotI c p)) ∧ ∀ x y z, spotI c p = some (x, y, z) → IsRoot (num c rad / z / z) s := by
  obtain ⟨w1, w2, w3⟩ := sub_wrap hp hc.e
  have hs := sub_bd hp hc.e
  have bz := wdot_bd hs hc.f (by decide)
  have bx := wdot_bd hs hc.r (by decide)
  have by_ := wdot_bd hs hc.u (by decide)
  have hf := hc.fo
  have hw := hc.w
  have hh := hc.h
  have hn := hc.n
  have mx := mul_bd (a := c.fo) (A := 4096) (by omega) (by omega) bx.1 bx.2
  have my := mul_bd (a := c.fo) (A := 4096) (by omega) (by omega) by_.1 by_.2
  obtain ⟨n1, n2, n3⟩ := num_bd X hX hc hu h0 h1
  have d52 := c52 X hX
  have e52 : run tab X 52 [.p (encV (sub p c.e)), .p (encV c.f)] [] = some ([.p (.int .i64 (wdot (sub p c.e) c.f))], []) := d52 _ _
  have t1 : IntKind.i64.wrap (c.w.tdiv 2) = c.w / 2 := by rw [Int.tdiv_eq_ediv_of_nonneg (by omega), wrap_eq (by omega) (by omega)]
  have t2 : IntKind.i64.wrap (c.h.tdiv 2) = c.h / 2 := by rw [Int.tdiv_eq_ediv_of_nonneg (by omega), wrap_eq (by omega) (by omega)]
  unfold spotI
  by_cases hz : wdot (sub p c.e) c.f < c.n
  · refine ⟨0, run_of (hX _ rfl) ?_, fun x y z h => by rw [if_pos hz] at h; cases h⟩
    rw [e30, w1, w2, w3, if_pos hz]
    exact bindS e52 (condP hz rfl)
  · rw [if_neg hz]
    have fx := c53 X hX (a := c.fo * wdot (sub p c.e) c.r) (b := wdot (sub p c.e) c.f) (by omega) (by omega) (by omega) (by omega)
    have fy := c53 X hX (a := c.fo * wdot (sub p c.e) c.u) (b := wdot (sub p c.e) c.f) (by omega) (by omega) (by omega) (by omega)
    have qx := ediv_bd (a := c.fo * wdot (sub p c.e) c.r) (b := wdot (sub p c.e) c.f) (by omega) mx.1 mx.2
    have qy := ediv_bd (a := c.fo * wdot (sub p c.e) c.u) (b := wdot (sub p c.e) c.f) (by omega) my.1 my.2
    have wx : IntKind.i64.wrap (c.fo * wdot (sub p c.e) c.r) = c.fo * wdot (sub p c.e) c.r := wrap_eq (by omega) (by omega)
    have wy : IntKind.i64.wrap (c.fo * wdot (sub p c.e) c.u) = c.fo * wdot (sub p c.e) c.u := wrap_eq (by omega) (by omega)
    generalize hqx : c.fo * wdot (sub p c.e) c.r / wdot (sub p c.e) c.f = qX at *
    generalize hqy : c.fo * wdot (sub p c.e) c.u / wdot (sub p c.e) c.f = qY at *
    have vx : IntKind.i64.wrap (c.w / 2 + qX) = c.w / 2 + qX := wrap_eq (by omega) (by omega)
    have vy : IntKind.i64.wrap (c.h / 2 - qY) = c.h / 2 - qY := wrap_eq (by omega) (by omega)
    have vw : IntKind.i64.wrap (c.w - 1) = c.w - 1 := wrap_eq (by omega) (by omega)
    have vh : IntKind.i64.wrap (c.h - 1) = c.h - 1 := wrap_eq (by omega) (by omega)
    have q1 := tdiv_nn (a := num c rad) (b := wdot (sub p c.e) c.f) n3.1 (by omega)
    have q2 := tdiv_nn (a := num c rad / wdot (sub p c.e) c.f) (b := wdot (sub p c.e) c.f) q1.2.1 (by omega)
    have u1 : IntKind.i64.wrap (c.fo * rad) = c.fo * rad := wrap_eq (by omega) (by omega)
    have u2 : IntKind.i64.wrap (c.fo * rad * (c.fo * rad)) = c.fo * rad * (c.fo * rad) := wrap_eq (by omega) (by omega)
    have u3 : IntKind.i64.wrap (c.fo * rad * (c.fo * rad) * wdot c.u c.u) = num c rad := wrap_eq (by unfold num at n3; omega) (by unfold num at n3; omega)
    have u4 : IntKind.i64.wrap ((num c rad).tdiv (wdot (sub p c.e) c.f)) = num c rad / wdot (sub p c.e) c.f := by rw [q1.1, wrap_eq (by omega) (by omega)]
    have u5 : IntKind.i64.wrap ((num c rad / wdot (sub p c.e) c.f).tdiv (wdot (sub p c.e) c.f)) = num c rad / wdot (sub p c.e) c.f / wdot (sub p c.e) c.f := by rw [q2.1, wrap_eq (by omega) (by omega)]
    obtain ⟨s, hs54, hroot⟩ := c54 X hX (n := num c rad / wdot (sub p c.e) c.f / wdot (sub p c.e) c.f) q2.2.1 (by omega)
    have hzz : (!eqI (wdot (sub p c.e) c.f) 0) = true := by
      have : ¬ wdot (sub p c.e) c.f = 0 := by omega
      simp [this]
    refine ⟨s, run_of (hX _ rfl) ?_, fun x y z h => ?_⟩
    · rw [e30, w1, w2, w3, t1, t2, vw, vh]
      refine bindS e52 (condNP hz (bindS (d52 (sub p c.e) c.r) ?_))
      simp only [List.headD_cons, pv_p, toInt_int]
      rw [wx]
      refine bindS fx (bindS (d52 (sub p c.e) c.u) ?_)
      simp only [List.headD_cons, pv_p, toInt_int]
      rw [wy]
      refine bindS fy ?_
      simp only [List.headD_cons, pv_p, toInt_int]
      rw [vx, vy, c48 X hX, c48 X hX]
      simp only [Option.bind_some, List.headD_cons, pv_p, toBool_bool, rng]
      by_cases hx : 0 ≤ c.w / 2 + qX ∧ c.w / 2 + qX ≤ c.w - 1
      · rw [decide_eq_true hx]
        refine condF rfl ?_
        by_cases hy : 0 ≤ c.h / 2 - qY ∧ c.h / 2 - qY ≤ c.h - 1
        · rw [decide_eq_true hy, if_pos ⟨hx.1, hx.2, hy.1, hy.2⟩]
          refine condF rfl (bindS (d52 c.u c.u) ?_)
          refine condT hzz (condT hzz ?_)
          simp only [List.headD_cons, pv_p, toInt_int]
          rw [u1, u2, u3, u4, u5]
          refine bindS hs54 ?_
          simp only [spotR, List.headD_cons, pv_p, toInt_int, goMax_eq]
        · rw [decide_eq_false hy, if_neg fun h => hy ⟨h.2.2.1, h.2.2.2⟩]; rfl
      · rw [decide_eq_false hx, if_neg fun h => hx ⟨h.1, h.2.1⟩]; rfl
    · split at h
      · simp only [Option.some.injEq, Prod.mk.injEq] at h
        obtain ⟨_, _, rfl⟩ := h
        exact hroot
      · cases h
end
end Go.Skm.Drw
