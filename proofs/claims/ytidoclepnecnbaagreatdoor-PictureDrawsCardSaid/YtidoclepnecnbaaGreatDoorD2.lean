/-
  Which cameras are valid, as the program sees it; which points; condition: lengths that fit.
-/
import Derived.Test.YtidoclepnecnbaaGreatDoorD1
namespace Go.Skm.Drw
open Go Go.Skm
section
variable (X : Ext) (hX : Mine X)
include hX
theorem c47_dots (v o r : V3) {K : Option (List AV × List Blk)} (e1 : Bool) (h1 : e1 = decide (wdot v o = 0 ∧ wdot v v = wdot r r)) :
    ((run tab X 52 [.p (encV v), .p (encV o)] []).bind fun r1 => bif ((r1.1.headD .undef).pv.toInt != (0 : Int)) then (some ([.p (.bool false)], []) : Option (List AV × List Blk)) else
      (run tab X 52 [.p (encV v), .p (encV v)] []).bind fun r2 => (run tab X 52 [.p (encV r), .p (encV r)] []).bind fun r3 =>
        bif ((r2.1.headD .undef).pv.toInt != (r3.1.headD .undef).pv.toInt) then some ([.p (.bool false)], []) else K) = bif e1 then K else some ([.p (.bool false)], []) := by
  refine bindS (c52 X hX v o) ?_
  by_cases g1 : wdot v o = 0
  · refine condF (by show (wdot v o != 0) = false; simp [g1]) ?_
    refine bindS (c52 X hX v v) (bindS (c52 X hX r r) ?_)
    by_cases g2 : wdot v v = wdot r r
    · refine condF (by show (wdot v v != wdot r r) = false; simp [g2]) ?_
      rw [h1, decide_eq_true ⟨g1, g2⟩]; rfl
    · refine condT (by show (wdot v v != wdot r r) = true; simp [g2]) ?_
      rw [h1, decide_eq_false fun h => g2 h.2]; rfl
  · refine condT (by show (wdot v o != 0) = true; simp [g1]) ?_
    rw [h1, decide_eq_false fun h => g1 h.1]; rfl
theorem c47 (c : Cam) : run tab X 47 [.p (encCam c)] [] = some ([.p (.bool (camV c))], []) :=
  run_of (hX _ rfl) (by
    have d := c52 X hX
    have hend : L tab (run tab X) 47 [] [.lp [1, 1, 0, 1, 0]] (S47_11010 c.r.x c.r.y c.r.z c.u.x c.u.y c.u.z c.f.x c.f.y c.f.z 3 c.e.x c.e.y c.e.z c.r.x c.r.y c.r.z c.u.x c.u.y c.u.z c.f.x c.f.y c.f.z c.fo c.w c.h c.n c.r.x c.r.y c.r.z c.u.x c.u.y c.u.z c.f.x c.f.y c.f.z) =
        some ([.p (.bool (decide (wdot c.u c.u > 0) && (pt c.e && (rng c.fo 1 4096 && (rng c.w 1 4096 && (rng c.h 1 4096 && rng c.n 1 1073741824))))))], []) := by
      refine L_of ?_
      rw [e47_11010]
      refine condNP (show ¬ (3 : Int) < 3 by omega) ?_
      refine bindS (d c.u c.u) ?_
      simp only [c48 X hX, c51 X hX c.e, Option.bind_some, List.headD_cons, pv_p, toBool_bool, toInt_int]
      cases hg : gtI (wdot c.u c.u) 0 with
      | false =>
        have : ¬ wdot c.u c.u > 0 := of_decide_eq_false hg
        rw [decide_eq_false this]; rfl
      | true =>
        have : wdot c.u c.u > 0 := of_decide_eq_true hg
        rw [decide_eq_true this]
        cases pt c.e <;> cases rng c.fo 1 4096 <;> cases rng c.w 1 4096 <;> cases rng c.h 1 4096 <;> rfl
    have w1 : IntKind.i64.wrap ((0 : Int) + 1) = 1 := by decide
    have w2 : IntKind.i64.wrap ((1 : Int) + 1) = 2 := by decide
    have w3 : IntKind.i64.wrap ((2 : Int) + 1) = 3 := by decide
    have m1 : (1 : Int).tmod 3 = 1 := by decide
    have m2 : (2 : Int).tmod 3 = 2 := by decide
    have m3 : (3 : Int).tmod 3 = 0 := by decide
    have two : L tab (run tab X) 47 [] [.lp [1, 1, 0, 1, 0]] (S47_11010 c.r.x c.r.y c.r.z c.u.x c.u.y c.u.z c.f.x c.f.y c.f.z 2 c.e.x c.e.y c.e.z c.r.x c.r.y c.r.z c.u.x c.u.y c.u.z c.f.x c.f.y c.f.z c.fo c.w c.h c.n c.r.x c.r.y c.r.z c.u.x c.u.y c.u.z c.f.x c.f.y c.f.z) =
        some ([.p (.bool (ax c.f && (decide (wdot c.f c.r = 0 ∧ wdot c.f c.f = wdot c.r c.r) && (decide (wdot c.u c.u > 0) && (pt c.e && (rng c.fo 1 4096 && (rng c.w 1 4096 && (rng c.h 1 4096 && rng c.n 1 1073741824))))))))], []) := by
      refine L_of ?_
      rw [e47_11010, w3, m3]
      refine condP (show (2 : Int) < 3 by omega) (condT rfl (condNP (show ¬ (2 : Int) = 0 by omega) (condNP (show ¬ (2 : Int) = 1 by omega) (condP (show (2 : Int) = 2 by rfl) ?_))))
      refine (ax_chain X hX c.f).trans ?_
      cases ax c.f with
      | false => rfl
      | true =>
        refine condT rfl (condT rfl (condP (show (0 : Int) = 0 by rfl) ?_))
        refine (c47_dots X hX c.f c.r c.r _ rfl).trans ?_
        rw [hend]
        cases decide (wdot c.f c.r = 0 ∧ wdot c.f c.f = wdot c.r c.r) <;> rfl
    have one : L tab (run tab X) 47 [] [.lp [1, 1, 0, 1, 0]] (S47_11010 c.r.x c.r.y c.r.z c.u.x c.u.y c.u.z c.f.x c.f.y c.f.z 1 c.e.x c.e.y c.e.z c.r.x c.r.y c.r.z c.u.x c.u.y c.u.z c.f.x c.f.y c.f.z c.fo c.w c.h c.n c.r.x c.r.y c.r.z c.u.x c.u.y c.u.z c.f.x c.f.y c.f.z) =
        some ([.p (.bool (ax c.u && (decide (wdot c.u c.f = 0 ∧ wdot c.u c.u = wdot c.r c.r) && (ax c.f && (decide (wdot c.f c.r = 0 ∧ wdot c.f c.f = wdot c.r c.r) && (decide (wdot c.u c.u > 0) && (pt c.e && (rng c.fo 1 4096 && (rng c.w 1 4096 && (rng c.h 1 4096 && rng c.n 1 1073741824))))))))))], []) := by
      refine L_of ?_
      rw [e47_11010, w2, m2]
      refine condP (show (1 : Int) < 3 by omega) (condT rfl (condNP (show ¬ (1 : Int) = 0 by omega) (condP (show (1 : Int) = 1 by rfl) ?_)))
      refine (ax_chain X hX c.u).trans ?_
      cases ax c.u with
      | false => rfl
      | true =>
        refine condT rfl (condT rfl (condNP (show ¬ (2 : Int) = 0 by omega) (condNP (show ¬ (2 : Int) = 1 by omega) (condP (show (2 : Int) = 2 by rfl) ?_))))
        refine (c47_dots X hX c.u c.f c.r _ rfl).trans ?_
        rw [two]
        cases decide (wdot c.u c.f = 0 ∧ wdot c.u c.u = wdot c.r c.r) <;> rfl
    have zero : L tab (run tab X) 47 [] [.lp [1, 1, 0, 1, 0]] (S47_11010 c.r.x c.r.y c.r.z c.u.x c.u.y c.u.z c.f.x c.f.y c.f.z 0 c.e.x c.e.y c.e.z c.r.x c.r.y c.r.z c.u.x c.u.y c.u.z c.f.x c.f.y c.f.z c.fo c.w c.h c.n c.r.x c.r.y c.r.z c.u.x c.u.y c.u.z c.f.x c.f.y c.f.z) =
        some ([.p (.bool (ax c.r && (decide (wdot c.r c.u = 0 ∧ wdot c.r c.r = wdot c.r c.r) && (ax c.u && (decide (wdot c.u c.f = 0 ∧ wdot c.u c.u = wdot c.r c.r) && (ax c.f && (decide (wdot c.f c.r = 0 ∧ wdot c.f c.f = wdot c.r c.r) && (decide (wdot c.u c.u > 0) && (pt c.e && (rng c.fo 1 4096 && (rng c.w 1 4096 && (rng c.h 1 4096 && rng c.n 1 1073741824))))))))))))], []) := by
      refine L_of ?_
      rw [e47_11010, w1, m1]
      refine condP (show (0 : Int) < 3 by omega) (condT rfl (condP (show (0 : Int) = 0 by rfl) ?_))
      refine (ax_chain X hX c.r).trans ?_
      cases ax c.r with
      | false => rfl
      | true =>
        refine condT rfl (condT rfl (condNP (show ¬ (1 : Int) = 0 by omega) (condP (show (1 : Int) = 1 by rfl) ?_)))
        refine (c47_dots X hX c.r c.u c.r _ rfl).trans ?_
        rw [one]
        cases decide (wdot c.r c.u = 0 ∧ wdot c.r c.r = wdot c.r c.r) <;> rfl
    rw [e47]
    refine zero.trans ?_
    have e : (ax c.r && (decide (wdot c.r c.u = 0 ∧ wdot c.r c.r = wdot c.r c.r) && (ax c.u && (decide (wdot c.u c.f = 0 ∧ wdot c.u c.u = wdot c.r c.r) && (ax c.f && (decide (wdot c.f c.r = 0 ∧ wdot c.f c.f = wdot c.r c.r) && (decide (wdot c.u c.u > 0) && (pt c.e && (rng c.fo 1 4096 && (rng c.w 1 4096 && (rng c.h 1 4096 && rng c.n 1 1073741824))))))))))) = camV c := by
      have nn : ax c.r = true → 0 ≤ wdot c.r c.r := wdot_nn
      unfold camV
      rw [wdot_comm c.f c.r]
      rw [Bool.eq_iff_iff]
      simp only [Bool.and_eq_true, decide_eq_true_eq]
      constructor
      · rintro ⟨a1, ⟨a2, _⟩, a3, ⟨a4, a5⟩, a6, ⟨a7, a8⟩, a9, b1, b2⟩
        exact ⟨b1, a1, a3, a6, ⟨a2, a7, a4, a5, a8, by omega⟩, b2⟩
      · rintro ⟨b1, a1, a3, a6, ⟨a2, a7, a4, a5, a8, b3⟩, b2⟩
        have := nn a1
        exact ⟨a1, ⟨a2, trivial⟩, a3, ⟨a4, a5⟩, a6, ⟨a7, a8⟩, by omega, b1, b2⟩
    rw [e])
omit hX in
theorem encW_x (l : List V3) {i : Nat} (h : i < l.length) : (((encW l).getD i .nil).cell 0).toInt = l[i].x := by rw [encW_getD l h]; rfl
omit hX in
theorem encW_y (l : List V3) {i : Nat} (h : i < l.length) : (((encW l).getD i .nil).cell 1).toInt = l[i].y := by rw [encW_getD l h]; rfl
omit hX in
theorem encW_z (l : List V3) {i : Nat} (h : i < l.length) : (((encW l).getD i .nil).cell 2).toInt = l[i].z := by rw [encW_getD l h]; rfl
theorem c69_loop (l : List V3) (hl : l.length ≤ 1000000) : ∀ (n i : Nat), i + n = l.length →
    ∃ k : Int, L tab (run tab X) 69 [] [.lp [1, 0, 1, 0]] (S69_1010 (encW l) l.length i) = some ([.p (.int .i64 k)], []) ∧ decide (k ≥ 0) = !(l.drop i).all pt := by
  intro n
  induction n with
  | zero =>
    intro i hi
    refine ⟨-1, L_of ?_, ?_⟩
    · rw [e69_1010]
      exact condNP (show ¬ (i : Int) < (l.length : Int) by omega) rfl
    · rw [List.drop_eq_nil_of_le (by omega)]; rfl
  | succ n ih =>
    intro i hi
    have hlt : i < l.length := by omega
    have w1 : IntKind.i64.wrap ((i : Int) + 1) = ((i + 1 : Nat) : Int) := by rw [wrap_eq (by omega) (by omega)]; omega
    obtain ⟨k, hk, hk2⟩ := ih (i + 1) (by omega)
    have h50 : run tab X 50 [.p (encV l[i])] [] = some ([.p (.bool (!pt l[i]))], []) := run_of (hX _ rfl) (by
      rw [e50]
      exact bindS (c51 X hX l[i]) rfl)
    cases hp : pt l[i] with
    | false =>
      refine ⟨(i : Int), L_of ?_, ?_⟩
      · rw [e69_1010, encW_length, w1]
        refine condP (show (i : Int) < (l.length : Int) by omega) (condT (by simp only [leI, ltI, Bool.and_eq_true, decide_eq_true_eq]; omega) ?_)
        simp only [Int.toNat_natCast, encW_x l hlt, encW_y l hlt, encW_z l hlt]
        refine bindS h50 ?_
        rw [hp]; rfl
      · rw [List.drop_eq_getElem_cons hlt, List.all_cons, hp]
        exact decide_eq_true (by omega)
    | true =>
      refine ⟨k, L_of ?_, ?_⟩
      · rw [e69_1010, encW_length, w1]
        refine condP (show (i : Int) < (l.length : Int) by omega) (condT (by simp only [leI, ltI, Bool.and_eq_true, decide_eq_true_eq]; omega) ?_)
        simp only [Int.toNat_natCast, encW_x l hlt, encW_y l hlt, encW_z l hlt]
        refine bindS h50 ?_
        rw [hp]; exact hk
      · rw [List.drop_eq_getElem_cons hlt, List.all_cons, hp, Bool.true_and]; exact hk2
def fineP (c : Cam) (l : List V3) (r : Int) : Bool := camV c && (rng r 0 1000 && (decide (l.length ≤ 4096) && l.all pt))
theorem c29 (c : Cam) (r : Int) (l : List V3) (hl : l.length ≤ 1000000) : run tab X 29 [.p (encCam c), .p (.int .i64 r), .p (.list true kV (encW l))] [] = some ([.p (.bool (fineP c l r))], []) :=
  run_of (hX _ rfl) (by
    obtain ⟨k, hk, hk2⟩ := c69_loop X hX l hl l.length 0 (by omega)
    have h69 : run tab X 69 [.p (.list true kV (encW l)), .p (.fn 50 [])] [] = some ([.p (.int .i64 k)], []) := run_of (hX _ rfl) (by rw [e69, encW_length]; exact hk)
    have h49 : run tab X 49 [.p (.list true kV (encW l)), .p (.fn 50 [])] [] = some ([.p (.bool (!l.all pt))], []) := run_of (hX _ rfl) (by
      rw [e49]
      refine bindS h69 ?_
      rw [List.drop_zero] at hk2
      show some ([AV.p (.bool (decide (k ≥ 0)))], []) = _
      rw [hk2])
    rw [e29, c47 X hX c, c48 X hX, h49, encW_length]
    simp only [Option.bind_some, List.headD_cons, pv_p, toBool_bool]
    unfold fineP
    have e : leI ((l.length : Nat) : Int) 4096 = decide (l.length ≤ 4096) := by
      show decide _ = decide _
      simp only [decide_eq_decide]; omega
    rw [e]
    cases camV c <;> cases rng r 0 1000 <;> cases decide (l.length ≤ 4096) <;> cases l.all pt <;> rfl)
theorem c33_loop (l : List V3) (hl : l.length ≤ 1000000) : ∀ (n i : Nat), i + n = l.length →
    L tab (run tab X) 33 [] [.lp [1, 1, 0, 1, 0]] (S33_11010 (encW l) i) = some ([.p (.bool ((l.drop i).all pt))], []) := by
  intro n
  induction n with
  | zero =>
    intro i hi
    refine L_of ?_
    rw [e33_11010, encW_length]
    refine condNP (show ¬ (i : Int) < (l.length : Int) by omega) ?_
    rw [List.drop_eq_nil_of_le (by omega)]; rfl
  | succ n ih =>
    intro i hi
    have hlt : i < l.length := by omega
    have w1 : IntKind.i64.wrap ((i : Int) + 1) = ((i + 1 : Nat) : Int) := by rw [wrap_eq (by omega) (by omega)]; omega
    refine L_of ?_
    rw [e33_11010, encW_length, w1]
    refine condP (show (i : Int) < (l.length : Int) by omega) (condT (by simp only [leI, ltI, Bool.and_eq_true, decide_eq_true_eq]; omega) ?_)
    simp only [Int.toNat_natCast, encW_x l hlt, encW_y l hlt, encW_z l hlt]
    refine bindS (c58 X hX l[i]) ?_
    rw [List.drop_eq_getElem_cons hlt, List.all_cons]
    simp only [List.headD_cons, pv_p, toBool_bool]
    cases pt l[i] with
    | false => rfl
    | true => exact ih (i + 1) (by omega)
theorem c33 (c : Cam) (r : Int) (l : List V3) (hl : l.length ≤ 1000000) : run tab X 33 [.p (encCam c), .p (.list true kV (encW l)), .p (.int .i64 r)] [] = some ([.p (.bool (fineP c l r))], []) :=
  run_of (hX _ rfl) (by
    have h := c33_loop X hX l hl l.length 0 (by omega)
    rw [e33, c56 X hX c, c57 X hX, encW_length]
    simp only [Option.bind_some, List.headD_cons, pv_p, toBool_bool]
    rw [show (0 : Int) = ((0 : Nat) : Int) from rfl, h, List.drop_zero]
    unfold fineP
    have e : gtI ((l.length : Nat) : Int) 4096 = !decide (l.length ≤ 4096) := by
      show decide _ = _
      rw [← decide_not, decide_eq_decide]; omega
    rw [e]
    cases camV c <;> cases decide (l.length ≤ 4096) <;> cases hr : rng r ((0 : Nat) : Int) 1000 <;> simp)
end
end Go.Skm.Drw
