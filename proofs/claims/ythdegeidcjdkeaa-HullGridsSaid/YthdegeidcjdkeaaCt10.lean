/-
  The program's side, area, diameter and extent of a hull; condition: the sorting function is as said.
-/
import Derived.Test.YthdegeidcjdkeaaCt9
namespace Go.Skm.Hull
open Go Go.Skm

def sideP (h : List V3) (p : V3) : Int × Int := if hullV h = true ∧ inM 1048576 p = true then (sideF h p, 0) else (0, 2)
def areaP (h : List V3) : Int × Int := if hullV h = true then (shoe h h.length 0 0, 0) else (0, 2)
def diaP (h : List V3) : (Int × Int × Int) × Int := if hullV h = true then (dia h, 0) else ((0, 0, 0), 2)
def extP (h : List V3) (d : V3) : (Int × Int) × Int := if hullV h = true ∧ inM 16777216 d = true then (ext h d, 0) else ((0, 0), 2)

section
variable (X : Ext) (hX : ∀ f, f ≠ 30 → X f = none) (hS : SortOk X)
include hX hS

theorem c14 (h : List V3) (p : V3) : run tab X 14 [.p (.list true kV (encL h)), .p (encV p)] [] = some ([.p (.int .i64 (sideP h p).1), .p (.int .i64 (sideP h p).2)], []) := by
  refine run_of (hX _ (by decide)) ?_
  have q1 := c16 X hX hS h
  have q2 := c29 X hX p
  simp only [encV] at q2 ⊢
  rw [e14]
  simp only [q1, q2, Option.bind_some, List.headD_cons, pv_p, toBool_bool, condO]
  by_cases hv : hullV h = true
  case neg =>
    have hv' : hullV h = false := by simpa using hv
    have e : sideP h p = (0, 2) := if_neg fun x => hv x.1
    rw [e, hv']; rfl
  by_cases hp : inM 1048576 p = true
  case neg =>
    have hp' : inM 1048576 p = false := by simpa using hp
    have e : sideP h p = (0, 2) := if_neg fun x => hp x.2
    rw [e, hv, hp']; rfl
  have e : sideP h p = (sideF h p, 0) := if_pos ⟨hv, hp⟩
  rw [e, hv, hp]
  simp only [cond_true]
  obtain ⟨h0, hl, hb, -⟩ := hullV_ok hv
  have bp := (inM_bd.1 hp).mono (n := 16777216) (by decide)
  have bb : ∀ i, i < h.length → Bd 16777216 (gt h i) := fun i hi => (hb _ (gt_mem hi)).mono (by decide)
  have bn : ∀ i, i < h.length → Bd 16777216 (nx h i) := fun i hi => (hb _ (nx_mem hi)).mono (by decide)
  simp only [condD, condA, condN, encL_length, wrap_pred h0 (by omega), Int.toNat_natCast, encL_x, encL_y, encL_z]
  by_cases h2 : h.length ≤ 2
  · have q3 := c38 X hX (gt h 0) (gt h (h.length - 1)) p (bb _ h0) (bb _ (by omega)) bp
    simp only [encV, gt] at q3
    rw [if_pos (by omega), if_pos (by omega), if_pos (by omega), if_pos (by omega)]
    simp only [q3, Option.bind_some, List.headD_cons, pv_p, toInt_int]
    have es : sideF h p = if turnS (gt h 0) (gt h (h.length - 1)) p ≠ 0 ∨ p.x < (gt h 0).x ∨ p.x > (gt h (h.length - 1)).x ∨ p.y < goMin (gt h 0).y (gt h (h.length - 1)).y ∨ p.y > goMax (gt h 0).y (gt h (h.length - 1)).y then -1 else 0 := if_pos h2
    rw [es]
    change (if turnS (gt h 0) (gt h (h.length - 1)) p = 0 then (if p.x < (gt h 0).x then _ else if p.x > (gt h (h.length - 1)).x then _ else if p.y < goMin (gt h 0).y (gt h (h.length - 1)).y then _ else if p.y > goMax (gt h 0).y (gt h (h.length - 1)).y then _ else _) else _) = _
    by_cases a1 : turnS (gt h 0) (gt h (h.length - 1)) p = 0
    case neg => rw [if_neg a1, if_pos (Or.inl a1)]
    rw [if_pos a1]
    by_cases a2 : p.x < (gt h 0).x
    · rw [if_pos a2, if_pos (Or.inr (Or.inl a2))]
    rw [if_neg a2]
    by_cases a3 : p.x > (gt h (h.length - 1)).x
    · rw [if_pos a3, if_pos (Or.inr (Or.inr (Or.inl a3)))]
    rw [if_neg a3]
    by_cases a4 : p.y < goMin (gt h 0).y (gt h (h.length - 1)).y
    · rw [if_pos a4, if_pos (Or.inr (Or.inr (Or.inr (Or.inl a4))))]
    rw [if_neg a4]
    by_cases a5 : p.y > goMax (gt h 0).y (gt h (h.length - 1)).y
    · rw [if_pos a5, if_pos (Or.inr (Or.inr (Or.inr (Or.inr a5))))]
    rw [if_neg a5, if_neg (by rintro (b | b | b | b | b) <;> contradiction)]
  · rw [if_neg (by omega)]
    have es : sideF h p = leastR h p h.length 0 1 := if_neg h2
    rw [es]
    have key : ∀ k i : Nat, i + k = h.length → ∀ s : Int, L tab (run tab X) 14 [] [[1, 1, 1, 1, 0, 1, 0]] (S14_1111010 (encL h) s (h.length : Int) (i : Int) p.x p.y p.z) = some ([.p (.int .i64 (leastR h p k i s)), .p (.int .i64 0)], []) := by
      intro k
      induction k with
      | zero =>
        intro i hi s
        refine L_of ?_
        rw [e14_1111010]
        simp only [condD]
        rw [if_neg (by omega)]; rfl
      | succ k ih =>
        intro i hi s
        refine L_of ?_
        rw [e14_1111010]
        have q3 := c38 X hX (gt h i) (nx h i) p (bb _ (by omega)) (bn _ (by omega)) bp
        simp only [encV, gt, nx] at q3
        have q4 := c39 X hX (encL h) i (by simpa using (by omega : i < h.length)) (by simp; omega)
        rw [encL_length] at q4
        simp only [condD, condA, encL_length, Int.toNat_natCast, encL_x, encL_y, encL_z, q4, Option.bind_some, List.headD_cons, pv_p, toInt_int, q3, wrap_nat (show i < 4611686018427387904 by omega)]
        have hm : (i + 1) % h.length < h.length := Nat.mod_lt _ (by omega)
        rw [if_pos (by omega), if_pos (by omega), if_pos (by omega), if_pos (by omega), if_pos (by omega)]
        exact ih (i + 1) (by omega) _
    exact key h.length 0 (by omega) 1

theorem c19 (h : List V3) : run tab X 19 [.p (.list true kV (encL h))] [] = some ([.p (.int .i64 (areaP h).1), .p (.int .i64 (areaP h).2)], []) := by
  refine run_of (hX _ (by decide)) ?_
  have q1 := c16 X hX hS h
  rw [e19]
  simp only [q1, Option.bind_some, List.headD_cons, pv_p, toBool_bool, condO]
  by_cases hv : hullV h = true
  case neg =>
    have hv' : hullV h = false := by simpa using hv
    have e : areaP h = (0, 2) := if_neg hv
    rw [e, hv']; rfl
  have e : areaP h = (shoe h h.length 0 0, 0) := if_pos hv
  rw [e, hv]
  simp only [cond_true]
  obtain ⟨h0, hl, hb, -⟩ := hullV_ok hv
  have key : ∀ k i : Nat, i + k = h.length → ∀ s : Int, -(i * 70368744177664) ≤ s → s ≤ i * 70368744177664 → L tab (run tab X) 19 [] [[1, 1, 1, 0, 1, 0]] (S19_111010 (encL h) s (encL h) (h.length : Int) (i : Int)) = some ([.p (.int .i64 (shoe h k i s)), .p (.int .i64 0)], []) := by
    intro k
    induction k with
    | zero =>
      intro i hi s _ _
      refine L_of ?_
      rw [e19_111010]
      simp only [condD]
      rw [if_neg (by omega)]; rfl
    | succ k ih =>
      intro i hi s hs1 hs2
      refine L_of ?_
      rw [e19_111010]
      have q4 := c39 X hX (encL h) i (by simpa using (by omega : i < h.length)) (by simp; omega)
      rw [encL_length] at q4
      simp only [condD, condA, encL_length, Int.toNat_natCast, encL_x, encL_y, q4, Option.bind_some, List.headD_cons, pv_p, toInt_int, wrap_nat (show i < 4611686018427387904 by omega)]
      have hm : (i + 1) % h.length < h.length := Nat.mod_lt _ (by omega)
      have b1 := hb (gt h i) (gt_mem (by omega))
      have b2 := hb (nx h i) (nx_mem (by omega))
      have m1 := mulB b1.1 b2.2.1
      have m2 := mulB b1.2.1 b2.1
      have ew : IntKind.i64.wrap (IntKind.i64.wrap ((gt h i).x * (nx h i).y) - IntKind.i64.wrap ((gt h i).y * (nx h i).x)) = (gt h i).x * (nx h i).y - (gt h i).y * (nx h i).x := crossW_eq (m := 1099511627776) (by omega) (by omega) (by omega)
      have ew2 : IntKind.i64.wrap (s + IntKind.i64.wrap (IntKind.i64.wrap ((gt h i).x * (nx h i).y) - IntKind.i64.wrap ((gt h i).y * (nx h i).x))) = s + ((gt h i).x * (nx h i).y - (gt h i).y * (nx h i).x) := by
        rw [ew, wrap_eq (by omega) (by omega)]
      simp only [gt, nx] at ew2 m1 m2
      rw [ew2, if_pos (by omega), if_pos (by omega), if_pos (by omega)]
      change (if (0 : Int) ≤ (((i + 1) % h.length : Nat) : Int) then (if (((i + 1) % h.length : Nat) : Int) < (h.length : Int) then _ else _) else _) = _
      rw [if_pos (by omega), if_pos (by omega)]
      exact ih (i + 1) (by omega) _ (by omega) (by omega)
  have := key h.length 0 (by omega) 0 (by omega) (by omega)
  rw [encL_length]
  exact this

theorem c20 (h : List V3) : run tab X 20 [.p (.list true kV (encL h))] [] = some ([.p (.int .i64 (diaP h).1.1), .p (.int .i64 (diaP h).1.2.1), .p (.int .i64 (diaP h).1.2.2), .p (.int .i64 (diaP h).2)], []) := by
  refine run_of (hX _ (by decide)) ?_
  have q1 := c16 X hX hS h
  rw [e20]
  simp only [q1, Option.bind_some, List.headD_cons, pv_p, toBool_bool, condO]
  by_cases hv : hullV h = true
  case neg =>
    have hv' : hullV h = false := by simpa using hv
    have e : diaP h = ((0, 0, 0), 2) := if_neg hv
    rw [e, hv']; rfl
  have e : diaP h = (dia h, 0) := if_pos hv
  rw [e, hv]
  simp only [cond_true]
  obtain ⟨h0, hl, hb', -⟩ := hullV_ok hv
  have hb : ∀ v ∈ h, Bd 16777216 v := fun v hv => (hb' v hv).mono (by decide)
  have outer : ∀ k i : Nat, i + k = h.length → ∀ s : Int × Int × Int, L tab (run tab X) 20 [] [[1, 1, 0, 1, 0]] (S20_11010 (encL h) s.1 s.2.1 s.2.2 (h.length : Int) (i : Int)) = some ([.p (.int .i64 (diaO h k i s).1), .p (.int .i64 (diaO h k i s).2.1), .p (.int .i64 (diaO h k i s).2.2), .p (.int .i64 0)], []) := by
    intro k
    induction k with
    | zero =>
      intro i hi s
      refine L_of ?_
      rw [e20_11010]
      simp only [condD]
      rw [if_neg (by omega)]; rfl
    | succ k ih =>
      intro i hi s
      refine L_of ?_
      rw [e20_11010]
      simp only [condD]
      rw [if_pos (by omega), wrap_nat (by omega)]
      have inner : ∀ c m : Nat, m + c = h.length → ∀ s : Int × Int × Int, L tab (run tab X) 20 [] [[1, 1, 0, 1, 0], [1, 1, 0, 0, 1, 1, 0]] (S20_11010_1100110 (encL h) s.1 s.2.1 s.2.2 (i : Int) (m : Int) (h.length : Int) (i : Int)) = some ([.p (.int .i64 (diaO h k (i + 1) (diaI h i c m s)).1), .p (.int .i64 (diaO h k (i + 1) (diaI h i c m s)).2.1), .p (.int .i64 (diaO h k (i + 1) (diaI h i c m s)).2.2), .p (.int .i64 0)], []) := by
        intro c
        induction c with
        | zero =>
          intro m hm s
          refine L_of ?_
          rw [e20_11010_1100110]
          simp only [condD, encL_length]
          rw [if_neg (by omega), wrap_nat (by omega)]
          exact ih (i + 1) (by omega) s
        | succ c ihc =>
          intro m hm s
          refine L_of ?_
          rw [e20_11010_1100110]
          have q := c43 X hX (gt h i) (gt h m) (hb _ (gt_mem (by omega))) (hb _ (gt_mem (by omega)))
          simp only [encV, gt] at q
          simp only [condD, condA, encL_length, Int.toNat_natCast, encL_x, encL_y, encL_z, q, Option.bind_some, List.headD_cons, pv_p, toInt_int, wrap_nat (show m < 4611686018427387904 by omega)]
          rw [if_pos (by omega), if_pos (by omega), if_pos (by omega), if_pos (by omega), if_pos (by omega)]
          change (if dist2 (gt h i) (gt h m) > s.2.2 then _ else _) = _
          by_cases hd : dist2 (gt h i) (gt h m) > s.2.2
          · have e1 : diaI h i (c + 1) m s = diaI h i c (m + 1) ((i : Int), (m : Int), dist2 (gt h i) (gt h m)) := by rw [diaI, if_pos hd]
            rw [if_pos hd, e1]
            exact ihc (m + 1) (by omega) (_, _, _)
          · have e1 : diaI h i (c + 1) m s = diaI h i c (m + 1) s := by rw [diaI, if_neg hd]
            rw [if_neg hd, e1]
            exact ihc (m + 1) (by omega) s
      exact inner (h.length - (i + 1)) (i + 1) (by omega) s
  have := outer h.length 0 (by omega) (0, 0, 0)
  rw [encL_length]
  exact this

theorem c21 (h : List V3) (d : V3) : run tab X 21 [.p (.list true kV (encL h)), .p (encV d)] [] = some ([.p (.int .i64 (extP h d).1.1), .p (.int .i64 (extP h d).1.2), .p (.int .i64 (extP h d).2)], []) := by
  refine run_of (hX _ (by decide)) ?_
  have q1 := c16 X hX hS h
  have q2 := c44 X hX d
  simp only [encV] at q2 ⊢
  rw [e21]
  simp only [q1, q2, Option.bind_some, List.headD_cons, pv_p, toBool_bool, condO]
  by_cases hv : hullV h = true
  case neg =>
    have hv' : hullV h = false := by simpa using hv
    have e : extP h d = ((0, 0), 2) := if_neg fun x => hv x.1
    rw [e, hv']; rfl
  by_cases hp : inM 16777216 d = true
  case neg =>
    have hp' : inM 16777216 d = false := by simpa using hp
    have e : extP h d = ((0, 0), 2) := if_neg fun x => hp x.2
    rw [e, hv, hp']; rfl
  have e : extP h d = (ext h d, 0) := if_pos ⟨hv, hp⟩
  rw [e, hv, hp]
  simp only [cond_true]
  obtain ⟨h0, hl, hb, -⟩ := hullV_ok hv
  have hd := inM_bd.1 hp
  have w : ∀ i, i < h.length → IntKind.i64.wrap (IntKind.i64.wrap (d.x * (h.getD i default).x) + IntKind.i64.wrap (d.y * (h.getD i default).y)) = dot2 d (gt h i) := fun i hi => dot2_wrap hd (hb _ (gt_mem hi))
  have key : ∀ k i : Nat, i + k = h.length → 0 < i → ∀ s : Int × Int, L tab (run tab X) 21 [] [[1, 1, 0, 1, 0]] (S21_11010 s.1 s.2 (encL h) (h.length : Int) (i : Int) d.x d.y d.z) = some ([.p (.int .i64 (extR h d k i s).1), .p (.int .i64 (extR h d k i s).2), .p (.int .i64 0)], []) := by
    intro k
    induction k with
    | zero =>
      intro i hi _ s
      refine L_of ?_
      rw [e21_11010]
      simp only [condD]
      rw [if_neg (by omega)]; rfl
    | succ k ih =>
      intro i hi hi0 s
      refine L_of ?_
      rw [e21_11010]
      simp only [condD, condA, condE, encL_length, encL_x, encL_y, Int.toNat_natCast, w i (by omega), wrap_nat (show i < 4611686018427387904 by omega)]
      rw [if_pos (by omega), if_pos (by omega), if_pos (by omega), if_neg (by omega)]
      exact ih (i + 1) (by omega) (by omega) (_, _)
  refine L_of ?_
  have hz : (((0 : Nat) : Int)) = 0 := rfl
  rw [e21_11010]
  simp only [condD, condA, condE, encL_length, Int.toNat_zero, encL_x, encL_y, w 0 h0]
  rw [if_pos (by omega), if_pos (by omega), if_pos (by omega), if_pos trivial]
  have w1 : IntKind.i64.wrap (0 + 1) = ((1 : Nat) : Int) := by decide
  rw [w1]
  have := key (h.length - 1) 1 (by omega) (by omega) (goMin (dot2 d (gt h 0)) (dot2 d (gt h 0)), goMax (dot2 d (gt h 0)) (dot2 d (gt h 0)))
  have ek : extR h d (h.length - 1) 1 (goMin (dot2 d (gt h 0)) (dot2 d (gt h 0)), goMax (dot2 d (gt h 0)) (dot2 d (gt h 0))) = ext h d := by
    unfold ext
    obtain ⟨n, hn⟩ : ∃ n, h.length = n + 1 := ⟨h.length - 1, by omega⟩
    rw [hn]; rfl
  rw [ek] at this
  exact this
end
end Go.Skm.Hull
