/-
  The sizes of a hull, as the program and the document compute them; condition: parts in range where that is said.
-/
import Derived.Test.YthdegeidcjdkeaaCt8
namespace Go.Skm.Hull
open Go Go.Skm

def gt (h : List V3) (i : Nat) : V3 := h.getD i default
def nx (h : List V3) (i : Nat) : V3 := h.getD ((i + 1) % h.length) default
theorem gt_mem {h : List V3} {i : Nat} (hi : i < h.length) : gt h i ∈ h := by
  unfold gt
  rw [List.getD_eq_getElem?_getD, List.getElem?_eq_getElem hi]
  exact List.getElem_mem _
theorem nx_mem {h : List V3} {i : Nat} (hi : i < h.length) : nx h i ∈ h := gt_mem (Nat.mod_lt _ (by omega))

/-- The least of 1 and the turns, over a number of sides from one on. -/
def leastR (h : List V3) (p : V3) : Nat → Nat → Int → Int
  | 0, _, s => s
  | k + 1, i, s => leastR h p k (i + 1) (goMin s (turnS (gt h i) (nx h i) p))
def sideF (h : List V3) (p : V3) : Int :=
  if h.length ≤ 2 then
    (if turnS (gt h 0) (gt h (h.length - 1)) p ≠ 0 ∨ p.x < (gt h 0).x ∨ p.x > (gt h (h.length - 1)).x ∨ p.y < goMin (gt h 0).y (gt h (h.length - 1)).y ∨ p.y > goMax (gt h 0).y (gt h (h.length - 1)).y then -1 else 0)
  else leastR h p h.length 0 1
def shoe (h : List V3) : Nat → Nat → Int → Int
  | 0, _, s => s
  | k + 1, i, s => shoe h k (i + 1) (s + ((gt h i).x * (nx h i).y - (gt h i).y * (nx h i).x))
def fan (h : List V3) : Nat → Nat → Int → Int
  | 0, _, s => s
  | k + 1, i, s => fan h k (i + 1) (s + area (gt h 0) (gt h i) (gt h (i + 1)))
/-- The pairs with one first corner. -/
def diaI (h : List V3) (k : Nat) : Nat → Nat → Int × Int × Int → Int × Int × Int
  | 0, _, s => s
  | c + 1, m, s => diaI h k c (m + 1) (if dist2 (gt h k) (gt h m) > s.2.2 then ((k : Int), (m : Int), dist2 (gt h k) (gt h m)) else s)
def diaO (h : List V3) : Nat → Nat → Int × Int × Int → Int × Int × Int
  | 0, _, s => s
  | c + 1, k, s => diaO h c (k + 1) (diaI h k (h.length - (k + 1)) (k + 1) s)
def dia (h : List V3) : Int × Int × Int := diaO h h.length 0 (0, 0, 0)
def dot2 (d a : V3) : Int := d.x * a.x + d.y * a.y
def extR (h : List V3) (d : V3) : Nat → Nat → Int × Int → Int × Int
  | 0, _, s => s
  | c + 1, i, s => extR h d c (i + 1) (goMin s.1 (dot2 d (gt h i)), goMax s.2 (dot2 d (gt h i)))
def ext (h : List V3) (d : V3) : Int × Int := extR h d h.length 0 (dot2 d (gt h 0), dot2 d (gt h 0))
/-- The side of a point, by the document. -/
def sideR (h : List V3) (p : V3) : Nat → Nat → Bool → Int
  | 0, _, ins => if ins = true then 1 else -1
  | k + 1, i, ins => if onS (gt h i) (nx h i) p = true then 0 else sideR h p k (i + 1) (ins && decide (turnS (gt h i) (nx h i) p > 0))

theorem subV_bd1 {a b : V3} (ha : Bd 1048576 a) (hb : Bd 1048576 b) : Bd 2097152 (subV a b) := by
  obtain ⟨⟨a1, a2⟩, ⟨a3, a4⟩, a5, a6⟩ := ha
  obtain ⟨⟨b1, b2⟩, ⟨b3, b4⟩, b5, b6⟩ := hb
  refine ⟨?_, ?_, ?_⟩ <;> simp only [subV] <;> omega

section
variable (X : Ext) (hX : ∀ f, f ≠ 30 → X f = none)
include hX

theorem c18 (h : List V3) (p : V3) (hl : h.length ≤ 2147483647) (hb : ∀ v ∈ h, Bd 16777216 v) (hp : Bd 16777216 p) :
    run tab X 18 [.p (.list true kV (encL h)), .p (encV p)] [] = some ([.p (.int .i64 (sideR h p h.length 0 (decide (2 < h.length))))], []) := by
  refine run_of (hX _ (by decide)) ?_
  rw [encV, e18]
  have key : ∀ k i : Nat, i + k = h.length → ∀ ins : Bool, L tab (run tab X) 18 [] [[1, 1, 0, 1, 0]] (S18_11010 (encL h) ins (i : Int) p.x p.y p.z) = some ([.p (.int .i64 (sideR h p k i ins))], []) := by
    intro k
    induction k with
    | zero =>
      intro i hi ins
      refine L_of ?_
      rw [e18_11010]
      simp only [condD, encL_length]
      rw [if_neg (by omega)]
      cases ins <;> rfl
    | succ k ih =>
      intro i hi ins
      refine L_of ?_
      rw [e18_11010]
      have e : ((i + 1 : Nat) : Int).tmod (h.length : Int) = (((i + 1) % h.length : Nat) : Int) := by
        rw [Int.tmod_eq_emod_of_nonneg (by omega)]; rfl
      have hm : (i + 1) % h.length < h.length := Nat.mod_lt _ (by omega)
      have q1 := c42 X hX (gt h i) (nx h i) p (hb _ (gt_mem (by omega))) (hb _ (nx_mem (by omega))) hp
      have q2 := c37 X hX (gt h i) (nx h i) p (hb _ (gt_mem (by omega))) (hb _ (nx_mem (by omega))) hp
      simp only [condD, condA, condO, encL_length, wrap_nat (show i < 4611686018427387904 by omega), e, Int.toNat_natCast, encL_x, encL_y, encL_z]
      rw [if_pos (by omega), if_neg (by omega), if_pos (by omega), if_pos (by omega), if_pos (by omega), if_pos (by omega)]
      simp only [encV, gt, nx] at q1 q2
      simp only [q1, q2, Option.bind_some, List.headD_cons, pv_p, toBool_bool, toInt_int]
      simp only [sideR, gt, nx]
      by_cases ho : onS (h.getD i default) (h.getD ((i + 1) % h.length) default) p = true
      · simp only [ho, cond_true, if_true]
      · have ho' : onS (h.getD i default) (h.getD ((i + 1) % h.length) default) p = false := by simpa using ho
        simp only [ho', cond_false, Bool.false_eq_true, if_false]
        cases ins with
        | true =>
          simp only [cond_true, Bool.true_and]
          rw [if_pos (by omega), if_pos (by omega)]
          exact ih (i + 1) (by omega) _
        | false =>
          simp only [cond_false, Bool.false_and]
          exact ih (i + 1) (by omega) _
  have := key h.length 0 (by omega) (decide (2 < h.length))
  simp only [encL_length]
  have e : (decide ((h.length : Int) > 2)) = decide (2 < h.length) := by
    by_cases h2 : 2 < h.length
    · rw [decide_eq_true h2, decide_eq_true (by omega)]
    · rw [decide_eq_false h2, decide_eq_false (by omega)]
  rw [e]
  exact this



theorem c22 (h : List V3) (hl : h.length ≤ 2147483647) (hb : ∀ v ∈ h, Bd 16777216 v) :
    run tab X 22 [.p (.list true kV (encL h))] [] = some ([.p (.int .i64 (dia h).1), .p (.int .i64 (dia h).2.1), .p (.int .i64 (dia h).2.2)], []) := by
  refine run_of (hX _ (by decide)) ?_
  rw [e22]
  have outer : ∀ k i : Nat, i + k = h.length → ∀ s : Int × Int × Int, L tab (run tab X) 22 [] [[1, 1, 0, 1, 0]] (S22_11010 (encL h) s.1 s.2.1 s.2.2 (i : Int)) = some ([.p (.int .i64 (diaO h k i s).1), .p (.int .i64 (diaO h k i s).2.1), .p (.int .i64 (diaO h k i s).2.2)], []) := by
    intro k
    induction k with
    | zero =>
      intro i hi s
      refine L_of ?_
      rw [e22_11010]
      simp only [condD, encL_length]
      rw [if_neg (by omega)]; rfl
    | succ k ih =>
      intro i hi s
      refine L_of ?_
      rw [e22_11010]
      simp only [condD, encL_length]
      rw [if_pos (by omega), wrap_nat (by omega)]
      have inner : ∀ c m : Nat, m + c = h.length → ∀ s : Int × Int × Int, L tab (run tab X) 22 [] [[1, 1, 0, 1, 0], [1, 0, 0, 1, 0]] (S22_11010_10010 (encL h) s.1 s.2.1 s.2.2 (i : Int) (m : Int)) = some ([.p (.int .i64 (diaO h k (i + 1) (diaI h i c m s)).1), .p (.int .i64 (diaO h k (i + 1) (diaI h i c m s)).2.1), .p (.int .i64 (diaO h k (i + 1) (diaI h i c m s)).2.2)], []) := by
        intro c
        induction c with
        | zero =>
          intro m hm s
          refine L_of ?_
          rw [e22_11010_10010]
          simp only [condD, encL_length]
          rw [if_neg (by omega), wrap_nat (by omega)]
          exact ih (i + 1) (by omega) s
        | succ c ihc =>
          intro m hm s
          refine L_of ?_
          rw [e22_11010_10010]
          have q := c45 X hX (gt h i) (gt h m) (hb _ (gt_mem (by omega))) (hb _ (gt_mem (by omega)))
          simp only [encV, gt] at q
          simp only [condD, condA, encL_length, Int.toNat_natCast, encL_x, encL_y, encL_z, q, Option.bind_some, List.headD_cons, pv_p, toInt_int, wrap_nat (show m < 4611686018427387904 by omega)]
          rw [if_pos (by omega), if_pos (by omega), if_pos (by omega), if_pos (by omega), if_pos (by omega)]
          change (if dist2 (gt h i) (gt h m) > s.2.2 then _ else _) = _
          by_cases hd : dist2 (gt h i) (gt h m) > s.2.2
          · have e1 : diaI h i (c + 1) m s = diaI h i c (m + 1) ((i : Int), (m : Int), dist2 (gt h i) (gt h m)) := by rw [diaI, if_pos hd]
            rw [if_pos hd, if_pos (by omega), if_pos (by omega), if_pos (by omega), if_pos (by omega), e1]
            exact ihc (m + 1) (by omega) (_, _, _)
          · have e1 : diaI h i (c + 1) m s = diaI h i c (m + 1) s := by rw [diaI, if_neg hd]
            rw [if_neg hd, e1]
            exact ihc (m + 1) (by omega) s
      exact inner (h.length - (i + 1)) (i + 1) (by omega) s
  exact outer h.length 0 (by omega) (0, 0, 0)

omit hX in
theorem dot2_bd {d a : V3} (hd : Bd 16777216 d) (ha : Bd 1048576 a) : (-17592186044416 ≤ d.x * a.x ∧ d.x * a.x ≤ 17592186044416) ∧ (-17592186044416 ≤ d.y * a.y ∧ d.y * a.y ≤ 17592186044416) := by
  have h1 := mulB hd.1 ha.1
  have h2 := mulB hd.2.1 ha.2.1
  exact ⟨by omega, by omega⟩
omit hX in
theorem dot2_wrap {d a : V3} (hd : Bd 16777216 d) (ha : Bd 1048576 a) : IntKind.i64.wrap (IntKind.i64.wrap (d.x * a.x) + IntKind.i64.wrap (d.y * a.y)) = dot2 d a := by
  obtain ⟨h1, h2⟩ := dot2_bd hd ha
  rw [wrap_eq (x := d.x * a.x) (by omega) (by omega), wrap_eq (x := d.y * a.y) (by omega) (by omega), wrap_eq (by omega) (by omega)]
  rfl
theorem c25 (h : List V3) (d : V3) (h0 : 0 < h.length) (hl : h.length ≤ 2147483647) (hb : ∀ v ∈ h, Bd 1048576 v) (hd : Bd 16777216 d) :
    run tab X 25 [.p (.list true kV (encL h)), .p (encV d)] [] = some ([.p (.int .i64 (ext h d).1), .p (.int .i64 (ext h d).2)], []) := by
  refine run_of (hX _ (by decide)) ?_
  rw [encV, e25]
  have w : ∀ i, i < h.length → IntKind.i64.wrap (IntKind.i64.wrap (d.x * (h.getD i default).x) + IntKind.i64.wrap (d.y * (h.getD i default).y)) = dot2 d (gt h i) := fun i hi => dot2_wrap hd (hb _ (gt_mem hi))
  simp only [condD, encL_length, encL_x, encL_y]
  rw [if_pos (by omega), if_pos (by omega), if_pos (by omega), if_pos (by omega), w 0 h0]
  have key : ∀ k i : Nat, i + k = h.length → ∀ s : Int × Int, L tab (run tab X) 25 [] [[1, 1, 0, 1, 0]] (S25_11010 (encL h) s.1 s.2 (i : Int) d.x d.y d.z) = some ([.p (.int .i64 (extR h d k i s).1), .p (.int .i64 (extR h d k i s).2)], []) := by
    intro k
    induction k with
    | zero =>
      intro i hi s
      refine L_of ?_
      rw [e25_11010]
      simp only [condD, encL_length]
      rw [if_neg (by omega)]; rfl
    | succ k ih =>
      intro i hi s
      refine L_of ?_
      rw [e25_11010]
      simp only [condD, condA, encL_length, encL_x, encL_y, Int.toNat_natCast, w i (by omega), wrap_nat (show i < 4611686018427387904 by omega)]
      rw [if_pos (by omega), if_pos (by omega), if_pos (by omega), if_pos (by omega), if_pos (by omega), if_pos (by omega), if_pos (by omega), if_pos (by omega), if_pos (by omega)]
      exact ih (i + 1) (by omega) (_, _)
  exact key h.length 0 (by omega) (_, _)

theorem c23 (h : List V3) (hl : h.length ≤ 10000) (hb : ∀ v ∈ h, Bd 1048576 v) :
    run tab X 23 [.p (.list true kV (encL h))] [] = some ([.p (.int .i64 (fan h (h.length - 2) 1 0))], []) := by
  refine run_of (hX _ (by decide)) ?_
  rw [e23]
  have key : ∀ k i : Nat, (i + k + 1 = h.length ∨ (k = 0 ∧ h.length ≤ i + 1)) → 1 ≤ i → i ≤ 10000 → ∀ s : Int, -(i * 70368744177664) ≤ s → s ≤ i * 70368744177664 → L tab (run tab X) 23 [] [[1, 1, 0, 1, 0]] (S23_11010 (encL h) s (i : Int)) = some ([.p (.int .i64 (fan h k i s))], []) := by
    intro k
    induction k with
    | zero =>
      intro i hi hi1 hi2 s hs1 hs2
      refine L_of ?_
      rw [e23_11010]
      simp only [condD, encL_length]
      rw [wrap_nat (by omega), if_neg (by omega)]; rfl
    | succ k ih =>
      intro i hi hi1 hi2 s hs1 hs2
      refine L_of ?_
      rw [e23_11010]
      have b0 := hb (gt h 0) (gt_mem (by omega))
      have b1 := hb (gt h i) (gt_mem (by omega))
      have b2 := hb (gt h (i + 1)) (gt_mem (by omega))
      have q1 := c47 X hX (gt h i) (gt h 0) (b1.mono (by decide)) (b0.mono (by decide))
      have q2 := c47 X hX (gt h (i + 1)) (gt h 0) (b2.mono (by decide)) (b0.mono (by decide))
      have q3 := c46 X hX (subV (gt h i) (gt h 0)) (subV (gt h (i + 1)) (gt h 0))
      simp only [encV, gt] at q1 q2 q3
      have z : (0 : Int).toNat = 0 := rfl
      simp only [condD, condA, encL_length, Int.toNat_natCast, encL_x, encL_y, encL_z, wrap_nat (show i < 4611686018427387904 by omega), q1, q2, Option.bind_some, List.headD_cons, pv_p, cell_agg, List.getD_cons_zero, List.getD_cons_succ, toInt_int]
      simp only [q3, Option.bind_some, List.headD_cons, pv_p, cell_agg, List.getD_cons_zero, List.getD_cons_succ, toInt_int]
      have s1 := subV_bd1 b1 b0
      have s2 := subV_bd1 b2 b0
      have m1 := mulB s1.1 s2.2.1
      have m2 := mulB s1.2.1 s2.1
      have ec : crossW (subV (gt h i) (gt h 0)).x (subV (gt h (i + 1)) (gt h 0)).y (subV (gt h i) (gt h 0)).y (subV (gt h (i + 1)) (gt h 0)).x = area (gt h 0) (gt h i) (gt h (i + 1)) := by
        rw [crossW_eq (m := 4398046511104) (by omega) (by omega) (by omega)]; rfl
      have ea : -8796093022208 ≤ area (gt h 0) (gt h i) (gt h (i + 1)) ∧ area (gt h 0) (gt h i) (gt h (i + 1)) ≤ 8796093022208 := by
        rw [← ec, crossW_eq (m := 4398046511104) (by omega) (by omega) (by omega)]
        omega
      simp only [gt] at ec ea
      rw [ec]
      rw [if_pos (by omega), if_pos (by omega), if_pos (by omega), if_pos (by omega), if_pos (by omega), if_pos (by omega), if_pos (by omega), wrap_eq (by omega) (by omega)]
      exact ih (i + 1) (by omega) (by omega) (by omega) _ (by omega) (by omega)
  by_cases h3 : 3 ≤ h.length
  · exact key (h.length - 2) 1 (by omega) (by omega) (by omega) 0 (by omega) (by omega)
  · have : h.length - 2 = 0 := by omega
    rw [this]
    exact key 0 1 (by omega) (by omega) (by omega) 0 (by omega) (by omega)
end
end Go.Skm.Hull
