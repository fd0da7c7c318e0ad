/-
  Row: the program lays the dots one over another; condition: lengths that fit.
-/
import Derived.Test.YtidoclepnecnbaaDoorP11
namespace Go.Skm.Pic
open Go Go.Skm
theorem cov_near {d : Dt} (hd : d.near) {x y : Int} (h : cov d x y = true) : d.x - d.r ≤ x ∧ x ≤ d.x + d.r := by
  simp only [cov, decide_eq_true_eq] at h
  have nn : 0 ≤ (y - d.y) * (y - d.y) := by
    rcases Int.le_total 0 (y - d.y) with h | h
    · exact Int.mul_nonneg h h
    · have := Int.mul_nonneg (show 0 ≤ -(y - d.y) by omega) (show 0 ≤ -(y - d.y) by omega)
      rwa [Int.neg_mul_neg] at this
  obtain ⟨r1, r2⟩ := hd.r
  have key : ∀ a : Int, d.r < a → d.r * d.r < a * a := fun a ha => Int.mul_lt_mul ha (by omega) (by omega) (by omega)
  constructor
  · by_cases e : d.r < -(x - d.x)
    · have := key _ e
      rw [Int.neg_mul_neg] at this
      omega
    · omega
  · by_cases e : d.r < x - d.x
    · have := key _ e
      omega
    · omega
def rowM (w : Nat) (F : Nat → Int × Int × Int) : List PV := encC ((List.range w).map F)
theorem rowM_congr {w : Nat} {F G : Nat → Int × Int × Int} (h : ∀ j, j < w → F j = G j) : rowM w F = rowM w G := by
  unfold rowM
  rw [List.map_congr_left fun j hj => h j (List.mem_range.1 hj)]
theorem rowM_set (w x : Nat) (F : Nat → Int × Int × Int) (v : Int × Int × Int) : (rowM w F).set x (colC v) = rowM w (fun j => if j = x then v else F j) := by
  unfold rowM encC
  rw [← List.map_set]
  congr 1
  apply List.ext_getElem
  · simp
  · intro i h1 h2
    rw [List.getElem_set]
    by_cases e : x = i
    · subst e; simp
    · rw [if_neg e]
      simp [Ne.symm e]
theorem rowM_length (w : Nat) (F : Nat → Int × Int × Int) : (rowM w F).length = w := by simp [rowM]
section
variable (X : Ext) (hX : Mine X)
include hX
theorem c26_inner (p : Pi) {d : Dt} (hd : d.near) (hw : 1 ≤ p.w ∧ p.w ≤ 4096) {y : Int} (hy : Near y) (l : List Dt) (i : Nat) (hi : i ≤ 100000) {r : List AV × List Blk} (G : Nat → Int × Int × Int)
    (hend : L tab (run tab X) 26 [] [.lp [1, 1, 1, 1, 0, 1, 0]] (S26_1111010 y 0 p.w.toNat (encL l) l.length ((i + 1 : Nat) : Int) p.w p.h p.a p.e p.b (encL p.d) (rowM p.w.toNat G)) = some r) :
    ∀ (n x : Nat) (F : Nat → Int × Int × Int), min (p.w - 1) (d.x + d.r) < x + n →
      (∀ j, j < p.w.toNat → G j = if x ≤ j ∧ (j : Int) ≤ min (p.w - 1) (d.x + d.r) ∧ cov d j y = true then (d.a, d.e, d.b) else F j) →
      L tab (run tab X) 26 [] [.lp [1, 1, 1, 1, 0, 1, 0], .lp [1, 1, 0, 0, 1, 1, 0]] (S26_1111010_1100110 y 0 p.w.toNat (x : Int) (encL l) l.length i p.w p.h p.a p.e p.b (encL p.d) (rowM p.w.toNat F) d.x d.y d.r d.a d.e d.b) = some r := by
  have dx := hd.x
  have dr := hd.r
  have w1 : IntKind.i64.wrap ((i : Int) + 1) = ((i + 1 : Nat) : Int) := by rw [wrap_eq (by omega) (by omega)]; omega
  have w2 : IntKind.i64.wrap (p.w - 1) = p.w - 1 := wrap_eq (by omega) (by omega)
  have w3 : IntKind.i64.wrap (d.x + d.r) = d.x + d.r := wrap_eq (by omega) (by omega)
  have stop : ∀ (x : Nat) (F : Nat → Int × Int × Int), ¬ (x : Int) ≤ min (p.w - 1) (d.x + d.r) →
      (∀ j, j < p.w.toNat → G j = if x ≤ j ∧ (j : Int) ≤ min (p.w - 1) (d.x + d.r) ∧ cov d j y = true then (d.a, d.e, d.b) else F j) →
      L tab (run tab X) 26 [] [.lp [1, 1, 1, 1, 0, 1, 0], .lp [1, 1, 0, 0, 1, 1, 0]] (S26_1111010_1100110 y 0 p.w.toNat (x : Int) (encL l) l.length i p.w p.h p.a p.e p.b (encL p.d) (rowM p.w.toNat F) d.x d.y d.r d.a d.e d.b) = some r := by
    intro x F hx hG
    refine L_of ?_
    rw [e26_1111010_1100110, w1, w2, w3, goMin_eq]
    refine condNP hx ?_
    rw [rowM_congr (F := F) (G := G) fun j hj => by rw [hG j hj, if_neg (by omega)]]
    exact hend
  intro n
  induction n with
  | zero => intro x F hx hG; exact stop x F (by omega) hG
  | succ n ih =>
    intro x F hx hG
    by_cases e : (x : Int) ≤ min (p.w - 1) (d.x + d.r)
    · have w4 : IntKind.i64.wrap ((x : Int) + 1) = ((x + 1 : Nat) : Int) := by rw [wrap_eq (by omega) (by omega)]; omega
      refine L_of ?_
      rw [e26_1111010_1100110, w1, w2, w3, w4, goMin_eq]
      refine condP e ?_
      refine bindS (c47a X hX hd (x := (x : Int)) (y := y) ⟨by omega, by omega⟩ hy) ?_
      simp only [List.headD_cons, pv_p, toBool_bool]
      cases hc : cov d x y with
      | true =>
        simp only [cond_true, condA, condD, Int.toNat_natCast, Nat.zero_add]
        rw [if_pos (by omega), if_pos (by omega)]
        have := rowM_set p.w.toNat x F (d.a, d.e, d.b)
        rw [show (PV.agg [.int .u8 d.a, .int .u8 d.e, .int .u8 d.b]) = colC (d.a, d.e, d.b) from rfl, this]
        refine ih (x + 1) _ (by omega) fun j hj => ?_
        rw [hG j hj]
        by_cases e1 : j = x
        · subst e1
          rw [if_pos ⟨Nat.le_refl _, e, hc⟩, if_neg (by omega), if_pos rfl]
        · rw [if_neg e1]
          by_cases e2 : x ≤ j ∧ (j : Int) ≤ min (p.w - 1) (d.x + d.r) ∧ cov d j y = true
          · rw [if_pos e2, if_pos ⟨by omega, e2.2⟩]
          · rw [if_neg e2, if_neg fun h => e2 ⟨by omega, h.2⟩]
      | false =>
        simp only [cond_false]
        refine ih (x + 1) F (by omega) fun j hj => ?_
        rw [hG j hj]
        by_cases e2 : x ≤ j ∧ (j : Int) ≤ min (p.w - 1) (d.x + d.r) ∧ cov d j y = true
        · have : j ≠ x := fun h => by rw [h, hc] at e2; exact absurd e2.2.2 (by simp)
          rw [if_pos e2, if_pos ⟨by omega, e2.2⟩]
        · rw [if_neg e2, if_neg fun h => e2 ⟨by omega, h.2⟩]
    · exact stop x F e hG
theorem c26_loop (p : Pi) (V : Valid p) {y : Int} (hy : Near y) : ∀ (n i : Nat), i + n = p.d.length →
    L tab (run tab X) 26 [] [.lp [1, 1, 1, 1, 0, 1, 0]] (S26_1111010 y 0 p.w.toNat (encL p.d) p.d.length i p.w p.h p.a p.e p.b (encL p.d) (rowM p.w.toNat fun j => pixF (j : Int) y (p.d.take i) (p.a, p.e, p.b))) = some ([.fresh true kC (encC (rowL p y p.w.toNat)), .p (.int .i64 0)], []) := by
  have hlen := V.len
  intro n
  induction n with
  | zero =>
    intro i hi
    refine L_of ?_
    rw [e26_1111010]
    refine condNP (show ¬ (i : Int) < (p.d.length : Int) by omega) ?_
    have e : i = p.d.length := by omega
    subst e
    rw [List.drop_zero, List.take_of_length_le (by rw [rowM_length]; exact Nat.le_refl _), List.take_length]
    rfl
  | succ n ih =>
    intro i hi
    have hlt : i < p.d.length := by omega
    have hd := V.near p.d[i] (List.getElem_mem hlt)
    have dx := hd.x
    have dr := hd.r
    have w3 : IntKind.i64.wrap (p.d[i].x - p.d[i].r) = p.d[i].x - p.d[i].r := wrap_eq (by omega) (by omega)
    obtain ⟨x0, hx0⟩ := Int.eq_ofNat_of_zero_le (show 0 ≤ max 0 (p.d[i].x - p.d[i].r) by omega)
    have ih' := ih (i + 1) (by omega)
    refine L_of ?_
    rw [e26_1111010]
    simp only [condD, condA, encL_length, encL_x, encL_y, encL_r, encL_a, encL_e, encL_b, Int.toNat_natCast, dt_get hlt, w3, goMax_eq, hx0]
    rw [if_pos (by omega), if_pos (by omega), if_pos (by omega)]
    refine c26_inner X hX p hd V.w hy p.d i (by omega) _ ih' 20000 x0 _ (by omega) fun j hj => ?_
    have ht : p.d.take (i + 1) = p.d.take i ++ [p.d[i]] := by rw [List.take_succ_eq_append_getElem hlt]
    rw [ht, pixF_app]
    simp only [pixF]
    have vw := V.w
    by_cases hc : cov p.d[i] j y = true
    · have := cov_near hd hc
      rw [if_pos hc, if_pos ⟨by omega, by omega, hc⟩]
    · rw [if_neg hc, if_neg fun h => hc h.2.2]
theorem c26 (p : Pi) (hl : p.d.length ≤ maxLen) (y : Int) : run tab X 26 [.p (encP p), .p (.int .i64 y)] [] = some (rowR p y) :=
  run_of (hX _ rfl) (by
    rw [e26, c11 X hX p hl, encL_length]
    unfold rowR
    simp only [Option.bind_some, List.headD_cons, pv_p, toBool_bool, condO]
    cases hv : validP p with
    | false => rfl
    | true =>
      have V := valid_iff.1 hv
      obtain ⟨v1, v2⟩ := V.w
      obtain ⟨v3, v4⟩ := V.h
      have eh : IntKind.i64.wrap (p.h - 1) = p.h - 1 := wrap_eq (by omega) (by omega)
      simp only [cond_true, c33 X hX, eh, Option.bind_some, List.headD_cons, pv_p, toBool_bool]
      by_cases a1 : 0 ≤ y ∧ y ≤ p.h - 1
      · rw [if_pos (by omega)]
        refine condP a1 ?_
        have h51 := c51 X hX (colC (p.a, p.e, p.b)) p.w.toNat (by omega) (by omega)
        rw [show ((p.w.toNat : Nat) : Int) = p.w by omega] at h51
        refine bindS h51 ?_
        have e : List.replicate p.w.toNat (colC (p.a, p.e, p.b)) = rowM p.w.toNat fun j => pixF (j : Int) y (p.d.take 0) (p.a, p.e, p.b) := by
          apply List.ext_getElem
          · simp [rowM]
          · intro i h1 h2
            simp [rowM, encC, pixF]
        have := c26_loop X hX p V (y := y) ⟨by omega, by omega⟩ p.d.length 0 (by omega)
        rw [← e] at this
        simp only [List.headD_cons, freshList_fresh, List.length_replicate]
        exact this
      · rw [if_neg (by omega)]
        exact condNP a1 rfl)
end
end Go.Skm.Pic
