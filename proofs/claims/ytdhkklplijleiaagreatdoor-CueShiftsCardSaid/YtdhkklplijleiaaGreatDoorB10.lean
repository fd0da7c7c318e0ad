/-
  The nearest tick of a grid: the document's walk; condition: none.
-/
import Derived.Test.YtdhkklplijleiaaGreatDoorB9
namespace Go.Skm.Cue
open Go Go.Skm
section
variable (X : Ext) (hX : Mine X)
include hX
theorem c68_loop {l : List Tm} (v : Valid l) {s : Nat} (hs : 1 ≤ s) {t : Int} (h0 : 0 ≤ t) (h1 : t ≤ 3600000) : ∀ k : Nat, k ≤ gN s → (∀ j, j ≤ gN s → dst (gT l s k) t ≤ dst (gT l s j) t) →
    ∃ k', IsNear (gT l s) (gN s) t k' ∧ L tab (run tab X) 68 [] [.lp [1, 1, 1, 1, 1, 1, 0, 0]] (S68_11111100 (encM l) t s ((k * s : Nat) : Int)) = some (pairR (((k' * s : Nat) : Int), 0)) := by
  have mono : ∀ i j, i ≤ j → j ≤ gN s → gT l s i ≤ gT l s j := fun i j h _ => gT_mono v s i j h
  intro k
  induction k with
  | zero =>
    intro hk best
    refine ⟨0, near_stop mono hk best (.inl rfl), L_of ?_⟩
    rw [e68_11111100, condD, if_neg (by omega)]
    rfl
  | succ k ih =>
    intro hk best
    have l1 := gN_le hk
    have l2 := gN_le (s := s) (k := k) (by omega)
    have e1 : (k + 1) * s = k * s + s := Nat.succ_mul k s
    have w : IntKind.i64.wrap ((((k + 1) * s : Nat) : Int) - (s : Int)) = ((k * s : Nat) : Int) := by
      rw [e1, wrap_eq (by omega) (by omega)]; omega
    have b1 := gT_bd v l1
    have b2 := gT_bd v l2
    have d1 : run tab X 97 [.p (.int .i64 (tmS l (((k + 1) * s : Nat) : Int))), .p (.int .i64 t)] [] = some ([.p (.int .i64 (dst (gT l s (k + 1)) t))], []) := c97 X hX b1.1 b1.2 h0 (by omega)
    have d2 : run tab X 97 [.p (.int .i64 (tmS l ((k * s : Nat) : Int))), .p (.int .i64 t)] [] = some ([.p (.int .i64 (dst (gT l s k) t))], []) := c97 X hX b2.1 b2.2 h0 (by omega)
    by_cases h : dst (gT l s k) t ≤ dst (gT l s (k + 1)) t
    · obtain ⟨k', g1, g2⟩ := ih (by omega) (fun j hj => Int.le_trans h (best j hj))
      refine ⟨k', g1, L_of ?_⟩
      rw [e68_11111100, w]
      simp only [c99n X hX v l1, c99n X hX v l2, c98n X hX v l1, c98n X hX v l2, d1, d2, Option.bind_some, List.headD_cons, pv_p, toInt_int, condD]
      change (if (((k + 1) * s : Nat) : Int) ≥ (s : Int) then _ else _) = _
      rw [if_pos (by omega)]
      change (if dst (gT l s k) t ≤ dst (gT l s (k + 1)) t then _ else _) = _
      rw [if_pos h]
      exact g2
    · refine ⟨k + 1, near_stop mono hk best (.inr (by rw [Nat.add_sub_cancel]; omega)), L_of ?_⟩
      rw [e68_11111100, w]
      simp only [c99n X hX v l1, c99n X hX v l2, c98n X hX v l1, c98n X hX v l2, d1, d2, Option.bind_some, List.headD_cons, pv_p, toInt_int, condD]
      change (if (((k + 1) * s : Nat) : Int) ≥ (s : Int) then _ else _) = _
      rw [if_pos (by omega)]
      change (if dst (gT l s k) t ≤ dst (gT l s (k + 1)) t then _ else _) = _
      rw [if_neg h]
      rfl
theorem c68_in {l : List Tm} (hv : validB l = true) {s : Nat} (hs : 1 ≤ s) (hs' : s ≤ 4194304) {t : Int} (h0 : 0 ≤ t) (h1 : t ≤ 3600000) :
    ∃ k : Nat, IsNear (gT l s) (gN s) t k ∧ run tab X 68 [.p (.list true [.int .i64, .int .i64] (encM l)), .p (.int .i64 t), .p (.int .i64 s)] [] = some (pairR (((k * s : Nat) : Int), 0)) := by
  have hT : Top = 4194304 := rfl
  have v := valid_of hv
  have mono : ∀ i j, i ≤ j → j ≤ gN s → gT l s i ≤ gT l s j := fun i j h _ => gT_mono v s i j h
  have h13 := c67 X hX l
  obtain ⟨p, p1, p2⟩ := c96 X hX l t
  unfold TickP at p1
  rw [if_pos hv, if_pos ⟨h0, h1⟩] at p1
  rw [kT] at p2 h13
  obtain ⟨p1a, it⟩ := p1
  obtain ⟨r, hr⟩ := Int.eq_ofNat_of_zero_le it.lo
  have e0 : decide ((s : Int) = 0) = false := decide_eq_false (by omega)
  have p2' : run tab X 96 [.p (.list true [.int .i64, .int .i64] (encM l)), .p (.int .i64 t)] [] = some ([.p (.int .i64 (r : Int)), .p (.int .i64 0)], []) := by
    rw [p2, ← p1a, ← hr]; rfl
  have hi := it.hi
  have hle := it.le
  have hgt := it.gt
  rw [hr] at hi hle hgt
  have hk : r / s ≤ gN s := Nat.div_le_div_right (by omega)
  have f1 : r / s * s ≤ r := Nat.div_mul_le_self r s
  have f2 : r < r / s * s + s := by have := Nat.div_add_mod r s; have := Nat.mod_lt r (show 0 < s by omega); rw [Nat.mul_comm]; omega
  have w1 : IntKind.i64.wrap ((IntKind.i64.wrap ((r : Int).tdiv (s : Int))) * (s : Int)) = ((r / s * s : Nat) : Int) := by
    have e : ((r : Int).tdiv (s : Int)) = ((r / s : Nat) : Int) := by
      rw [Int.tdiv_eq_ediv_of_nonneg (by omega)]
      rfl
    have : r / s ≤ r := Nat.div_le_self r s
    have wn : ∀ q : Nat, q ≤ 4194304 → IntKind.i64.wrap (q : Int) = q := fun q hq => wrap_eq (by omega) (by omega)
    rw [e, wn _ (Nat.le_trans this (by omega)), wmul (by omega)]
  have e1 : (r / s + 1) * s = r / s * s + s := Nat.succ_mul _ s
  have w2 : IntKind.i64.wrap (((r / s * s : Nat) : Int) + (s : Int)) = (((r / s + 1) * s : Nat) : Int) := by
    rw [e1, wrap_eq (by omega) (by omega)]; omega
  have l1 : r / s * s ≤ 4194304 := gN_le hk
  have hiff : (r / s + 1) * s ≤ 4194304 ↔ r / s + 1 ≤ gN s := (Nat.le_div_iff_mul_le (show 0 < s by omega)).symm
  have hx : gT l s (r / s) ≤ t := Int.le_trans (tmS_mono v (by omega)) hle
  have hy : r / s = gN s ∨ t < gT l s (r / s + 1) := by
    by_cases e : r / s + 1 ≤ gN s
    · right
      have := hiff.mpr e
      rcases hgt with g | g
      · omega
      · exact Int.lt_of_lt_of_le g (tmS_mono v (by omega))
    · left; omega
  have st := near_start mono hk hx hy
  have b1 := gT_bd v l1
  have d1 : run tab X 97 [.p (.int .i64 (tmS l ((r / s * s : Nat) : Int))), .p (.int .i64 t)] [] = some ([.p (.int .i64 (dst (gT l s (r / s)) t))], []) := c97 X hX b1.1 b1.2 h0 (by omega)
  by_cases h : r / s + 1 ≤ gN s
  · have l2 := hiff.mpr h
    have b2 := gT_bd v l2
    have d2 : run tab X 97 [.p (.int .i64 (tmS l (((r / s + 1) * s : Nat) : Int))), .p (.int .i64 t)] [] = some ([.p (.int .i64 (dst (gT l s (r / s + 1)) t))], []) := c97 X hX b2.1 b2.2 h0 (by omega)
    by_cases g : dst (gT l s (r / s + 1)) t < dst (gT l s (r / s)) t
    · rw [if_pos ⟨h, g⟩] at st
      obtain ⟨k, k1, k2⟩ := c68_loop X hX v hs h0 h1 _ h st
      refine ⟨k, k1, run_of (hX _ rfl) ?_⟩
      rw [e68, h13, hv]
      simp only [c95 X hX, p2', w1, w2, e0, c99n X hX v l1, c99n X hX v l2, c98n X hX v l1, c98n X hX v l2, d1, d2, Option.bind_some, List.headD_cons, pv_p, toBool_bool, toInt_int, condO, condD, cond_true, Bool.not_false]
      rw [if_pos ⟨by omega, by omega⟩, if_pos ⟨h0, h1⟩]
      change (if (((r / s + 1) * s : Nat) : Int) ≤ 4194304 then _ else _) = _
      rw [if_pos (by omega)]
      change (if dst (gT l s (r / s + 1)) t < dst (gT l s (r / s)) t then _ else _) = _
      rw [if_pos g]
      exact k2
    · rw [if_neg (fun q => g q.2)] at st
      obtain ⟨k, k1, k2⟩ := c68_loop X hX v hs h0 h1 _ hk st
      refine ⟨k, k1, run_of (hX _ rfl) ?_⟩
      rw [e68, h13, hv]
      simp only [c95 X hX, p2', w1, w2, e0, c99n X hX v l1, c99n X hX v l2, c98n X hX v l1, c98n X hX v l2, d1, d2, Option.bind_some, List.headD_cons, pv_p, toBool_bool, toInt_int, condO, condD, cond_true, Bool.not_false]
      rw [if_pos ⟨by omega, by omega⟩, if_pos ⟨h0, h1⟩]
      change (if (((r / s + 1) * s : Nat) : Int) ≤ 4194304 then _ else _) = _
      rw [if_pos (by omega)]
      change (if dst (gT l s (r / s + 1)) t < dst (gT l s (r / s)) t then _ else _) = _
      rw [if_neg g]
      exact k2
  · rw [if_neg (fun q => h q.1)] at st
    obtain ⟨k, k1, k2⟩ := c68_loop X hX v hs h0 h1 _ hk st
    refine ⟨k, k1, run_of (hX _ rfl) ?_⟩
    rw [e68, h13, hv]
    simp only [c95 X hX, p2', w1, w2, e0, Option.bind_some, List.headD_cons, pv_p, toBool_bool, toInt_int, condO, condD, cond_true, Bool.not_false]
    rw [if_pos ⟨by omega, by omega⟩, if_pos ⟨h0, h1⟩]
    change (if (((r / s + 1) * s : Nat) : Int) ≤ 4194304 then _ else _) = _
    rw [if_neg (by omega)]
    exact k2
theorem c68 (l : List Tm) (t s : Int) : ∃ p, NearP l t s p ∧ run tab X 68 [.p (.list true kT (encM l)), .p (.int .i64 t), .p (.int .i64 s)] [] = some (pairR p) := by
  have hT : Top = 4194304 := rfl
  have h13 := c67 X hX l
  rw [kT] at h13 ⊢
  unfold NearP
  by_cases hv : validB l = true ∧ 1 ≤ s ∧ s ≤ Top
  · simp only [if_pos hv]
    by_cases h : 0 ≤ t ∧ t ≤ 3600000
    · simp only [if_pos h]
      obtain ⟨n, rfl⟩ := Int.eq_ofNat_of_zero_le (show 0 ≤ s by omega)
      obtain ⟨k, k1, k2⟩ := c68_in X hX hv.1 (s := n) (by omega) (by omega) h.1 h.2
      exact ⟨_, ⟨rfl, k, k1, rfl⟩, k2⟩
    · simp only [if_neg h]
      refine ⟨(0, 3), rfl, run_of (hX _ rfl) ?_⟩
      rw [e68, h13, hv.1]
      simp only [c95 X hX, Option.bind_some, List.headD_cons, pv_p, toBool_bool, condO, condD, cond_true]
      rw [if_pos ⟨by omega, by omega⟩, if_neg h]
      rfl
  · simp only [if_neg hv]
    refine ⟨(0, 2), rfl, run_of (hX _ rfl) ?_⟩
    rw [e68, h13]
    cases hb : validB l with
    | false => rfl
    | true =>
      simp only [c95 X hX, Option.bind_some, List.headD_cons, pv_p, toBool_bool, condO, condD, cond_true]
      rw [if_neg (fun q => hv ⟨hb, by omega, by omega⟩)]
      rfl
end
end Go.Skm.Cue
