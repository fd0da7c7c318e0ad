/-
  The nearest tick of a grid: the walks; condition: no list longer than Go allows.
-/
import Derived.Test.YtdhkklplijleiaaGreatDoorB8
namespace Go.Skm.Cue
open Go Go.Skm
def NearP (l : List Tm) (t step : Int) (p : Int × Int) : Prop :=
  if validB l = true ∧ 1 ≤ step ∧ step ≤ Top then (if 0 ≤ t ∧ t ≤ 3600000 then (p.2 = 0 ∧ ∃ k : Nat, IsNear (gT l step.toNat) (gN step.toNat) t k ∧ p.1 = ((k * step.toNat : Nat) : Int)) else p = (0, 3)) else p = (0, 2)
theorem NearP.unique {l : List Tm} {t s : Int} {p q : Int × Int} (a : NearP l t s p) (b : NearP l t s q) : p = q := by
  unfold NearP at a b
  by_cases hv : validB l = true ∧ 1 ≤ s ∧ s ≤ Top
  · rw [if_pos hv] at a b
    by_cases h : 0 ≤ t ∧ t ≤ 3600000
    · rw [if_pos h] at a b
      obtain ⟨a1, k, a2, a3⟩ := a
      obtain ⟨b1, k', b2, b3⟩ := b
      exact Prod.ext (by rw [a3, b3, a2.unique b2]) (by rw [a1, b1])
    · rw [if_neg h] at a b
      rw [a, b]
  · rw [if_neg hv] at a b
    rw [a, b]
theorem checkR_t (l : List Tm) (s t : Int) : checkR l s [t] = if validB l = true ∧ 1 ≤ s ∧ s ≤ Top then (if 0 ≤ t ∧ t ≤ 3600000 then 0 else 3) else 2 := by
  unfold checkR
  by_cases hv : validB l = true ∧ 1 ≤ s ∧ s ≤ Top
  · rw [if_pos hv, if_pos hv]
    by_cases h : 0 ≤ t ∧ t ≤ 3600000
    · rw [if_pos h, if_pos (by simp [timesOk, h])]
    · rw [if_neg h, if_neg (by simpa [timesOk] using h)]
  · rw [if_neg hv, if_neg hv]
theorem wgN {s : Nat} (h : 1 ≤ s) : IntKind.i64.wrap ((4194304 : Int).tdiv (s : Int)) = ((gN s : Nat) : Int) := by
  have := gN_lt h
  have e : ((4194304 : Int).tdiv (s : Int)) = ((gN s : Nat) : Int) := by
    rw [Int.tdiv_eq_ediv_of_nonneg (by omega)]
    rfl
  rw [e, wrap_eq (by omega) (by omega)]
theorem gT_bd {l : List Tm} (v : Valid l) {s k : Nat} (h : k * s ≤ 4194304) : 0 ≤ gT l s k ∧ gT l s k ≤ 3355443201 :=
  tmS_bd v (by have hT : Top = 4194304 := rfl; omega)
section
variable (X : Ext) (hX : Mine X)
include hX
theorem c64_in {l : List Tm} (v : Valid l) {s : Nat} (hs : 1 ≤ s) (hs' : s ≤ 4194304) {t : Int} (h0 : 0 ≤ t) (h1 : t ≤ 3600000) (h38 : run tab X 88 [.p (.list true [.int .i64, .int .i64] (encM l)), .p (.int .i64 s), .p (.list false [.int .i64] [.int .i64 t])] [] = some ([.p (.int .i64 0)], [])) :
    ∃ k : Nat, IsNear (gT l s) (gN s) t k ∧ run tab X 64 [.p (.list true [.int .i64, .int .i64] (encM l)), .p (.int .i64 t), .p (.int .i64 s)] [] = some (pairR (((k * s : Nat) : Int), 0)) := by
  have mono : ∀ i j, i ≤ j → j ≤ gN s → gT l s i ≤ gT l s j := fun i j h _ => gT_mono v s i j h
  obtain ⟨r, r1, r2, r3, r4⟩ := c89a X hX v hs t
  have hN : 1 ≤ gN s := Nat.div_pos hs' (by omega)
  have hN' := gN_lt hs
  have e0 : decide ((s : Int) = 0) = false := decide_eq_false (by omega)
  have bd := fun k (h : k ≤ gN s) => gT_bd v (s := s) (k := k) (gN_le h)
  have fin : ∀ k : Nat, k ≤ gN s → IntKind.i64.wrap ((k : Int) * (s : Int)) = ((k * s : Nat) : Int) := fun k h => wmul (gN_le h)
  cases r with
  | zero =>
    refine ⟨0, near_zero mono (by omega), run_of (hX _ rfl) ?_⟩
    rw [e64, h38]
    simp only [Option.bind_some, List.headD_cons, pv_p, toInt_int, e0, Bool.not_false, cond_true, wgN hs, r2, condD, bne_self_eq_false, cond_false]
    change (if ((0 : Nat) : Int) > 0 then _ else _) = _
    rw [if_neg (by omega), fin 0 (by omega)]
    rfl
  | succ b =>
    have hx : gT l s b < t := by
      rcases r3 with h | h
      · omega
      · rwa [Nat.add_sub_cancel] at h
    have w1 : IntKind.i64.wrap ((IntKind.i64.wrap (((b + 1 : Nat) : Int) - 1)) * (s : Int)) = ((b * s : Nat) : Int) := by
      rw [wrap_eq (x := ((b + 1 : Nat) : Int) - 1) (by omega) (by omega), show ((b + 1 : Nat) : Int) - 1 = (b : Int) by omega, fin b (by omega)]
    have b1 := bd b (by omega)
    have b2 := bd (b + 1) r1
    have m1 := c91n X hX v (gN_le (s := s) (k := b) (by omega))
    have m2 := c91n X hX v (gN_le (s := s) (k := b + 1) r1)
    have w2 : IntKind.i64.wrap (t - gT l s b) = t - gT l s b := wrap_eq (by omega) (by omega)
    have w3 : IntKind.i64.wrap (gT l s (b + 1) - t) = gT l s (b + 1) - t := wrap_eq (by omega) (by omega)
    have m1' : run tab X 91 [.p (.list true [.int .i64, .int .i64] (encM l)), .p (.int .i64 ((b * s : Nat) : Int))] [] = some ([.p (.int .i64 (gT l s b))], []) := m1
    have m2' : run tab X 91 [.p (.list true [.int .i64, .int .i64] (encM l)), .p (.int .i64 (((b + 1) * s : Nat) : Int))] [] = some ([.p (.int .i64 (gT l s (b + 1)))], []) := m2
    obtain ⟨p, p1, p2, p3, p4⟩ := c89b X hX v hs (gT l s (b + 1))
    obtain ⟨q, q1, q2, q3, q4⟩ := c89b X hX v hs (gT l s b)
    by_cases hy : gT l s (b + 1) < t
    · have e : b + 1 = gN s := by omega
      refine ⟨p, near_last mono (by rw [← e]; exact hy) p1 (by rw [← e]; exact p3) (by rw [← e] at p4 ⊢; exact p4), run_of (hX _ rfl) ?_⟩
      rw [e64, h38]
      simp only [Option.bind_some, List.headD_cons, pv_p, toInt_int, e0, Bool.not_false, cond_true, wgN hs, r2, condD, bne_self_eq_false, cond_false, w1, m1', fin _ r1, m2', p2, q2, fin _ p1, fin _ q1]
      change (if ((b + 1 : Nat) : Int) > 0 then _ else _) = _
      rw [if_pos (by omega)]
      change (if gT l s (b + 1) < t then _ else _) = _
      rw [if_pos hy]
      change (if gT l s (b + 1) < t then _ else _) = _
      rw [if_pos hy]
      rfl
    · by_cases hd : t - gT l s b ≤ gT l s (b + 1) - t
      · refine ⟨q, near_low mono r1 hx (by omega) hd q1 q3 q4, run_of (hX _ rfl) ?_⟩
        rw [e64, h38]
        simp only [Option.bind_some, List.headD_cons, pv_p, toInt_int, e0, Bool.not_false, cond_true, wgN hs, r2, condD, bne_self_eq_false, cond_false, w1, m1', fin _ r1, m2', p2, q2, fin _ p1, fin _ q1, w2, w3]
        change (if ((b + 1 : Nat) : Int) > 0 then _ else _) = _
        rw [if_pos (by omega)]
        change (if gT l s (b + 1) < t then _ else _) = _
        rw [if_neg hy]
        change (if t - gT l s b ≤ gT l s (b + 1) - t then _ else _) = _
        rw [if_pos hd]
        change (if gT l s (b + 1) < t then _ else _) = _
        rw [if_neg hy]
        rfl
      · refine ⟨b + 1, near_up mono r1 hx (by omega) hd, run_of (hX _ rfl) ?_⟩
        rw [e64, h38]
        simp only [Option.bind_some, List.headD_cons, pv_p, toInt_int, e0, Bool.not_false, cond_true, wgN hs, r2, condD, bne_self_eq_false, cond_false, w1, m1', fin _ r1, m2', p2, q2, fin _ p1, fin _ q1, w2, w3]
        change (if ((b + 1 : Nat) : Int) > 0 then _ else _) = _
        rw [if_pos (by omega)]
        change (if gT l s (b + 1) < t then _ else _) = _
        rw [if_neg hy]
        change (if t - gT l s b ≤ gT l s (b + 1) - t then _ else _) = _
        rw [if_neg hd]
        rfl
theorem c64 (l : List Tm) (hl : l.length ≤ maxLen) (t s : Int) : ∃ p, NearP l t s p ∧ run tab X 64 [.p (.list true kT (encM l)), .p (.int .i64 t), .p (.int .i64 s)] [] = some (pairR p) := by
  have hT : Top = 4194304 := rfl
  have h38 := c88 X hX l hl s [t] (show 1 ≤ maxLen by decide)
  rw [checkR_t] at h38
  rw [kT] at h38 ⊢
  unfold NearP
  by_cases hv : validB l = true ∧ 1 ≤ s ∧ s ≤ Top
  · rw [if_pos hv] at h38
    simp only [if_pos hv]
    by_cases h : 0 ≤ t ∧ t ≤ 3600000
    · rw [if_pos h] at h38
      simp only [if_pos h]
      obtain ⟨n, rfl⟩ := Int.eq_ofNat_of_zero_le (show 0 ≤ s by omega)
      obtain ⟨k, k1, k2⟩ := c64_in X hX (valid_of hv.1) (s := n) (by omega) (by omega) h.1 h.2 h38
      exact ⟨_, ⟨rfl, k, k1, rfl⟩, k2⟩
    · rw [if_neg h] at h38
      simp only [if_neg h]
      refine ⟨(0, 3), rfl, run_of (hX _ rfl) ?_⟩
      rw [e64]
      exact (congrArg (Option.bind · _) h38).trans rfl
  · rw [if_neg hv] at h38
    simp only [if_neg hv]
    refine ⟨(0, 2), rfl, run_of (hX _ rfl) ?_⟩
    rw [e64]
    exact (congrArg (Option.bind · _) h38).trans rfl
end
end Go.Skm.Cue
