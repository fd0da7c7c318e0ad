/-
  The grid: what the program gives out and what the document lists; condition: no list longer than Go allows.
-/
import Derived.Test.YtdhkklplijleiaaDoorCt11
namespace Go.Skm.Beat
open Go Go.Skm

def gridOk (l : List Tm) (frm to s : Int) : Int := checkR l s [frm, to]
def gridL (l : List Tm) (frm to : Int) (s : Nat) : List PV := gD l s frm to (gN s + 1) 0
theorem gridOk_eq (l : List Tm) (frm to s : Int) : gridOk l frm to s = if validB l = true then (if 1 ≤ s ∧ s ≤ Top then (if 0 ≤ frm ∧ frm ≤ 3600000 then (if 0 ≤ to ∧ to ≤ 3600000 then 0 else 3) else 3) else 2) else 2 := by
  unfold gridOk checkR
  by_cases hv : validB l = true
  · by_cases hs : 1 ≤ s ∧ s ≤ Top
    · rw [if_pos ⟨hv, hs⟩, if_pos hv, if_pos hs]
      by_cases h : 0 ≤ frm ∧ frm ≤ 3600000
      · by_cases h' : 0 ≤ to ∧ to ≤ 3600000
        · rw [if_pos (by simp [timesOk, h, h']), if_pos h, if_pos h']
        · rw [if_neg (by simp [timesOk, h]; omega), if_pos h, if_neg h']
      · rw [if_neg (by simp [timesOk]; omega), if_neg h]
    · rw [if_neg (fun q => hs q.2), if_pos hv, if_neg hs]
  · rw [if_neg (fun q => hv q.1), if_neg hv]
section
variable (X : Ext) (hX : Mine X)
include hX

theorem c23 (l : List Tm) (frm to s : Int) : run tab X 23 [.p (.list true kT (encM l)), .p (.int .i64 frm), .p (.int .i64 to), .p (.int .i64 s)] [] = some ([.fresh true kT (if gridOk l frm to s = 0 then gridL l frm to s.toNat else []), .p (.int .i64 (gridOk l frm to s))], []) :=
  run_of (hX _ (by decide) (by decide) (by decide)) (by
    have hT : Top = 4194304 := rfl
    have h13 := c13 X hX l
    rw [kT] at h13 ⊢
    rw [e23, h13, gridOk_eq]
    cases hv : validB l with
    | false => rfl
    | true =>
      simp only [c35 X hX, Option.bind_some, List.headD_cons, pv_p, toBool_bool, condO, condD, cond_true, if_true]
      by_cases hs : 1 ≤ s ∧ s ≤ Top
      · rw [if_pos hs, if_pos hs]
        by_cases h : 0 ≤ frm ∧ frm ≤ 3600000
        · rw [if_pos h, if_pos h]
          by_cases h' : 0 ≤ to ∧ to ≤ 3600000
          · rw [if_pos h', if_pos h', if_pos rfl]
            obtain ⟨n, rfl⟩ := Int.eq_ofNat_of_zero_le (show 0 ≤ s by omega)
            have := c23_loop X hX (valid_of hv) (s := n) (by omega) (by omega) frm to (gN n + 1) 0 [] (by omega) (by simp)
            rw [Nat.zero_mul, List.nil_append] at this
            exact this
          · rw [if_neg h', if_neg h']; rfl
        · rw [if_neg h, if_neg h]; rfl
      · rw [if_neg hs, if_neg hs]; rfl)
theorem c46 (l : List PV) (h : 0 < l.length) (h' : l.length ≤ 64) : run tab X 46 [.p (.list true [.int .i64, .int .i64] l)] [] = some ([.fresh true [.int .i64, .int .i64] l], []) :=
  run_of (hX _ (by decide) (by decide) (by decide)) (by
    have e : Nat.blt 0 l.length = true := by rw [Nat.blt_eq]; exact h
    rw [e46, e, condD, if_pos (by omega), Nat.zero_add, List.nil_append, List.drop_zero, List.take_length]
    rfl)
theorem c22_err (l : List Tm) (hl : l.length ≤ maxLen) (frm to s : Int) (h : gridOk l frm to s ≠ 0) : run tab X 22 [.p (.list true kT (encM l)), .p (.int .i64 frm), .p (.int .i64 to), .p (.int .i64 s)] [] = some ([.p .nilfn, .p (.int .i64 (gridOk l frm to s))], []) :=
  run_of (hX _ (by decide) (by decide) (by decide)) (by
    have h38 := c38 X hX l hl s [frm, to] (show 2 ≤ maxLen by decide)
    rw [kT] at h38 ⊢
    rw [e22]
    refine (congrArg (Option.bind · _) h38).trans ?_
    have hb : (gridOk l frm to s != 0) = true := by simpa using h
    change (bif (gridOk l frm to s != 0) then _ else _) = _
    rw [hb]
    rfl)
theorem c22_ok (l : List Tm) (hl : l.length ≤ maxLen) (frm to s : Int) (h : gridOk l frm to s = 0) (hp : 0 < l.length) (hq : l.length ≤ 64) : run tab X 22 [.p (.list true kT (encM l)), .p (.int .i64 frm), .p (.int .i64 to), .p (.int .i64 s)] [] =
    some ([.p (.fn 47 [.ref [.int .i64 s], .ref [.list true kT (encM l)], .ref [.int .i64 frm], .ref [.int .i64 to]]), .p (.int .i64 0)], []) :=
  run_of (hX _ (by decide) (by decide) (by decide)) (by
    have h38 := c38 X hX l hl s [frm, to] (show 2 ≤ maxLen by decide)
    have h46 := c46 X hX (encM l) (by simpa [encM] using hp) (by simpa [encM] using hq)
    rw [kT] at h38 ⊢
    rw [e22]
    refine (congrArg (Option.bind · _) h38).trans ?_
    have hb : (gridOk l frm to s != 0) = false := by simpa using h
    change (bif (gridOk l frm to s != 0) then _ else _) = _
    rw [hb, cond_false, h46]
    have e : ((encM l).drop 0).take (encM l).length = encM l := by rw [List.drop_zero, List.take_length]
    change some ([AV.p (.fn 47 [.ref [.int .i64 s], .ref [.list true [.int .i64, .int .i64] (((encM l).drop 0).take (encM l).length)], .ref [.int .i64 frm], .ref [.int .i64 to]]), AV.p (.int .i64 0)], []) = _
    rw [e])
theorem c47 {l : List Tm} (v : Valid l) {s : Nat} (hs : 1 ≤ s) (hs' : s ≤ 4194304) (frm to : Int) : run tab X 47 [.yld, .p (.ref [.int .i64 (s : Int)]), .p (.ref [.list true [.int .i64, .int .i64] (encM l)]), .p (.ref [.int .i64 frm]), .p (.ref [.int .i64 to])] [.log true []] = some ([], [.log true (gridL l frm to s)]) :=
  run_of (hX _ (by decide) (by decide) (by decide)) (by
    have hN := gN_lt hs
    obtain ⟨r, r1, r2, r3, r4⟩ := c39g X hX v hs frm
    have e0 : decide ((s : Int) = 0) = false := decide_eq_false (by omega)
    have w : IntKind.i64.wrap (((gN s : Nat) : Int) + 1) = ((gN s + 1 : Nat) : Int) := by rw [wrap_eq (by omega) (by omega)]; omega
    have l2 : r * s ≤ 8388608 := by
      have h1 := gN_le (Nat.le_refl (gN s))
      have h2 := Nat.mul_le_mul_right s r1
      rw [Nat.succ_mul] at h2
      omega
    have w2 : IntKind.i64.wrap ((r : Int) * (s : Int)) = ((r * s : Nat) : Int) := by
      rw [← Int.natCast_mul, wrap_eq (by omega) (by omega)]
    rw [e47, e0, wgN hs, w, r2]
    simp only [Option.bind_some, List.headD_cons, pv_p, toInt_int, Bool.not_false, cond_true, w2]
    have h1 := c47_loop X hX v hs hs' to (gN s + 1 - r) r [] (by omega)
    have h2 := gD_eq v (s := s) (frm := frm) (to := to) (gN s + 1) 0 r (by omega) (by omega) (by omega) (by omega)
    rw [h1, List.nil_append]
    unfold gridL
    rw [h2, Nat.zero_add])
end
end Go.Skm.Beat
