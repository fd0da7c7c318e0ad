/-
  The nearest tick of a grid: the program's and the document's answer alike; condition: no list longer than Go allows.
-/
import Derived.Test.YtdhkklplijleiaaGreatDoorB7
namespace Go.Skm.Cue
open Go Go.Skm
def gT (l : List Tm) (s k : Nat) : Int := tmS l ((k * s : Nat) : Int)
theorem gT_mono {l : List Tm} (v : Valid l) (s : Nat) (i j : Nat) (h : i ≤ j) : gT l s i ≤ gT l s j :=
  tmS_mono v (by have := Nat.mul_le_mul_right s h; omega)
def gN (s : Nat) : Nat := 4194304 / s
theorem gN_le {s k : Nat} (h : k ≤ gN s) : k * s ≤ 4194304 := Nat.le_trans (Nat.mul_le_mul_right s h) (Nat.div_mul_le_self 4194304 s)
theorem gN_lt {s : Nat} (_h : 1 ≤ s) : gN s ≤ 4194304 := Nat.div_le_self _ _
theorem wmul {k s : Nat} (h : k * s ≤ 4194304) : IntKind.i64.wrap ((k : Int) * (s : Int)) = ((k * s : Nat) : Int) := by
  rw [← Int.natCast_mul, wrap_eq (by omega) (by omega)]
section
variable (X : Ext) (hX : Mine X)
include hX
theorem c91n {l : List Tm} (v : Valid l) {x : Nat} (hx : x ≤ 4194304) : run tab X 91 [.p (.list true [.int .i64, .int .i64] (encM l)), .p (.int .i64 x)] [] = some ([.p (.int .i64 (tmS l x))], []) := by
  have hT : Top = 4194304 := rfl
  have := c91 X hX v (x := (x : Int)) (by omega) (by omega)
  rwa [kT] at this
theorem c99n {l : List Tm} (v : Valid l) {x : Nat} (hx : x ≤ 4194304) : run tab X 99 [.p (.list true [.int .i64, .int .i64] (encM l)), .p (.int .i64 x)] [] = some ([.p (.int .i64 (exS l x))], []) := by
  have hT : Top = 4194304 := rfl
  have := c99 X hX v (x := (x : Int)) (by omega) (by omega)
  rwa [kT] at this
theorem c98n {l : List Tm} (v : Valid l) {x : Nat} (hx : x ≤ 4194304) : run tab X 98 [.p (.int .i64 (exS l x))] [] = some ([.p (.int .i64 (tmS l x))], []) := by
  have hT : Top = 4194304 := rfl
  have hb := exS_bd v (x := (x : Int)) (by omega)
  exact c98 X hX hb.1 hb.2
theorem c97 {a b : Int} (ha : 0 ≤ a) (ha' : a ≤ 3355443201) (hb : 0 ≤ b) (hb' : b ≤ 3355443201) : run tab X 97 [.p (.int .i64 a), .p (.int .i64 b)] [] = some ([.p (.int .i64 (dst a b))], []) :=
  run_of (hX _ rfl) (by
    rw [e97, wrap_eq (x := b - a) (by omega) (by omega), wrap_eq (x := a - b) (by omega) (by omega), condD]
    unfold dst
    by_cases h : a < b
    · rw [if_pos h, if_pos h]
    · rw [if_neg h, if_neg h])
theorem c90 {l : List Tm} (v : Valid l) {s k : Nat} (hk : k * s ≤ 4194304) (t : Int) : run tab X 90 [.p (.int .i64 k), .p (.ref [.list true [.int .i64, .int .i64] (encM l)]), .p (.ref [.int .i64 (s : Int)]), .p (.ref [.int .i64 t])] [] = some ([.p (.bool (decide (gT l s k ≥ t)))], []) :=
  run_of (hX _ rfl) (by
    rw [e90, wmul hk, c91n X hX v hk]
    rfl)
theorem c89a {l : List Tm} (v : Valid l) {s : Nat} (hs : 1 ≤ s) (t : Int) : ∃ r : Nat, r ≤ gN s ∧ run tab X 89 [.p (.int .i64 (gN s : Nat)), .p (.fn 90 [.ref [.list true [.int .i64, .int .i64] (encM l)], .ref [.int .i64 (s : Int)], .ref [.int .i64 t]])] [] = some ([.p (.int .i64 r)], []) ∧ (r = 0 ∨ gT l s (r - 1) < t) ∧ (r = gN s ∨ t ≤ gT l s r) := by
  have hN := gN_lt hs
  obtain ⟨r, g1, g2, g3, g4⟩ := search_gen (fun i j => L tab (run tab X) 89 [] [.lp [1, 1, 0, 0]] (S89_1100a (encM l) s t i j)) (fun k => decide (gT l s k ≥ t)) (gN s)
    (fun i hi => by
      refine L_of ?_
      rw [e89_1100a]
      simp only [condD]
      rw [if_neg (by omega)]) (fun i j r hij hj hr => by
      refine L_of ?_
      have hm := mid_eq (i := i) (j := j) (by omega)
      have hc := c90 X hX v (s := s) (k := (i + j) / 2) (gN_le (by omega)) t
      rw [e89_1100a]
      simp only [hm, hc, condD, condO, Option.bind_some, List.headD_cons, pv_p, toBool_bool]
      rw [if_pos (by omega)]
      rw [show IntKind.i64.wrap ((((i + j) / 2 : Nat) : Int) + 1) = (((i + j) / 2 + 1 : Nat) : Int) by rw [wrap_eq (by omega) (by omega)]; omega]
      by_cases h : gT l s ((i + j) / 2) ≥ t
      · rw [if_pos h]; rw [if_pos (by simpa using h)] at hr; exact hr
      · rw [if_neg h]; rw [if_neg (by simpa using h)] at hr; exact hr)
  refine ⟨r, g1, run_of (hX _ rfl) ?_, ?_, ?_⟩
  · rw [e89a]
    exact g2
  · rcases g3 with h | h
    · exact .inl h
    · right
      have h' : ¬ gT l s (r - 1) ≥ t := by simpa using h
      omega
  · rcases g4 with h | h
    · exact .inl h
    · right
      have h' : gT l s r ≥ t := by simpa using h
      omega
theorem c92 {l : List Tm} (v : Valid l) {s k : Nat} (hk : k * s ≤ 4194304) (t : Int) : run tab X 92 [.p (.int .i64 k), .p (.ref [.list true [.int .i64, .int .i64] (encM l)]), .p (.ref [.int .i64 (s : Int)]), .p (.ref [.int .i64 t])] [] = some ([.p (.bool (decide (gT l s k ≥ t)))], []) :=
  run_of (hX _ rfl) (by
    rw [e92, wmul hk, c91n X hX v hk]
    rfl)
theorem c89b {l : List Tm} (v : Valid l) {s : Nat} (hs : 1 ≤ s) (t : Int) : ∃ r : Nat, r ≤ gN s ∧ run tab X 89 [.p (.int .i64 (gN s : Nat)), .p (.fn 92 [.ref [.list true [.int .i64, .int .i64] (encM l)], .ref [.int .i64 (s : Int)], .ref [.int .i64 t]])] [] = some ([.p (.int .i64 r)], []) ∧ (r = 0 ∨ gT l s (r - 1) < t) ∧ (r = gN s ∨ t ≤ gT l s r) := by
  have hN := gN_lt hs
  obtain ⟨r, g1, g2, g3, g4⟩ := search_gen (fun i j => L tab (run tab X) 89 [] [.lp [1, 1, 0, 0]] (S89_1100b (encM l) s t i j)) (fun k => decide (gT l s k ≥ t)) (gN s)
    (fun i hi => by
      refine L_of ?_
      rw [e89_1100b]
      simp only [condD]
      rw [if_neg (by omega)]) (fun i j r hij hj hr => by
      refine L_of ?_
      have hm := mid_eq (i := i) (j := j) (by omega)
      have hc := c92 X hX v (s := s) (k := (i + j) / 2) (gN_le (by omega)) t
      rw [e89_1100b]
      simp only [hm, hc, condD, condO, Option.bind_some, List.headD_cons, pv_p, toBool_bool]
      rw [if_pos (by omega)]
      rw [show IntKind.i64.wrap ((((i + j) / 2 : Nat) : Int) + 1) = (((i + j) / 2 + 1 : Nat) : Int) by rw [wrap_eq (by omega) (by omega)]; omega]
      by_cases h : gT l s ((i + j) / 2) ≥ t
      · rw [if_pos h]; rw [if_pos (by simpa using h)] at hr; exact hr
      · rw [if_neg h]; rw [if_neg (by simpa using h)] at hr; exact hr)
  refine ⟨r, g1, run_of (hX _ rfl) ?_, ?_, ?_⟩
  · rw [e89b]
    exact g2
  · rcases g3 with h | h
    · exact .inl h
    · right
      have h' : ¬ gT l s (r - 1) ≥ t := by simpa using h
      omega
  · rcases g4 with h | h
    · exact .inl h
    · right
      have h' : gT l s r ≥ t := by simpa using h
      omega
end
end Go.Skm.Cue
