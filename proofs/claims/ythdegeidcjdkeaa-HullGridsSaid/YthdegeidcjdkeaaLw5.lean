/-
  The law HullGrids, of the program run by the machine; condition: the sorting function is as said.
-/
import Derived.Test.YthdegeidcjdkeaaLw4
namespace Go.Skm.Hull
open Go Go.Skm

/-- A row of the grid from column k on, and the grid from row i on. -/
def rowF (s i : Int) : Nat → Nat → List V3
  | _, 0 => []
  | k, m + 1 => ⟨k * s, i * s, i + k⟩ :: rowF s i (k + 1) m
def gridF (s : Int) (c : Nat) : Nat → Nat → List V3
  | _, 0 => []
  | i, m + 1 => rowF s i 0 c ++ gridF s c (i + 1) m
theorem rowF_len (s i : Int) : ∀ m k, (rowF s i k m).length = m
  | 0, _ => rfl
  | m + 1, k => by rw [rowF, List.length_cons, rowF_len s i m]
theorem gridF_len (s : Int) (c : Nat) : ∀ m i, (gridF s c i m).length = m * c
  | 0, i => by simp [gridF]
  | m + 1, i => by rw [gridF, List.length_append, rowF_len, gridF_len s c m, Nat.succ_mul]; omega
theorem rowF_mem (s i : Int) (v : V3) : ∀ m k, v ∈ rowF s i k m ↔ ∃ j : Nat, k ≤ j ∧ j < k + m ∧ v = ⟨j * s, i * s, i + j⟩
  | 0, k => by
    simp only [rowF, List.not_mem_nil, false_iff]
    rintro ⟨j, h1, h2, -⟩
    omega
  | m + 1, k => by
    rw [rowF, List.mem_cons, rowF_mem s i v m (k + 1)]
    constructor
    · rintro (rfl | ⟨j, h1, h2, rfl⟩)
      · exact ⟨k, by omega, by omega, rfl⟩
      · exact ⟨j, by omega, by omega, rfl⟩
    · rintro ⟨j, h1, h2, rfl⟩
      by_cases h : j = k
      · subst h; exact Or.inl rfl
      · exact Or.inr ⟨j, by omega, by omega, rfl⟩
theorem gridF_mem (s : Int) (c : Nat) (v : V3) : ∀ m i, v ∈ gridF s c i m ↔ ∃ p j : Nat, i ≤ p ∧ p < i + m ∧ j < c ∧ v = ⟨j * s, p * s, p + j⟩
  | 0, i => by
    simp only [gridF, List.not_mem_nil, false_iff]
    rintro ⟨p, j, h1, h2, -⟩
    omega
  | m + 1, i => by
    rw [gridF, List.mem_append, rowF_mem, gridF_mem s c v m (i + 1)]
    constructor
    · rintro (⟨j, -, h2, rfl⟩ | ⟨p, j, h1, h2, h3, rfl⟩)
      · exact ⟨i, j, by omega, by omega, by omega, rfl⟩
      · exact ⟨p, j, by omega, by omega, h3, rfl⟩
    · rintro ⟨p, j, h1, h2, h3, rfl⟩
      by_cases h : p = i
      · subst h; exact Or.inl ⟨j, by omega, by omega, rfl⟩
      · exact Or.inr ⟨p, j, by omega, by omega, h3, rfl⟩
theorem mulR {a b s : Int} (h : a ≤ b) (hs : 0 ≤ s) : a * s ≤ b * s := Int.mul_le_mul_of_nonneg_right h hs
theorem grid_S (s : Int) (r c : Nat) (q : V3) : q ∈ flatS (gridF s c 0 r) ↔ ∃ p j : Nat, p < r ∧ j < c ∧ q = ⟨j * s, p * s, 0⟩ := by
  rw [flatS_mem]
  constructor
  · rintro ⟨u, hu, rfl⟩
    obtain ⟨p, j, -, h2, h3, rfl⟩ := (gridF_mem s c u r 0).1 hu
    exact ⟨p, j, by omega, h3, rfl⟩
  · rintro ⟨p, j, h1, h2, rfl⟩
    exact ⟨⟨j * s, p * s, p + j⟩, (gridF_mem s c _ r 0).2 ⟨p, j, by omega, by omega, h2, rfl⟩, rfl⟩
/-- What is known of a point of the grid, seen from above. -/
theorem grid_bd {s : Int} {r c : Nat} (hs : 1 ≤ s) {q : V3} (h : q ∈ flatS (gridF s c 0 r)) :
    0 ≤ q.x ∧ q.x ≤ ((c : Int) - 1) * s ∧ 0 ≤ q.y ∧ q.y ≤ ((r : Int) - 1) * s ∧ q.z = 0 := by
  obtain ⟨p, j, h1, h2, rfl⟩ := (grid_S s r c q).1 h
  have a1 := mulR (a := 0) (b := (j : Int)) (s := s) (by omega) (by omega)
  have a2 := mulR (a := (j : Int)) (b := (c : Int) - 1) (s := s) (by omega) (by omega)
  have a3 := mulR (a := 0) (b := (p : Int)) (s := s) (by omega) (by omega)
  have a4 := mulR (a := (p : Int)) (b := (r : Int) - 1) (s := s) (by omega) (by omega)
  rw [Int.zero_mul] at a1 a3
  exact ⟨a1, a2, a3, a4, rfl⟩
theorem mul_zero_of {a b : Int} (h : a * b = 0) (ha : 0 < a) : b = 0 := by
  rcases Int.mul_eq_zero.1 h with h | h
  · omega
  · exact h
/-- The corners of a grid. -/
theorem grid_hull {s : Int} {r c : Nat} (hs : 1 ≤ s) (hr : 1 ≤ r) (hc : 1 ≤ c) :
    hullC (gridF s c 0 r) = if r = 1 then (if c = 1 then pts [0, 0] else pts [0, 0, ((c : Int) - 1) * s, 0]) else
      if c = 1 then pts [0, 0, 0, ((r : Int) - 1) * s] else pts [0, 0, ((c : Int) - 1) * s, 0, ((c : Int) - 1) * s, ((r : Int) - 1) * s, 0, ((r : Int) - 1) * s] := by
  have hne : gridF s c 0 r ≠ [] := by
    intro e
    have := gridF_len s c r 0
    rw [e, List.length_nil] at this
    have := Nat.mul_le_mul hr hc
    omega
  have sA : (⟨0, 0, 0⟩ : V3) ∈ flatS (gridF s c 0 r) := (grid_S s r c _).2 ⟨0, 0, by omega, by omega, by simp⟩
  have sB : (⟨((c : Int) - 1) * s, 0, 0⟩ : V3) ∈ flatS (gridF s c 0 r) := (grid_S s r c _).2 ⟨0, c - 1, by omega, by omega, by
    have : ((c - 1 : Nat) : Int) = (c : Int) - 1 := by omega
    rw [this]; simp⟩
  have sD : (⟨0, ((r : Int) - 1) * s, 0⟩ : V3) ∈ flatS (gridF s c 0 r) := (grid_S s r c _).2 ⟨r - 1, 0, by omega, by omega, by
    have : ((r - 1 : Nat) : Int) = (r : Int) - 1 := by omega
    rw [this]; simp⟩
  have sC : (⟨((c : Int) - 1) * s, ((r : Int) - 1) * s, 0⟩ : V3) ∈ flatS (gridF s c 0 r) := (grid_S s r c _).2 ⟨r - 1, c - 1, by omega, by omega, by
    have e1 : ((r - 1 : Nat) : Int) = (r : Int) - 1 := by omega
    have e2 : ((c - 1 : Nat) : Int) = (c : Int) - 1 := by omega
    rw [e1, e2]⟩
  have hb : ∀ q, q ∈ flatS (gridF s c 0 r) → 0 ≤ q.x ∧ q.x ≤ ((c : Int) - 1) * s ∧ 0 ≤ q.y ∧ q.y ≤ ((r : Int) - 1) * s ∧ q.z = 0 := fun q hq => grid_bd hs hq
  have pw : 1 < c → 0 < ((c : Int) - 1) * s := fun h => Int.mul_pos (by omega) (by omega)
  have pt : 1 < r → 0 < ((r : Int) - 1) * s := fun h => Int.mul_pos (by omega) (by omega)
  have zw : c = 1 → ((c : Int) - 1) * s = 0 := fun h => by subst h; simp
  have zt : r = 1 → ((r : Int) - 1) * s = 0 := fun h => by subst h; simp
  generalize ((c : Int) - 1) * s = W at *
  generalize ((r : Int) - 1) * s = T at *
  apply hullC_of hne
  have least : ∀ q, q ∈ flatS (gridF s c 0 r) → le2 ⟨0, 0, 0⟩ q := fun q hq => by
    have := hb q hq
    unfold le2; simp only; omega
  by_cases h1 : r = 1
  · rw [if_pos h1]
    have zt := zt h1
    by_cases h2 : c = 1
    · rw [if_pos h2]
      have zw := zw h2
      refine ⟨⟨0, 0, 0⟩, [], rfl, sA, least, by simp, fun _ q hq => ?_, fun h => absurd rfl h⟩
      have := hb q hq
      exact V3.ext' (by simp only; omega) (by simp only; omega) (by simp only; omega)
    · rw [if_neg h2]
      have pw := pw (by omega)
      refine ⟨⟨0, 0, 0⟩, [⟨W, 0, 0⟩], rfl, sA, least, ?_, fun h => by simp at h, fun _ => ⟨⟨sA, sB, ?_, fun q hq => ?_⟩, ⟨sB, sA, ?_, fun q hq => ?_⟩, trivial⟩⟩
      · simp; omega
      · simp; omega
      · have := hb q hq
        have e : area ⟨0, 0, 0⟩ ⟨W, 0, 0⟩ q = W * q.y := by simp only [area]; grind
        have e0 : q.y = 0 := by omega
        rw [e, e0]
        refine ⟨by simp, fun _ => Or.inl ⟨?_, ?_⟩⟩ <;> (unfold le2; simp only; omega)
      · simp; omega
      · have := hb q hq
        have e : area ⟨W, 0, 0⟩ ⟨0, 0, 0⟩ q = -(W * q.y) := by simp only [area]; grind
        have e0 : q.y = 0 := by omega
        rw [e, e0]
        refine ⟨by simp, fun _ => Or.inr ⟨?_, ?_⟩⟩ <;> (unfold le2; simp only; omega)
  · rw [if_neg h1]
    have pt := pt (by omega)
    by_cases h2 : c = 1
    · rw [if_pos h2]
      have zw := zw h2
      refine ⟨⟨0, 0, 0⟩, [⟨0, T, 0⟩], rfl, sA, least, ?_, fun h => by simp at h, fun _ => ⟨⟨sA, sD, ?_, fun q hq => ?_⟩, ⟨sD, sA, ?_, fun q hq => ?_⟩, trivial⟩⟩
      · simp; omega
      · simp; omega
      · have := hb q hq
        have e : area ⟨0, 0, 0⟩ ⟨0, T, 0⟩ q = -(T * q.x) := by simp only [area]; grind
        have e0 : q.x = 0 := by omega
        rw [e, e0]
        refine ⟨by simp, fun _ => Or.inl ⟨?_, ?_⟩⟩ <;> (unfold le2; simp only; omega)
      · simp; omega
      · have := hb q hq
        have e : area ⟨0, T, 0⟩ ⟨0, 0, 0⟩ q = T * q.x := by simp only [area]; grind
        have e0 : q.x = 0 := by omega
        rw [e, e0]
        refine ⟨by simp, fun _ => Or.inr ⟨?_, ?_⟩⟩ <;> (unfold le2; simp only; omega)
    · rw [if_neg h2]
      have pw := pw (by omega)
      refine ⟨⟨0, 0, 0⟩, [⟨W, 0, 0⟩, ⟨W, T, 0⟩, ⟨0, T, 0⟩], rfl, sA, least, ?_, fun h => by simp at h, fun _ => ⟨⟨sA, sB, ?_, fun q hq => ?_⟩, ⟨sB, sC, ?_, fun q hq => ?_⟩, ⟨sC, sD, ?_, fun q hq => ?_⟩, ⟨sD, sA, ?_, fun q hq => ?_⟩, trivial⟩⟩
      · simp; omega
      · simp; omega
      · have := hb q hq
        have e : area ⟨0, 0, 0⟩ ⟨W, 0, 0⟩ q = W * q.y := by simp only [area]; grind
        rw [e]
        refine ⟨Int.mul_nonneg (by omega) (by omega), fun e => ?_⟩
        have e0 := mul_zero_of e pw
        refine Or.inl ⟨?_, ?_⟩ <;> (unfold le2; simp only; omega)
      · simp; omega
      · have := hb q hq
        have e : area ⟨W, 0, 0⟩ ⟨W, T, 0⟩ q = T * (W - q.x) := by simp only [area]; grind
        rw [e]
        refine ⟨Int.mul_nonneg (by omega) (by omega), fun e => ?_⟩
        have e0 := mul_zero_of e pt
        refine Or.inl ⟨?_, ?_⟩ <;> (unfold le2; simp only; omega)
      · simp; omega
      · have := hb q hq
        have e : area ⟨W, T, 0⟩ ⟨0, T, 0⟩ q = W * (T - q.y) := by simp only [area]; grind
        rw [e]
        refine ⟨Int.mul_nonneg (by omega) (by omega), fun e => ?_⟩
        have e0 := mul_zero_of e pw
        refine Or.inr ⟨?_, ?_⟩ <;> (unfold le2; simp only; omega)
      · simp; omega
      · have := hb q hq
        have e : area ⟨0, T, 0⟩ ⟨0, 0, 0⟩ q = T * q.x := by simp only [area]; grind
        rw [e]
        refine ⟨Int.mul_nonneg (by omega) (by omega), fun e => ?_⟩
        have e0 := mul_zero_of e pt
        refine Or.inr ⟨?_, ?_⟩ <;> (unfold le2; simp only; omega)
theorem grid_pts {s : Int} {r c : Nat} (hs : 1 ≤ s) (hs' : s ≤ 1000) (hr : r ≤ 100) (hc : c ≤ 100) : ptsB (gridF s c 0 r) = true := by
  refine ptsB_bd.2 fun v hv => ?_
  obtain ⟨p, j, -, h2, h3, rfl⟩ := (gridF_mem s c v r 0).1 hv
  have a1 := mulB (a := (j : Int)) (b := s) (m := 100) (n := 1000) (by omega) (by omega)
  have a2 := mulB (a := (p : Int)) (b := s) (m := 100) (n := 1000) (by omega) (by omega)
  refine ⟨?_, ?_, ?_⟩ <;> (simp only; omega)

section
variable (X : Ext)

theorem g_inner (rows : Int) (cn : Nat) (s : Int) (i : Int) (hi : 0 ≤ i ∧ i ≤ 100) (hs : 1 ≤ s ∧ s ≤ 1000) (hcn : cn ≤ 100) {x : List AV × List Blk} : ∀ (m k : Nat) (acc : List V3), k + m = cn → acc.length + m ≤ 2147483000 →
    L tab (run tab X) 7 [] [[1, 1, 1, 0, 1, 0]] (S7_111010 rows cn s 0 (acc ++ rowF s i k m).length (i + 1) (encL (acc ++ rowF s i k m))) = some x →
    L tab (run tab X) 7 [] [[1, 1, 1, 0, 1, 0], [1, 0, 0, 1, 0]] (S7_111010_10010 rows cn s 0 acc.length i (k : Int) (encL acc)) = some x
  | 0, k, acc, hk, _, h => by
    refine L_of ?_
    rw [e7_111010_10010]
    simp only [condD]
    rw [if_neg (by omega), wrap_eq (by omega) (by omega)]
    simpa [rowF] using h
  | m + 1, k, acc, hk, ha, h => by
    refine L_of ?_
    rw [e7_111010_10010]
    have p1 := mulB (a := (k : Int)) (b := s) (m := 100) (n := 1000) (by omega) (by omega)
    have p2 := mulB (a := i) (b := s) (m := 100) (n := 1000) (by omega) (by omega)
    simp only [condD]
    rw [if_pos (by omega), if_pos (by omega), wrap_nat (by omega), wrap_eq (x := (k : Int) * s) (by omega) (by omega), wrap_eq (x := i * s) (by omega) (by omega), wrap_eq (x := i + (k : Int)) (by omega) (by omega), take_all', encV_mk, encL_one, encL_append]
    have := g_inner rows cn s i hi hs hcn m (k + 1) (acc ++ [⟨k * s, i * s, i + k⟩]) (by omega) (by simp; omega) (by
      rw [List.append_assoc]; exact h)
    simpa using this

theorem g_outer (r : Nat) (cn : Nat) (s : Int) (hr : r ≤ 100) (hs : 1 ≤ s ∧ s ≤ 1000) (hcn : cn ≤ 100) {x : List AV × List Blk} : ∀ (m i : Nat) (acc : List V3), i + m = r → acc.length + m * cn ≤ 2147483000 →
    L tab (run tab X) 7 [] [[1, 1, 1, 0, 1, 0]] (S7_111010 r cn s 0 (acc ++ gridF s cn i m).length (r : Int) (encL (acc ++ gridF s cn i m))) = some x →
    L tab (run tab X) 7 [] [[1, 1, 1, 0, 1, 0]] (S7_111010 r cn s 0 acc.length (i : Int) (encL acc)) = some x
  | 0, i, acc, hk, _, h => by
    have : i = r := by omega
    subst this
    simpa [gridF] using h
  | m + 1, i, acc, hk, ha, h => by
    refine L_of ?_
    rw [e7_111010]
    simp only [condD]
    rw [if_pos (by omega)]
    have e0 : (m + 1) * cn = cn + m * cn := by rw [Nat.succ_mul]; omega
    refine g_inner X r cn s i (by omega) hs hcn cn 0 acc (by omega) (by omega) ?_
    have := g_outer r cn s hr hs hcn m (i + 1) (acc ++ rowF s i 0 cn) (by omega) (by rw [List.length_append, rowF_len]; omega) (by
      rw [List.append_assoc]; exact h)
    simpa using this

variable (hX : ∀ f, f ≠ 30 → X f = none) (hS : SortOk X)
include hX hS

theorem g_last : ∀ (m : Nat) (acc : List V3), acc.length + m = 10001 → ptsB acc = true → L tab (run tab X) 7 [] [[1, 1, 1, 1, 1, 1, 1, 1, 1, 1, 1, 0, 0]] (S7_1111111111100 0 acc.length (encL acc)) = some ([.p (.bool true)], [])
  | 0, acc, hm, hp => by
    refine L_of ?_
    rw [e7_1111111111100]
    have k := c9 X hX hS
    have h1 : hullF acc = ([], 2) := by unfold hullF; rw [if_pos (by omega)]
    have h2 : hullF (acc.take 10000) = (hullC (acc.take 10000), 0) := hullF_ok (by
      intro e
      have := congrArg List.length e
      rw [List.length_take, List.length_nil] at this
      omega) (by rw [List.length_take]; omega) (ptsB_bd.2 fun v hv => ptsB_bd.1 hp v (List.mem_of_mem_take hv))
    have e2 : List.take 10000 (List.drop (0 + 0) (encL acc)) = encL (acc.take 10000) := by rw [Nat.zero_add, List.drop_zero, encL_take]
    simp only [condD, condA, e2, take_all', c10 X hX hS, h1, h2, k, Option.bind_some, List.headD_cons, List.tail_cons, pv_p, toInt_int, toBool_bool, beq_self_eq_true, cond_true]
    rw [if_neg (by omega), if_pos (by omega), if_pos (by omega)]
  | m + 1, acc, hm, hp => by
    refine L_of ?_
    rw [e7_1111111111100]
    simp only [condD]
    rw [if_pos (by omega), if_pos (by omega), take_all', encV_mk, encL_one, encL_append]
    have := g_last m (acc ++ [⟨0, 0, 0⟩]) (by simp; omega) (ptsB_bd.2 fun v hv => by
      rcases List.mem_append.1 hv with hv | hv
      · exact ptsB_bd.1 hp v hv
      · have : v = ⟨0, 0, 0⟩ := by simpa using hv
        subst this
        exact ⟨by simp, by simp, by simp⟩)
    simpa using this

theorem g_end (r c : Nat) (s : Int) (hr : 1 ≤ r ∧ r ≤ 100) (hc : 1 ≤ c ∧ c ≤ 100) (hs : 1 ≤ s ∧ s ≤ 1000) :
    L tab (run tab X) 7 [] [[1, 1, 1, 0, 1, 0]] (S7_111010 r c s 0 (gridF s c 0 r).length (r : Int) (encL (gridF s c 0 r))) = some ([.p (.bool true)], []) := by
  refine L_of ?_
  rw [e7_111010]
  have hlen := gridF_len s c r 0
  have hl1 := Nat.mul_le_mul hr.1 hc.1
  have hl2 := Nat.mul_le_mul hr.2 hc.2
  have hne : gridF s c 0 r ≠ [] := by
    intro e
    rw [e, List.length_nil] at hlen
    omega
  have hp := grid_pts hs.1 hs.2 hr.2 hc.2
  have hF := hullF_ok hne (by omega) hp
  have hH := grid_hull (r := r) (c := c) hs.1 hr.1 hc.1
  have hlast := g_last X hX hS (10001 - (gridF s c 0 r).length) (gridF s c 0 r) (by omega) hp
  have hV := hullV_hull hne
  have p1 := mulB (a := (c : Int) - 1) (b := s) (m := 100) (n := 1000) (by omega) (by omega)
  have p2 := mulB (a := (r : Int) - 1) (b := s) (m := 100) (n := 1000) (by omega) (by omega)
  rw [wrap_eq (x := (c : Int) - 1) (by omega) (by omega), wrap_eq (x := (r : Int) - 1) (by omega) (by omega)]
  rw [wrap_eq (x := ((c : Int) - 1) * s) (by omega) (by omega), wrap_eq (x := ((r : Int) - 1) * s) (by omega) (by omega)]
  have zw : c = 1 → ((c : Int) - 1) * s = 0 := fun h => by subst h; simp
  have zt : r = 1 → ((r : Int) - 1) * s = 0 := fun h => by subst h; simp
  generalize ((c : Int) - 1) * s = W at *
  generalize ((r : Int) - 1) * s = T at *
  generalize gridF s c 0 r = l at *
  have p3 := mulB (a := 2 * W) (b := T) (m := 200000) (n := 100000) (by omega) (by omega)
  rw [wrap_eq (x := 2 * W) (by omega) (by omega), wrap_eq (x := 2 * W * T) (by omega) (by omega)]
  have q1 : run tab X 27 [.p (.list false [.int .i64] [.int .i64 0, .int .i64 0, .int .i64 W, .int .i64 0, .int .i64 W, .int .i64 T, .int .i64 0, .int .i64 T])] [] = some ([.fresh true kV (encL (pts [0, 0, W, 0, W, T, 0, T]))], []) := c27 X hX [0, 0, W, 0, W, T, 0, T] (by simp)
  have q2 : run tab X 27 [.p (.list false [.int .i64] [.int .i64 0, .int .i64 0])] [] = some ([.fresh true kV (encL (pts [0, 0]))], []) := c27 X hX [0, 0] (by decide)
  have q3 : run tab X 27 [.p (.list false [.int .i64] [.int .i64 0, .int .i64 0, .int .i64 W, .int .i64 0])] [] = some ([.fresh true kV (encL (pts [0, 0, W, 0]))], []) := c27 X hX [0, 0, W, 0] (by simp)
  have q4 : run tab X 27 [.p (.list false [.int .i64] [.int .i64 0, .int .i64 0, .int .i64 0, .int .i64 T])] [] = some ([.fresh true kV (encL (pts [0, 0, 0, T]))], []) := c27 X hX [0, 0, 0, T] (by simp)
  have nn : ∀ {α : Type} (n : Int) (a b : α), cond (n != n) a b = b := fun n a b => by simp
  have ar : ∀ h : List V3, hullC l = h → h.length ≤ 10 → areaP h = (shoe h h.length 0 0, 0) := fun h he hl => by
    unfold areaP
    rw [if_pos (by rw [← he]; exact hV (by rw [he]; omega) hp)]
  have l11 : ∀ a : List V3, a.length ≤ 10 → run tab X 11 [.p (.list true kV (encL a)), .p (.list true kV (encL a))] [] = some ([.p (.bool true)], []) := fun a h => by
    rw [c11 X hX a a (by omega)]; simp
  simp only [condD, condE, q1, q2, q3, q4, take_all', c10 X hX hS, hF, Option.bind_some, List.headD_cons, List.tail_cons, freshList_fresh, take_all, pv_p, toInt_int, nn]
  rw [if_neg (by omega)]
  by_cases h1 : r = 1
  · rw [if_pos h1] at hH
    have zt := zt h1
    rw [if_pos (by omega)]
    by_cases h2 : c = 1
    · rw [if_pos h2] at hH
      have zw := zw h2
      rw [if_pos (by omega), hH, l11 _ (by decide), c19 X hX hS, ar _ hH (by decide)]
      have e : shoe (pts [0, 0]) (pts [0, 0]).length 0 0 = 2 * W * T := by rw [zt]; simp [pts, shoe, gt, nx]
      simp only [e, Option.bind_some, List.headD_cons, List.tail_cons, pv_p, toInt_int, toBool_bool, nn, condNb]
      exact hlast
    · rw [if_neg h2] at hH
      rw [if_neg (by omega), if_pos (by omega), hH, l11 _ (by simp [pts]), c19 X hX hS, ar _ hH (by simp [pts])]
      have e : shoe (pts [0, 0, W, 0]) (pts [0, 0, W, 0]).length 0 0 = 2 * W * T := by rw [zt]; simp [pts, shoe, gt, nx]
      simp only [e, Option.bind_some, List.headD_cons, List.tail_cons, pv_p, toInt_int, toBool_bool, nn, condNb]
      exact hlast
  · rw [if_neg h1] at hH
    rw [if_neg (by omega), if_neg (by omega)]
    by_cases h2 : c = 1
    · rw [if_pos h2] at hH
      have zw := zw h2
      rw [if_pos (by omega), hH, l11 _ (by simp [pts]), c19 X hX hS, ar _ hH (by simp [pts])]
      have e : shoe (pts [0, 0, 0, T]) (pts [0, 0, 0, T]).length 0 0 = 2 * W * T := by rw [zw]; simp [pts, shoe, gt, nx]
      simp only [e, Option.bind_some, List.headD_cons, List.tail_cons, pv_p, toInt_int, toBool_bool, nn, condNb]
      exact hlast
    · rw [if_neg h2] at hH
      rw [if_neg (by omega), hH, l11 _ (by simp [pts]), c19 X hX hS, ar _ hH (by simp [pts])]
      have e : shoe (pts [0, 0, W, 0, W, T, 0, T]) (pts [0, 0, W, 0, W, T, 0, T]).length 0 0 = 2 * W * T := by
        simp [pts, shoe, gt, nx]; grind
      simp only [e, Option.bind_some, List.headD_cons, List.tail_cons, pv_p, toInt_int, toBool_bool, nn, condNb]
      exact hlast

theorem law7 (r c s : Int) : run tab X 7 [.p (.int .i64 r), .p (.int .i64 c), .p (.int .i64 s)] [] = some ([.p (.bool true)], []) := by
  refine run_of (hX _ (by decide)) ?_
  rw [e7]
  have k := c9 X hX hS
  simp only [condD, k, Option.bind_some, List.headD_cons, pv_p, toBool_bool]
  by_cases h1 : r < 1
  · rw [if_pos h1]
  rw [if_neg h1]
  by_cases h2 : r > 100
  · rw [if_pos h2]
  rw [if_neg h2]
  by_cases h3 : c < 1
  · rw [if_pos h3]
  rw [if_neg h3]
  by_cases h4 : c > 100
  · rw [if_pos h4]
  rw [if_neg h4]
  by_cases h5 : s < 1
  · rw [if_pos h5]
  rw [if_neg h5]
  by_cases h6 : s > 1000
  · rw [if_pos h6]
  rw [if_neg h6]
  obtain ⟨r', rfl⟩ : ∃ n : Nat, r = n := ⟨r.toNat, by omega⟩
  obtain ⟨c', rfl⟩ : ∃ n : Nat, c = n := ⟨c.toNat, by omega⟩
  have hl2 := Nat.mul_le_mul (show r' ≤ 100 by omega) (show c' ≤ 100 by omega)
  exact g_outer X r' c' s (by omega) (by omega) (by omega) r' 0 [] (by omega) (by simp; omega) (g_end X hX hS r' c' s (by omega) (by omega) (by omega))
end
end Go.Skm.Hull
