/-
  Distances, the index after another one, lists of points, validity and merging; condition: parts in range where that is said.
-/
import Derived.Test.YthdegeidcjdkeaaCt7
namespace Go.Skm.Hull
open Go Go.Skm

/-- The squared distance. -/
def dist2 (a b : V3) : Int := (a.x - b.x) * (a.x - b.x) + (a.y - b.y) * (a.y - b.y) + (a.z - b.z) * (a.z - b.z)
def dotV (a b : V3) : Int := a.x * b.x + a.y * b.y + a.z * b.z
/-- The list of points with the numbers given, by turns. -/
def pts : List Int → List V3
  | x :: y :: r => ⟨x, y, 0⟩ :: pts r
  | _ => []
/-- What counts as a hull. -/
def hullV (h : List V3) : Bool := decide ((hullF h).2 = 0) && decide ((hullF h).1 = h)
def mergeF (a b : List V3) : List V3 × Int := if hullV a = true then (if hullV b = true then ((hullF (a ++ b)).1, 0) else ([], 2)) else ([], 2)

theorem hullC_len (l : List V3) : (hullC l).length ≤ 2 * l.length := by
  have h1 := flatS_len l
  have h2 := chainL_len (flatS l)
  have h3 := chainL_len (flatS l).reverse
  rw [List.length_reverse] at h3
  unfold hullC
  split
  · omega
  · simp only [List.length_append, List.length_dropLast]; omega
theorem hullF_len (l : List V3) : (hullF l).1.length ≤ 20000 := by
  have := hullC_len l
  unfold hullF
  split
  · simp
  · split
    · split
      · simp
      · simp only; omega
    · simp
theorem hullV_ok {h : List V3} (hv : hullV h = true) : 0 < h.length ∧ h.length ≤ 10000 ∧ (∀ v ∈ h, Bd 1048576 v) ∧ hullC h = h := by
  unfold hullV hullF at hv
  split at hv
  · simp at hv
  · split at hv
    · split at hv
      · simp at hv
      · rename_i h1 h2 h3
        refine ⟨by omega, by omega, ptsB_bd.1 h2, by simpa using hv⟩
    · simp at hv

section
variable (X : Ext) (hX : ∀ f, f ≠ 30 → X f = none)
include hX

theorem c39 (h : List PV) (i : Nat) (hi : i < h.length) (hl : h.length ≤ 2147483648) : run tab X 39 [.p (.list true kV h), .p (.int .i64 (i : Int))] [] = some ([.p (.int .i64 (((i + 1) % h.length : Nat) : Int))], []) := by
  refine run_of (hX _ (by decide)) ?_
  rw [e39, wrap_nat (by omega)]
  have e : ((i + 1 : Nat) : Int).tmod (h.length : Int) = (((i + 1) % h.length : Nat) : Int) := by
    rw [Int.tmod_eq_emod_of_nonneg (by omega)]; rfl
  rw [e]
  simp only [condO, condD]
  rw [if_neg (by omega)]

theorem c58 (x y : Int) (h1 : -9223372036854775808 ≤ x - y) (h2 : x - y ≤ 9223372036854775807) : run tab X 58 [.p (.int .i64 x), .p (.int .i64 y)] [] = some ([.p (.int .i64 (x - y))], []) :=
  run_of (hX _ (by decide)) (by rw [e58, wrap_eq h1 h2])
theorem c57 (a b : V3) (ha : Bd 34359738368 a) (hb : Bd 34359738368 b) : run tab X 57 [.p (encV a), .p (encV b), .p (.fn 58 [])] [] = some ([.p (encV (subV a b))], []) := by
  obtain ⟨⟨a1, a2⟩, ⟨a3, a4⟩, a5, a6⟩ := ha
  obtain ⟨⟨b1, b2⟩, ⟨b3, b4⟩, b5, b6⟩ := hb
  refine run_of (hX _ (by decide)) ?_
  rw [encV, encV, e57, c58 X hX _ _ (by omega) (by omega), c58 X hX _ _ (by omega) (by omega), c58 X hX _ _ (by omega) (by omega)]
  rfl

theorem c59 (a b : V3) (ha : Bd 33554432 a) (hb : Bd 33554432 b) : run tab X 59 [.p (encV a), .p (encV b)] [] = some ([.p (.int .i64 (dotV a b))], []) := by
  have h1 := mulB ha.1 hb.1
  have h2 := mulB ha.2.1 hb.2.1
  have h3 := mulB ha.2.2 hb.2.2
  refine run_of (hX _ (by decide)) ?_
  rw [encV, encV, e59, wrap_eq (x := a.x * b.x) (by omega) (by omega), wrap_eq (x := a.y * b.y) (by omega) (by omega), wrap_eq (x := a.z * b.z) (by omega) (by omega), wrap_eq (x := a.x * b.x + a.y * b.y) (by omega) (by omega), wrap_eq (by omega) (by omega)]
  rfl
omit hX in
theorem subV_bd {a b : V3} (ha : Bd 16777216 a) (hb : Bd 16777216 b) : Bd 33554432 (subV a b) := by
  obtain ⟨⟨a1, a2⟩, ⟨a3, a4⟩, a5, a6⟩ := ha
  obtain ⟨⟨b1, b2⟩, ⟨b3, b4⟩, b5, b6⟩ := hb
  refine ⟨?_, ?_, ?_⟩ <;> simp only [subV] <;> omega
theorem c43 (a b : V3) (ha : Bd 16777216 a) (hb : Bd 16777216 b) : run tab X 43 [.p (encV a), .p (encV b)] [] = some ([.p (.int .i64 (dist2 a b)), .p (.int .i64 0)], []) := by
  have hs := subV_bd ha hb
  have e1 := c44 X hX a
  have e2 := c44 X hX b
  have e3 := c57 X hX a b (ha.mono (by decide)) (hb.mono (by decide))
  have e4 := c59 X hX (subV a b) (subV a b) hs hs
  rw [inM_bd.2 ha] at e1
  rw [inM_bd.2 hb] at e2
  refine run_of (hX _ (by decide)) ?_
  simp only [encV] at e1 e2 e3 e4 ⊢
  rw [e43]
  simp only [e1, e2, e3, Option.bind_some, List.headD_cons, pv_p, toBool_bool, Bool.not_true, cond_false, cell_agg, List.getD_cons_zero, List.getD_cons_succ, toInt_int]
  simp only [e4, Option.bind_some, List.headD_cons, pv_p, toInt_int]
  rfl
theorem c60 (a b : V3) (ha : Bd 33554432 a) (hb : Bd 33554432 b) : run tab X 60 [.p (encV a), .p (encV b)] [] = some ([.p (.int .i64 (dotV a b))], []) := by
  have h1 := mulB ha.1 hb.1
  have h2 := mulB ha.2.1 hb.2.1
  have h3 := mulB ha.2.2 hb.2.2
  refine run_of (hX _ (by decide)) ?_
  have p0 : ∀ (v : V3), run tab X 54 [.p (.agg [.int .i64 v.x, .int .i64 v.y, .int .i64 v.z]), .p (.int .i64 0)] [] = some ([.p (.int .i64 v.x)], []) := fun v => c54 X hX v 0
  have p1 : ∀ (v : V3), run tab X 54 [.p (.agg [.int .i64 v.x, .int .i64 v.y, .int .i64 v.z]), .p (.int .i64 1)] [] = some ([.p (.int .i64 v.y)], []) := fun v => c54 X hX v 1
  have p2 : ∀ (v : V3), run tab X 54 [.p (.agg [.int .i64 v.x, .int .i64 v.y, .int .i64 v.z]), .p (.int .i64 2)] [] = some ([.p (.int .i64 v.z)], []) := fun v => c54 X hX v 2
  rw [encV, encV, e60]
  have w1 : IntKind.i64.wrap (0 + 1) = 1 := by decide
  have w2 : IntKind.i64.wrap (1 + 1) = 2 := by decide
  have w3 : IntKind.i64.wrap (2 + 1) = 3 := by decide
  refine L_of ?_
  rw [e60_11010]
  simp only [p0, Option.bind_some, List.headD_cons, pv_p, toInt_int, condD, w1]
  rw [if_pos (by decide), wrap_eq (x := a.x * b.x) (by omega) (by omega), Int.zero_add, wrap_eq (x := a.x * b.x) (by omega) (by omega)]
  refine L_of ?_
  rw [e60_11010]
  simp only [p1, Option.bind_some, List.headD_cons, pv_p, toInt_int, condD, w2]
  rw [if_pos (by decide), wrap_eq (x := a.y * b.y) (by omega) (by omega), wrap_eq (x := a.x * b.x + a.y * b.y) (by omega) (by omega)]
  refine L_of ?_
  rw [e60_11010]
  simp only [p2, Option.bind_some, List.headD_cons, pv_p, toInt_int, condD, w3]
  rw [if_pos (by decide), wrap_eq (x := a.z * b.z) (by omega) (by omega), wrap_eq (x := a.x * b.x + a.y * b.y + a.z * b.z) (by omega) (by omega)]
  refine L_of ?_
  rw [e60_11010]
  simp only [condD]
  rw [if_neg (by decide)]
  rfl
theorem c45 (a b : V3) (ha : Bd 16777216 a) (hb : Bd 16777216 b) : run tab X 45 [.p (encV a), .p (encV b)] [] = some ([.p (.int .i64 (dist2 a b))], []) := by
  have hs := subV_bd ha hb
  have e3 := c47 X hX a b (ha.mono (by decide)) (hb.mono (by decide))
  have e4 := c60 X hX (subV a b) (subV a b) hs hs
  refine run_of (hX _ (by decide)) ?_
  simp only [encV] at e3 e4 ⊢
  rw [e45]
  simp only [e3, Option.bind_some, List.headD_cons, pv_p, cell_agg, List.getD_cons_zero, List.getD_cons_succ, toInt_int]
  simp only [e4, Option.bind_some, List.headD_cons, pv_p, toInt_int]
  rfl

/-- The points with some coordinates. -/
theorem c27 (n : List Int) (hn : n.length ≤ 100) : run tab X 27 [.p (.list false [.int .i64] (encI n))] [] = some ([.fresh true kV (encL (pts n))], []) := by
  refine run_of (hX _ (by decide)) ?_
  rw [e27]
  have key : ∀ k i : Nat, i + 2 * k = n.length ∨ i + 2 * k + 1 = n.length → ∀ out : List V3, out.length ≤ i →
      L tab (run tab X) 27 [] [[1, 1, 0, 1, 0]] (S27_11010 (encI n) 0 out.length (i : Int) (encL out)) = some ([.fresh true kV (encL (out ++ pts (n.drop i)))], []) := by
    intro k
    induction k with
    | zero =>
      intro i hi out ho
      refine L_of ?_
      rw [e27_11010]
      simp only [condD, encI_length]
      rw [wrap_nat (by omega), if_neg (by omega)]
      have : pts (n.drop i) = [] := by
        have hd : (n.drop i).length ≤ 1 := by rw [List.length_drop]; omega
        match hm : n.drop i, hd with
        | [], _ => rfl
        | [_], _ => rfl
      rw [this, List.drop_zero, encL_take, List.take_of_length_le (Nat.le_refl _), List.append_nil]
    | succ k ih =>
      intro i hi out ho
      refine L_of ?_
      rw [e27_11010]
      simp only [condD, condA, encI_length]
      have w : IntKind.i64.wrap ((i : Int) + 2) = ((i + 2 : Nat) : Int) := by rw [wrap_eq (by omega) (by omega)]; rfl
      rw [wrap_nat (by omega), w, if_pos (by omega), if_pos (by omega), if_pos (by omega), if_pos (by omega), if_pos (by omega), if_pos (by omega)]
      have g : ∀ j, j < n.length → (((encI n).getD j .nil).cell 0).toInt = n.getD j 0 := by
        intro j hj
        simp only [encI, List.getD_eq_getElem?_getD, List.getElem?_map, List.getElem?_eq_getElem hj]; rfl
      simp only [Int.toNat_natCast]
      rw [g i (by omega), g (i + 1) (by omega), List.drop_zero, encL_take, List.take_of_length_le (Nat.le_refl _), encV_mk, encL_one, encL_append]
      have ed : n.drop i = n.getD i 0 :: n.getD (i + 1) 0 :: n.drop (i + 2) := by
        rw [List.drop_eq_getElem_cons (by omega), List.drop_eq_getElem_cons (by omega)]
        congr 1
        · rw [List.getD_eq_getElem?_getD, List.getElem?_eq_getElem (by omega)]; rfl
        · congr 1
          rw [List.getD_eq_getElem?_getD, List.getElem?_eq_getElem (by omega)]; rfl
      have := ih (i + 2) (by omega) (out ++ [⟨n.getD i 0, n.getD (i + 1) 0, 0⟩]) (by simp; omega)
      simp only [List.length_append, List.length_singleton] at this
      rw [this, ed, pts, List.append_assoc]
      rfl
  have := key (n.length / 2) 0 (by omega) [] (by simp)
  simpa using this

section
variable (hS : SortOk X)
include hS
theorem c16 (h : List V3) : run tab X 16 [.p (.list true kV (encL h))] [] = some ([.p (.bool (hullV h))], []) := by
  refine run_of (hX _ (by decide)) ?_
  rw [e16]
  have e1 := c10 X hX hS h
  have e2 := c40 X hX (hullF h).1 h (by have := hullF_len h; omega)
  simp only [e1, Option.bind_some, List.headD_cons, List.tail_cons, pv_p, toInt_int, freshList_fresh, List.drop_zero, condE]
  have e3 : List.take (encL (hullF h).1).length (encL (hullF h).1) = encL (hullF h).1 := List.take_of_length_le (Nat.le_refl _)
  rw [e3]
  simp only [e2, Option.bind_some, List.headD_cons, pv_p, toBool_bool, hullV]
  by_cases h0 : (hullF h).2 = 0
  · rw [if_pos h0]; simp [h0]
  · rw [if_neg h0]; simp [h0]
theorem c26 (a b : List V3) : run tab X 26 [.p (.list true kV (encL a)), .p (.list true kV (encL b))] [] = some ([.fresh true kV (encL (mergeF a b).1), .p (.int .i64 (mergeF a b).2)], []) := by
  refine run_of (hX _ (by decide)) ?_
  rw [e26]
  simp only [c16 X hX hS, Option.bind_some, List.headD_cons, pv_p, toBool_bool, condO]
  unfold mergeF
  by_cases ha : hullV a = true
  · by_cases hb : hullV b = true
    · rw [ha, hb]
      simp only [cond_true, if_true]
      obtain ⟨a1, a2, _⟩ := hullV_ok ha
      obtain ⟨b1, b2, _⟩ := hullV_ok hb
      rw [c48 X hX a b (by omega)]
      simp only [Option.bind_some, List.headD_cons, freshList_fresh, List.drop_zero]
      rw [List.take_of_length_le (Nat.le_refl _)]
      simp only [c10 X hX hS, Option.bind_some, List.headD_cons, freshList_fresh]
      rw [List.take_of_length_le (Nat.le_refl _)]
    · have hb' : hullV b = false := by simpa using hb
      rw [ha, hb']; rfl
  · have ha' : hullV a = false := by simpa using ha
    rw [ha']; rfl
end
end
end Go.Skm.Hull
