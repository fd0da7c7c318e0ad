/-
  The grid: the program's generator and the document's list; condition: a valid map, numbers in range.
-/
import Derived.Test.YtdhkklplijleiaaDoorCt10
namespace Go.Skm.Beat
open Go Go.Skm

def gE (l : List Tm) (s i : Nat) : PV := .agg [.int .i64 ((i * s : Nat) : Int), .int .i64 (gT l s i)]
/-- The grid from step i on, n steps, until the time. -/
def gL (l : List Tm) (s : Nat) (to : Int) : Nat → Nat → List PV
  | 0, _ => []
  | n + 1, i => if gT l s i ≥ to then [] else gE l s i :: gL l s to n (i + 1)
/-- The same, without what is before the time. -/
def gD (l : List Tm) (s : Nat) (frm to : Int) : Nat → Nat → List PV
  | 0, _ => []
  | n + 1, i => if gT l s i ≥ to then [] else if gT l s i ≥ frm then gE l s i :: gD l s frm to n (i + 1) else gD l s frm to n (i + 1)
theorem gD_late {l : List Tm} (v : Valid l) {s : Nat} {frm to : Int} : ∀ (n i : Nat), frm ≤ gT l s i → gD l s frm to n i = gL l s to n i
  | 0, _, _ => rfl
  | n + 1, i, h => by
    simp only [gD, gL, gD_late v n (i + 1) (Int.le_trans h (gT_mono v s i (i + 1) (by omega)))]
    rw [if_pos h]
theorem gL_end {l : List Tm} (_v : Valid l) {s : Nat} {to : Int} : ∀ (n i : Nat), to ≤ gT l s i → gL l s to n i = []
  | 0, _, _ => rfl
  | n + 1, i, h => by simp only [gL]; rw [if_pos h]
theorem gD_eq {l : List Tm} (v : Valid l) {s : Nat} {frm to : Int} : ∀ (n i a : Nat), i ≤ a → a ≤ i + n → (a = i ∨ gT l s (a - 1) < frm) → (a = i + n ∨ frm ≤ gT l s a) → gD l s frm to n i = gL l s to (i + n - a) a
  | 0, i, a, h1, h2, h3, h4 => by
    have e : a = i := by omega
    subst e
    rw [Nat.add_zero, Nat.sub_self]
    rfl
  | n + 1, i, a, h1, h2, h3, h4 => by
    by_cases e : a = i
    · subst e
      rw [Nat.add_sub_cancel_left]
      exact gD_late v _ _ (by omega)
    · have hlt : gT l s i < frm := by
        have := gT_mono v s i (a - 1) (by omega)
        omega
      have ih := gD_eq v (s := s) n (i + 1) a (to := to) (frm := frm) (by omega) (by omega) (.inr (by omega)) (by omega)
      simp only [gD]
      by_cases g : gT l s i ≥ to
      · rw [if_pos g]
        have hle : to ≤ gT l s a := Int.le_trans g (gT_mono v s i a h1)
        rw [gL_end v _ _ hle]
      · rw [if_neg g, if_neg (by omega), ih, show i + 1 + n - a = i + (n + 1) - a by omega]
section
variable (X : Ext) (hX : Mine X)
include hX

theorem c23_loop {l : List Tm} (v : Valid l) {s : Nat} (hs : 1 ≤ s) (hs' : s ≤ 4194304) (frm to : Int) : ∀ (n i : Nat) (out : List PV), i + n = gN s + 1 → out.length ≤ i →
    L tab (run tab X) 23 [] [.lp [1, 1, 1, 1, 0, 1, 0]] (S23_1111010 (encM l) frm to s 0 out.length ((i * s : Nat) : Int) out) = some ([.fresh true [.int .i64, .int .i64] (out ++ gD l s frm to n i), .p (.int .i64 0)], []) := by
  have hN := gN_lt hs
  intro n
  induction n with
  | zero =>
    intro i out hi ho
    have hgt : 4194304 < i * s := by
      have e : i = gN s + 1 := by omega
      have := Nat.lt_mul_div_succ 4194304 (show 0 < s by omega)
      rw [e, Nat.mul_comm]; exact this
    refine L_of ?_
    rw [e23_1111010, condD, if_neg (by omega)]
    simp [gD]
  | succ n ih =>
    intro i out hi ho
    have l1 := gN_le (s := s) (k := i) (by omega)
    have w : IntKind.i64.wrap (((i * s : Nat) : Int) + (s : Int)) = (((i + 1) * s : Nat) : Int) := by
      rw [Nat.succ_mul, wrap_eq (by omega) (by omega)]; omega
    refine L_of ?_
    rw [e23_1111010]
    simp only [c43n X hX v l1, c44n X hX v l1, Option.bind_some, List.headD_cons, pv_p, toInt_int, condD, w, List.drop_zero, List.take_length]
    rw [if_pos (by omega)]
    change (if gT l s i ≥ to then _ else _) = _
    simp only [gD]
    by_cases g : gT l s i ≥ to
    · rw [if_pos g, if_pos g, List.append_nil]
    · rw [if_neg g, if_neg g]
      change (if gT l s i ≥ frm then _ else _) = _
      by_cases h : gT l s i ≥ frm
      · rw [if_pos h, if_pos h, if_pos (by omega)]
        have := ih (i + 1) (out ++ [gE l s i]) (by omega) (by simp; omega)
        rw [List.length_append, List.append_assoc] at this
        exact this
      · rw [if_neg h, if_neg h]
        exact ih (i + 1) out (by omega) (by omega)
theorem c48 {l : List Tm} (v : Valid l) {s k : Nat} (hk : k * s ≤ 4194304) (t : Int) : run tab X 48 [.p (.int .i64 k), .p (.ref [.list true [.int .i64, .int .i64] (encM l)]), .p (.ref [.int .i64 (s : Int)]), .p (.ref [.int .i64 t])] [] = some ([.p (.bool (decide (gT l s k ≥ t)))], []) :=
  run_of (hX _ (by decide) (by decide) (by decide)) (by
    rw [e48, wmul hk, c37n X hX v hk]
    rfl)
theorem c39g {l : List Tm} (v : Valid l) {s : Nat} (hs : 1 ≤ s) (t : Int) : ∃ r : Nat, r ≤ gN s + 1 ∧ run tab X 39 [.p (.int .i64 ((gN s + 1 : Nat) : Int)), .p (.fn 48 [.ref [.list true [.int .i64, .int .i64] (encM l)], .ref [.int .i64 (s : Int)], .ref [.int .i64 t]])] [] = some ([.p (.int .i64 r)], []) ∧ (r = 0 ∨ gT l s (r - 1) < t) ∧ (r = gN s + 1 ∨ t ≤ gT l s r) := by
  have hN := gN_lt hs
  obtain ⟨r, g1, g2, g3, g4⟩ := search_gen (fun i j => L tab (run tab X) 39 [] [.lp [1, 1, 0, 0]] (S39_1100g (encM l) s t i j)) (fun k => decide (gT l s k ≥ t)) (gN s + 1)
    (fun i hi => by
      refine L_of ?_
      rw [e39_1100g]
      simp only [condD]
      rw [if_neg (by omega)]) (fun i j r hij hj hr => by
      refine L_of ?_
      have hm := mid_eq (i := i) (j := j) (by omega)
      have hc := c48 X hX v (s := s) (k := (i + j) / 2) (gN_le (by omega)) t
      rw [e39_1100g]
      simp only [hm, hc, condD, condO, Option.bind_some, List.headD_cons, pv_p, toBool_bool]
      rw [if_pos (by omega)]
      rw [show IntKind.i64.wrap ((((i + j) / 2 : Nat) : Int) + 1) = (((i + j) / 2 + 1 : Nat) : Int) by rw [wrap_eq (by omega) (by omega)]; omega]
      by_cases h : gT l s ((i + j) / 2) ≥ t
      · rw [if_pos h]; rw [if_pos (by simpa using h)] at hr; exact hr
      · rw [if_neg h]; rw [if_neg (by simpa using h)] at hr; exact hr)
  refine ⟨r, g1, run_of (hX _ (by decide) (by decide) (by decide)) ?_, ?_, ?_⟩
  · rw [e39g]
    exact g2
  · rcases g3 with h | h
    · exact .inl h
    · right
      have h' : ¬ gT l s (r - 1) ≥ t := by simpa using h
      omega
  · rcases g4 with h | h
    · exact .inl h
    · right
      have h' : gT l s r ≥ t := by simpa using h
      omega
theorem c47_loop {l : List Tm} (v : Valid l) {s : Nat} (hs : 1 ≤ s) (hs' : s ≤ 4194304) (to : Int) : ∀ (n i : Nat) (out : List PV), i + n = gN s + 1 →
    L tab (run tab X) 47 [.log true []] [.lp [1, 1, 0]] (S47_110 s (encM l) to ((i * s : Nat) : Int) out) = some ([], [.log true (out ++ gL l s to n i)]) := by
  have hN := gN_lt hs
  intro n
  induction n with
  | zero =>
    intro i out hi
    have hgt : 4194304 < i * s := by
      have e : i = gN s + 1 := by omega
      have := Nat.lt_mul_div_succ 4194304 (show 0 < s by omega)
      rw [e, Nat.mul_comm]; exact this
    refine L_of ?_
    rw [e47_110, condD, if_neg (by omega)]
    simp [gL]
  | succ n ih =>
    intro i out hi
    have l1 := gN_le (s := s) (k := i) (by omega)
    have w : IntKind.i64.wrap (((i * s : Nat) : Int) + (s : Int)) = (((i + 1) * s : Nat) : Int) := by
      rw [Nat.succ_mul, wrap_eq (by omega) (by omega)]; omega
    refine L_of ?_
    rw [e47_110]
    simp only [c37n X hX v l1, Option.bind_some, List.headD_cons, pv_p, toInt_int, condD, w]
    rw [if_pos (by omega)]
    change (if gT l s i ≥ to then _ else _) = _
    simp only [gL]
    by_cases g : gT l s i ≥ to
    · rw [if_pos g, if_pos g, List.append_nil]
    · rw [if_neg g, if_neg g]
      have := ih (i + 1) (out ++ [gE l s i]) (by omega)
      rw [List.append_assoc] at this
      exact this
end
end Go.Skm.Beat
