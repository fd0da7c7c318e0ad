/-
  The order of cues and the valid lists: the program's and the document's; condition: the library's answers, names that fit.
-/
import Derived.Test.YtdhkklplijleiaaGreatDoorC2
namespace Go.Skm.Cue
open Go Go.Skm
def CmpS (X : Ext) : Prop := ∀ a b : List UInt8, run tab X 83 [.p (.str (ba a)), .p (.str (ba b))] [] = some ([.p (.int .i64 (Lib.compareBytes a b))], [])
abbrev Nam (l : List Cu) : Prop := ∀ v ∈ l, v.g.length ≤ maxLen
theorem Nam.get {l : List Cu} (h : Nam l) (i : Nat) : (l.getD i default).g.length ≤ maxLen := by
  by_cases hi : i < l.length
  · have : l.getD i default = l[i] := by simp [List.getD_eq_getElem?_getD, hi]
    rw [this]; exact h _ (List.getElem_mem hi)
  · rw [cu_none l hi]; exact Nat.zero_le _
def vAt (l : List Cu) (i : Nat) : Bool := fineB (l.getD i default) && (decide (i = 0) || bef (l.getD (i - 1) default) (l.getD i default))
def vAll (l : List Cu) : Nat → Nat → Bool
  | _, 0 => true
  | i, n + 1 => vAt l i && vAll l (i + 1) n
def validC (l : List Cu) : Bool := decide (l.length ≤ 1000) && vAll l 0 l.length
def rAll (l : List Cu) : Nat → Nat → Bool
  | _, 0 => true
  | i, n + 1 => bef (l.getD i default) (l.getD (i + 1) default) && rAll l (i + 1) n
def fAll (l : List Cu) : Nat → Nat → Bool
  | _, 0 => true
  | i, n + 1 => fineB (l.getD i default) && fAll l (i + 1) n
theorem vAll_iff {l : List Cu} : ∀ {n i : Nat}, vAll l i n = true ↔ ∀ j, i ≤ j → j < i + n → vAt l j = true
  | 0, i => by simp [vAll]; omega
  | n + 1, i => by
    simp only [vAll, Bool.and_eq_true, vAll_iff (n := n)]
    constructor
    · rintro ⟨h1, h2⟩ j hj hj'
      by_cases e : j = i
      · rw [e]; exact h1
      · exact h2 j (by omega) (by omega)
    · intro h
      exact ⟨h i (by omega) (by omega), fun j hj hj' => h j (by omega) (by omega)⟩
theorem rAll_iff {l : List Cu} : ∀ {n i : Nat}, rAll l i n = true ↔ ∀ j, i ≤ j → j < i + n → bef (l.getD j default) (l.getD (j + 1) default) = true
  | 0, i => by simp [rAll]; omega
  | n + 1, i => by
    simp only [rAll, Bool.and_eq_true, rAll_iff (n := n)]
    constructor
    · rintro ⟨h1, h2⟩ j hj hj'
      by_cases e : j = i
      · rw [e]; exact h1
      · exact h2 j (by omega) (by omega)
    · intro h
      exact ⟨h i (by omega) (by omega), fun j hj hj' => h j (by omega) (by omega)⟩
theorem fAll_iff {l : List Cu} : ∀ {n i : Nat}, fAll l i n = true ↔ ∀ j, i ≤ j → j < i + n → fineB (l.getD j default) = true
  | 0, i => by simp [fAll]; omega
  | n + 1, i => by
    simp only [fAll, Bool.and_eq_true, fAll_iff (n := n)]
    constructor
    · rintro ⟨h1, h2⟩ j hj hj'
      by_cases e : j = i
      · rw [e]; exact h1
      · exact h2 j (by omega) (by omega)
    · intro h
      exact ⟨h i (by omega) (by omega), fun j hj hj' => h j (by omega) (by omega)⟩
structure VC (l : List Cu) : Prop where
  len : l.length ≤ 1000
  fine : ∀ i, i < l.length → fineB (l.getD i default) = true
  up : ∀ i, i + 1 < l.length → bef (l.getD i default) (l.getD (i + 1) default) = true
theorem validC_iff {l : List Cu} : validC l = true ↔ VC l := by
  simp only [validC, Bool.and_eq_true, decide_eq_true_eq, vAll_iff, vAt, Bool.or_eq_true]
  constructor
  · rintro ⟨h1, h2⟩
    refine ⟨h1, fun i hi => (h2 i (by omega) (by omega)).1, fun i hi => ?_⟩
    rcases (h2 (i + 1) (by omega) (by omega)).2 with h | h
    · omega
    · simpa using h
  · intro h
    refine ⟨h.len, fun j _ hj => ⟨h.fine j (by omega), ?_⟩⟩
    by_cases e : j = 0
    · exact .inl e
    · refine .inr ?_
      have := h.up (j - 1) (by omega)
      rwa [show j - 1 + 1 = j by omega] at this
theorem validC_parts (l : List Cu) : validC l = (decide (l.length ≤ 1000) && (rAll l 0 (l.length - 1) && fAll l 0 l.length)) := by
  rw [Bool.eq_iff_iff, validC_iff]
  simp only [Bool.and_eq_true, decide_eq_true_eq, rAll_iff, fAll_iff]
  constructor
  · intro h
    exact ⟨h.len, fun j _ hj => h.up j (by omega), fun j _ hj => h.fine j (by omega)⟩
  · rintro ⟨h1, h2, h3⟩
    exact ⟨h1, fun i hi => h3 i (by omega) (by omega), fun i hi => h2 i (by omega) (by omega)⟩
section
variable (X : Ext) (hX : Mine X)
include hX
theorem c113 (n : Int) : run tab X 113 [.p (.int .i64 n)] [] = some ([.p (.bool false)], []) :=
  run_of (hX _ rfl) (by rw [e113]; simp)
theorem c82 (a b : Int) : run tab X 82 [.p (.int .i64 a), .p (.int .i64 b)] [] = some ([.p (.int .i64 (if a < b then -1 else if a > b then 1 else 0))], []) :=
  run_of (hX _ rfl) (by
    rw [e82, c113 X hX, c113 X hX]
    simp only [Option.bind_some, List.headD_cons, pv_p, toBool_bool, cond_false, condD]
    by_cases h1 : a < b
    · simp [h1]
    · by_cases h2 : a > b <;> simp [h1, h2])
theorem c81 (a b : Int) : run tab X 81 [.p (.list false [.int .i64] [.int .i64 a, .int .i64 b])] [] = some ([.p (.int .i64 (if a = 0 then b else a))], []) :=
  run_of (hX _ rfl) (by
    rw [e81]
    refine L_of ?_
    rw [e81_11010]
    simp only [condD, condA, condN, List.length_cons, List.length_nil]
    rw [if_pos (by omega), if_pos (by omega), if_pos (by omega)]
    simp only [Int.toNat_zero, List.getD_cons_zero, cell_int, toInt_int]
    by_cases h : a = 0
    · rw [if_pos h, if_pos h, show IntKind.i64.wrap ((0 : Int) + 1) = 1 from wrap_eq (by omega) (by omega)]
      refine L_of ?_
      rw [e81_11010]
      simp only [condD, condA, condN, List.length_cons, List.length_nil]
      rw [if_pos (by omega), if_pos (by omega), if_pos (by omega)]
      simp only [show (1 : Int).toNat = 1 from rfl, List.getD_cons_succ, List.getD_cons_zero, cell_int, toInt_int]
      by_cases h2 : b = 0
      · rw [if_pos h2, show IntKind.i64.wrap ((1 : Int) + 1) = 2 from wrap_eq (by omega) (by omega)]
        refine L_of ?_
        rw [e81_11010]
        simp only [condD, condA, condN, List.length_cons, List.length_nil]
        rw [if_neg (by omega), h2]
      · rw [if_neg h2]
    · rw [if_neg h, if_neg h])
omit hX in
theorem cmp_or (a b : Cu) : (if (if a.t < b.t then (-1 : Int) else if a.t > b.t then 1 else 0) = 0 then Lib.compareBytes a.g b.g else (if a.t < b.t then (-1 : Int) else if a.t > b.t then 1 else 0)) = cmpC a b := by
  unfold cmpC bef sam
  rw [compareBytes_eq]
  by_cases h1 : a.t < b.t
  · simp [h1]
  · by_cases h2 : a.t > b.t
    · have h3 : ¬ a.t = b.t := by omega
      simp [h1, h2, h3]
    · have h3 : a.t = b.t := by omega
      simp [h3]
theorem c54 (hS : CmpS X) (a b : Cu) : run tab X 54 [.p (encC a), .p (encC b)] [] = some ([.p (.int .i64 (cmpC a b))], []) :=
  run_of (hX _ rfl) (by
    rw [e54, c82 X hX, hS]
    simp only [Option.bind_some, List.headD_cons, pv_p, toInt_int]
    rw [c81 X hX]
    simp only [Option.bind_some, List.headD_cons, pv_p, toInt_int]
    rw [cmp_or])
theorem c57_loop (hS : CmpS X) (l : List Cu) (hl : l.length ≤ maxLen) : ∀ (n i : Nat), i + n = l.length - 1 →
    L tab (run tab X) 57 [] [.lp [1, 0, 1, 0]] (S57_1010 (encU l) ((l.length - 1 : Nat) : Int) i) = some ([.p (.bool (rAll l i n))], []) := by
  have hm : (maxLen : Int) = 9223372036854775807 := by decide
  intro n
  induction n with
  | zero =>
    intro i hi
    refine L_of ?_
    rw [e57_1010]
    simp only [condD]
    rw [if_neg (by omega)]; rfl
  | succ n ih =>
    intro i hi
    have w : IntKind.i64.wrap ((i : Int) + 1) = ((i + 1 : Nat) : Int) := by rw [wrap_eq (by omega) (by omega)]; omega
    have ih' := ih (i + 1) (by omega)
    refine L_of ?_
    rw [e57_1010]
    simp only [condD, condA, w, encU_length, Int.toNat_natCast, encU_t, encU_f, encU_g, encU_r, encU_e, encU_b, c54 X hX hS, Option.bind_some, List.headD_cons, pv_p, toInt_int, ih']
    rw [if_pos (by omega), if_pos (by omega), if_pos (by omega), if_pos (by omega), if_pos (by omega)]
    simp only [rAll]
    by_cases h : cmpC (l.getD i default) (l.getD (i + 1) default) ≥ 0
    · refine iteP h ?_
      rw [cmpC_ge.1 h]; rfl
    · refine iteN h ?_
      have : bef (l.getD i default) (l.getD (i + 1) default) = true := cmpC_lt.1 (by omega)
      rw [this]; rfl
theorem c57 (hS : CmpS X) (l : List Cu) (hl : l.length ≤ maxLen) : run tab X 57 [.p (.list true kC (encU l)), .p (.fn 54 [])] [] = some ([.p (.bool (rAll l 0 (l.length - 1)))], []) :=
  run_of (hX _ rfl) (by
    have hm : (maxLen : Int) = 9223372036854775807 := by decide
    rw [e57, encU_length, wrap_eq (by omega) (by omega)]
    have : goMax 0 ((l.length : Int) - 1) = ((l.length - 1 : Nat) : Int) := by unfold goMax; split <;> omega
    rw [this]
    exact c57_loop X hX hS l hl _ 0 (by omega))
theorem c84_loop (l : List Cu) (hn : Nam l) (hl : l.length ≤ maxLen) : ∀ (n i : Nat), i + n = l.length →
    ∃ k : Int, L tab (run tab X) 84 [] [.lp [1, 0, 1, 0]] (S84_1010 (encU l) l.length i) = some ([.p (.int .i64 k)], []) ∧ decide (k ≥ 0) = !fAll l i n := by
  have hm : (maxLen : Int) = 9223372036854775807 := by decide
  intro n
  induction n with
  | zero =>
    intro i hi
    refine ⟨-1, L_of ?_, by simp [fAll]⟩
    rw [e84_1010]
    simp only [condD]
    rw [if_neg (by omega)]
  | succ n ih =>
    intro i hi
    have w : IntKind.i64.wrap ((i : Int) + 1) = ((i + 1 : Nat) : Int) := by rw [wrap_eq (by omega) (by omega)]; omega
    obtain ⟨k, ih1, ih2⟩ := ih (i + 1) (by omega)
    have h59 := c59 X hX (l.getD i default) (hn.get i)
    cases hf : fineB (l.getD i default) with
    | false =>
      refine ⟨i, L_of ?_, by simp only [fAll, hf, Bool.false_and, Bool.not_false]; simp⟩
      rw [e84_1010]
      simp only [condD, condA, w, encU_length, Int.toNat_natCast, encU_t, encU_f, encU_g, encU_r, encU_e, encU_b, h59, Option.bind_some, List.headD_cons, pv_p, toBool_bool, hf]
      rw [if_pos (by omega), if_pos (by omega), if_pos (by omega)]
      rfl
    | true =>
      refine ⟨k, L_of ?_, by simp only [fAll, hf, Bool.true_and]; exact ih2⟩
      rw [e84_1010]
      simp only [condD, condA, w, encU_length, Int.toNat_natCast, encU_t, encU_f, encU_g, encU_r, encU_e, encU_b, h59, Option.bind_some, List.headD_cons, pv_p, toBool_bool, hf]
      rw [if_pos (by omega), if_pos (by omega), if_pos (by omega)]
      exact ih1
theorem c58 (l : List Cu) (hn : Nam l) (hl : l.length ≤ maxLen) : run tab X 58 [.p (.list true kC (encU l)), .p (.fn 59 [])] [] = some ([.p (.bool (!fAll l 0 l.length))], []) := by
  obtain ⟨k, h1, h2⟩ := c84_loop X hX l hn hl l.length 0 (by omega)
  have h84 : run tab X 84 [.p (.list true kC (encU l)), .p (.fn 59 [])] [] = some ([.p (.int .i64 k)], []) := run_of (hX _ rfl) (by rw [e84, encU_length]; exact h1)
  refine run_of (hX _ rfl) ?_
  rw [e58, h84]
  simp only [Option.bind_some, List.headD_cons, pv_p, toInt_int]
  rw [show geI k 0 = !fAll l 0 l.length from h2]
theorem c22 (hS : CmpS X) (l : List Cu) (hn : Nam l) (hl : l.length ≤ maxLen) : run tab X 22 [.p (.list true kC (encU l))] [] = some ([.p (.bool (validC l))], []) :=
  run_of (hX _ rfl) (by
    rw [e22, encU_length, c57 X hX hS l hl]
    simp only [Option.bind_some, List.headD_cons, pv_p, toBool_bool]
    rw [c58 X hX l hn hl, validC_parts]
    simp only [condD, Option.bind_some, List.headD_cons, pv_p, toBool_bool, Bool.not_not]
    by_cases h : (l.length : Int) ≤ 1000
    · have h' : l.length ≤ 1000 := by omega
      rw [if_pos h]
      cases rAll l 0 (l.length - 1) <;> simp [h']
    · have h' : ¬ l.length ≤ 1000 := by omega
      rw [if_neg h]
      simp [h'])
theorem c14_loop (l : List Cu) (hn : Nam l) (hl : l.length ≤ maxLen) : ∀ (n i : Nat), i + n = l.length →
    L tab (run tab X) 14 [] [.lp [1, 0, 1, 0]] (S14_1010 (encU l) i) = some ([.p (.bool (decide (l.length ≤ 1000) && vAll l i n))], []) := by
  have hm : (maxLen : Int) = 9223372036854775807 := by decide
  intro n
  induction n with
  | zero =>
    intro i hi
    refine L_of ?_
    rw [e14_1010]
    simp only [condD, encU_length]
    rw [if_neg (by omega)]
    by_cases h : l.length ≤ 1000
    · have h' : (l.length : Int) ≤ 1000 := by omega
      simp [vAll, h, h']
    · have h' : ¬ (l.length : Int) ≤ 1000 := by omega
      simp [h, h']
  | succ n ih =>
    intro i hi
    have w : IntKind.i64.wrap ((i : Int) + 1) = ((i + 1 : Nat) : Int) := by rw [wrap_eq (by omega) (by omega)]; omega
    have ih' := ih (i + 1) (by omega)
    have h15 := c15 X hX (l.getD i default) (hn.get i)
    refine L_of ?_
    rw [e14_1010]
    simp only [condD, condA, condO, w, encU_length, Int.toNat_natCast, encU_t, encU_f, encU_g, encU_r, encU_e, encU_b, h15, Option.bind_some, List.headD_cons, pv_p, toBool_bool, ih', vAll, vAt]
    rw [if_pos (by omega), if_pos (by omega), if_pos (by omega)]
    cases hf : fineB (l.getD i default) with
    | false => simp
    | true =>
      simp only [cond_true, Bool.true_and]
      by_cases h0 : (i : Int) > 0
      · have w' : IntKind.i64.wrap ((i : Int) - 1) = ((i - 1 : Nat) : Int) := by rw [wrap_eq (by omega) (by omega)]; omega
        rw [if_pos h0, w', if_pos (by omega), if_pos (by omega), if_pos (by omega), if_pos (by omega)]
        simp only [Int.toNat_natCast, c43 X hX, Option.bind_some, List.headD_cons, pv_p, toBool_bool]
        have hz : ¬ i = 0 := by omega
        cases hb : bef (l.getD (i - 1) default) (l.getD i default) <;> simp [hz]
      · have hz : i = 0 := by omega
        rw [if_neg h0]
        simp [hz]
theorem c14 (l : List Cu) (hn : Nam l) (hl : l.length ≤ maxLen) : run tab X 14 [.p (.list true kC (encU l))] [] = some ([.p (.bool (validC l))], []) :=
  run_of (hX _ rfl) (by
    rw [e14]
    exact c14_loop X hX l hn hl l.length 0 (by omega))
end
end Go.Skm.Cue
