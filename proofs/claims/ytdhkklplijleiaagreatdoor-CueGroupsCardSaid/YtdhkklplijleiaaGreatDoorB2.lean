/-
  Valid maps (the document's), the exact time of a tick, the program's and the document's; condition: a valid map, a tick in range.
-/
import Derived.Test.YtdhkklplijleiaaGreatDoorB1
namespace Go.Skm.Cue
open Go Go.Skm
def seg (l : List Tm) (x : Int) (i : Nat) : Int :=
  if i + 1 < l.length then max 0 (min x (l.getD (i + 1) default).k - (l.getD i default).k) * (l.getD i default).m else max 0 (x - (l.getD i default).k) * (l.getD i default).m
def exF (l : List Tm) (x : Int) : Nat → Nat → Int
  | _, 0 => 0
  | i, n + 1 => seg l x i + exF l x (i + 1) n
def exS (l : List Tm) (x : Int) : Int := exF l x 0 l.length
abbrev Top : Int := 4194304
theorem goMax_eq (a b : Int) : goMax a b = max a b := by unfold goMax; omega
theorem goMin_eq (a b : Int) : goMin a b = min a b := by unfold goMin; omega
theorem mulBd {a b A B : Int} (h1 : 0 ≤ a) (h2 : a ≤ A) (h3 : 0 ≤ b) (h4 : b ≤ B) : 0 ≤ a * b ∧ a * b ≤ A * B :=
  ⟨Int.mul_nonneg h1 h3, Int.le_trans (Int.mul_le_mul_of_nonneg_right h2 h3) (Int.mul_le_mul_of_nonneg_left h4 (Int.le_trans h1 h2))⟩
theorem seg_bd {l : List Tm} (v : Valid l) {x : Int} (hx : x ≤ Top) {i : Nat} (hi : i < l.length) : 0 ≤ seg l x i ∧ seg l x i ≤ 25165824000000 := by
  have h0 := v.nonneg hi
  have hm := v.m i hi
  unfold seg
  split
  · rename_i h
    have h1 := v.k (i + 1) h
    exact mulBd (A := 4194304) (B := 6000000) (by omega) (by have : Top = 4194304 := rfl; omega) (by omega) hm.2
  · exact mulBd (A := 4194304) (B := 6000000) (by omega) (by have : Top = 4194304 := rfl; omega) (by omega) hm.2
theorem exF_bd {l : List Tm} (v : Valid l) {x : Int} (hx : x ≤ Top) : ∀ (n i : Nat), i + n ≤ l.length → 0 ≤ exF l x i n ∧ exF l x i n ≤ n * 25165824000000
  | 0, i, _ => by simp [exF]
  | n + 1, i, h => by
    have h1 := seg_bd v hx (i := i) (by omega)
    have h2 := exF_bd v hx n (i + 1) (by omega)
    simp only [exF]
    refine ⟨by omega, ?_⟩
    have : ((n + 1 : Nat) : Int) * 25165824000000 = n * 25165824000000 + 25165824000000 := by omega
    omega
theorem exS_bd {l : List Tm} (v : Valid l) {x : Int} (hx : x ≤ Top) : 0 ≤ exS l x ∧ exS l x ≤ 1610612736000000 := by
  have h := exF_bd v hx l.length 0 (by omega)
  have := v.len
  unfold exS
  omega
theorem exF_zero {l : List Tm} (v : Valid l) {x : Int} : ∀ (n i : Nat), i + n ≤ l.length → (∀ j, i ≤ j → j < l.length → x ≤ (l.getD j default).k) → exF l x i n = 0
  | 0, i, _, _ => rfl
  | n + 1, i, h, hk => by
    have h1 := hk i (Nat.le_refl _) (by omega)
    have hs : seg l x i = 0 := by
      unfold seg
      split
      · rw [show max 0 (min x (l.getD (i + 1) default).k - (l.getD i default).k) = 0 by omega, Int.zero_mul]
      · rw [show max 0 (x - (l.getD i default).k) = 0 by omega, Int.zero_mul]
    simp only [exF, hs, exF_zero v n (i + 1) (by omega) (fun j h1 h2 => hk j (by omega) h2)]
    rfl
section
variable (X : Ext) (hX : Mine X)
include hX
theorem c67_loop (l : List Tm) (hl : l.length ≤ 64) : ∀ (n i : Nat), i + n = l.length →
    L tab (run tab X) 67 [] [.lp [1, 1, 0, 1, 0]] (S67_11010 (encM l) i) = some ([.p (.bool (allOk l i n))], []) := by
  intro n
  induction n with
  | zero =>
    intro i hi
    refine L_of ?_
    rw [e67_11010]
    simp only [condD, encM_length]
    rw [if_neg (by omega)]
    rfl
  | succ n ih =>
    intro i hi
    have hlt : i < l.length := by omega
    have w : IntKind.i64.wrap ((i : Int) + 1) = ((i + 1 : Nat) : Int) := by rw [wrap_eq (by omega) (by omega)]; omega
    have ih' := ih (i + 1) (by omega)
    refine L_of ?_
    rw [e67_11010]
    simp only [c95 X hX, Option.bind_some, List.headD_cons, pv_p, toBool_bool, condD, condO, condA, encM_length, encM_k, encM_m, Int.toNat_natCast, w, ih']
    rw [if_pos (by omega), if_pos (by omega), if_pos (by omega)]
    by_cases h1 : 100000 ≤ (l.getD i default).m ∧ (l.getD i default).m ≤ 6000000
    · rw [if_pos h1, if_pos (by omega), if_pos (by omega)]
      by_cases h2 : (l.getD i default).k > 4194304
      · rw [if_pos h2]
        have h2' : ¬ (l.getD i default).k ≤ 4194304 := by omega
        have ho : okAt l i = false := by simp only [okAt, h2', decide_false, Bool.false_and, Bool.and_false]
        simp only [allOk, ho, Bool.false_and]
      · rw [if_neg h2]
        have h2' : (l.getD i default).k ≤ 4194304 := by omega
        by_cases h3 : (i : Int) > 0
        · have w' : IntKind.i64.wrap ((i : Int) - 1) = ((i - 1 : Nat) : Int) := by rw [wrap_eq (by omega) (by omega)]; omega
          rw [if_pos h3, if_pos (by omega), if_pos (by omega), w', if_pos (by omega), if_pos (by omega)]
          simp only [Int.toNat_natCast]
          by_cases h4 : (l.getD i default).k ≤ (l.getD (i - 1) default).k
          · rw [if_pos h4]
            have h5 : ¬ (i = 0 ∨ (l.getD (i - 1) default).k < (l.getD i default).k) := by omega
            have ho : okAt l i = false := by simp only [okAt, h5, decide_false, Bool.and_false]
            simp only [allOk, ho, Bool.false_and]
          · rw [if_neg h4]
            have h5 : i = 0 ∨ (l.getD (i - 1) default).k < (l.getD i default).k := by omega
            simp only [allOk, okAt, h1, h2', h5, decide_true, Bool.true_and, and_self]
        · rw [if_neg h3]
          have h5 : i = 0 := by omega
          subst h5
          simp only [allOk, okAt, h1, h2', decide_true, Bool.true_and, and_self, true_or]
    · rw [if_neg h1]
      have ho : okAt l i = false := by simp only [okAt, h1, decide_false, Bool.false_and]
      simp only [allOk, ho, Bool.false_and]
theorem c67 (l : List Tm) : run tab X 67 [.p (.list true kT (encM l))] [] = some ([.p (.bool (validB l))], []) :=
  run_of (hX _ rfl) (by
    rw [e67]
    simp only [condD, condN, encM_length, encM_k]
    by_cases h1 : (l.length : Int) < 1
    · rw [if_pos h1]
      have h : ¬ (1 ≤ l.length ∧ l.length ≤ 64 ∧ (l.getD 0 default).k = 0) := by omega
      simp only [validB, h, decide_false, Bool.and_false]
    · rw [if_neg h1]
      by_cases h2 : (l.length : Int) > 64
      · rw [if_pos h2]
        have h : ¬ (1 ≤ l.length ∧ l.length ≤ 64 ∧ (l.getD 0 default).k = 0) := by omega
        simp only [validB, h, decide_false, Bool.and_false]
      · rw [if_neg h2, if_pos (by omega)]
        by_cases h3 : (l.getD 0 default).k = 0
        · rw [if_pos h3]
          have h : 1 ≤ l.length ∧ l.length ≤ 64 ∧ (l.getD 0 default).k = 0 := by omega
          rw [show ((0 : Int)) = ((0 : Nat) : Int) from rfl, c67_loop X hX l (by omega) l.length 0 (by omega)]
          simp only [validB, h, and_self, decide_true, Bool.and_true]
        · rw [if_neg h3]
          have h : ¬ (1 ≤ l.length ∧ l.length ≤ 64 ∧ (l.getD 0 default).k = 0) := by omega
          simp only [validB, h, decide_false, Bool.and_false])
omit hX in
theorem c99_loop {l : List Tm} (v : Valid l) {x : Int} (h0 : -Top ≤ x) (hx : x ≤ Top) : ∀ (n i : Nat) (sum : Int), i + n = l.length → 0 ≤ sum → sum ≤ i * 25165824000000 →
    L tab (run tab X) 99 [] [.lp [1, 1, 0, 1, 0]] (S99_11010 (encM l) x sum i) = some ([.p (.int .i64 (sum + exF l x i n))], []) := by
  have hlen := v.len
  have ht : Top = 4194304 := rfl
  intro n
  induction n with
  | zero =>
    intro i sum hi hs hs'
    refine L_of ?_
    rw [e99_11010]
    simp only [condD, encM_length]
    rw [if_neg (by omega)]
    simp [exF]
  | succ n ih =>
    intro i sum hi hs hs'
    have hlt : i < l.length := by omega
    have w : IntKind.i64.wrap ((i : Int) + 1) = ((i + 1 : Nat) : Int) := by rw [wrap_eq (by omega) (by omega)]; omega
    have hb := seg_bd v hx hlt
    have h1 := v.nonneg hlt
    have h2 := v.k i hlt
    have ih' := ih (i + 1) (sum + seg l x i) (by omega) (by omega) (by
      have : ((i + 1 : Nat) : Int) * 25165824000000 = i * 25165824000000 + 25165824000000 := by omega
      omega)
    have hi64 : (i : Int) ≤ 64 := by omega
    have hsb : sum + seg l x i ≤ 9223372036854775807 := by omega
    refine L_of ?_
    rw [e99_11010]
    simp only [condD, condA, encM_length, encM_k, encM_m, Int.toNat_natCast, w, goMax_eq, goMin_eq]
    rw [if_pos (by omega)]
    by_cases hn : ((i + 1 : Nat) : Int) < (l.length : Int)
    · have h3 := v.k (i + 1) (by omega)
      have h4 := v.nonneg (i := i + 1) (by omega)
      have hw : IntKind.i64.wrap (min x (l.getD (i + 1) default).k - (l.getD i default).k) = min x (l.getD (i + 1) default).k - (l.getD i default).k := wrap_eq (by omega) (by omega)
      have hsg : max 0 (min x (l.getD (i + 1) default).k - (l.getD i default).k) * (l.getD i default).m = seg l x i := by unfold seg; rw [if_pos (by omega)]
      rw [if_pos hn, if_pos (by omega), if_pos (by omega), if_pos (by omega), if_pos (by omega), if_pos (by omega), if_pos (by omega), hw, hsg, wrap_eq (x := seg l x i) (by omega) (by omega), wrap_eq (by omega) hsb, ih']
      simp only [exF, Int.add_assoc]
    · have hw : IntKind.i64.wrap (x - (l.getD i default).k) = x - (l.getD i default).k := wrap_eq (by omega) (by omega)
      have hsg : max 0 (x - (l.getD i default).k) * (l.getD i default).m = seg l x i := by unfold seg; rw [if_neg (by omega)]
      rw [if_neg hn, if_pos (by omega), if_pos (by omega), if_pos (by omega), if_pos (by omega), hw, hsg, wrap_eq (x := seg l x i) (by omega) (by omega), wrap_eq (by omega) hsb, ih']
      simp only [exF, Int.add_assoc]
theorem c99 {l : List Tm} (v : Valid l) {x : Int} (h0 : -Top ≤ x) (hx : x ≤ Top) : run tab X 99 [.p (.list true kT (encM l)), .p (.int .i64 x)] [] = some ([.p (.int .i64 (exS l x))], []) :=
  run_of (hX _ rfl) (by
    rw [e99]
    have := c99_loop X v h0 hx l.length 0 0 (by omega) (by omega) (by omega)
    rw [Int.zero_add] at this
    exact this)
end
end Go.Skm.Cue
