/-
  Texts of places: numerals, the program's text and the document's; condition: the library's answers.
-/
import Derived.Test.YtdhkklplijleiaaDoorCt20
import Derived.Test.YtdhkklplijleiaaDoorSkmE
namespace Go.Skm.Beat
open Go Go.Skm

/-- The library's answers. -/
structure Texts (X : Ext) : Prop where
  itoa : ∀ n : Int, -9223372036854775808 ≤ n → n ≤ 9223372036854775807 → run tab X 49 [.p (.int .i64 n)] [] = some ([.p (.str (ba (Lib.itoa n)))], [])
  split : ∀ l : List UInt8, l.length ≤ 1000 → run tab X 51 [.p (.str (ba l)), .p (.str ⟨#[46]⟩)] [] = some ([.fresh false [.str] ((splitC 46 l).map fun p => .str (ba p))], [])
  atoi : ∀ l : List UInt8, l.length ≤ 1000 → run tab X 52 [.p (.str (ba l))] [] = some (atoiR l, [])

def pA (t b : Int) : Int := t / 480 / b + 1
def pB (t b : Int) : Int := t / 480 % b + 1
def pC (t : Int) : Int := t % 480
def okB (tick beats : Int) : Int := if 1 ≤ beats ∧ beats ≤ 32 then (if 0 ≤ tick ∧ tick ≤ 4194304 then 0 else 3) else 2
def txt (a b c : Int) : List UInt8 := Lib.itoa a ++ 46 :: (Lib.itoa b ++ 46 :: Lib.itoa c)
def txtOf (t b : Int) : List UInt8 := txt (pA t b) (pB t b) (pC t)
def textR (t b : Int) : List AV × List Blk := if okB t b = 0 then ([.p (.str (ba (txtOf t b))), .p (.int .i64 0)], []) else ([.p (.str ⟨#[]⟩), .p (.int .i64 (okB t b))], [])
theorem barR_ok {t b : Int} (h : okB t b = 0) : barR t b = barV (pA t b) (pB t b) (pC t) 0 := by
  unfold okB at h
  unfold barR
  split at h
  · next h1 =>
    rw [if_pos h1]
    split at h
    · next h2 => rw [if_pos h2]; rfl
    · cases h
  · cases h
theorem barR_err {t b : Int} (h : okB t b ≠ 0) : barR t b = barV 0 0 0 (okB t b) := by
  unfold okB at h ⊢
  unfold barR
  split
  · next h1 =>
    rw [if_pos h1] at h
    split
    · next h2 => rw [if_pos h2] at h; exact absurd rfl h
    · rfl
  · rfl
theorem okB_iff {t b : Int} : okB t b = 0 ↔ (1 ≤ b ∧ b ≤ 32) ∧ (0 ≤ t ∧ t ≤ 4194304) := by
  unfold okB
  split
  · next h1 =>
    split
    · next h2 => simp [h1, h2]
    · next h2 => simp [h2]
  · next h1 => simp [h1]
theorem place_bd {t b : Int} (h : okB t b = 0) : (1 ≤ pA t b ∧ pA t b ≤ 4194304) ∧ (1 ≤ pB t b ∧ pB t b ≤ b) ∧ (0 ≤ pC t ∧ pC t ≤ 479) := by
  obtain ⟨h1, h2⟩ := okB_iff.1 h
  unfold pA pB pC
  have q1 : 0 ≤ t / 480 ∧ t / 480 ≤ 8739 := by omega
  have q2 := Int.ediv_nonneg q1.1 (show 0 ≤ b by omega)
  have q3 := Int.ediv_le_self b q1.1
  have q4 := Int.emod_nonneg (t / 480) (show b ≠ 0 by omega)
  have q5 := Int.emod_lt_of_pos (t / 480) (show 0 < b by omega)
  omega
theorem itoa_len {n : Int} (h : 0 ≤ n) (h2 : n ≤ 4194304) : (Lib.itoa n).length ≤ 4194305 := by
  rw [itoa_nat h]
  have := decDigits_len n.toNat
  omega
section
variable (X : Ext) (hX : Mine X)
include hX
theorem c50 : ∀ n : Nat, n ≤ 4194304 → run tab X 50 [.p (.int .i64 (n : Int))] [] = some ([.p (.str (ba (Lib.decDigits n)))], []) := by
  intro n
  induction n using Nat.strongRecOn with
  | ind n ih =>
    intro hn
    refine run_of (hX _ (by decide) (by decide) (by decide)) ?_
    rw [e50, condD]
    by_cases h : (n : Int) < 10
    · rw [if_pos h]
      have : n = 0 ∨ n = 1 ∨ n = 2 ∨ n = 3 ∨ n = 4 ∨ n = 5 ∨ n = 6 ∨ n = 7 ∨ n = 8 ∨ n = 9 := by omega
      rw [Lib.decDigits_one (by omega)]
      rcases this with rfl | rfl | rfl | rfl | rfl | rfl | rfl | rfl | rfl | rfl <;> rfl
    · rw [if_neg h]
      have e1 : IntKind.i64.wrap ((n : Int).tdiv 10) = ((n / 10 : Nat) : Int) := by
        rw [Int.tdiv_eq_ediv_of_nonneg (by omega), wrap_eq (by omega) (by omega)]; omega
      have e2 : (n : Int).tmod 10 = ((n % 10 : Nat) : Int) := by
        rw [Int.tmod_eq_emod_of_nonneg (by omega)]; omega
      rw [e1, e2]
      have l1 := decDigits_len (n / 10)
      have l2 := decDigits_len (n % 10)
      refine bindS (ih (n / 10) (by omega) (by omega)) (bindS (ih (n % 10) (by omega) (by omega)) ?_)
      refine condP (p := (ba (Lib.decDigits (n / 10))).size + (ba (Lib.decDigits (n % 10))).size ≤ 4611686018427387904) (by simp only [ba_size]; omega) ?_
      have e3 := ba_append (Lib.decDigits (n / 10)) (Lib.decDigits (n % 10))
      rw [← decDigits_split (by omega)] at e3
      rw [← e3]; rfl
theorem c26 (hT : Texts X) (t b : Int) : run tab X 26 [.p (.int .i64 t), .p (.int .i64 b)] [] = some (textR t b) :=
  run_of (hX _ (by decide) (by decide) (by decide)) (by
    rw [e26]
    unfold textR
    by_cases h : okB t b = 0
    · obtain ⟨h1, h2, h3⟩ := place_bd h
      obtain ⟨h4, h5⟩ := okB_iff.1 h
      have l1 := itoa_len (n := pA t b) (by omega) (by omega)
      have l2 := itoa_len (n := pB t b) (by omega) (by omega)
      have l3 := itoa_len (n := pC t) (by omega) (by omega)
      rw [if_pos h]
      refine bindS ((c24 X hX t b).trans (congrArg some (barR_ok h))) (condF rfl ?_)
      refine bindS (hT.itoa (pA t b) (by omega) (by omega)) ?_
      refine condP (p := (ba (Lib.itoa (pA t b))).size + (ba [46]).size ≤ 4611686018427387904) (by simp only [ba_size, List.length_cons, List.length_nil]; omega) ?_
      refine bindS (hT.itoa (pB t b) (by omega) (by omega)) ?_
      refine condP (p := (ba (Lib.itoa (pA t b)) ++ ba [46]).size + (ba (Lib.itoa (pB t b))).size ≤ 4611686018427387904) (by simp only [ba_append, ba_size, List.length_append, List.length_cons, List.length_nil]; omega) ?_
      refine condP (p := (ba (Lib.itoa (pA t b)) ++ ba [46] ++ ba (Lib.itoa (pB t b))).size + (ba [46]).size ≤ 4611686018427387904) (by simp only [ba_append, ba_size, List.length_append, List.length_cons, List.length_nil]; omega) ?_
      refine bindS (hT.itoa (pC t) (by omega) (by omega)) ?_
      refine condP (p := (ba (Lib.itoa (pA t b)) ++ ba [46] ++ ba (Lib.itoa (pB t b)) ++ ba [46]).size + (ba (Lib.itoa (pC t))).size ≤ 4611686018427387904) (by simp only [ba_append, ba_size, List.length_append, List.length_cons, List.length_nil]; omega) ?_
      have e : ba (txtOf t b) = ba (Lib.itoa (pA t b)) ++ ba [46] ++ ba (Lib.itoa (pB t b)) ++ ba [46] ++ ba (Lib.itoa (pC t)) := by simp only [ba_append]; simp [txtOf, txt]
      rw [e]; rfl
    · rw [if_neg h]
      exact bindS ((c24 X hX t b).trans (congrArg some (barR_err h))) (condT (show (okB t b != 0) = true by simpa using h) rfl))
theorem c27 (t b : Int) : run tab X 27 [.p (.int .i64 t), .p (.int .i64 b)] [] = some (textR t b) :=
  run_of (hX _ (by decide) (by decide) (by decide)) (by
    rw [e27]
    unfold textR
    by_cases h : okB t b = 0
    · obtain ⟨h1, h2, h3⟩ := place_bd h
      obtain ⟨h4, h5⟩ := okB_iff.1 h
      have l1 := itoa_len (n := pA t b) (by omega) (by omega)
      have l2 := itoa_len (n := pB t b) (by omega) (by omega)
      have l3 := itoa_len (n := pC t) (by omega) (by omega)
      have r : ∀ n : Int, 0 ≤ n → n ≤ 4194304 → run tab X 50 [.p (.int .i64 n)] [] = some ([.p (.str (ba (Lib.itoa n)))], []) := by
        intro n h0 h1
        have := c50 X hX n.toNat (by omega)
        rw [itoa_nat h0]
        rwa [show ((n.toNat : Nat) : Int) = n by omega] at this
      rw [if_pos h]
      refine bindS ((c25 X hX t b).trans (congrArg some (barR_ok h))) (condF rfl ?_)
      refine bindS (r (pA t b) (by omega) (by omega)) ?_
      refine condP (p := (ba (Lib.itoa (pA t b))).size + (ba [46]).size ≤ 4611686018427387904) (by simp only [ba_size, List.length_cons, List.length_nil]; omega) ?_
      refine bindS (r (pB t b) (by omega) (by omega)) ?_
      refine condP (p := (ba (Lib.itoa (pA t b)) ++ ba [46]).size + (ba (Lib.itoa (pB t b))).size ≤ 4611686018427387904) (by simp only [ba_append, ba_size, List.length_append, List.length_cons, List.length_nil]; omega) ?_
      refine condP (p := (ba (Lib.itoa (pA t b)) ++ ba [46] ++ ba (Lib.itoa (pB t b))).size + (ba [46]).size ≤ 4611686018427387904) (by simp only [ba_append, ba_size, List.length_append, List.length_cons, List.length_nil]; omega) ?_
      refine bindS (r (pC t) (by omega) (by omega)) ?_
      refine condP (p := (ba (Lib.itoa (pA t b)) ++ ba [46] ++ ba (Lib.itoa (pB t b)) ++ ba [46]).size + (ba (Lib.itoa (pC t))).size ≤ 4611686018427387904) (by simp only [ba_append, ba_size, List.length_append, List.length_cons, List.length_nil]; omega) ?_
      have e : ba (txtOf t b) = ba (Lib.itoa (pA t b)) ++ ba [46] ++ ba (Lib.itoa (pB t b)) ++ ba [46] ++ ba (Lib.itoa (pC t)) := by simp only [ba_append]; simp [txtOf, txt]
      rw [e]; rfl
    · rw [if_neg h]
      exact bindS ((c25 X hX t b).trans (congrArg some (barR_err h))) (condT (show (okB t b != 0) = true by simpa using h) rfl))
end
end Go.Skm.Beat
