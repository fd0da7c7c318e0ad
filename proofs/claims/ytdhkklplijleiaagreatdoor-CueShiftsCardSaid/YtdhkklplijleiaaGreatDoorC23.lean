/-
  A list of names, sorted as the library sorts it: the same names, none before one that is less; condition: none.
-/
import Derived.Test.YtdhkklplijleiaaGreatDoorC17
namespace Go.Skm.Cue
open Go Go.Skm
theorem bytesLt_lt : ∀ x y : By, bytesLt x y = true ↔ x < y
  | [], [] => by simp [bytesLt]
  | [], _ :: _ => by simp [bytesLt]
  | _ :: _, [] => by simp [bytesLt]
  | a :: x, b :: y => by
    rw [List.cons_lt_cons_iff, ← bytesLt_lt x y]
    simp [bytesLt]
theorem le_bytes (x y : By) : decide (x ≤ y) = !bytesLt y x := by
  rw [Bool.eq_iff_iff, decide_eq_true_eq, Bool.not_eq_true', ← Bool.not_eq_true, bytesLt_lt]
  exact List.not_lt.symm
theorem merge_spec (ss : List By) : (ss.mergeSort fun x y => decide (x ≤ y)).Perm ss ∧ (ss.mergeSort fun x y => decide (x ≤ y)).Pairwise fun a b => bytesLt b a = false := by
  refine ⟨List.mergeSort_perm _ _, ?_⟩
  have h := List.pairwise_mergeSort (le := fun x y : By => decide (x ≤ y)) (fun a b c h1 h2 => by
    simp only [le_bytes, Bool.not_eq_true'] at h1 h2 ⊢
    cases h : bytesLt c a with
    | false => rfl
    | true =>
      have := le_lt h2 h
      rw [this] at h1; cases h1) (fun a b => by
    simp only [le_bytes]
    cases h : bytesLt b a with
    | false => simp
    | true => rw [lt_asymm h]; simp) ss
  refine h.imp ?_
  intro a b hab
  simpa [le_bytes] using hab
end Go.Skm.Cue
