/-
  The document's digits, numbers and words; condition: lengths that fit.
-/
import Derived.Test.YtdhkklplijleiaaGreatDoorC7
namespace Go.Skm.Cue
open Go Go.Skm
def addI (a : Int) (x : UInt8) : Int := 10 * a + ((x.toNat : Int) - 48)
def accI : Int → List UInt8 → Int
  | a, [] => a
  | a, x :: r => accI (addI a x) r
theorem accI_app : ∀ (xs ys : List UInt8) (a : Int), accI a (xs ++ ys) = accI (accI a xs) ys
  | [], _, _ => rfl
  | x :: xs, ys, a => by rw [List.cons_append, accI, accI, accI_app xs ys]
theorem accI_dec {u : Nat} : accI 0 (Lib.decDigits u) = u := by
  induction u using Nat.strongRecOn with
  | ind u ih =>
    rw [Lib.decDigits]
    split
    · next h =>
      simp only [accI, addI, digit_toNat h]; omega
    · next h =>
      rw [accI_app, ih (u / 10) (by omega)]
      simp only [accI, addI, digit_toNat (show u % 10 < 10 by omega)]
      omega
theorem dec_len_of : ∀ (k u : Nat), u < 10 ^ (k + 1) → (Lib.decDigits u).length ≤ k + 1
  | 0, u, h => by rw [Lib.decDigits_one (by omega)]; simp
  | k + 1, u, h => by
    by_cases h10 : u < 10
    · rw [Lib.decDigits_one h10]; simp
    · rw [decDigits_split (by omega), List.length_append, Lib.decDigits_one (show u % 10 < 10 by omega)]
      have := dec_len_of k (u / 10) (by rw [Nat.pow_succ] at h; omega)
      simp; omega
def numF (l : List UInt8) : List UInt8 → Nat → Int → Int
  | [], _, a => if Lib.itoa a = l then a else -1
  | x :: r, i, a => if (x.toNat : Int) < 48 then -1 else if (x.toNat : Int) > 57 then -1 else if 7 ≤ i then -1 else numF l r (i + 1) (addI a x)
def numV (l : List UInt8) : Int := numF l l 0 0
theorem numF_app (l r : List UInt8) : ∀ (xs : List UInt8) (i : Nat) (a : Int), (∀ b ∈ xs, 48 ≤ b.toNat ∧ b.toNat ≤ 57) → i + xs.length ≤ 7 → numF l (xs ++ r) i a = numF l r (i + xs.length) (accI a xs)
  | [], _, _, _, _ => rfl
  | x :: xs, i, a, h, hi => by
    have hx := h x (by simp)
    simp only [List.length_cons] at hi
    rw [List.cons_append, numF, if_neg (by omega), if_neg (by omega), if_neg (by omega), numF_app l r xs _ _ (fun b hb => h b (by simp [hb])) (by omega), accI, List.length_cons]
    congr 1; omega
theorem numV_dec {n : Int} (h0 : 0 ≤ n) (h1 : n ≤ 9999999) : numV (Lib.itoa n) = n := by
  unfold numV
  have hl : (Lib.itoa n).length ≤ 7 := by
    rw [itoa_nat h0]
    exact dec_len_of 6 _ (by omega)
  have := numF_app (Lib.itoa n) [] (Lib.itoa n) 0 0 (by rw [itoa_nat h0]; exact fun b hb => decDigits_digit b hb) (by omega)
  rw [List.append_nil] at this
  rw [this, numF]
  have e : accI 0 (Lib.itoa n) = n := by rw [itoa_nat h0, accI_dec]; omega
  rw [e, if_pos rfl]
theorem numF_some {l : List UInt8} : ∀ (r : List UInt8) (i : Nat) (a : Int), 0 ≤ a → numF l r i a = -1 ∨ (0 ≤ numF l r i a ∧ Lib.itoa (numF l r i a) = l)
  | [], i, a, h => by
    rw [numF]
    by_cases e : Lib.itoa a = l
    · rw [if_pos e]; exact .inr ⟨h, e⟩
    · rw [if_neg e]; exact .inl rfl
  | x :: r, i, a, h => by
    rw [numF]
    by_cases e1 : (x.toNat : Int) < 48
    · rw [if_pos e1]; exact .inl rfl
    · rw [if_neg e1]
      by_cases e2 : (x.toNat : Int) > 57
      · rw [if_pos e2]; exact .inl rfl
      · rw [if_neg e2]
        by_cases e3 : 7 ≤ i
        · rw [if_pos e3]; exact .inl rfl
        · rw [if_neg e3]
          exact numF_some r (i + 1) (addI a x) (by unfold addI; omega)
theorem numV_some (l : List UInt8) : numV l = -1 ∨ (0 ≤ numV l ∧ Lib.itoa (numV l) = l) := numF_some l 0 0 (Int.le_refl _)
section
variable (X : Ext) (hX : Mine X)
include hX
omit hX in
end
end Go.Skm.Cue
