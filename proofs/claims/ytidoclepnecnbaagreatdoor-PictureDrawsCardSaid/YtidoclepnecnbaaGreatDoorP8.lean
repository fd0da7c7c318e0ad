/-
  The document's digits, and the parts of a text between a byte; condition: lengths and numbers that fit.
-/
import Derived.Test.YtidoclepnecnbaaGreatDoorP4
namespace Go.Skm.Drw
open Go Go.Skm
theorem dec_len_of : ∀ (k u : Nat), u < 10 ^ (k + 1) → (Lib.decDigits u).length ≤ k + 1
  | 0, u, h => by rw [Lib.decDigits_one (by omega)]; simp
  | k + 1, u, h => by
    by_cases h10 : u < 10
    · rw [Lib.decDigits_one h10]; simp
    · rw [decDigits_split (by omega), List.length_append, Lib.decDigits_one (show u % 10 < 10 by omega)]
      have := dec_len_of k (u / 10) (by rw [Nat.pow_succ] at h; omega)
      simp; omega
theorem ba_cut (l : List UInt8) {i : Nat} (h : i < l.length) : (ba l).extract i (i + 1) = ba [l[i]] := by
  rw [ba_eq]
  simp [ba, ByteArray.data_extract, List.extract_eq_take_drop]
  rw [List.drop_eq_getElem_cons h]; rfl
section
variable (X : Ext) (hX : Mine X)
include hX
omit hX in
end
end Go.Skm.Drw
