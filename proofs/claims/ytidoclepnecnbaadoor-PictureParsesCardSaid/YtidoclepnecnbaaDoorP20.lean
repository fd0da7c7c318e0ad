/-
  What the document takes a short text's number to be; condition: a length that fits.
-/
import Derived.Test.YtidoclepnecnbaaDoorP19
namespace Go.Skm.Pic
open Go Go.Skm
def numStep (a : Int × Int) (x : UInt8) : Int × Int := if (x.toNat : Int) = 45 then (a.1, -1) else if 48 ≤ (x.toNat : Int) ∧ (x.toNat : Int) ≤ 57 then (10 * a.1 + ((x.toNat : Int) - 48), a.2) else a
def numV (l : List UInt8) : Int := ((l.take 5).foldl numStep (0, 1)).2 * ((l.take 5).foldl numStep (0, 1)).1
theorem wrapU8 {n : Nat} (h1 : 48 ≤ n) (h2 : n ≤ 57) : IntKind.u8.wrap ((n : Int) - 48) = (n : Int) - 48 := wrap8_eq ⟨by omega, by omega⟩
section
variable (X : Ext) (hX : Mine X)
theorem c45_loop (l : List UInt8) (hl : l.length ≤ 100000000) : ∀ (k i : Nat) (n sg : Int), i + k = (l.take 5).length → 0 ≤ n → n + 1 ≤ ((10 ^ i : Nat) : Int) → (sg = 1 ∨ sg = -1) →
    L tab (run tab X) 45 [] [.lp [1, 1, 0, 1, 0]] (S45_11010 (ba l) n sg i) = some ([.p (.int .i64 ((((l.take 5).drop i).foldl numStep (n, sg)).2 * (((l.take 5).drop i).foldl numStep (n, sg)).1))], []) := by
  have h5 : (l.take 5).length ≤ 5 := by simp; omega
  have h5' : (l.take 5).length ≤ l.length := by simp; omega
  have h5'' : l.length ≤ 5 → (l.take 5).length = l.length := fun h => by simp; omega
  have h6 : 5 ≤ l.length → (l.take 5).length = 5 := fun h => by simp; omega
  intro k
  induction k with
  | zero =>
    intro i n sg hi h0 h1 hs
    have hp : 10 ^ i ≤ 10 ^ 5 := Nat.pow_le_pow_right (by omega) (by omega)
    have w : IntKind.i64.wrap (sg * n) = sg * n := by rcases hs with rfl | rfl <;> exact wrap_eq (by omega) (by omega)
    refine L_of ?_
    rw [e45_11010, w]
    simp only [condD, ba_size]
    rw [List.drop_eq_nil_of_le (by omega)]
    by_cases e : (i : Int) < (l.length : Int)
    · rw [if_pos e, if_neg (by omega)]; rfl
    · rw [if_neg e]; rfl
  | succ k ih =>
    intro i n sg hi h0 h1 hs
    have hlt : i < (l.take 5).length := by omega
    have hlt2 : i < l.length := by omega
    have hp : 10 ^ i ≤ 10 ^ 4 := Nat.pow_le_pow_right (by omega) (by omega)
    have hp1 : 10 ^ (i + 1) = 10 ^ i * 10 := Nat.pow_succ 10 i
    have hg : l.getD i 0 = l[i] := by simp [List.getD_eq_getElem?_getD, hlt2]
    have hM : (l.take 5)[i] = l[i] := by simp
    have w1 : IntKind.i64.wrap ((i : Int) + 1) = ((i + 1 : Nat) : Int) := by rw [wrap_eq (by omega) (by omega)]; omega
    refine L_of ?_
    rw [e45_11010, w1]
    simp only [condD, condA, condE, ba_size, ba_getD, Int.toNat_natCast, hg]
    rw [if_pos (by omega), if_pos (by omega), if_pos (by omega), if_pos (by omega), List.drop_eq_getElem_cons hlt, List.foldl_cons, hM]
    by_cases e1 : ((l[i]).toNat : Int) = 45
    · rw [if_pos e1, show numStep (n, sg) l[i] = (n, -1) by unfold numStep; rw [if_pos e1]]
      exact ih (i + 1) n (-1) (by omega) h0 (by omega) (.inr rfl)
    · rw [if_neg e1, if_pos (by omega), if_pos (by omega)]
      by_cases e2 : ((l[i]).toNat : Int) ≥ 48
      · rw [if_pos e2, if_pos (by omega), if_pos (by omega)]
        by_cases e3 : ((l[i]).toNat : Int) ≤ 57
        · rw [if_pos e3, if_pos (by omega), if_pos (by omega), wrapU8 (by omega) (by omega), wrap_eq (x := 10 * n) (by omega) (by omega), wrap_eq (x := ((l[i]).toNat : Int) - 48) (by omega) (by omega), wrap_eq (x := 10 * n + (((l[i]).toNat : Int) - 48)) (by omega) (by omega),
            show numStep (n, sg) l[i] = (10 * n + (((l[i]).toNat : Int) - 48), sg) by unfold numStep; rw [if_neg e1, if_pos ⟨e2, e3⟩]]
          exact ih (i + 1) _ sg (by omega) (by omega) (by omega) hs
        · rw [if_neg e3, show numStep (n, sg) l[i] = (n, sg) by unfold numStep; rw [if_neg e1, if_neg (by omega)]]
          exact ih (i + 1) n sg (by omega) h0 (by omega) hs
      · rw [if_neg e2, show numStep (n, sg) l[i] = (n, sg) by unfold numStep; rw [if_neg e1, if_neg (by omega)]]
        exact ih (i + 1) n sg (by omega) h0 (by omega) hs
include hX
theorem c45 (l : List UInt8) (hl : l.length ≤ 100000000) : run tab X 45 [.p (.str (ba l))] [] = some ([.p (.int .i64 (numV l))], []) :=
  run_of (hX _ rfl) (by
    rw [e45]
    exact c45_loop X l hl (l.take 5).length 0 0 1 (by omega) (by omega) (by omega) (.inl rfl))
end
theorem numV_all : ∀ a : Fin 129, ∀ b : Fin 128, numV (Lib.itoa ((a.val : Int) * 128 + b.val - 8192)) = (a.val : Int) * 128 + b.val - 8192 := by decide +kernel
theorem numV_itoa {n : Int} (h0 : -8192 ≤ n) (h1 : n ≤ 8192) : numV (Lib.itoa n) = n := by
  have := numV_all ⟨(n + 8192).toNat / 128, by omega⟩ ⟨(n + 8192).toNat % 128, by omega⟩
  simp only at this
  rwa [show (((n + 8192).toNat / 128 : Nat) : Int) * 128 + (((n + 8192).toNat % 128 : Nat) : Int) - 8192 = n by omega] at this
end Go.Skm.Pic
