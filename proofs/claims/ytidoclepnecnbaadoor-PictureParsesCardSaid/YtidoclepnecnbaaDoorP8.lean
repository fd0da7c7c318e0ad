/-
  The document's digits, and the parts of a text between a byte; condition: lengths and numbers that fit.
-/
import Derived.Test.YtidoclepnecnbaaDoorP4
namespace Go.Skm.Pic
open Go Go.Skm
theorem dec_len_of : ∀ (k u : Nat), u < 10 ^ (k + 1) → (Lib.decDigits u).length ≤ k + 1
  | 0, u, h => by rw [Lib.decDigits_one (by omega)]; simp
  | k + 1, u, h => by
    by_cases h10 : u < 10
    · rw [Lib.decDigits_one h10]; simp
    · rw [decDigits_split (by omega), List.length_append, Lib.decDigits_one (show u % 10 < 10 by omega)]
      have := dec_len_of k (u / 10) (by rw [Nat.pow_succ] at h; omega)
      simp; omega
theorem ba_cut (l : List UInt8) {i : Nat} (h : i < l.length) : (ba l).extract i (i + 1) = ba [l[i]] := by
  rw [ba_eq]
  simp [ba, ByteArray.data_extract, List.extract_eq_take_drop]
  rw [List.drop_eq_getElem_cons h]; rfl
section
variable (X : Ext) (hX : Mine X)
include hX
theorem c38_nat : ∀ n : Nat, n ≤ 100000000 → run tab X 38 [.p (.int .i64 (n : Int))] [] = some ([.p (.str (ba (Lib.decDigits n)))], []) := by
  intro n
  induction n using Nat.strongRecOn with
  | ind n ih =>
    intro hn
    refine run_of (hX _ rfl) ?_
    rw [e38]
    refine condNP (show ¬ (n : Int) < 0 by omega) ?_
    by_cases h : (n : Int) < 10
    · refine condP h ?_
      have : n = 0 ∨ n = 1 ∨ n = 2 ∨ n = 3 ∨ n = 4 ∨ n = 5 ∨ n = 6 ∨ n = 7 ∨ n = 8 ∨ n = 9 := by omega
      rw [Lib.decDigits_one (by omega)]
      rcases this with rfl | rfl | rfl | rfl | rfl | rfl | rfl | rfl | rfl | rfl <;> rfl
    · refine condNP h ?_
      have e1 : IntKind.i64.wrap ((n : Int).tdiv 10) = ((n / 10 : Nat) : Int) := by
        rw [Int.tdiv_eq_ediv_of_nonneg (by omega), wrap_eq (by omega) (by omega)]; omega
      have e2 : (n : Int).tmod 10 = ((n % 10 : Nat) : Int) := by
        rw [Int.tmod_eq_emod_of_nonneg (by omega)]; omega
      rw [e1, e2]
      have l1 := decDigits_len (n / 10)
      have l2 := decDigits_len (n % 10)
      refine bindS (ih (n / 10) (by omega) (by omega)) (bindS (ih (n % 10) (by omega) (by omega)) ?_)
      refine condP (p := (ba (Lib.decDigits (n / 10))).size + (ba (Lib.decDigits (n % 10))).size ≤ 4611686018427387904) (by simp only [ba_size]; omega) ?_
      have e3 := ba_append (Lib.decDigits (n / 10)) (Lib.decDigits (n % 10))
      rw [← decDigits_split (by omega)] at e3
      rw [← e3]; rfl
theorem c38 {n : Int} (h0 : -100000000 ≤ n) (h1 : n ≤ 100000000) : run tab X 38 [.p (.int .i64 n)] [] = some ([.p (.str (ba (Lib.itoa n)))], []) := by
  by_cases hn : n < 0
  · refine run_of (hX _ rfl) ?_
    rw [e38]
    refine condP hn ?_
    have e1 : IntKind.i64.wrap (0 - n) = ((n.natAbs : Nat) : Int) := by rw [wrap_eq (by omega) (by omega)]; omega
    have hl := decDigits_len n.natAbs
    rw [e1]
    refine bindS (c38_nat X hX n.natAbs (by omega)) ?_
    refine condP (p := (⟨#[45]⟩ : ByteArray).size + (ba (Lib.decDigits n.natAbs)).size ≤ 4611686018427387904) (by
      rw [ba_size, show (⟨#[45]⟩ : ByteArray).size = 1 from rfl]; omega) ?_
    have e2 : Lib.itoa n = 45 :: Lib.decDigits n.natAbs := by unfold Lib.itoa; rw [if_pos hn]
    have e3 := ba_append [45] (Lib.decDigits n.natAbs)
    rw [e2, show (45 :: Lib.decDigits n.natAbs) = [45] ++ Lib.decDigits n.natAbs from rfl, ← e3]; rfl
  · have := c38_nat X hX n.toNat (by omega)
    rw [itoa_nat (by omega)]
    rwa [show ((n.toNat : Nat) : Int) = n by omega] at this
omit hX in
theorem c43_loop (c : UInt8) (l : List UInt8) (hl : l.length ≤ 1000000000) : ∀ (d i : Nat) (done : List (List UInt8)) (cur : List UInt8), i + d = l.length → done.length + cur.length ≤ i → c ∉ cur →
    L tab (run tab X) 43 [] [.lp [1, 1, 0, 1, 0]] (S43_11010 (ba l) ((c.toNat : Nat) : Int) 0 (done.length + 1) i ((done ++ [cur]).map fun p => .str (ba p))) = some ([.fresh false [.str] ((done ++ splitC c (cur ++ l.drop i)).map fun p => .str (ba p))], []) := by
  intro d
  induction d with
  | zero =>
    intro i done cur hi hb hc
    refine L_of ?_
    rw [e43_11010]
    simp only [condD, ba_size]
    rw [if_neg (by omega), List.drop_eq_nil_of_le (show l.length ≤ i by omega), List.append_nil, splitC_none hc, List.drop_zero, List.take_of_length_le (by simp)]
  | succ d ih =>
    intro i done cur hi hb hc
    have hlt : i < l.length := by omega
    have hg : l.getD i 0 = l[i] := by simp [List.getD_eq_getElem?_getD, hlt]
    have w : IntKind.i64.wrap ((i : Int) + 1) = ((i + 1 : Nat) : Int) := by rw [wrap_eq (by omega) (by omega)]; omega
    have w2 : IntKind.i64.wrap (((done.length + 1 : Nat) : Int) - 1) = ((done.length : Nat) : Int) := by rw [wrap_eq (by omega) (by omega)]; omega
    have hcur : ((((done ++ [cur]).map fun p => PV.str (ba p)).getD (0 + done.length) .nil).cell 0).toStr = ba cur := by
      rw [Nat.zero_add, List.getD_eq_getElem?_getD, List.getElem?_map, List.getElem?_append_right (Nat.le_refl _), Nat.sub_self]; rfl
    rw [List.drop_eq_getElem_cons hlt]
    refine L_of ?_
    rw [e43_11010]
    simp only [condD, condA, condE, ba_size, ba_getD, Int.toNat_natCast, hg, w, w2, hcur, ba_cut l hlt, ba_append]
    rw [if_pos (by omega), if_pos (by omega), if_pos (by omega)]
    by_cases e : ((l[i]).toNat : Int) = ((c.toNat : Nat) : Int)
    · have e' : l[i] = c := by
        apply UInt8.toNat_inj.1
        omega
      refine iteP e ?_
      rw [if_pos (by omega), e', splitC_app _ hc, List.drop_zero, List.take_of_length_le (by simp)]
      have := ih (i + 1) (done ++ [cur]) [] (by omega) (by simp; omega) (by simp)
      simp only [List.length_append, List.length_cons, List.length_nil, List.nil_append] at this
      simp only [List.map_append, List.map_cons, List.map_nil, List.append_assoc, List.cons_append, List.nil_append] at this ⊢
      exact this
    · have e' : l[i] ≠ c := fun h => e (by rw [h])
      refine iteN e ?_
      rw [if_pos (by omega), if_pos (by omega), if_pos (by omega), if_pos (by omega), if_pos (by omega)]
      refine iteP (by simp; omega) ?_
      rw [if_pos (by omega), if_pos (by omega)]
      have := ih (i + 1) done (cur ++ [l[i]]) (by omega) (by simp; omega) (by simp [hc, Ne.symm e'])
      have hs : (((done ++ [cur]).map fun p => PV.str (ba p)).set (0 + done.length) (.str (ba (cur ++ [l[i]])))) = (done ++ [cur ++ [l[i]]]).map fun p => PV.str (ba p) := by
        rw [Nat.zero_add, List.map_append, List.set_append_right _ _ (by simp)]
        simp
      rw [hs]
      rw [List.append_assoc, List.singleton_append] at this
      exact this
theorem c43 (c : UInt8) (l : List UInt8) (hl : l.length ≤ 1000000000) : run tab X 43 [.p (.str (ba l)), .p (.int .u8 ((c.toNat : Nat) : Int))] [] = some ([.fresh false [.str] ((splitC c l).map fun p => .str (ba p))], []) :=
  run_of (hX _ rfl) (by
    rw [e43]
    exact c43_loop X c l hl l.length 0 [] [] (by omega) (by simp) (by simp))
end
end Go.Skm.Pic
