/-
  The document's digits, numbers and words; condition: lengths that fit.
-/
import Derived.Test.YtdhkklplijleiaaGreatDoorC7
namespace Go.Skm.Cue
open Go Go.Skm
def addI (a : Int) (x : UInt8) : Int := 10 * a + ((x.toNat : Int) - 48)
def accI : Int → List UInt8 → Int
  | a, [] => a
  | a, x :: r => accI (addI a x) r
theorem accI_app : ∀ (xs ys : List UInt8) (a : Int), accI a (xs ++ ys) = accI (accI a xs) ys
  | [], _, _ => rfl
  | x :: xs, ys, a => by rw [List.cons_append, accI, accI, accI_app xs ys]
theorem accI_dec {u : Nat} : accI 0 (Lib.decDigits u) = u := by
  induction u using Nat.strongRecOn with
  | ind u ih =>
    rw [Lib.decDigits]
    split
    · next h =>
      simp only [accI, addI, digit_toNat h]; omega
    · next h =>
      rw [accI_app, ih (u / 10) (by omega)]
      simp only [accI, addI, digit_toNat (show u % 10 < 10 by omega)]
      omega
theorem dec_len_of : ∀ (k u : Nat), u < 10 ^ (k + 1) → (Lib.decDigits u).length ≤ k + 1
  | 0, u, h => by rw [Lib.decDigits_one (by omega)]; simp
  | k + 1, u, h => by
    by_cases h10 : u < 10
    · rw [Lib.decDigits_one h10]; simp
    · rw [decDigits_split (by omega), List.length_append, Lib.decDigits_one (show u % 10 < 10 by omega)]
      have := dec_len_of k (u / 10) (by rw [Nat.pow_succ] at h; omega)
      simp; omega
def numF (l : List UInt8) : List UInt8 → Nat → Int → Int
  | [], _, a => if Lib.itoa a = l then a else -1
  | x :: r, i, a => if (x.toNat : Int) < 48 then -1 else if (x.toNat : Int) > 57 then -1 else if 7 ≤ i then -1 else numF l r (i + 1) (addI a x)
def numV (l : List UInt8) : Int := numF l l 0 0
theorem numF_app (l r : List UInt8) : ∀ (xs : List UInt8) (i : Nat) (a : Int), (∀ b ∈ xs, 48 ≤ b.toNat ∧ b.toNat ≤ 57) → i + xs.length ≤ 7 → numF l (xs ++ r) i a = numF l r (i + xs.length) (accI a xs)
  | [], _, _, _, _ => rfl
  | x :: xs, i, a, h, hi => by
    have hx := h x (by simp)
    simp only [List.length_cons] at hi
    rw [List.cons_append, numF, if_neg (by omega), if_neg (by omega), if_neg (by omega), numF_app l r xs _ _ (fun b hb => h b (by simp [hb])) (by omega), accI, List.length_cons]
    congr 1; omega
theorem numV_dec {n : Int} (h0 : 0 ≤ n) (h1 : n ≤ 9999999) : numV (Lib.itoa n) = n := by
  unfold numV
  have hl : (Lib.itoa n).length ≤ 7 := by
    rw [itoa_nat h0]
    exact dec_len_of 6 _ (by omega)
  have := numF_app (Lib.itoa n) [] (Lib.itoa n) 0 0 (by rw [itoa_nat h0]; exact fun b hb => decDigits_digit b hb) (by omega)
  rw [List.append_nil] at this
  rw [this, numF]
  have e : accI 0 (Lib.itoa n) = n := by rw [itoa_nat h0, accI_dec]; omega
  rw [e, if_pos rfl]
theorem numF_some {l : List UInt8} : ∀ (r : List UInt8) (i : Nat) (a : Int), 0 ≤ a → numF l r i a = -1 ∨ (0 ≤ numF l r i a ∧ Lib.itoa (numF l r i a) = l)
  | [], i, a, h => by
    rw [numF]
    by_cases e : Lib.itoa a = l
    · rw [if_pos e]; exact .inr ⟨h, e⟩
    · rw [if_neg e]; exact .inl rfl
  | x :: r, i, a, h => by
    rw [numF]
    by_cases e1 : (x.toNat : Int) < 48
    · rw [if_pos e1]; exact .inl rfl
    · rw [if_neg e1]
      by_cases e2 : (x.toNat : Int) > 57
      · rw [if_pos e2]; exact .inl rfl
      · rw [if_neg e2]
        by_cases e3 : 7 ≤ i
        · rw [if_pos e3]; exact .inl rfl
        · rw [if_neg e3]
          exact numF_some r (i + 1) (addI a x) (by unfold addI; omega)
theorem numV_some (l : List UInt8) : numV l = -1 ∨ (0 ≤ numV l ∧ Lib.itoa (numV l) = l) := numF_some l 0 0 (Int.le_refl _)
theorem wrapU8 {n : Nat} (h1 : 48 ≤ n) (h2 : n ≤ 57) : IntKind.u8.wrap ((n : Int) - 48) = (n : Int) - 48 := wrap8_eq ⟨by omega, by omega⟩
theorem ba_cut (l : List UInt8) {i : Nat} (h : i < l.length) : (ba l).extract i (i + 1) = ba [l[i]] := by
  rw [ba_eq]
  simp [ba, ByteArray.data_extract, List.extract_eq_take_drop]
  rw [List.drop_eq_getElem_cons h]; rfl
section
variable (X : Ext) (hX : Mine X)
include hX
theorem c73_nat : ∀ n : Nat, n ≤ 100000000 → run tab X 73 [.p (.int .i64 (n : Int))] [] = some ([.p (.str (ba (Lib.decDigits n)))], []) := by
  intro n
  induction n using Nat.strongRecOn with
  | ind n ih =>
    intro hn
    refine run_of (hX _ rfl) ?_
    rw [e73]
    by_cases h : (n : Int) < 10
    · refine condP h ?_
      have : n = 0 ∨ n = 1 ∨ n = 2 ∨ n = 3 ∨ n = 4 ∨ n = 5 ∨ n = 6 ∨ n = 7 ∨ n = 8 ∨ n = 9 := by omega
      rw [Lib.decDigits_one (by omega)]
      rcases this with rfl | rfl | rfl | rfl | rfl | rfl | rfl | rfl | rfl | rfl <;> rfl
    · refine condNP h ?_
      have e1 : IntKind.i64.wrap ((n : Int).tdiv 10) = ((n / 10 : Nat) : Int) := by
        rw [Int.tdiv_eq_ediv_of_nonneg (by omega), wrap_eq (by omega) (by omega)]; omega
      have e2 : (n : Int).tmod 10 = ((n % 10 : Nat) : Int) := by
        rw [Int.tmod_eq_emod_of_nonneg (by omega)]; omega
      rw [e1, e2]
      have l1 := decDigits_len (n / 10)
      have l2 := decDigits_len (n % 10)
      refine bindS (ih (n / 10) (by omega) (by omega)) (bindS (ih (n % 10) (by omega) (by omega)) ?_)
      refine condP (p := (ba (Lib.decDigits (n / 10))).size + (ba (Lib.decDigits (n % 10))).size ≤ 4611686018427387904) (by simp only [ba_size]; omega) ?_
      have e3 := ba_append (Lib.decDigits (n / 10)) (Lib.decDigits (n % 10))
      rw [← decDigits_split (by omega)] at e3
      rw [← e3]; rfl
theorem c73 {n : Int} (h0 : 0 ≤ n) (h1 : n ≤ 100000000) : run tab X 73 [.p (.int .i64 n)] [] = some ([.p (.str (ba (Lib.itoa n)))], []) := by
  have := c73_nat X hX n.toNat (by omega)
  rw [itoa_nat h0]
  rwa [show ((n.toNat : Nat) : Int) = n by omega] at this
theorem c42_loop (l : List UInt8) (hl : l.length ≤ maxLen) : ∀ (d i : Nat) (a : Int), i + d = l.length → i ≤ 7 → 0 ≤ a → a + 1 ≤ ((10 ^ i : Nat) : Int) →
    L tab (run tab X) 42 [] [.lp [1, 1, 0, 1, 0]] (S42_11010 (ba l) a i) = some ([.p (.int .i64 (numF l (l.drop i) i a))], []) := by
  have hm : (maxLen : Int) = 9223372036854775807 := by decide
  intro d
  induction d with
  | zero =>
    intro i a hi h7 h0 h1
    have hp : 10 ^ i ≤ 10 ^ 7 := Nat.pow_le_pow_right (by omega) h7
    refine L_of ?_
    rw [e42_11010]
    simp only [condD, ba_size]
    rw [if_neg (by omega), c73 X hX h0 (by omega), List.drop_eq_nil_of_le (by omega), numF]
    simp only [Option.bind_some, List.headD_cons, pv_p, toStr_str, ba_beq]
    by_cases h : Lib.itoa a = l
    · subst h; simp
    · have h' : ¬ ba (Lib.itoa a) = ba l := fun e => h (ba_inj.1 e)
      simp [h, h']
  | succ d ih =>
    intro i a hi h7 h0 h1
    have hlt : i < l.length := by omega
    have hp : 10 ^ i ≤ 10 ^ 7 := Nat.pow_le_pow_right (by omega) h7
    have hg : l.getD i 0 = l[i] := by simp [List.getD_eq_getElem?_getD, hlt]
    refine L_of ?_
    rw [e42_11010]
    simp only [condD, condA, ba_size, ba_getD, Int.toNat_natCast, hg]
    rw [if_pos (by omega), if_pos (by omega), if_pos (by omega), List.drop_eq_getElem_cons hlt, numF]
    by_cases e1 : ((l[i]).toNat : Int) < 48
    · simp only [if_pos e1]
    · simp only [if_neg e1]
      rw [if_pos (by omega), if_pos (by omega)]
      by_cases e2 : ((l[i]).toNat : Int) > 57
      · simp only [if_pos e2]
      · simp only [if_neg e2]
        by_cases e3 : 7 ≤ i
        · rw [if_pos (show (i : Int) ≥ 7 by omega), if_pos e3]
        · rw [if_neg (show ¬ (i : Int) ≥ 7 by omega), if_neg e3]
          rw [if_pos (by omega), if_pos (by omega)]
          have w : IntKind.i64.wrap ((i : Int) + 1) = ((i + 1 : Nat) : Int) := by rw [wrap_eq (by omega) (by omega)]; omega
          rw [w, wrapU8 (by omega) (by omega), wrap_eq (x := 10 * a) (by omega) (by omega), wrap_eq (x := ((l[i]).toNat : Int) - 48) (by omega) (by omega), wrap_eq (x := 10 * a + (((l[i]).toNat : Int) - 48)) (by omega) (by omega)]
          exact ih (i + 1) (10 * a + (((l[i]).toNat : Int) - 48)) (by omega) (by omega) (by omega) (by rw [Nat.pow_succ]; omega)
theorem c42 (l : List UInt8) (hl : l.length ≤ maxLen) : run tab X 42 [.p (.str (ba l))] [] = some ([.p (.int .i64 (numV l))], []) :=
  run_of (hX _ rfl) (by
    rw [e42]
    exact c42_loop X hX l hl l.length 0 0 (by omega) (by omega) (by omega) (by omega))
omit hX in
theorem c40_loop (l : List UInt8) (hl : l.length ≤ 1000000000) : ∀ (d i : Nat) (done : List (List UInt8)) (cur : List UInt8), i + d = l.length → done.length + cur.length ≤ i → (32 : UInt8) ∉ cur →
    L tab (run tab X) 40 [] [.lp [1, 1, 0, 1, 0]] (S40_11010 (ba l) 0 (done.length + 1) i ((done ++ [cur]).map fun p => .str (ba p))) = some ([.fresh false [.str] ((done ++ splitC 32 (cur ++ l.drop i)).map fun p => .str (ba p))], []) := by
  intro d
  induction d with
  | zero =>
    intro i done cur hi hb hc
    refine L_of ?_
    rw [e40_11010]
    simp only [condD, ba_size]
    rw [if_neg (by omega), List.drop_eq_nil_of_le (show l.length ≤ i by omega), List.append_nil, splitC_none hc, List.drop_zero, List.take_of_length_le (by simp)]
  | succ d ih =>
    intro i done cur hi hb hc
    have hlt : i < l.length := by omega
    have hg : l.getD i 0 = l[i] := by simp [List.getD_eq_getElem?_getD, hlt]
    have w : IntKind.i64.wrap ((i : Int) + 1) = ((i + 1 : Nat) : Int) := by rw [wrap_eq (by omega) (by omega)]; omega
    have w2 : IntKind.i64.wrap (((done.length + 1 : Nat) : Int) - 1) = ((done.length : Nat) : Int) := by rw [wrap_eq (by omega) (by omega)]; omega
    have hcur : ((((done ++ [cur]).map fun p => PV.str (ba p)).getD (0 + done.length) .nil).cell 0).toStr = ba cur := by
      rw [Nat.zero_add, List.getD_eq_getElem?_getD, List.getElem?_map, List.getElem?_append_right (Nat.le_refl _), Nat.sub_self]; rfl
    rw [List.drop_eq_getElem_cons hlt]
    refine L_of ?_
    rw [e40_11010]
    simp only [condD, condA, condE, ba_size, ba_getD, Int.toNat_natCast, hg, w, w2, hcur, ba_cut l hlt, ba_append]
    rw [if_pos (by omega), if_pos (by omega), if_pos (by omega)]
    by_cases e : ((l[i]).toNat : Int) = 32
    · have e' : l[i] = 32 := by
        apply UInt8.toNat_inj.1
        show (l[i]).toNat = 32
        omega
      refine iteP e ?_
      rw [if_pos (by omega), e', splitC_app _ hc, List.drop_zero, List.take_of_length_le (by simp)]
      have := ih (i + 1) (done ++ [cur]) [] (by omega) (by simp; omega) (by simp)
      simp only [List.length_append, List.length_cons, List.length_nil, List.nil_append] at this
      simp only [List.map_append, List.map_cons, List.map_nil, List.append_assoc, List.cons_append, List.nil_append] at this ⊢
      exact this
    · have e' : l[i] ≠ 32 := fun h => e (by rw [h]; rfl)
      refine iteN e ?_
      rw [if_pos (by omega), if_pos (by omega), if_pos (by omega), if_pos (by omega), if_pos (by omega)]
      refine iteP (by simp; omega) ?_
      rw [if_pos (by omega), if_pos (by omega)]
      have := ih (i + 1) done (cur ++ [l[i]]) (by omega) (by simp; omega) (by simp [hc, Ne.symm e'])
      have hs : (((done ++ [cur]).map fun p => PV.str (ba p)).set (0 + done.length) (.str (ba (cur ++ [l[i]])))) = (done ++ [cur ++ [l[i]]]).map fun p => PV.str (ba p) := by
        rw [Nat.zero_add, List.map_append, List.set_append_right _ _ (by simp)]
        simp
      rw [hs]
      rw [List.append_assoc, List.singleton_append] at this
      exact this
theorem c40 (l : List UInt8) (hl : l.length ≤ 1000000000) : run tab X 40 [.p (.str (ba l))] [] = some ([.fresh false [.str] ((splitC 32 l).map fun p => .str (ba p))], []) :=
  run_of (hX _ rfl) (by
    rw [e40]
    exact c40_loop X l hl l.length 0 [] [] (by omega) (by simp) (by simp))
end
end Go.Skm.Cue
