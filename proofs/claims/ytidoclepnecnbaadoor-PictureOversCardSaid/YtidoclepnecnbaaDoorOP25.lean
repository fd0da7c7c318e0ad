/-
  The law of pictures over others, from the examples; condition: lengths as a law's arguments have.
-/
import Derived.Test.YtidoclepnecnbaaDoorOP24
namespace Go.Skm.Pio
open Go Go.Skm
theorem orK {b : Bool} {s t r : Option (List AV × List Blk)} (e : t = s) (h : b = false → r = s) : cond b t r = s := by
  cases b with
  | true => exact e
  | false => exact h rfl
section
variable (X : Ext) (hX : Mine X)
include hX
theorem c17e (p q : Pi) (hl : p.d.length ≤ maxLen) (h : p = q) {x y : PV} (hx : x = encP p) (hy : y = encP q) : run tab X 17 [.p x, .p y] [] = some ([.p (.bool true)], []) := by
  subst hx hy
  rw [c17 X hX p q hl]; simp [h]
theorem c6_loop (hk : Known X) (a b : Pi) (ha : a.d.length ≤ maxLen) (hb : b.d.length ≤ maxLen) (n : Nat) (hn : n ≤ 100000) (pw ph pa pe pb : Int) : ∀ (k i : Nat) (B : List PV), i + k = n →
    L tab (run tab X) 6 [] [.lp [1, 1, 1, 1, 1, 1, 1, 0, 1, 0]] (S6_1111111010 i a.w a.h a.a a.e a.b (encL a.d) b.w b.h b.a b.e b.b (encL b.d) (encL a.d) (encL b.d) a.w a.h a.a a.e a.b 0 (encL a.d).length b.w b.h b.a b.e b.b 0 (encL b.d).length B pw ph pa pe pb 0 n) = some ([.p (.bool true)], []) := by
  intro k
  induction k with
  | zero =>
    intro i B hi
    unfold Known at hk
    refine L_of ?_
    rw [e6_1111111010]
    refine condNP (show ¬ (i : Int) < (n : Int) by omega) ?_
    rw [List.drop_zero, List.take_length, List.drop_zero, List.take_length]
    exact bindS (c17e X hX a a ha rfl rfl rfl) (condT rfl (bindS (c17e X hX b b hb rfl rfl rfl) (condT rfl (bindS hk rfl))))
  | succ k ih =>
    intro i B hi
    have w1 : IntKind.i64.wrap ((i : Int) + 1) = ((i + 1 : Nat) : Int) := by rw [wrap_eq (by omega) (by omega)]; omega
    refine L_of ?_
    rw [e6_1111111010, w1]
    refine condP (show (i : Int) < (n : Int) by omega) ?_
    refine condT (by simp only [leI, ltI, Bool.and_eq_true, decide_eq_true_eq]; omega) (condT (by simp only [leI, ltI, Bool.and_eq_true, decide_eq_true_eq]; omega) ?_)
    exact ih (i + 1) _ (by omega)
theorem c6_loop1 (hk : Known X) (a b : Pi) (ha : a.d.length ≤ maxLen) (hb : b.d.length ≤ maxLen) (n : Nat) (hn : n ≤ 100000) (pw ph pa pe pb : Int) : ∀ (k i : Nat) (B : List PV), i + k = n →
    L tab (run tab X) 6 [] [.lp [1, 1, 1, 1, 1, 1, 1, 0, 1, 0]] (S6_1111111010_s1 i a.w a.h a.a a.e a.b 0 a.d.length b.w b.h b.a b.e b.b (encL b.d) (encL a.d) (encL a.d) (encL b.d) a.w a.h a.a a.e a.b 0 (encL a.d).length b.w b.h b.a b.e b.b 0 (encL b.d).length B pw ph pa pe pb 0 n) = some ([.p (.bool true)], []) := by
  intro k
  induction k with
  | zero =>
    intro i B hi
    unfold Known at hk
    refine L_of ?_
    rw [e6_1111111010_s1]
    refine condNP (show ¬ (i : Int) < (n : Int) by omega) ?_
    rw [List.drop_zero, List.take_length, List.drop_zero, List.take_length, encL_full]
    exact bindS (c17e X hX a a ha rfl rfl rfl) (condT rfl (bindS (c17e X hX b b hb rfl rfl rfl) (condT rfl (bindS hk rfl))))
  | succ k ih =>
    intro i B hi
    have w1 : IntKind.i64.wrap ((i : Int) + 1) = ((i + 1 : Nat) : Int) := by rw [wrap_eq (by omega) (by omega)]; omega
    refine L_of ?_
    rw [e6_1111111010_s1, w1]
    refine condP (show (i : Int) < (n : Int) by omega) ?_
    refine condT (by simp only [leI, ltI, Bool.and_eq_true, decide_eq_true_eq]; omega) (condT (by simp only [leI, ltI, Bool.and_eq_true, decide_eq_true_eq]; omega) ?_)
    exact ih (i + 1) _ (by omega)
theorem c6_calls (a b : Pi) (ha : a.d.length ≤ 2147483648) (hb : b.d.length ≤ 2147483648) : run tab X 19 [.p (encP a)] [] = some ([encR a], []) ∧ run tab X 20 [.p (etaR (encR a)), .p (etaR (encR b))] [] = some (overR a b) ∧ run tab X 21 [.p (encP a), .p (encP b)] [] = some (overR a b) ∧
    run tab X 17 [.p (etaR (encR (overQ a b).1)), .p (etaR (encR (overQ a b).1))] [] = some ([.p (.bool true)], []) := by
  have hm : (2147483648 : Nat) ≤ maxLen := by decide
  refine ⟨c19 X hX a ha, ?_, c21 X hX a b (Nat.le_trans ha hm) (Nat.le_trans hb hm), ?_⟩
  · rw [etaR_enc, etaR_enc]
    exact c20 X hX a b (Nat.le_trans ha hm) (Nat.le_trans hb hm)
  · rw [etaR_enc]
    have h4 : (4096 : Nat) ≤ maxLen := by decide
    exact c17e X hX _ _ (Nat.le_trans (overQ_len a b) h4) rfl rfl rfl
theorem c6_many (hk : Known X) (a b : Pi) (many : Int) (hm : many ≤ 4100) (hb : b.d.length ≤ 40) (h0 : 0 < a.d.length) : ∀ (k : Nat) (acc : List Dt), (acc.length : Int) + k = many ∨ (many ≤ (acc.length : Int) ∧ k = 0) → acc.length ≤ 4200 →
    L tab (run tab X) 6 [] [.lp [1, 1, 0, 1, 0, 1, 0, 0]] (S6_11010100 many 0 acc.length a.w a.h a.a a.e a.b (encL a.d) b.w b.h b.a b.e b.b (encL b.d) (encL acc)) = some ([.p (.bool true)], []) := by
  have h5 : (2147483648 : Nat) ≤ maxLen := by decide
  intro k
  induction k with
  | zero =>
    intro acc hi hl
    refine L_of ?_
    rw [e6_11010100]
    refine condNP (show ¬ (acc.length : Int) < many by omega) ?_
    rw [List.drop_zero, encL_full]
    obtain ⟨g1, g2, g3, g4⟩ := c6_calls X hX ⟨a.w, a.h, a.a, a.e, a.b, acc⟩ b (show acc.length ≤ 2147483648 by omega) (by omega)
    refine bindS g1 (bindS (c19 X hX b (by omega)) (bindS g2 (bindS g3 (bindS g4 (condF rfl (condF (by simp) ?_))))))
    exact c6_loop1 X hX hk ⟨a.w, a.h, a.a, a.e, a.b, acc⟩ b (show acc.length ≤ maxLen by omega) (by omega) _ (by
      show (encL (overQ ⟨a.w, a.h, a.a, a.e, a.b, acc⟩ b).1.d).length ≤ 100000
      have := overQ_len ⟨a.w, a.h, a.a, a.e, a.b, acc⟩ b
      rw [encL_length]; omega) _ _ _ _ _ _ 0 _ (Nat.zero_add _)
  | succ k ih =>
    intro acc hi hl
    have hd : a.d.getD 0 default = a.d[0] := dt_get h0
    refine L_of ?_
    rw [e6_11010100]
    refine condP (show (acc.length : Int) < many by omega) ?_
    refine condP (p := (0 : Int) < (((encL a.d).length : Nat) : Int)) (by rw [encL_length]; omega) ?_
    refine condP (p := acc.length + 1 ≤ 2147483648) (by omega) ?_
    rw [List.drop_zero, encL_full]
    simp only [encL_x, encL_y, encL_r, encL_a, encL_e, encL_b, hd]
    have := ih (acc ++ [a.d[0]]) (by simp; omega) (by simp; omega)
    rw [← encL_append] at this
    simp only [List.length_append, List.length_cons, List.length_nil] at this
    exact this
theorem law6 (hk : Known X) (a b : Pi) (many : Int) : run tab X 6 [.p (encP a), .p (encP b), .p (.int .i64 many)] [] = some ([.p (.bool true)], []) :=
  run_of (hX _ rfl) (by
    have h5 : (2147483648 : Nat) ≤ maxLen := by decide
    have hk' := hk
    unfold Known at hk'
    rw [e6]
    refine bindS (c13 X hX a) (orK (bindS hk' rfl) fun s1 => bindS (c13 X hX b) (orK (bindS hk' rfl) fun s2 => ?_))
    simp only [List.headD_cons, pv_p, toBool_bool, Bool.not_eq_false', decide_eq_true_eq] at s1 s2
    obtain ⟨g1, g2, g3, g4⟩ := c6_calls X hX a b (by omega) (by omega)
    have fin : ∀ T : Option (List AV × List Blk), T = L tab (run tab X) 6 [] [.lp [1, 1, 1, 1, 1, 1, 1, 0, 1, 0]] (S6_1111111010 ((0 : Nat) : Int) a.w a.h a.a a.e a.b (encL a.d) b.w b.h b.a b.e b.b (encL b.d) (encL a.d) (encL b.d) a.w a.h a.a a.e a.b 0 (encL a.d).length b.w b.h b.a b.e b.b 0 (encL b.d).length (encL (overQ a b).1.d) (overQ a b).1.w (overQ a b).1.h (overQ a b).1.a (overQ a b).1.e (overQ a b).1.b 0 (encL (overQ a b).1.d).length) → T = some ([.p (.bool true)], []) := by
      intro T hT
      rw [hT]
      exact c6_loop X hX hk a b (by omega) (by omega) _ (by
        have := overQ_len a b
        rw [encL_length]; omega) _ _ _ _ _ _ 0 _ (Nat.zero_add _)
    have tail := fun (T : Option (List AV × List Blk)) (hT : T = L tab (run tab X) 6 [] [.lp [1, 1, 1, 1, 1, 1, 1, 0, 1, 0]] (S6_1111111010 ((0 : Nat) : Int) a.w a.h a.a a.e a.b (encL a.d) b.w b.h b.a b.e b.b (encL b.d) (encL a.d) (encL b.d) a.w a.h a.a a.e a.b 0 (encL a.d).length b.w b.h b.a b.e b.b 0 (encL b.d).length (encL (overQ a b).1.d) (overQ a b).1.w (overQ a b).1.h (overQ a b).1.a (overQ a b).1.e (overQ a b).1.b 0 (encL (overQ a b).1.d).length)) => fin T hT
    by_cases m1 : many ≥ 4090
    · refine condP m1 ?_
      by_cases m2 : many ≤ 4100
      · refine condP m2 ?_
        by_cases m3 : 0 < a.d.length
        · refine condP (p := (((encL a.d).length : Nat) : Int) > 0) (by rw [encL_length]; omega) ?_
          refine condP (p := (encL a.d).length ≤ 2147483648) (by rw [encL_length]; omega) ?_
          rw [encL_length]
          exact c6_many X hX hk a b many m2 s2 m3 (many - a.d.length).toNat a.d (by omega) (by omega)
        · refine condNP (p := (((encL a.d).length : Nat) : Int) > 0) (by rw [encL_length]; omega) ?_
          exact bindS g1 (bindS (c19 X hX b (by omega)) (bindS g2 (bindS g3 (bindS g4 (condF rfl (condF (by simp) (tail _ rfl)))))))
      · refine condNP m2 ?_
        exact bindS g1 (bindS (c19 X hX b (by omega)) (bindS g2 (bindS g3 (bindS g4 (condF rfl (condF (by simp) (tail _ rfl)))))))
    · refine condNP m1 ?_
      exact bindS g1 (bindS (c19 X hX b (by omega)) (bindS g2 (bindS g3 (bindS g4 (condF rfl (condF (by simp) (tail _ rfl))))))))
end
end Go.Skm.Pio
