/-
  Reversing, compacting and joining lists of vectors; condition: lists shorter than 2 to the 31st.
-/
import Derived.Test.YthdegeidcjdkeaaCt5
namespace Go.Skm.Hull
open Go Go.Skm

/-- Neighbours that are equal, once. -/
def comp : List V3 → List V3
  | a :: b :: r => if a = b then comp (b :: r) else a :: comp (b :: r)
  | l => l
theorem comp_len : ∀ l : List V3, (comp l).length ≤ l.length
  | [] => Nat.le_refl _
  | [_] => Nat.le_refl _
  | a :: b :: r => by
    unfold comp
    split
    · exact Nat.le_trans (comp_len (b :: r)) (Nat.le_succ _)
    · simp only [List.length_cons]
      exact Nat.succ_le_succ (comp_len (b :: r))
theorem comp_mem : ∀ (l : List V3) (v : V3), v ∈ comp l ↔ v ∈ l
  | [], v => Iff.rfl
  | [_], v => Iff.rfl
  | a :: b :: r, v => by
    unfold comp
    split
    · rename_i h
      subst h
      rw [comp_mem (a :: r) v]
      simp
    · rw [List.mem_cons, comp_mem (b :: r) v, List.mem_cons (a := v) (b := a)]
theorem comp_ne {l : List V3} (h : l ≠ []) : comp l ≠ [] := by
  cases l with
  | nil => exact absurd rfl h
  | cons a r =>
    intro e
    have := (comp_mem (a :: r) a).2 (by simp)
    rw [e] at this
    simp at this
theorem comp_snoc (y : V3) : ∀ (l : List V3) (x : V3), comp ((l ++ [x]) ++ [y]) = if x = y then comp (l ++ [x]) else comp (l ++ [x]) ++ [y]
  | [], x => by
    simp only [List.nil_append, List.cons_append, comp]
    by_cases h : x = y
    · subst h; simp
    · simp [h]
  | [a], x => by
    have ih := comp_snoc y [] x
    simp only [List.nil_append, List.cons_append] at ih ⊢
    rw [comp, ih, comp]
    by_cases h : a = x <;> by_cases h2 : x = y <;> simp [h, h2]
  | a :: b :: r, x => by
    have ih := comp_snoc y (b :: r) x
    simp only [List.cons_append] at ih ⊢
    rw [comp, ih, comp]
    by_cases h : a = b <;> by_cases h2 : x = y <;> simp [h, h2]

theorem comp_take1 (s : List V3) : comp (s.take 1) = s.take 1 := by
  cases s <;> rfl

section
variable (X : Ext) (hX : ∀ f, f ≠ 30 → X f = none)
include hX

theorem c34 (t u : List V3) (ht : t.length < 2147483648) : run tab X 34 [.slice 100000 3 0 t.length] [.arr true kV (encL (t ++ u))] = some ([], [.arr true kV (encL (t.reverse ++ u))]) := by
  refine run_of (hX _ (by decide)) ?_
  rw [e34]
  have e0 : IntKind.i64.wrap ((t.length : Int) - 1) = (t.length : Int) - 1 - (0 : Nat) := by rw [wrap_eq (by omega) (by omega)]; omega
  rw [e0]
  have key : ∀ k i : Nat, i + k = t.length → ∀ ob : List V3, ob.length = (t ++ u).length → (∀ p, ob.getD p default = if p < t.length then (if p < i ∨ t.length < p + 1 + i then t.getD (t.length - 1 - p) default else t.getD p default) else (t ++ u).getD p default) →
      L tab (run tab X) 34 [.arr true kV (encL (t ++ u))] [[1, 0]] (S34_10 0 t.length (i : Int) ((t.length : Int) - 1 - i) (encL ob)) = some ([], [.arr true kV (encL (t.reverse ++ u))]) := by
    intro k
    induction k with
    | zero =>
      intro i hi ob hl hg
      refine L_of ?_
      rw [e34_10]
      simp only [condD]
      rw [if_neg (by omega)]
      congr 5
      apply List.ext_getElem?
      intro p
      by_cases hp : p < ob.length
      · have h1 := hg p
        rw [List.getD_eq_getElem?_getD, List.getElem?_eq_getElem hp] at h1
        rw [List.getElem?_eq_getElem hp]
        simp only [Option.getD_some] at h1
        rw [h1]
        by_cases h2 : p < t.length
        · rw [if_pos h2, if_pos (by omega), List.getElem?_append_left (by simpa using h2), List.getElem?_reverse h2, List.getD_eq_getElem?_getD, List.getElem?_eq_getElem (by omega)]; rfl
        · rw [if_neg h2, List.getD_eq_getElem?_getD, List.getElem?_append_right (by omega), List.getElem?_append_right (by simp; omega), List.length_reverse]
          have : p - t.length < u.length := by simp at hl; omega
          rw [List.getElem?_eq_getElem this]; rfl
      · rw [List.getElem?_eq_none (by omega), List.getElem?_eq_none (by simp at hl ⊢; omega)]
    | succ k ih =>
      intro i hi ob hl hg
      refine L_of ?_
      rw [e34_10]
      simp only [condD, condA]
      by_cases hij : (i : Int) < (t.length : Int) - 1 - i
      · have ej : ((t.length : Int) - 1 - i).toNat = t.length - 1 - i := by omega
        have w1 : IntKind.i64.wrap ((t.length : Int) - 1 - i - 1) = (t.length : Int) - 1 - ((i + 1 : Nat) : Int) := by rw [wrap_eq (by omega) (by omega)]; omega
        rw [if_pos hij]
        simp only [if_pos (show (0 : Int) ≤ (t.length : Int) - 1 - i by omega), if_pos (show (t.length : Int) - 1 - i < (t.length : Int) by omega), if_pos (show (0 : Int) ≤ (i : Int) by omega), if_pos (show (i : Int) < (t.length : Int) by omega)]
        rw [ej, w1, wrap_nat (by omega)]
        simp only [Int.toNat_natCast, Nat.zero_add, encL_x, encL_y, encL_z, encV_mk]
        have e1 : ∀ v : V3, (⟨v.x, v.y, v.z⟩ : V3) = v := fun v => rfl
        rw [e1, e1, encL_set, encL_set]
        refine ih (i + 1) (by omega) _ (by simpa using hl) fun p => ?_
        have hli : i < ob.length := by simp at hl; omega
        have hlj : t.length - 1 - i < ob.length := by simp at hl; omega
        rw [List.getD_eq_getElem?_getD, List.getElem?_set]
        by_cases hpj : t.length - 1 - i = p
        · rw [if_pos hpj, if_pos (by simpa using hlj)]
          simp only [Option.getD_some]
          rw [hg i, if_pos (by omega), if_neg (by omega), if_pos (by omega), if_pos (by omega)]
          congr 1; omega
        · rw [if_neg hpj, List.getElem?_set]
          by_cases hpi : i = p
          · rw [if_pos hpi, if_pos hli]
            simp only [Option.getD_some]
            rw [hg (t.length - 1 - i), if_pos (by omega), if_neg (by omega), if_pos (by omega), if_pos (by omega)]
            congr 1; omega
          · rw [if_neg hpi, ← List.getD_eq_getElem?_getD, hg p]
            by_cases hp : p < t.length
            · rw [if_pos hp, if_pos hp]
              by_cases hq : p < i ∨ t.length < p + 1 + i
              · rw [if_pos hq, if_pos (by omega)]
              · rw [if_neg hq, if_neg (by omega)]
            · rw [if_neg hp, if_neg hp]
      · rw [if_neg hij]
        congr 5
        apply List.ext_getElem?
        intro p
        by_cases hp : p < ob.length
        · have h1 := hg p
          rw [List.getD_eq_getElem?_getD, List.getElem?_eq_getElem hp] at h1
          rw [List.getElem?_eq_getElem hp]
          simp only [Option.getD_some] at h1
          rw [h1]
          by_cases h2 : p < t.length
          · rw [if_pos h2, List.getElem?_append_left (by simpa using h2), List.getElem?_reverse h2]
            by_cases h3 : p < i ∨ t.length < p + 1 + i
            · rw [if_pos h3, List.getD_eq_getElem?_getD, List.getElem?_eq_getElem (by omega)]; rfl
            · rw [if_neg h3]
              have e : t.length - 1 - p = p := by omega
              rw [e, List.getD_eq_getElem?_getD, List.getElem?_eq_getElem h2]; rfl
          · rw [if_neg h2, List.getD_eq_getElem?_getD, List.getElem?_append_right (by omega), List.getElem?_append_right (by simp; omega), List.length_reverse]
            have : p - t.length < u.length := by simp at hl; omega
            rw [List.getElem?_eq_getElem this]; rfl
        · rw [List.getElem?_eq_none (by omega), List.getElem?_eq_none (by simp at hl ⊢; omega)]
  have := key t.length 0 (by omega) (t ++ u) rfl (fun p => by
    by_cases hp : p < t.length
    · rw [if_pos hp, if_neg (by omega), List.getD_eq_getElem?_getD, List.getElem?_append_left hp, ← List.getD_eq_getElem?_getD]
    · rw [if_neg hp])
  simpa using this

omit hX in
theorem comp_take {s : List V3} {q : Nat} (h1 : 1 ≤ q) (h2 : q < s.length) : comp (s.take (q + 1)) = if s.getD (q - 1) default = s.getD q default then comp (s.take q) else comp (s.take q) ++ [s.getD q default] := by
  have e1 : s.take q = s.take (q - 1) ++ [s.getD (q - 1) default] := by
    have := take_getD (l := s) (i := q - 1) (by omega)
    rwa [show q - 1 + 1 = q from by omega] at this
  rw [take_getD h2, e1, comp_snoc]

theorem c32 (s : List V3) (hs : s.length < 2147483648) : ∃ u, run tab X 32 [.slice 100000 3 0 s.length] [.arr true kV (encL s)] = some ([.slice 100000 3 0 (comp s).length], [.arr true kV (encL (comp s ++ u))]) := by
  by_cases h2 : s.length < 2
  · refine ⟨[], run_of (hX _ (by decide)) ?_⟩
    have hc : comp s = s := by
      match s, h2 with
      | [], _ => rfl
      | [_], _ => rfl
    rw [e32]
    simp only [condD]
    rw [if_pos (by omega), hc, List.append_nil]
  · -- the second loop
    have inner : ∀ m k0 k q : Nat, q + m = s.length → 1 ≤ k → k ≤ q - 1 → 1 ≤ k0 → k0 < q → ∀ ob : List V3, ob.length = s.length → ob.take k = comp (s.take q) → (∀ p, q - 1 ≤ p → ob.getD p default = s.getD p default) →
        ∃ u, L tab (run tab X) 32 [.arr true kV (encL s)] [[1, 1, 0, 1, 0], [1, 0, 0, 1, 0, 1, 0, 1, 0]] (S32_11010_100101010 0 s.length (k : Int) k0 (s.length - k0) ((q - k0 : Nat) : Int) (encL ob)) = some ([.slice 100000 3 0 (comp s).length], [.arr true kV (encL (comp s ++ u))]) := by
      intro m
      induction m with
      | zero =>
        intro k0 k q hq hk1 hk2 hk0 hkq ob hl ht hg
        have hlen : (comp s).length = k := by
          have := congrArg List.length ht
          rw [List.take_of_length_le (l := s) (by omega)] at this
          rw [← this]
          simp; omega
        refine ⟨List.replicate (s.length - k) ⟨0, 0, 0⟩ ++ ob.drop (k + (s.length - k)), L_of ?_⟩
        rw [e32_11010_100101010]
        simp only [condD, condA]
        have hkn : (k : Int) ≤ (s.length : Int) := by omega
        rw [if_neg (by omega)]
        simp only [if_pos (show (0 : Int) ≤ (k : Int) by omega), if_pos hkn, Int.le_refl, if_true, Nat.zero_add, Int.toNat_natCast, Int.sub_zero, Nat.add_zero]
        rw [hlen]
        have e1 : ((s.length : Int) - (k : Int)).toNat = s.length - k := by omega
        rw [e1, encV_mk, encL_replicate]
        unfold patch
        rw [encL_take, encL_length, List.length_replicate, encL_drop, encL_append, encL_append, ht, List.take_of_length_le (l := s) (by omega), List.append_assoc]
      | succ m ih =>
        intro k0 k q hq hk1 hk2 hk0 hkq ob hl ht hg
        have w1 : IntKind.i64.wrap (((q - k0 : Nat) : Int) - 1) = ((q - k0 - 1 : Nat) : Int) := wrap_pred (by omega) (by omega)
        have w2 : IntKind.i64.wrap (((q - k0 : Nat) : Int) + 1) = ((q + 1 - k0 : Nat) : Int) := by rw [wrap_nat (by omega)]; congr 1; omega
        have hstep := comp_take (s := s) (q := q) (by omega) (by omega)
        have g1 := hg q (by omega)
        have g2 := hg (q - 1) (by omega)
        have fin : ∀ (k' : Nat) (ob' : List V3), 1 ≤ k' → k' ≤ q → ob'.length = s.length → ob'.take k' = comp (s.take (q + 1)) → (∀ p, q ≤ p → ob'.getD p default = s.getD p default) → ∃ u, L tab (run tab X) 32 [.arr true kV (encL s)] [[1, 1, 0, 1, 0], [1, 0, 0, 1, 0, 1, 0, 1, 0]] (S32_11010_100101010 0 s.length (k' : Int) k0 (s.length - k0) ((q + 1 - k0 : Nat) : Int) (encL ob')) = some ([.slice 100000 3 0 (comp s).length], [.arr true kV (encL (comp s ++ u))]) :=
          fun k' ob' a1 a2 a3 a4 a5 => ih k0 k' (q + 1) (by omega) a1 (by omega) hk0 (by omega) ob' a3 a4 (fun p hp => a5 p (by omega))
        have i1 : k0 + (q - k0) = q := by omega
        have i2 : k0 + (q - k0 - 1) = q - 1 := by omega
        by_cases hne : s.getD (q - 1) default = s.getD q default
        · rw [if_pos hne] at hstep
          obtain ⟨u, hu⟩ := fin k ob hk1 (by omega) hl (by rw [hstep]; exact ht) (fun p hp => hg p (by omega))
          refine ⟨u, L_of ?_⟩
          rw [e32_11010_100101010]
          simp only [condD, condA, condO, w1, w2, encL_x, encL_y, encL_z, Int.toNat_natCast, eqV, i1, i2, g1, g2]
          rw [if_pos (by omega), if_pos (by omega), if_pos (by omega), if_pos (by omega), if_pos (by omega), if_pos hne.symm]
          exact hu
        · rw [if_neg hne] at hstep
          obtain ⟨u, hu⟩ := fin (k + 1) (ob.set k (s.getD q default)) (by omega) (by omega) (by simpa using hl) (by
            rw [hstep, ← ht, List.take_add_one, List.take_set_of_le (Nat.le_refl k), List.getElem?_set_self (by omega)]; rfl) (fun p hp => by
            rw [List.getD_eq_getElem?_getD, List.getElem?_set_ne (by omega), ← List.getD_eq_getElem?_getD]; exact hg p (by omega))
          refine ⟨u, L_of ?_⟩
          rw [e32_11010_100101010]
          simp only [condD, condA, condO, w1, w2, encL_x, encL_y, encL_z, Int.toNat_natCast, eqV, i1, i2, g1, g2, Nat.zero_add, encV_mk, encL_set]
          rw [if_pos (by omega), if_pos (by omega), if_pos (by omega), if_pos (by omega), if_pos (by omega), if_neg (fun e => hne e.symm), if_pos (by omega), if_pos (by omega), if_pos (by omega), if_pos (by omega), wrap_nat (by omega)]
          exact hu
    have outer : ∀ m k : Nat, k + m = s.length → 1 ≤ k → comp (s.take k) = s.take k → ∃ u, L tab (run tab X) 32 [.arr true kV (encL s)] [[1, 1, 0, 1, 0]] (S32_11010 0 s.length (k : Int) (encL s)) = some ([.slice 100000 3 0 (comp s).length], [.arr true kV (encL (comp s ++ u))]) := by
      intro m
      induction m with
      | zero =>
        intro k hk hk1 hc
        rw [List.take_of_length_le (by omega)] at hc
        refine ⟨[], L_of ?_⟩
        rw [e32_11010]
        simp only [condD]
        rw [if_neg (by omega), hc, List.append_nil]
      | succ m ih =>
        intro k hk hk1 hc
        have w1 : IntKind.i64.wrap ((k : Int) - 1) = ((k - 1 : Nat) : Int) := wrap_pred (by omega) (by omega)
        have hstep := comp_take (s := s) (q := k) (by omega) (by omega)
        by_cases hne : s.getD (k - 1) default = s.getD k default
        · rw [if_pos hne, hc] at hstep
          obtain ⟨u, hu⟩ := inner m k k (k + 1) (by omega) hk1 (by omega) hk1 (by omega) s rfl hstep.symm (fun p _ => rfl)
          refine ⟨u, L_of ?_⟩
          rw [e32_11010]
          simp only [condD, condA, w1, encL_x, encL_y, encL_z, Int.toNat_natCast, eqV, Nat.zero_add]
          have e1 : ((s.length : Int) - (k : Int)).toNat = s.length - k := by omega
          have e2 : ((k + 1 - k : Nat) : Int) = 1 := by omega
          rw [e2] at hu
          rw [if_pos (by omega), if_pos (by omega), if_pos (by omega), if_pos (by omega), if_pos (by omega), if_pos hne.symm, if_pos (by omega), if_pos (by omega), if_pos (by omega), if_pos (by omega), e1]
          exact hu
        · rw [if_neg hne, hc, ← take_getD (by omega)] at hstep
          obtain ⟨u, hu⟩ := ih (k + 1) (by omega) (by omega) hstep
          refine ⟨u, L_of ?_⟩
          rw [e32_11010]
          simp only [condD, condA, w1, encL_x, encL_y, encL_z, Int.toNat_natCast, eqV, Nat.zero_add]
          rw [if_pos (by omega), if_pos (by omega), if_pos (by omega), if_pos (by omega), if_pos (by omega), if_neg (fun e => hne e.symm), wrap_nat (by omega)]
          exact hu
    obtain ⟨u, hu⟩ := outer (s.length - 1) 1 (by omega) (Nat.le_refl _) (comp_take1 s)
    refine ⟨u, run_of (hX _ (by decide)) ?_⟩
    rw [e32]
    simp only [condD]
    rw [if_neg (by omega)]
    exact hu

/-- Two lists, joined. -/
theorem c62 (n : Nat) (hn : n < 2147483648) : run tab X 62 [.p .nil, .p (.int .i64 (n : Int))] [] = some ([.fresh true kV []], []) := by
  refine run_of (hX _ (by decide)) ?_
  rw [e62]
  have e : IntKind.i64.wrap ((n : Int) - 0) = (n : Int) := by rw [wrap_eq (by omega) (by omega)]; omega
  simp only [e, condD, condA, Int.toNat_natCast]
  rw [if_neg (by omega)]
  by_cases h : (n : Int) > 0
  · rw [if_pos h, if_pos (by omega), if_pos (by omega), if_pos (by omega), if_pos (by omega), if_pos (by omega)]
    simp
  · rw [if_neg h]
theorem c48 (a b : List V3) (h : a.length + b.length < 2147483648) : run tab X 48 [.p (.list false [.slice true kV] [.list true kV (encL a), .list true kV (encL b)])] [] = some ([.fresh true kV (encL (a ++ b))], []) := by
  refine run_of (hX _ (by decide)) ?_
  rw [e48]
  have w1 : IntKind.i64.wrap (0 + 1) = 1 := by decide
  have w2 : IntKind.i64.wrap (1 + 1) = 2 := by decide
  have wa : IntKind.i64.wrap (0 + (a.length : Int)) = (a.length : Int) := by rw [wrap_eq (by omega) (by omega)]; omega
  have wb : IntKind.i64.wrap ((a.length : Int) + (b.length : Int)) = ((a.length + b.length : Nat) : Int) := by rw [wrap_eq (by omega) (by omega)]; omega
  refine L_of ?_
  rw [e48_11010]
  simp only [condD, condA, List.length_cons, List.length_nil, w1]
  simp only [show ((0 : Int) < ((0 + 1 + 1 : Nat) : Int)) by decide, Int.le_refl, if_true, Int.toNat_zero, List.getD_cons_zero, cell_list, toList_list, encL_length, wa]
  rw [if_neg (by omega)]
  refine L_of ?_
  rw [e48_11010]
  simp only [condD, condA, List.length_cons, List.length_nil, w2]
  simp only [show ((1 : Int) < ((0 + 1 + 1 : Nat) : Int)) by decide, show (0 : Int) ≤ 1 by decide, if_true, show (1 : Int).toNat = 1 from rfl, List.getD_cons_succ, List.getD_cons_zero, cell_list, toList_list, encL_length, wb]
  rw [if_neg (by omega)]
  refine L_of ?_
  rw [e48_11010]
  simp only [condD, condA, List.length_cons, List.length_nil]
  rw [if_neg (by decide), c62 X hX _ (by omega)]
  simp only [Option.bind_some, List.headD_cons, freshList_fresh, List.length_nil]
  refine L_of ?_
  rw [e48_1111010]
  simp only [condD, condA, List.length_cons, List.length_nil, w1]
  simp only [show ((0 : Int) < ((0 + 1 + 1 : Nat) : Int)) by decide, Int.le_refl, if_true, Int.toNat_zero, List.getD_cons_zero, cell_list, toList_list, encL_length, Nat.zero_add, List.drop_nil, List.take_nil, List.nil_append]
  rw [if_pos (by omega)]
  refine L_of ?_
  rw [e48_1111010]
  simp only [condD, condA, List.length_cons, List.length_nil, w2]
  simp only [show ((1 : Int) < ((0 + 1 + 1 : Nat) : Int)) by decide, show (0 : Int) ≤ 1 by decide, if_true, show (1 : Int).toNat = 1 from rfl, List.getD_cons_succ, List.getD_cons_zero, cell_list, toList_list, encL_length, List.drop_zero, encL_take]
  rw [if_pos (by omega)]
  refine L_of ?_
  rw [e48_1111010]
  simp only [condD, condA, List.length_cons, List.length_nil]
  rw [if_neg (by decide), List.take_of_length_le (l := a) (Nat.le_refl _), encL_append, List.drop_zero, encL_take, List.take_of_length_le (by simp)]
end
end Go.Skm.Hull
