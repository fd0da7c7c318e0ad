/-
  The law Holds of scattered points; condition: the library's answers.
-/
import Derived.Test.YtipkmkmngcjdbaaS15
namespace Go.Skm.Sct
open Go Go.Skm
theorem xx (l : List V3) (t : Nat) : (((encL l).getD (0 + ((t : Nat) : Int).toNat) .nil).cell 0).toInt = (at_ l t).x := by
  rw [Nat.zero_add, Int.toNat_natCast]; exact encL_x l t
theorem yy (l : List V3) (t : Nat) : (((encL l).getD (0 + ((t : Nat) : Int).toNat) .nil).cell 1).toInt = (at_ l t).y := by
  rw [Nat.zero_add, Int.toNat_natCast]; exact encL_y l t
theorem zz (l : List V3) (t : Nat) : (((encL l).getD (0 + ((t : Nat) : Int).toNat) .nil).cell 2).toInt = (at_ l t).z := by
  rw [Nat.zero_add, Int.toNat_natCast]; exact encL_z l t
section
variable (X : Ext) (hX : Mine X)
include hX
theorem l8k (l a : List V3) (hla : a.length ≤ 9) (ha : ∀ v ∈ a, pnt v = true) (many c q : Int) (i : Nat) (hi : i < a.length) (hd : ∀ k, k < i → at_ a i ≠ at_ a k ∧ c ≤ d2 (at_ a i) (at_ a k)) {r : List AV × List Blk}
    (H : L tab (run tab X) 8 [] [.lp [1, 1, 1, 1, 1, 1, 1, 0, 1, 0]] (S8_1111111010 (encL l) many 0 (encL a).length c q (IntKind.i64.wrap ((i : Int) + 1)) (encL a)) = some r) : ∀ (n k : Nat), k + n = i →
    L tab (run tab X) 8 [] [.lp [1, 1, 1, 1, 1, 1, 1, 0, 1, 0], .lp [1, 1, 0, 0, 1, 1, 1, 1, 1, 0]] (S8_1111111010_1100111110 (encL l) many 0 (encL a).length c i k q i (encL a)) = some r := by
  intro n
  induction n with
  | zero =>
    intro k hk
    refine L_of ?_
    rw [e8_1111111010_1100111110]
    exact condNP (by omega) H
  | succ n ih =>
    intro k hk
    have hlt : k < i := by omega
    have w1 : IntKind.i64.wrap ((k : Int) + 1) = ((k + 1 : Nat) : Int) := by rw [wrap_eq (by omega) (by omega)]; omega
    obtain ⟨h1, h2⟩ := hd k hlt
    have c21' := c21 X hX (at_ a i) (at_ a k) (ha _ (at_mem hi)) (ha _ (at_mem (by omega)))
    refine L_of ?_
    rw [e8_1111111010_1100111110, w1]
    simp only [condA, xx, yy, zz, veq]
    refine condP (by omega) (condP (by omega) (condP (by rw [encL_length]; omega) (condP (by omega) (condP (by rw [encL_length]; omega) (condNP h1 (condP (by omega) (condP (by rw [encL_length]; omega) (condP (by omega) (condP (by rw [encL_length]; omega) ?_)))))))))
    refine bindS c21' ?_
    exact condNP (by show ¬ d2 (at_ a i) (at_ a k) < c; omega) (ih (k + 1) (by omega))
theorem l8p (l a : List V3) (hll : l.length ≤ 9) (many c q : Int) (i : Nat) (hi : i < a.length) {r : List AV × List Blk}
    (H : L tab (run tab X) 8 [] [.lp [1, 1, 1, 1, 1, 1, 1, 0, 1, 0], .lp [1, 1, 0, 0, 1, 1, 1, 1, 1, 0]] (S8_1111111010_1100111110 (encL l) many 0 (encL a).length c i 0 q i (encL a)) = some r) : ∀ (n t : Nat) (b : Bool), t + n = l.length → (b = true ∨ ∃ j, t ≤ j ∧ j < l.length ∧ at_ l j = at_ a i) →
    L tab (run tab X) 8 [] [.lp [1, 1, 1, 1, 1, 1, 1, 0, 1, 0], .lp [1, 1, 0, 0, 1, 1, 0, 1, 0]] (S8_1111111010_110011010 (encL l) many 0 (encL a).length c i b q i (encL l) (((encL l).length : Nat) : Int) t (encL a)) = some r := by
  have _ := hX
  intro n
  induction n with
  | zero =>
    intro t b ht hb
    refine L_of ?_
    rw [e8_1111111010_110011010]
    refine condNP (by rw [encL_length]; omega) ?_
    have : b = true := hb.resolve_right fun ⟨j, h1, h2, _⟩ => by omega
    subst this
    exact H
  | succ n ih =>
    intro t b ht hb
    have hlt : t < l.length := by omega
    have w1 : IntKind.i64.wrap ((t : Int) + 1) = ((t + 1 : Nat) : Int) := by rw [wrap_eq (by omega) (by omega)]; omega
    refine L_of ?_
    rw [e8_1111111010_110011010, w1]
    simp only [condA]
    refine condP (by rw [encL_length]; omega) (condP (by omega) (condP (by rw [encL_length]; omega) ?_))
    cases b with
    | true => exact ih (t + 1) true (by omega) (.inl rfl)
    | false =>
      refine condF rfl (condP (by omega) (condP (by rw [encL_length]; omega) ?_))
      have e : ((((encL l).getD ((t : Int)).toNat .nil).cell 0).toInt == (((encL a).getD (0 + ((i : Nat) : Int).toNat) .nil).cell 0).toInt && ((((encL l).getD ((t : Int)).toNat .nil).cell 1).toInt == (((encL a).getD (0 + ((i : Nat) : Int).toNat) .nil).cell 1).toInt && ((((encL l).getD ((t : Int)).toNat .nil).cell 2).toInt == (((encL a).getD (0 + ((i : Nat) : Int).toNat) .nil).cell 2).toInt && true))) = decide (at_ l t = at_ a i) := by
        rw [xx, yy, zz, Int.toNat_natCast, encL_x, encL_y, encL_z]
        exact veq (at_ l t) (at_ a i)
      rw [e]
      refine ih (t + 1) _ (by omega) ?_
      by_cases he : at_ l t = at_ a i
      · exact .inl (decide_eq_true he)
      · right
        obtain ⟨j, h1, h2, h3⟩ := hb.resolve_left (by decide)
        have : j ≠ t := fun e => he (by rw [← e]; exact h3)
        exact ⟨j, by omega, h2, h3⟩
theorem end8 (hN : Known X) (l : List V3) (hl : isSet l = true) (h9 : l.length ≤ 9) (m : Nat) (h1 : 1 ≤ m) (hm : m ≤ l.length) : ((run tab X 22 [.p (.list true kV (encL l)), .p (.int .i64 m), .p (.int .i64 0), .p (.list true kV [])] []).bind fun r1 =>
        bif (leI (cov l ((pk l m).map (at_ l)) 0) (IntKind.i64.wrap ((4 : Int) * (r1.1.headD .undef).pv.toInt))) then
          (run tab X 9 [] []).bind fun r2 =>
          some ([AV.p (.bool ((r2.1.headD .undef).pv.toBool))], ([] : List Blk))
        else
          some ([AV.p (.bool false)], ([] : List Blk))) = some ([.p (.bool true)], []) := by
  obtain ⟨s1, s2⟩ := set_pts hl
  obtain ⟨ch, a1, a2, a3⟩ := cv_spec s2 m 0 [] (by omega) (by simp)
  have hne : ch ≠ [] := by intro e; rw [e] at a1; simp at a1; omega
  have hb := pick_best hl hm h1 (ch := ch) (by simpa using a1) (r := cvV l ch) fun p hp => cvV_all hne hp
  have hlt := cvV_lt s2 a2
  have h0 := cvV_nn l ch
  have c := c22 X hX l (by omega) s2 m 0 [] (by omega) (by omega) (by simp; omega) (by simp)
  rw [a3] at c
  refine bindS c ?_
  have w : IntKind.i64.wrap (4 * cvV l ch) = 4 * cvV l ch := wrap_eq (by unfold far at hlt; omega) (by unfold far at hlt; omega)
  refine condP ?_ (known_end X hN)
  show _ ≤ IntKind.i64.wrap (4 * cvV l ch)
  rw [w]; exact hb
theorem l8 (hN : Known X) (l : List V3) (hl : isSet l = true) (h9 : l.length ≤ 9) (m : Nat) (h1 : 1 ≤ m) (hm : m ≤ l.length) : ∀ (n i : Nat), i + n = m →
    L tab (run tab X) 8 [] [.lp [1, 1, 1, 1, 1, 1, 1, 0, 1, 0]] (S8_1111111010 (encL l) m 0 (encL ((pk l m).map (at_ l))).length (cov l ((pk l m).map (at_ l)) 0) m i (encL ((pk l m).map (at_ l)))) = some ([.p (.bool true)], []) := by
  obtain ⟨s1, s2⟩ := set_pts hl
  have hk := pk_lt l m hm
  have hal : ((pk l m).map (at_ l)).length = m := by simp
  have hat : ∀ {i : Nat}, i < m → at_ ((pk l m).map (at_ l)) i = at_ l ((pk l m).getD i 0) := by
    intro i hi
    have hi' : i < (pk l m).length := by simpa using hi
    rw [at_eq (by omega), List.getD_eq_getElem?_getD, List.getElem?_eq_getElem hi']; simp
  have hap : ∀ v ∈ (pk l m).map (at_ l), pnt v = true := by
    intro v hv
    obtain ⟨j, hj, rfl⟩ := List.mem_map.1 hv
    exact s2 _ (at_mem (hk j hj))
  intro n
  induction n with
  | zero =>
    intro i hi
    have E := end8 X hX hN l hl h9 m h1 hm
    refine L_of ?_
    rw [e8_1111111010]
    refine condNP (by omega) ?_
    by_cases e : m = l.length
    · refine condT (by rw [beq_iff_eq, encL_length]; omega) (condEq (pick_all hl hm e) ?_)
      exact E
    · refine condF (by rw [beq_eq_false_iff_ne, encL_length]; omega) ?_
      exact E
  | succ n ih =>
    intro i hi
    have hlt : i < m := by omega
    have w1 : IntKind.i64.wrap ((i : Int) + 1) = ((i + 1 : Nat) : Int) := by rw [wrap_eq (by omega) (by omega)]; omega
    have h := ih (i + 1) (by omega)
    rw [← w1] at h
    refine L_of ?_
    rw [e8_1111111010]
    refine condP (by omega) ?_
    have hig : (pk l m).getD i 0 ∈ pk l m := by
      have hi' : i < (pk l m).length := by simpa using hlt
      rw [List.getD_eq_getElem?_getD, List.getElem?_eq_getElem hi']; exact List.getElem_mem hi'
    refine l8p X hX l ((pk l m).map (at_ l)) h9 m (cov l ((pk l m).map (at_ l)) 0) m i (by omega) ?_ l.length 0 false (by omega) (.inr ⟨(pk l m).getD i 0, by omega, hk _ hig, (hat hlt).symm⟩)
    refine l8k X hX l ((pk l m).map (at_ l)) (by omega) hap m (cov l ((pk l m).map (at_ l)) 0) m i (by omega) (fun k hki => ?_) h i 0 (by omega)
    rw [hat hlt, hat (show k < m by omega)]
    refine ⟨?_, pick_far hl hm hki hlt⟩
    refine up_ne (set_up hl) ?_ (hk _ hig) ?_
    · have hnd := pk_nodup l m hm
      have hi' : i < (pk l m).length := by simpa using hlt
      have hk' : k < (pk l m).length := by omega
      rw [List.getD_eq_getElem?_getD, List.getD_eq_getElem?_getD, List.getElem?_eq_getElem hi', List.getElem?_eq_getElem hk', Option.getD_some, Option.getD_some]
      intro e
      have := (List.getElem_inj (h₀ := hi') (h₁ := hk') hnd).1 e
      omega
    · have hk' : k < (pk l m).length := by simp; omega
      rw [List.getD_eq_getElem?_getD, List.getElem?_eq_getElem hk']; exact hk _ (List.getElem_mem hk')
theorem law8 (hN : Known X) (hK : Clones X) (l : List V3) (many fewer : Int) : run tab X 8 [.p (.list true kV (encL l)), .p (.int .i64 many), .p (.int .i64 fewer)] [] = some ([.p (.bool true)], []) := by
  refine run_of (hX _ rfl) ?_
  rw [e8]
  by_cases h9 : l.length ≤ 9
  case neg => exact condP (by rw [encL_length]; omega) (known_end X hN)
  refine condNP (by rw [encL_length]; omega) ?_
  refine bindS (c20 X hX l (by omega)) ?_
  cases hs : isSet l with
  | false => exact known_end X hN
  | true =>
  refine condF rfl ?_
  by_cases h1 : many < 1
  · exact condP h1 (known_end X hN)
  refine condNP h1 ?_
  by_cases h2 : many > (l.length : Int)
  · exact condP (by rw [encL_length]; exact h2) (known_end X hN)
  refine condNP (by rw [encL_length]; exact h2) ?_
  by_cases h3 : fewer < 0
  · exact condP h3 (known_end X hN)
  refine condNP h3 ?_
  by_cases h4 : fewer > many
  · exact condP h4 (known_end X hN)
  refine condNP h4 ?_
  obtain ⟨m, rfl⟩ : ∃ m : Nat, many = (m : Int) := ⟨many.toNat, by omega⟩
  obtain ⟨k, rfl⟩ : ∃ k : Nat, fewer = (k : Int) := ⟨fewer.toNat, by omega⟩
  have pm : pickR l (m : Int) = ((pk l m).map (at_ l), 0) := by
    unfold pickR; rw [if_pos ⟨hs, by omega⟩, if_neg (by omega), Int.toNat_natCast]
  have pkk : pickR l (k : Int) = ((pk l k).map (at_ l), 0) := by
    unfold pickR; rw [if_pos ⟨hs, by omega⟩, if_neg (by omega), Int.toNat_natCast]
  have a1 := c10 X hX hK l (by omega) (m : Int)
  have a2 := c10 X hX hK l (by omega) (k : Int)
  rw [pm] at a1
  rw [pkk] at a2
  have tk : ((pk l m).map (at_ l)).take k = (pk l k).map (at_ l) := by rw [← List.map_take, pk_take l k m (by omega)]
  have lm : ((pk l m).map (at_ l)).length = m := by simp
  have lk : ((pk l k).map (at_ l)).length = k := by simp
  obtain ⟨A, hA⟩ : ∃ A, (pk l m).map (at_ l) = A := ⟨_, rfl⟩
  obtain ⟨B, hB⟩ : ∃ B, (pk l k).map (at_ l) = B := ⟨_, rfl⟩
  have F := l8 X hX hN l hs h9 m (by omega) (by omega) m 0 (by omega)
  rw [hA] at a1 tk lm F
  rw [hB] at a2 tk lk
  obtain ⟨s1, s2⟩ := set_pts hs
  have hAp : pts A = true := by
    unfold pts
    rw [Bool.and_eq_true]
    refine ⟨decide_eq_true (by omega), allP_iff.2 fun v hv => ?_⟩
    rw [← hA] at hv
    obtain ⟨j, hj, rfl⟩ := List.mem_map.1 hv
    exact s2 _ (at_mem (pk_lt l m (by omega) j hj))
  have hAne : A ≠ [] := by intro e; rw [e] at lm; simp at lm; omega
  have cv : covR l A = (cov l A 0, 0) := by
    unfold covR; rw [if_pos ⟨hs, hAp⟩, if_neg hAne]
  have a3 := c15 X hX l A (by omega) (by omega)
  rw [cv] at a3
  refine bindS a1 (bindS a2 (condEq rfl (condEq rfl (condEq ?_ (condEq ?_ ?_)))))
  · show (((encL A).length : Nat) : Int) = m
    rw [encL_length, lm]
  · show (((encL B).length : Nat) : Int) = k
    rw [encL_length, lk]
  · simp only [condA]
    refine condP (by omega) (condP ?_ (condP (Int.le_refl _) ?_))
    · show (k : Int) ≤ (((encL A).length : Nat) : Int)
      rw [encL_length, lm]; omega
    · have e1 : ((encL B).drop 0).take (encL B).length = encL B := by rw [List.drop_zero, List.take_of_length_le (Nat.le_refl _)]
      have e2 : ((encL A).drop 0).take (((k : Int) - 0).toNat) = encL B := by
        rw [List.drop_zero, show ((k : Int) - 0).toNat = k by omega, ← tk]
        simp [encL]
      have e3 : ((encL A).drop 0).take (encL A).length = encL A := by rw [List.drop_zero, List.take_of_length_le (Nat.le_refl _)]
      have a4 := c12 X hX B B (by omega)
      rw [decide_eq_true rfl] at a4
      refine bindS (x := ([.p (.bool true)], [])) ?_ (condF rfl (bindS (x := ([.p (.int .i64 (cov l A 0)), .p (.int .i64 0)], [])) ?_ (condEq rfl ?_)))
      · show run tab X 12 [.p (.list true kV (((encL B).drop 0).take (encL B).length)), .p (.list true kV (((encL A).drop 0).take (((k : Int) - 0).toNat)))] [] = _
        rw [e1, e2]; exact a4
      · show run tab X 15 [.p (.list true kV (encL l)), .p (.list true kV (((encL A).drop 0).take (encL A).length))] [] = _
        rw [e3]; exact a3
      · have el : (((encL A).length : Nat) : Int) = m := by rw [encL_length, lm]
        show L tab (run tab X) 8 [] [.lp [1, 1, 1, 1, 1, 1, 1, 0, 1, 0]] (S8_1111111010 (encL l) m 0 (encL A).length (cov l A 0) (((encL A).length : Nat) : Int) 0 (encL A)) = _
        rw [el]
        exact F
end
end Go.Skm.Sct
