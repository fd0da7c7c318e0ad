/-
  The names of the groups by the document; condition: names that fit.
-/
import Derived.Test.YtdhkklplijleiaaGreatDoorC17
namespace Go.Skm.Cue
open Go Go.Skm
section
variable (X : Ext) (hX : Mine X)
theorem put_at (out : List By) (g : By) {at_ : Nat} (h : at_ ≤ out.length) :
    List.take (at_ + 1) (List.take at_ (List.take at_ (encB out)) ++ [PV.str (ba g)]) ++ List.take (out.length - at_) (List.drop at_ (encB out)) = encB (out.take at_ ++ g :: out.drop at_) := by
  have e1 : ([PV.str (ba g)] : List PV) = encB [g] := rfl
  rw [List.take_take, Nat.min_self, e1, encB_take, encB_append, encB_take, encB_drop, encB_take, encB_append]
  rw [List.take_of_length_le (show (out.take at_ ++ [g]).length ≤ at_ + 1 by simp; omega), List.take_of_length_le (show (out.drop at_).length ≤ out.length - at_ by simp), List.append_assoc, List.singleton_append]
theorem c26_inner (l : List Cu) (hl : l.length ≤ 100000) {i : Nat} (hi : i < l.length) (out : List By) (ho : out.length ≤ 100000) {x : List AV × List Blk}
    (hn : L tab (run tab X) 26 [] [.lp [1, 1, 1, 0, 1, 0]] (S26_111010 (encU l) 0 (insN (l.getD i default).g out).length (i + 1 : Nat) (encB (insN (l.getD i default).g out))) = some x) : ∀ (n at_ : Nat), at_ + n = out.length → (∀ j, j < at_ → bytesLt (out.getD j []) (l.getD i default).g = true) →
    L tab (run tab X) 26 [] [.lp [1, 1, 1, 0, 1, 0], .lp [1, 0, 0, 1, 0, 0]] (S26_111010_100100 (encU l) 0 out.length i at_ (encB out)) = some x := by
  have w : IntKind.i64.wrap ((i : Int) + 1) = ((i + 1 : Nat) : Int) := by rw [wrap_eq (by omega) (by omega)]; omega
  intro n
  induction n with
  | zero =>
    intro at_ ha hlo
    have ha' : at_ = out.length := by omega
    have e := insN_split (l.getD i default).g (l := out) (n := at_) (by omega) hlo
    rw [List.drop_eq_nil_of_le (show out.length ≤ at_ by omega), insN] at e
    have p := put_at out (l.getD i default).g (at_ := at_) (by omega)
    rw [List.drop_eq_nil_of_le (show out.length ≤ at_ by omega), ← e] at p
    have hlen : (insN (l.getD i default).g out).length = at_ + 1 + (out.length - at_) := by rw [e]; simp; omega
    rw [hlen, ← p] at hn
    refine L_of ?_
    rw [e26_111010_100100]
    simp only [condD, condA, condE, encU_length, Int.toNat_natCast, encU_g, w, List.drop_zero, Nat.zero_add, Int.sub_zero, show (((out.length : Nat) : Int) - (at_ : Int)).toNat = out.length - at_ by omega]
    rw [if_neg (by omega), if_pos (by omega)]
    repeat rw [if_pos (by omega)]
    exact hn
  | succ n ih =>
    intro at_ ha hlo
    have w1 : IntKind.i64.wrap ((at_ : Int) + 1) = ((at_ + 1 : Nat) : Int) := by rw [wrap_eq (by omega) (by omega)]; omega
    have hat : at_ < out.length := by omega
    have hd : out.drop at_ = out.getD at_ [] :: out.drop (at_ + 1) := by
      rw [List.drop_eq_getElem_cons hat]; simp [List.getD_eq_getElem?_getD, hat]
    have e := insN_split (l.getD i default).g (l := out) (n := at_) (by omega) hlo
    have p := put_at out (l.getD i default).g (at_ := at_) (by omega)
    refine L_of ?_
    rw [e26_111010_100100]
    simp only [condD, condA, condE, condO, encU_length, Int.toNat_natCast, encU_g, encB_s, ba_toList, w, w1, List.drop_zero, Nat.zero_add, Int.sub_zero, show (((out.length : Nat) : Int) - (at_ : Int)).toNat = out.length - at_ by omega]
    rw [if_pos (by omega), if_pos (by omega), if_pos (by omega), if_pos (by omega), if_pos (by omega)]
    cases hb : bytesLt (out.getD at_ []) (l.getD i default).g with
    | true =>
      exact ih (at_ + 1) (by omega) (fun j hj => by
        by_cases ej : j = at_
        · rw [ej]; exact hb
        · exact hlo j (by omega))
    | false =>
      simp only [cond_false]
      rw [if_neg (by omega)]
      repeat rw [if_pos (by omega)]
      rw [hd, insN, hb] at e
      simp only [Bool.false_eq_true, if_false] at e
      by_cases hg : out.getD at_ [] = (l.getD i default).g
      · rw [if_pos hg, ← hd, List.take_append_drop] at e
        rw [e] at hn
        refine condT (by rw [hg]; simp) ?_
        exact hn
      · rw [if_neg hg, ← hd] at e
        have hlen : (insN (l.getD i default).g out).length = at_ + 1 + (out.length - at_) := by rw [e]; simp; omega
        rw [← e] at p
        rw [hlen, ← p] at hn
        refine condF (by simpa using hg) ?_
        repeat rw [if_pos (by omega)]
        exact hn
theorem c26_outer (l : List Cu) (hl : l.length ≤ 40000) : ∀ (n i : Nat) (out : List By), i + n = l.length → out.length ≤ i →
    L tab (run tab X) 26 [] [.lp [1, 1, 1, 0, 1, 0]] (S26_111010 (encU l) 0 out.length i (encB out)) = some (namesR (refG (l.drop i) out, 0)) := by
  intro n
  induction n with
  | zero =>
    intro i out hi ho
    refine L_of ?_
    rw [e26_111010]
    simp only [condD, encU_length, List.drop_zero]
    rw [if_neg (by omega), List.drop_eq_nil_of_le (show l.length ≤ i by omega), List.take_of_length_le (by simp)]
    rfl
  | succ n ih =>
    intro i out hi ho
    have hlt : i < l.length := by omega
    have hd : l.drop i = l.getD i default :: l.drop (i + 1) := by
      rw [List.drop_eq_getElem_cons hlt]; simp [List.getD_eq_getElem?_getD, hlt]
    have ih' := ih (i + 1) (insN (l.getD i default).g out) (by omega) (by have := insN_len (l.getD i default).g out; omega)
    rw [hd, refG]
    refine L_of ?_
    rw [e26_111010]
    simp only [condD, encU_length]
    rw [if_pos (by omega)]
    exact c26_inner X l (by omega) hlt out (by omega) ih' out.length 0 (by omega) (fun j hj => by omega)
include hX
theorem c26 (l : List Cu) (hn : Nam l) (hl : l.length ≤ 40000) : run tab X 26 [.p (.list true kC (encU l))] [] = some (namesR (grpR l)) := by
  have hm : maxLen = 9223372036854775807 := by decide
  refine run_of (hX _ rfl) ?_
  rw [e26, c14 X hX l hn (by omega)]
  simp only [Option.bind_some, List.headD_cons, pv_p, toBool_bool, condO]
  unfold grpR
  cases hv : validC l with
  | false => rfl
  | true =>
    have := c26_outer X l hl l.length 0 [] (by omega) (by simp)
    rw [List.drop_zero] at this
    exact this
end
end Go.Skm.Cue
