/-
  The document's list with a cue more, and the program's list with one less; condition: the library's answers, names that fit.
-/
import Derived.Test.YtdhkklplijleiaaGreatDoorC11
namespace Go.Skm.Cue
open Go Go.Skm
def putF (c : Cu) : List Cu → Bool → Option (List Cu)
  | [], done => some (bif done then [] else [c])
  | x :: r, done => bif sam x c then none else bif !done && bef c x then (putF c r true).map (fun o => c :: x :: o) else (putF c r done).map (fun o => x :: o)
theorem putF_done (c : Cu) : ∀ l : List Cu, putF c l true = if has l c then none else some l
  | [] => rfl
  | x :: r => by
    unfold putF has
    rw [putF_done c r]
    cases hs : sam x c
    · simp only [cond_false, Bool.not_true, Bool.false_and, List.any_cons, hs, Bool.false_or, has]
      by_cases h : (r.any fun x => sam x c) = true <;> simp [h]
    · simp [hs]
theorem putF_up (c : Cu) : ∀ {l : List Cu}, Up l → putF c l false = if has l c then none else some (ins c l)
  | [], _ => rfl
  | x :: r, hu => by
    obtain ⟨u1, u2⟩ := up_cons hu
    unfold putF
    rw [putF_done c r, putF_up c u1]
    cases hs : sam x c
    · have hh : has (x :: r) c = has r c := by simp [has, hs]
      rw [hh]
      simp only [cond_false, Bool.not_false, Bool.true_and]
      cases hb : bef c x
      · have hx : bef x c = true := by
          rcases bef_tri x c with h | h | h
          · exact h
          · rw [h] at hs; cases hs
          · rw [h] at hb; cases hb
        rw [ins, if_pos hx]
        cases has r c <;> rfl
      · have hr : has r c = false := by
          unfold has
          rw [List.any_eq_false]
          intro y hy
          have := bef_not_sam (bef_trans hb (u2 y hy))
          rw [sam_comm] at this
          simp [this]
        have hx := bef_asymm hb
        simp [ins, hx, hr]
    · have hh : has (x :: r) c = true := by simp [has, hs]
      rw [hh]; rfl
def putR : Option (List Cu) → List AV × List Blk
  | none => ([.fresh true kC [], .p (.bool false)], [])
  | some o => ([.fresh true kC (encU o), .p (.bool true)], [])
section
variable (X : Ext) (hX : Mine X)
include hX
set_option maxHeartbeats 1000000 in
theorem c56_loop (l : List Cu) (hl : l.length ≤ 100000) (c : Cu) : ∀ (n i : Nat) (out : List Cu) (done : Bool), i + n = l.length → out.length ≤ i + done.toNat →
    L tab (run tab X) 56 [] [.lp [1, 1, 1, 0, 1, 0]] (S56_111010 (encU l) 0 out.length done i c.t c.f (ba c.g) c.r c.e c.b (encU out)) = some (putR ((putF c (l.drop i) done).map fun r => out ++ r)) := by
  intro n
  induction n with
  | zero =>
    intro i out done hi ho
    have hdn1 : done.toNat ≤ 1 := by cases done <;> decide
    refine L_of ?_
    rw [e56_111010]
    simp only [condD, condO, encU_length, List.drop_zero]
    rw [if_neg (by omega), List.drop_eq_nil_of_le (show l.length ≤ i by omega), putF]
    have e1 : ([.agg [.int .i64 c.t, .int .i64 c.f, .str (ba c.g), .int .u8 c.r, .int .u8 c.e, .int .u8 c.b]] : List PV) = encU [c] := rfl
    cases done
    · simp only [cond_false]
      rw [if_pos (by omega), List.take_of_length_le (show (encU out).length ≤ out.length by simp), e1, encU_append, List.take_of_length_le (by simp)]
      rfl
    · simp only [cond_true]
      rw [List.take_of_length_le (show (encU out).length ≤ out.length by simp)]
      simp [putR]
  | succ n ih =>
    intro i out done hi ho
    have hdn1 : done.toNat ≤ 1 := by cases done <;> decide
    have hlt : i < l.length := by omega
    have hd : l.drop i = l.getD i default :: l.drop (i + 1) := by
      rw [List.drop_eq_getElem_cons hlt]; simp [List.getD_eq_getElem?_getD, hlt]
    have w : IntKind.i64.wrap ((i : Int) + 1) = ((i + 1 : Nat) : Int) := by rw [wrap_eq (by omega) (by omega)]; omega
    generalize hx : l.getD i default = x at hd
    have e1 : ([.agg [.int .i64 c.t, .int .i64 c.f, .str (ba c.g), .int .u8 c.r, .int .u8 c.e, .int .u8 c.b]] : List PV) = encU [c] := rfl
    have e2 : ([.agg [.int .i64 x.t, .int .i64 x.f, .str (ba x.g), .int .u8 x.r, .int .u8 x.e, .int .u8 x.b]] : List PV) = encU [x] := rfl
    have t0 : (encU out).take out.length = encU out := List.take_of_length_le (by simp)
    have t1 : (encU (out ++ [c])).take (out.length + 1) = encU (out ++ [c]) := List.take_of_length_le (by simp)
    have ih1 := ih (i + 1) (out ++ [x]) done (by omega) (by simp; omega)
    refine L_of ?_
    rw [e56_111010, hd, putF]
    simp only [condD, condA, condE, condO, encU_length, Int.toNat_natCast, encU_t, encU_f, encU_g, encU_r, encU_e, encU_b, hx, w, c43 X hX, Option.bind_some, List.headD_cons, pv_p, toBool_bool, ba_beq, ba_dec, List.drop_zero, t0, e1, e2, encU_append, t1]
    rw [if_pos (by omega), if_pos (by omega), if_pos (by omega)]
    simp only [List.length_append, List.length_cons, List.length_nil, Nat.zero_add] at ih1
    have step : (L tab (run tab X) 56 [] [.lp [1, 1, 1, 0, 1, 0]] (S56_111010 (encU l) 0 (out.length + 1) done (i + 1 : Nat) c.t c.f (ba c.g) c.r c.e c.b (encU (out ++ [x]))) = some (putR (((putF c (l.drop (i + 1)) done).map fun o => x :: o).map fun r => out ++ r))) := by
      rw [ih1]
      cases putF c (l.drop (i + 1)) done with
      | none => rfl
      | some o => simp
    have ih2 : done = false → L tab (run tab X) 56 [] [.lp [1, 1, 1, 0, 1, 0]] (S56_111010 (encU l) 0 (out.length + 1 + 1) true (i + 1 : Nat) c.t c.f (ba c.g) c.r c.e c.b (encU (out ++ [c] ++ [x]))) = some (putR (((putF c (l.drop (i + 1)) true).map fun o => c :: x :: o).map fun r => out ++ r)) := by
      intro hdn
      subst hdn
      have h0 : Bool.toNat false = 0 := rfl
      have h1 : Bool.toNat true = 1 := rfl
      have := ih (i + 1) (out ++ [c] ++ [x]) true (by omega) (by simp only [List.length_append, List.length_cons, List.length_nil]; omega)
      simp only [List.length_append, List.length_cons, List.length_nil, Nat.zero_add] at this
      rw [this]
      cases putF c (l.drop (i + 1)) true with
      | none => rfl
      | some o => simp
    by_cases ht : x.t = c.t
    · refine iteP ht ?_
      rw [if_pos (by omega), if_pos (by omega)]
      by_cases hg : x.g = c.g
      · rw [sam_iff.2 ⟨ht, hg⟩]
        first | exact condP (ba_inj.2 hg) rfl | exact iteP (ba_inj.2 hg) rfl | exact condP hg rfl | exact iteP hg rfl
      · have hs : sam x c = false := by
          cases h : sam x c with
          | false => rfl
          | true => exact absurd (sam_iff.1 h).2 hg
        rw [hs, cond_false]
        first
          | refine condNP (fun h => hg (ba_inj.1 h)) ?_
          | refine iteN (fun h => hg (ba_inj.1 h)) ?_
          | refine condNP hg ?_
          | refine iteN hg ?_
        cases done
        · simp only [cond_false]
          cases hb : bef c x
          · simp only [cond_false]
            repeat rw [if_pos (by omega)]
            exact step
          · simp only [cond_true]
            repeat rw [if_pos (by omega)]
            exact ih2 rfl
        · simp only [cond_true]
          repeat rw [if_pos (by omega)]
          exact step
    · have hs : sam x c = false := by
        cases h : sam x c with
        | false => rfl
        | true => exact absurd (sam_iff.1 h).1 ht
      refine iteN ht ?_
      rw [hs, cond_false]
      cases done
      · simp only [cond_false]
        repeat rw [if_pos (by omega)]
        cases hb : bef c x
        · simp only [cond_false]
          repeat rw [if_pos (by omega)]
          exact step
        · simp only [cond_true]
          repeat rw [if_pos (by omega)]
          exact ih2 rfl
      · simp only [cond_true]
        repeat rw [if_pos (by omega)]
        exact step
theorem c56 (l : List Cu) (hl : l.length ≤ 100000) (c : Cu) : run tab X 56 [.p (.list true kC (encU l)), .p (encC c)] [] = some (putR (putF c l false)) :=
  run_of (hX _ rfl) (by
    rw [e56]
    have := c56_loop X hX l hl c l.length 0 [] false (by omega) (by simp)
    rw [List.drop_zero] at this
    have e : (putF c l false).map (fun r => [] ++ r) = putF c l false := by cases putF c l false <;> rfl
    rw [e] at this
    exact this)
theorem c21 (l : List Cu) (hn : Nam l) (hl : l.length ≤ 100000) (c : Cu) (hc : c.g.length ≤ maxLen) : run tab X 21 [.p (.list true kC (encU l)), .p (encC c)] [] = some (listR (addR l c).1 (addR l c).2) := by
  have hm : maxLen = 9223372036854775807 := by decide
  refine run_of (hX _ rfl) ?_
  rw [e21, c14 X hX l hn (by omega)]
  simp only [Option.bind_some, List.headD_cons, pv_p, toBool_bool, condO, encU_length]
  unfold addR
  cases hv : validC l with
  | false => rfl
  | true =>
    have hvc := validC_iff.1 hv
    simp only [cond_true, Bool.true_and]
    refine bindS (c15 X hX c hc) ?_
    simp only [List.headD_cons, pv_p, toBool_bool]
    cases hf : fineB c with
    | false => rfl
    | true =>
      simp only [cond_true, condE, if_true]
      by_cases h7 : l.length = 1000
      · rw [if_pos (by omega), if_pos h7]; rfl
      · rw [if_neg (by omega), if_neg h7]
        refine bindS (c56 X hX l hl c) ?_
        rw [putF_up c hvc.ups]
        cases hh : has l c with
        | true => rfl
        | false =>
          simp only [Bool.false_eq_true, if_false, putR, List.headD_cons, List.tail_cons, pv_p, toBool_bool, cond_true, freshList_fresh, List.drop_zero, List.take_length]
          rfl
theorem c18 (hT : Texts X) (l : List Cu) (hn : Nam l) (hl : l.length ≤ 100000) (t : Int) (g : List UInt8) (hg : g.length ≤ maxLen) : run tab X 18 [.p (.list true kC (encU l)), .p (.int .i64 t), .p (.str (ba g))] [] = some (listR (remR l t g).1 (remR l t g).2) := by
  have hm : maxLen = 9223372036854775807 := by decide
  refine run_of (hX _ rfl) ?_
  rw [e18, c22 X hX hT.cmp l hn (by omega)]
  simp only [Option.bind_some, List.headD_cons, pv_p, toBool_bool, condO, encU_length]
  unfold remR
  cases hv : validC l with
  | false => rfl
  | true =>
    have hvc := validC_iff.1 hv
    simp only [cond_true, Bool.true_and]
    refine bindS (c46 X hX g hg) ?_
    simp only [List.headD_cons, pv_p, toBool_bool]
    cases hf : okN g with
    | false => rfl
    | true =>
      simp only [cond_true, if_true]
      refine bindS (c47 X hX t) ?_
      simp only [List.headD_cons, pv_p, toBool_bool]
      cases ht : timeB t with
      | false => rfl
      | true =>
        simp only [cond_true, if_true]
        obtain ⟨k, g1, g2⟩ := c53 X hX hT.cmp hvc.ups hl ⟨t, 0, g, 0, 0, 0⟩
        refine bindS g1 ?_
        simp only [List.headD_cons, List.tail_cons, pv_p, toBool_bool, toInt_int]
        rw [isAt_has hvc.ups g2]
        cases hh : has l ⟨t, 0, g, 0, 0, 0⟩ with
        | false => rfl
        | true =>
          have hi : isAt l ⟨t, 0, g, 0, 0, 0⟩ k = true := by rw [isAt_has hvc.ups g2]; exact hh
          have hk : k < l.length := by
            simp only [isAt, Bool.and_eq_true, decide_eq_true_eq] at hi
            exact hi.1
          have w : IntKind.i64.wrap ((k : Int) + 1) = ((k + 1 : Nat) : Int) := by rw [wrap_eq (by omega) (by omega)]; omega
          simp only [cond_true, condD, condA, List.drop_zero, Int.sub_zero, Int.toNat_natCast, encU_take, encU_drop, encU_length, List.length_take, List.length_drop, w]
          rw [if_pos (by omega), if_pos (by omega), if_pos (by omega)]
          refine bindS (hT.clone (l.take k) (by rw [List.length_take]; omega)) ?_
          simp only [List.headD_cons, freshList_fresh, List.length_take, encU_length]
          have e2 : (((l.length : Nat) : Int) - ((k + 1 : Nat) : Int)).toNat = l.length - (k + 1) := by omega
          have e4 : List.take (l.length - (k + 1)) (List.drop (k + 1) l) = List.drop (k + 1) l := List.take_of_length_le (by simp)
          rw [e2]
          repeat rw [if_pos (by omega)]
          rw [e4, encU_take, List.take_take, encU_append, encU_take]
          have e5 : List.take (min k l.length + min (l.length - (k + 1)) (l.length - (k + 1))) (List.take (min (min k l.length) k) l ++ List.drop (k + 1) l) = List.take k l ++ List.drop (k + 1) l := by
            rw [show min (min k l.length) k = k by omega]
            exact List.take_of_length_le (by rw [List.length_append, List.length_take, List.length_drop]; omega)
          rw [e5, g2.cut hvc.ups hi]
          rfl
end
end Go.Skm.Cue
