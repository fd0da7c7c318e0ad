/-
  The place of a cue in a sorted list, and a list with a cue more or less; condition: the library's answers, names that fit.
-/
import Derived.Test.YtdhkklplijleiaaGreatDoorC10
import Derived.Test.YtdhkklplijleiaaGreatDoorB3
namespace Go.Skm.Cue
open Go Go.Skm
def Up (l : List Cu) : Prop := ∀ i, i + 1 < l.length → bef (l.getD i default) (l.getD (i + 1) default) = true
theorem Up.lt {l : List Cu} (h : Up l) : ∀ {i j : Nat}, i < j → j < l.length → bef (l.getD i default) (l.getD j default) = true := by
  intro i j hij hj
  induction j with
  | zero => omega
  | succ j ih =>
    have h1 := h j hj
    by_cases e : i = j
    · rw [e]; exact h1
    · exact bef_trans (ih (by omega) (by omega)) h1
structure Place (l : List Cu) (c : Cu) (k : Nat) : Prop where
  le : k ≤ l.length
  lo : ∀ q, q < k → bef (l.getD q default) c = true
  hi : ∀ q, k ≤ q → q < l.length → bef (l.getD q default) c = false
theorem Up.hi {l : List Cu} (h : Up l) {c : Cu} {i j : Nat} (hij : i ≤ j) (hj : j < l.length) (hi : bef (l.getD i default) c = false) : bef (l.getD j default) c = false := by
  by_cases e : i = j
  · rw [← e]; exact hi
  · cases hb : bef (l.getD j default) c with
    | false => rfl
    | true => rw [bef_trans (h.lt (by omega) hj) hb] at hi; cases hi
theorem Up.lo {l : List Cu} (h : Up l) {c : Cu} {i j : Nat} (hij : i ≤ j) (hj : j < l.length) (hb : bef (l.getD j default) c = true) : bef (l.getD i default) c = true := by
  by_cases e : i = j
  · rw [e]; exact hb
  · exact bef_trans (h.lt (by omega) hj) hb
def ins (c : Cu) : List Cu → List Cu
  | [] => [c]
  | x :: r => if bef x c then x :: ins c r else c :: x :: r
def has (l : List Cu) (c : Cu) : Bool := l.any fun x => sam x c
theorem up_cons {x : Cu} {r : List Cu} (h : Up (x :: r)) : Up r ∧ ∀ y ∈ r, bef x y = true := by
  refine ⟨fun i hi => ?_, fun y hy => ?_⟩
  · have := h (i + 1) (by simpa using hi)
    simpa using this
  · obtain ⟨i, hi, rfl⟩ := List.getElem_of_mem hy
    have := h.lt (i := 0) (j := i + 1) (by omega) (by simpa using hi)
    simpa [List.getD_eq_getElem?_getD, hi] using this
theorem Place.ins {c : Cu} : ∀ {l : List Cu} {k : Nat}, Place l c k → l.take k ++ c :: l.drop k = ins c l
  | [], k, h => by
    have : k = 0 := by have := h.le; simp at this; exact this
    subst this; rfl
  | x :: r, 0, h => by
    have := h.hi 0 (by omega) (by simp)
    simp only [List.getD_cons_zero] at this
    simp [Cue.ins, this]
  | x :: r, k + 1, h => by
    have h0 := h.lo 0 (by omega)
    simp only [List.getD_cons_zero] at h0
    have h' : Place r c k := ⟨by have := h.le; simpa using this, fun q hq => by simpa using h.lo (q + 1) (by omega), fun q hq hq' => by simpa using h.hi (q + 1) (by omega) (by simpa using hq')⟩
    rw [Cue.ins, if_pos h0, List.take_succ_cons, List.drop_succ_cons, List.cons_append, h'.ins]
def isAt (l : List Cu) (c : Cu) (k : Nat) : Bool := decide (k < l.length) && sam (l.getD k default) c
theorem isAt_has {l : List Cu} (hu : Up l) {c : Cu} {k : Nat} (h : Place l c k) : isAt l c k = has l c := by
  rw [Bool.eq_iff_iff]
  unfold isAt has
  simp only [Bool.and_eq_true, decide_eq_true_eq, List.any_eq_true]
  constructor
  · rintro ⟨h1, h2⟩
    refine ⟨l[k], List.getElem_mem h1, ?_⟩
    simpa [List.getD_eq_getElem?_getD, h1] using h2
  · rintro ⟨x, hx, hs⟩
    obtain ⟨i, hi, rfl⟩ := List.getElem_of_mem hx
    have e : l.getD i default = l[i] := by simp [List.getD_eq_getElem?_getD, hi]
    have h1 : ¬ i < k := fun hlt => by
      have := h.lo i hlt
      rw [e] at this
      rw [bef_not_sam this] at hs; cases hs
    have h2 : ¬ k < i := fun hlt => by
      have a := hu.lt hlt hi
      have b := h.hi k (Nat.le_refl _) (by omega)
      rw [e] at a
      rw [sam_bef_r hs] at a
      rw [a] at b; cases b
    have : i = k := by omega
    subst this
    exact ⟨hi, by rw [e]; exact hs⟩
def cut (l : List Cu) (c : Cu) : List Cu := l.filter fun x => !sam x c
theorem Place.cut {c : Cu} : ∀ {l : List Cu} {k : Nat}, Up l → Place l c k → isAt l c k = true → l.take k ++ l.drop (k + 1) = Cue.cut l c
  | [], k, _, h, hs => by simp [isAt] at hs
  | x :: r, 0, hu, h, hs => by
    simp only [isAt, List.getD_cons_zero, Bool.and_eq_true] at hs
    obtain ⟨u1, u2⟩ := up_cons hu
    have : ∀ y ∈ r, (!sam y c) = true := fun y hy => by
      have hb := u2 y hy
      rw [sam_bef_l hs.2] at hb
      have := bef_not_sam hb
      rw [sam_comm] at this
      simp [this]
    simp [Cue.cut, hs.2, List.filter_eq_self.2 this]
  | x :: r, k + 1, hu, h, hs => by
    have h0 := h.lo 0 (by omega)
    simp only [List.getD_cons_zero] at h0
    have h' : Place r c k := ⟨by have := h.le; simpa using this, fun q hq => by simpa using h.lo (q + 1) (by omega), fun q hq hq' => by simpa using h.hi (q + 1) (by omega) (by simpa using hq')⟩
    have hs' : isAt r c k = true := by simpa [isAt] using hs
    have ih := h'.cut (up_cons hu).1 hs'
    rw [List.take_succ_cons, List.drop_succ_cons, List.cons_append, ih]
    simp [Cue.cut, bef_not_sam h0]
def listR (l : List Cu) (e : Int) : List AV × List Blk := ([.fresh true kC (encU l), .p (.int .i64 e)], [])
def addR (l : List Cu) (c : Cu) : List Cu × Int :=
  if validC l && fineB c then (if l.length = 1000 then ([], 7) else if has l c then ([], 11) else (ins c l, 0)) else ([], 2)
def remR (l : List Cu) (t : Int) (g : List UInt8) : List Cu × Int :=
  if validC l && okN g then (if timeB t then (if has l ⟨t, 0, g, 0, 0, 0⟩ then (cut l ⟨t, 0, g, 0, 0, 0⟩, 0) else ([], 9)) else ([], 3)) else ([], 2)
theorem VC.ups {l : List Cu} (h : VC l) : Up l := h.up
section
variable (X : Ext) (hX : Mine X)
include hX
theorem c53_loop (hS : CmpS X) {l : List Cu} (hu : Up l) (hl : l.length ≤ 100000) (c : Cu) : ∀ (d i j : Nat), j - i ≤ d → i ≤ j → j ≤ l.length → (∀ q, q < i → bef (l.getD q default) c = true) → (∀ q, j ≤ q → q < l.length → bef (l.getD q default) c = false) →
    ∃ k : Nat, L tab (run tab X) 53 [] [.lp [1, 1, 1, 0, 0]] (S53_11100 (encU l) l.length i j c.t c.f (ba c.g) c.r c.e c.b) = some ([.p (.int .i64 k), .p (.bool (isAt l c k))], []) ∧ Place l c k := by
  have stop : ∀ i j : Nat, i = j → j ≤ l.length → (∀ q, q < i → bef (l.getD q default) c = true) → (∀ q, j ≤ q → q < l.length → bef (l.getD q default) c = false) →
      ∃ k : Nat, L tab (run tab X) 53 [] [.lp [1, 1, 1, 0, 0]] (S53_11100 (encU l) l.length i j c.t c.f (ba c.g) c.r c.e c.b) = some ([.p (.int .i64 k), .p (.bool (isAt l c k))], []) ∧ Place l c k := by
    intro i j hij hj hlo hhi
    subst hij
    refine ⟨i, L_of ?_, ⟨hj, hlo, hhi⟩⟩
    rw [e53_11100]
    simp only [condD, condA, encU_length, Int.toNat_natCast, encU_t, encU_f, encU_g, encU_r, encU_e, encU_b, c54 X hX hS, Option.bind_some, List.headD_cons, pv_p, toInt_int]
    rw [if_neg (by omega)]
    unfold isAt
    by_cases hi : i < l.length
    · rw [if_pos (by omega), if_pos (by omega), if_pos (by omega)]
      have : (cmpC (l.getD i default) c == 0) = sam (l.getD i default) c := by
        rw [Bool.eq_iff_iff, beq_iff_eq, cmpC_eq]
      simp only [this, hi, decide_true, Bool.true_and]
    · rw [if_neg (by omega)]
      simp [hi]
  intro d
  induction d with
  | zero => intro i j hd hij hj hlo hhi; exact stop i j (by omega) hj hlo hhi
  | succ d ih =>
    intro i j hd hij hj hlo hhi
    by_cases he : i = j
    · exact stop i j he hj hlo hhi
    have hm := mid_eq (i := i) (j := j) (by omega)
    have hml : (i + j) / 2 < l.length := by omega
    have hw1 : IntKind.i64.wrap ((((i + j) / 2 : Nat) : Int) + 1) = (((i + j) / 2 + 1 : Nat) : Int) := by rw [wrap_eq (by omega) (by omega)]; omega
    cases hc : bef (l.getD ((i + j) / 2) default) c with
    | true =>
      obtain ⟨k, g1, g2⟩ := ih ((i + j) / 2 + 1) j (by omega) (by omega) hj (fun q hq => hu.lo (j := (i + j) / 2) (by omega) hml hc) hhi
      refine ⟨k, L_of ?_, g2⟩
      rw [e53_11100]
      simp only [hm, condD, condA, encU_length, Int.toNat_natCast, encU_t, encU_f, encU_g, encU_r, encU_e, encU_b, c54 X hX hS, Option.bind_some, List.headD_cons, pv_p, toInt_int, hw1]
      rw [if_pos (by omega), if_pos (by omega), if_pos (by omega)]
      exact iteP (cmpC_lt.2 hc) g1
    | false =>
      obtain ⟨k, g1, g2⟩ := ih i ((i + j) / 2) (by omega) (by omega) (by omega) hlo (fun q hq hq' => hu.hi (i := (i + j) / 2) hq hq' hc)
      refine ⟨k, L_of ?_, g2⟩
      rw [e53_11100]
      simp only [hm, condD, condA, encU_length, Int.toNat_natCast, encU_t, encU_f, encU_g, encU_r, encU_e, encU_b, c54 X hX hS, Option.bind_some, List.headD_cons, pv_p, toInt_int, hw1]
      rw [if_pos (by omega), if_pos (by omega), if_pos (by omega)]
      exact iteN (fun h => by rw [cmpC_lt.1 h] at hc; cases hc) g1
theorem c53 (hS : CmpS X) {l : List Cu} (hu : Up l) (hl : l.length ≤ 100000) (c : Cu) :
    ∃ k : Nat, run tab X 53 [.p (.list true kC (encU l)), .p (encC c), .p (.fn 54 [])] [] = some ([.p (.int .i64 k), .p (.bool (isAt l c k))], []) ∧ Place l c k := by
  obtain ⟨k, g1, g2⟩ := c53_loop X hX hS hu hl c l.length 0 l.length (by omega) (by omega) (by omega) (by omega) (by omega)
  refine ⟨k, run_of (hX _ rfl) ?_, g2⟩
  rw [e53, encU_length]
  exact g1
theorem c17 (hT : Texts X) (l : List Cu) (hn : Nam l) (hl : l.length ≤ 100000) (c : Cu) (hc : c.g.length ≤ maxLen) : run tab X 17 [.p (.list true kC (encU l)), .p (encC c)] [] = some (listR (addR l c).1 (addR l c).2) := by
  have hm : maxLen = 9223372036854775807 := by decide
  refine run_of (hX _ rfl) ?_
  rw [e17, c22 X hX hT.cmp l hn (by omega)]
  simp only [Option.bind_some, List.headD_cons, pv_p, toBool_bool, condO, encU_length]
  unfold addR
  cases hv : validC l with
  | false => rfl
  | true =>
    have hvc := validC_iff.1 hv
    simp only [cond_true, Bool.true_and]
    refine bindS (c52 X hX c hc) ?_
    simp only [List.headD_cons, pv_p, toBool_bool]
    cases hf : fineB c with
    | false => rfl
    | true =>
      simp only [cond_true, condE, if_true]
      by_cases h7 : l.length = 1000
      · rw [if_pos (by omega), if_pos h7]; rfl
      · rw [if_neg (by omega), if_neg h7]
        obtain ⟨k, g1, g2⟩ := c53 X hX hT.cmp hvc.ups hl c
        refine bindS g1 ?_
        simp only [List.headD_cons, List.tail_cons, pv_p, toBool_bool, toInt_int]
        rw [isAt_has hvc.ups g2]
        cases hh : has l c with
        | true => rfl
        | false =>
          have hk := g2.le
          simp only [cond_false, condD, condA, List.drop_zero, Int.sub_zero, Int.toNat_natCast, encU_take, encU_drop, encU_length, List.length_take, List.length_drop]
          rw [if_pos (by omega), if_pos (by omega), if_pos (by omega), if_pos trivial, if_pos (by omega), if_pos (by omega), if_pos (by omega), if_pos (by omega), if_pos (by omega), if_pos (by omega)]
          have e1 : ([.agg [.int .i64 c.t, .int .i64 c.f, .str (ba c.g), .int .u8 c.r, .int .u8 c.e, .int .u8 c.b]] : List PV) = encU [c] := rfl
          rw [e1, encU_append, encU_take, encU_append, encU_take]
          have e2 : (((l.length : Nat) : Int) - (k : Int)).toNat = l.length - k := by omega
          have e3 : (List.take (min k l.length + 1) (List.take k l ++ [c])) = List.take k l ++ [c] := List.take_of_length_le (by simp)
          have e4 : List.take (l.length - k) (List.drop k l) = List.drop k l := List.take_of_length_le (by simp)
          rw [e2, e3, e4]
          have e5 : List.take (min k l.length + 1 + min (l.length - k) (l.length - k)) (List.take k l ++ [c] ++ List.drop k l) = List.take k l ++ [c] ++ List.drop k l := List.take_of_length_le (by simp; omega)
          rw [e5, List.append_assoc, List.singleton_append, g2.ins]
          rfl
end
end Go.Skm.Cue
