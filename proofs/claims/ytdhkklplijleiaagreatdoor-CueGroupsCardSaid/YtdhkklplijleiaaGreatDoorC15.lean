/-
  Shifted lists, equal lists, lists that are as they were; condition: the library's answers, parts in range.
-/
import Derived.Test.YtdhkklplijleiaaGreatDoorC14
namespace Go.Skm.Cue
open Go Go.Skm
def upto (f : Cu → Cu) (l : List Cu) (i : Nat) : List Cu := (l.take i).map f ++ l.drop i
theorem upto_zero (f : Cu → Cu) (l : List Cu) : upto f l 0 = l := by simp [upto]
theorem upto_all (f : Cu → Cu) (l : List Cu) : upto f l l.length = l.map f := by simp [upto]
theorem upto_get (f : Cu → Cu) {l : List Cu} {i : Nat} (h : i < l.length) : (upto f l i).getD i default = l.getD i default := by
  unfold upto
  rw [List.getD_eq_getElem?_getD, List.getElem?_append_right (by simp; omega), List.getElem?_drop, List.getD_eq_getElem?_getD]
  congr 2; simp; omega
theorem upto_set (f : Cu → Cu) {l : List Cu} {i : Nat} (h : i < l.length) : (encU (upto f l i)).set i (encC (f (l.getD i default))) = encU (upto f l (i + 1)) := by
  have e : l.getD i default = l[i] := by simp [List.getD_eq_getElem?_getD, h]
  have hl : (encU ((l.take i).map f)).length = i := by rw [encU_length, List.length_map, List.length_take]; omega
  have ht : (l.take (i + 1)).map f = (l.take i).map f ++ [f l[i]] := by
    rw [List.take_add_one, List.getElem?_eq_getElem h, List.map_append]; rfl
  have hd : encU (l.drop i) = encC l[i] :: encU (l.drop (i + 1)) := by rw [List.drop_eq_getElem_cons h]; rfl
  unfold upto
  rw [← encU_append, ← encU_append, ht, ← encU_append, hd, List.set_append_right _ _ (by omega), hl, Nat.sub_self, List.set_cons_zero, e, List.append_assoc]
  rfl
def sh (by_ : Int) (v : Cu) : Cu := { v with t := v.t + by_ }
def shOk (by_ : Int) (v : Cu) : Bool := decide (by_ ≤ 3600000 ∧ -3600000 ≤ by_) && timeB (v.t + by_)
def shiftR (l : List Cu) (by_ : Int) : List Cu × Int := if validC l then (if l.all (shOk by_) then (l.map (sh by_), 0) else ([], 3)) else ([], 2)
theorem Up.t_le {l : List Cu} (h : Up l) {i j : Nat} (hij : i ≤ j) (hj : j < l.length) : (l.getD i default).t ≤ (l.getD j default).t := by
  by_cases e : i = j
  · rw [e]; exact Int.le_refl _
  · rcases bef_iff.1 (h.lt (i := i) (j := j) (by omega) hj) with h | h
    · omega
    · omega
theorem shOk_ends {l : List Cu} (h : VC l) (h0 : 0 < l.length) (by_ : Int) : l.all (shOk by_) = true ↔ -(l.getD 0 default).t ≤ by_ ∧ by_ ≤ 3600000 - (l.getD (l.length - 1) default).t := by
  have fin : ∀ i, i < l.length → 0 ≤ (l.getD i default).t ∧ (l.getD i default).t ≤ 3600000 := fun i hi => (fineB_iff.1 (h.fine i hi)).1
  constructor
  · intro ha
    rw [List.all_eq_true] at ha
    have k : ∀ i, i < l.length → shOk by_ (l.getD i default) = true := fun i hi => by
      have : l.getD i default = l[i] := by simp [List.getD_eq_getElem?_getD, hi]
      rw [this]; exact ha _ (List.getElem_mem hi)
    have k0 := k 0 h0
    have k1 := k (l.length - 1) (by omega)
    simp only [shOk, timeB, Bool.and_eq_true, decide_eq_true_eq] at k0 k1
    omega
  · rintro ⟨h1, h2⟩
    rw [List.all_eq_true]
    intro v hv
    obtain ⟨i, hi, rfl⟩ := List.getElem_of_mem hv
    have e : l.getD i default = l[i] := by simp [List.getD_eq_getElem?_getD, hi]
    have a0 := h.ups.t_le (i := 0) (j := i) (by omega) hi
    have a1 := h.ups.t_le (i := i) (j := l.length - 1) (by omega) (by omega)
    have b0 := fin 0 h0
    have b1 := fin (l.length - 1) (by omega)
    rw [e] at a0 a1
    simp only [shOk, timeB, Bool.and_eq_true, decide_eq_true_eq]
    omega
theorem ba_beq' (x y : List UInt8) : (ba x == ba y) = decide (x = y) := by
  show (x.toArray == y.toArray) = _
  rw [Bool.eq_iff_iff]; simp
def smallB (l : List Cu) (most : Int) : Bool := decide ((l.length : Int) ≤ most) && l.all fun v => decide (v.g.length ≤ 100)
def eqAll (a b : List Cu) : Nat → Nat → Bool
  | _, 0 => true
  | i, n + 1 => decide (a.getD i default = b.getD i default) && eqAll a b (i + 1) n
theorem eqAll_iff {a b : List Cu} : ∀ {n i : Nat}, eqAll a b i n = true ↔ ∀ j, i ≤ j → j < i + n → a.getD j default = b.getD j default
  | 0, i => by simp [eqAll]; omega
  | n + 1, i => by
    simp only [eqAll, Bool.and_eq_true, decide_eq_true_eq, eqAll_iff (n := n)]
    constructor
    · rintro ⟨h1, h2⟩ j hj hj'
      by_cases e : j = i
      · rw [e]; exact h1
      · exact h2 j (by omega) (by omega)
    · intro h
      exact ⟨h i (by omega) (by omega), fun j hj hj' => h j (by omega) (by omega)⟩
theorem eqAll_eq {a b : List Cu} (h : a.length = b.length) : eqAll a b 0 a.length = decide (a = b) := by
  rw [Bool.eq_iff_iff, eqAll_iff, decide_eq_true_eq]
  constructor
  · intro hk
    apply List.ext_getElem h
    intro i h1 h2
    have := hk i (by omega) (by omega)
    simpa [List.getD_eq_getElem?_getD, h1, h2] using this
  · rintro rfl j _ _; rfl
theorem cu_eq (a b : Cu) : ((a.t == b.t) && ((a.f == b.f) && ((ba a.g == ba b.g) && (((a.r == b.r) && ((a.e == b.e) && ((a.b == b.b) && true))) && true)))) = decide (a = b) := by
  rw [ba_beq', Bool.eq_iff_iff]
  simp only [Bool.and_eq_true, beq_iff_eq, decide_eq_true_eq, and_true]
  constructor
  · rintro ⟨h1, h2, h3, h4, h5, h6⟩
    cases a; cases b; simp only at *; simp [h1, h2, h3, h4, h5, h6]
  · rintro rfl; simp
def dec (v : Cu) : Cu := { v with t := IntKind.i64.wrap (v.t - 1) }
section
variable (X : Ext) (hX : Mine X)
theorem c13_loop (l : List Cu) (hl : l.length ≤ maxLen) : ∀ (n i : Nat), i + n = l.length →
    L tab (run tab X) 13 [] [.lp [1, 1, 0, 1, 0]] (S13_11010 (encU l) i) = some ([.p (.bool ((l.drop i).all fun v => decide (v.g.length ≤ 100)))], []) := by
  have hm : (maxLen : Int) = 9223372036854775807 := by decide
  intro n
  induction n with
  | zero =>
    intro i hi
    refine L_of ?_
    rw [e13_11010]
    simp only [condD, encU_length]
    rw [if_neg (by omega), List.drop_eq_nil_of_le (by omega)]
    rfl
  | succ n ih =>
    intro i hi
    have hlt : i < l.length := by omega
    have w : IntKind.i64.wrap ((i : Int) + 1) = ((i + 1 : Nat) : Int) := by rw [wrap_eq (by omega) (by omega)]; omega
    have hd : l.drop i = l.getD i default :: l.drop (i + 1) := by
      rw [List.drop_eq_getElem_cons hlt]; simp [List.getD_eq_getElem?_getD, hlt]
    refine L_of ?_
    rw [e13_11010, hd]
    simp only [condD, condA, encU_length, Int.toNat_natCast, encU_g, ba_size, w, ih (i + 1) (by omega), List.all_cons]
    rw [if_pos (by omega), if_pos (by omega), if_pos (by omega)]
    by_cases h : (l.getD i default).g.length ≤ 100
    · rw [if_neg (by omega)]
      simp only [h, decide_true, Bool.true_and]
    · rw [if_pos (by omega)]
      simp only [h, decide_false, Bool.false_and]
theorem c19_loop (a b : List Cu) (hab : a.length = b.length) (hl : a.length ≤ maxLen) : ∀ (n i : Nat), i + n = a.length →
    L tab (run tab X) 19 [] [.lp [1, 1, 0, 1, 0]] (S19_11010 (encU a) (encU b) i) = some ([.p (.bool (eqAll a b i n))], []) := by
  have hm : (maxLen : Int) = 9223372036854775807 := by decide
  intro n
  induction n with
  | zero =>
    intro i hi
    refine L_of ?_
    rw [e19_11010]
    simp only [condD, encU_length]
    rw [if_neg (by omega)]
    rfl
  | succ n ih =>
    intro i hi
    have w : IntKind.i64.wrap ((i : Int) + 1) = ((i + 1 : Nat) : Int) := by rw [wrap_eq (by omega) (by omega)]; omega
    refine L_of ?_
    rw [e19_11010]
    simp only [encU_length, Int.toNat_natCast, encU_t, encU_f, encU_g, encU_r, encU_e, encU_b, cu_eq, w, ih (i + 1) (by omega), eqAll]
    refine condP (by omega) ?_
    simp only [condA, condD, condO]
    rw [if_pos (by omega), if_pos (by omega), if_pos (by omega), if_pos (by omega)]
    by_cases h : a.getD i default = b.getD i default
    · rw [if_pos h]; simp only [h, decide_true, Bool.true_and]
    · rw [if_neg h]; simp only [h, decide_false, Bool.false_and]
include hX
theorem c13 (l : List Cu) (hl : l.length ≤ maxLen) (most : Int) : run tab X 13 [.p (.list true kC (encU l)), .p (.int .i64 most)] [] = some ([.p (.bool (smallB l most))], []) :=
  run_of (hX _ rfl) (by
    rw [e13, encU_length]
    have e : L tab (run tab X) 13 [] [.lp [1, 1, 0, 1, 0]] (S13_11010 (encU l) 0) = _ := c13_loop X l hl l.length 0 (by omega)
    rw [e]
    simp only [condD, List.drop_zero]
    unfold smallB
    by_cases h : (l.length : Int) ≤ most
    · rw [if_neg (by omega)]; simp [h]
    · rw [if_pos (by omega)]; simp [h])
theorem c19 (a b : List Cu) (ha : a.length ≤ maxLen) : run tab X 19 [.p (.list true kC (encU a)), .p (.list true kC (encU b))] [] = some ([.p (.bool (decide (a = b)))], []) :=
  run_of (hX _ rfl) (by
    rw [e19, encU_length, encU_length]
    simp only [condN]
    by_cases h : a.length = b.length
    · rw [if_pos (by omega)]
      have := c19_loop X a b h ha a.length 0 (by omega)
      rw [eqAll_eq h] at this
      exact this
    · rw [if_neg (by omega)]
      have : ¬ a = b := fun e => h (by rw [e])
      simp [this])
theorem c23_loop (own l res : List Cu) (ho : own.length ≤ maxLen) (hl : res.length ≤ maxLen) : ∀ (n i : Nat), i + n = res.length →
    L tab (run tab X) 23 [.arr true kC (encU own), .arr true kC (encU res)] [.lp [1, 0, 1, 0]] (S23_1010 0 own.length (encU l) 0 res.length i (encU own) (encU (upto dec res i))) =
      some ([.p (.bool (decide (own = l)))], [.arr true kC (encU own), .arr true kC (encU (res.map dec))]) := by
  have hm : (maxLen : Int) = 9223372036854775807 := by decide
  intro n
  induction n with
  | zero =>
    intro i hi
    have hi' : i = res.length := by omega
    subst hi'
    refine L_of ?_
    rw [e23_1010]
    simp only [condD, List.drop_zero]
    rw [if_neg (by omega), List.take_of_length_le (show (encU own).length ≤ own.length by simp), c19 X hX own l ho, upto_all]
    rfl
  | succ n ih =>
    intro i hi
    have hlt : i < res.length := by omega
    have w : IntKind.i64.wrap ((i : Int) + 1) = ((i + 1 : Nat) : Int) := by rw [wrap_eq (by omega) (by omega)]; omega
    have ih' := ih (i + 1) (by omega)
    have hs := upto_set dec hlt
    refine L_of ?_
    rw [e23_1010]
    simp only [condD, condA, Nat.zero_add, Int.toNat_natCast, encU_t, encU_f, encU_g, encU_r, encU_e, encU_b, w, upto_get dec hlt]
    rw [if_pos (by omega), if_pos (by omega), if_pos (by omega), if_pos (by omega), if_pos (by omega)]
    rw [show (PV.agg [.int .i64 (IntKind.i64.wrap ((res.getD i default).t - 1)), .int .i64 (res.getD i default).f, .str (ba (res.getD i default).g), .int .u8 (res.getD i default).r, .int .u8 (res.getD i default).e, .int .u8 (res.getD i default).b]) = encC (dec (res.getD i default)) from rfl, hs]
    exact ih'
theorem c23 (own l res : List Cu) (ho : own.length ≤ maxLen) (hl : res.length ≤ maxLen) :
    run tab X 23 [.slice 100000 6 0 own.length, .p (.list true kC (encU l)), .slice 100001 6 0 res.length] [.arr true kC (encU own), .arr true kC (encU res)] =
      some ([.p (.bool (decide (own = l)))], [.arr true kC (encU own), .arr true kC (encU (res.map dec))]) :=
  run_of (hX _ rfl) (by
    rw [e23]
    have := c23_loop X hX own l res ho hl res.length 0 (by omega)
    rw [upto_zero] at this
    exact this)
theorem c30_loop (l : List Cu) (hv : VC l) (by_ : Int) (hb : In64 by_) : ∀ (n i : Nat) (out : List Cu), i + n = l.length → out.length ≤ i →
    L tab (run tab X) 30 [] [.lp [1, 1, 1, 0, 1, 0]] (S30_111010 (encU l) by_ 0 out.length i (encU out)) =
      some (if (l.drop i).all (shOk by_) then listR (out ++ (l.drop i).map (sh by_)) 0 else listR [] 3) := by
  have hlen := hv.len
  intro n
  induction n with
  | zero =>
    intro i out hi ho
    refine L_of ?_
    rw [e30_111010]
    simp only [condD, List.drop_zero, encU_length]
    rw [if_neg (by omega), List.drop_eq_nil_of_le (show l.length ≤ i by omega), List.take_of_length_le (show (encU out).length ≤ out.length by simp)]
    simp [listR]
  | succ n ih =>
    intro i out hi ho
    have hlt : i < l.length := by omega
    have hd : l.drop i = l.getD i default :: l.drop (i + 1) := by
      rw [List.drop_eq_getElem_cons hlt]; simp [List.getD_eq_getElem?_getD, hlt]
    have w : IntKind.i64.wrap ((i : Int) + 1) = ((i + 1 : Nat) : Int) := by rw [wrap_eq (by omega) (by omega)]; omega
    obtain ⟨t1, -, -⟩ := fineB_iff.1 (hv.fine i hlt)
    unfold In64 at hb
    have ih1 := ih (i + 1) (out ++ [sh by_ (l.getD i default)]) (by omega) (by simp; omega)
    refine L_of ?_
    rw [e30_111010, hd]
    simp only [condD, condA, condO, encU_length, Int.toNat_natCast, encU_t, encU_f, encU_g, encU_r, encU_e, encU_b, w, c44 X hX, Option.bind_some, List.headD_cons, pv_p, toBool_bool, List.drop_zero, List.all_cons, List.map_cons]
    rw [if_pos (by omega), if_pos (by omega), if_pos (by omega)]
    by_cases h1 : by_ > 3600000
    · rw [if_pos h1]
      have : shOk by_ (l.getD i default) = false := by simp [shOk]; omega
      rw [this]; rfl
    · rw [if_neg h1]
      by_cases h2 : by_ < -3600000
      · rw [if_pos h2]
        have : shOk by_ (l.getD i default) = false := by simp [shOk]; omega
        rw [this]; rfl
      · rw [if_neg h2, wrap_eq (x := (l.getD i default).t + by_) (by omega) (by omega)]
        have e : shOk by_ (l.getD i default) = timeB ((l.getD i default).t + by_) := by
          unfold shOk
          rw [decide_eq_true (by omega), Bool.true_and]
        rw [e]
        cases timeB ((l.getD i default).t + by_) with
        | false => rfl
        | true =>
          simp only [cond_true, Bool.true_and]
          rw [if_pos (by omega), List.take_of_length_le (show (encU out).length ≤ out.length by simp)]
          rw [show ([PV.agg [.int .i64 ((l.getD i default).t + by_), .int .i64 (l.getD i default).f, .str (ba (l.getD i default).g), .int .u8 (l.getD i default).r, .int .u8 (l.getD i default).e, .int .u8 (l.getD i default).b]] : List PV) = encU [sh by_ (l.getD i default)] from rfl, encU_append]
          simp only [List.length_append, List.length_cons, List.length_nil, Nat.zero_add, List.append_assoc, List.singleton_append] at ih1
          exact ih1
theorem c30 (l : List Cu) (hn : Nam l) (hl : l.length ≤ 100000) (by_ : Int) (hb : In64 by_) : run tab X 30 [.p (.list true kC (encU l)), .p (.int .i64 by_)] [] = some (listR (shiftR l by_).1 (shiftR l by_).2) := by
  have hm : maxLen = 9223372036854775807 := by decide
  refine run_of (hX _ rfl) ?_
  rw [e30, c14 X hX l hn (by omega)]
  simp only [Option.bind_some, List.headD_cons, pv_p, toBool_bool, condO]
  unfold shiftR
  cases hv : validC l with
  | false => rfl
  | true =>
    simp only [cond_true, if_true]
    have := c30_loop X hX l (validC_iff.1 hv) by_ hb l.length 0 [] (by omega) (by simp)
    rw [List.drop_zero] at this
    refine this.trans ?_
    cases l.all (shOk by_) <;> rfl
omit hX in
theorem c20_loop {l : List Cu} (hv : VC l) {by_ : Int} (ha : l.all (shOk by_) = true) : ∀ (n i : Nat), i + n = l.length →
    L tab (run tab X) 20 [] [.lp [1, 1, 1, 1, 0, 1, 0]] (S20_1111010 by_ 0 l.length l.length i (encU (upto (sh by_) l i))) = some (listR (l.map (sh by_)) 0) := by
  have hlen := hv.len
  intro n
  induction n with
  | zero =>
    intro i hi
    have hi' : i = l.length := by omega
    subst hi'
    refine L_of ?_
    rw [e20_1111010]
    simp only [condD, List.drop_zero]
    rw [if_neg (by omega), upto_all, List.take_of_length_le (by simp)]
    rfl
  | succ n ih =>
    intro i hi
    have hlt : i < l.length := by omega
    have w : IntKind.i64.wrap ((i : Int) + 1) = ((i + 1 : Nat) : Int) := by rw [wrap_eq (by omega) (by omega)]; omega
    have ih' := ih (i + 1) (by omega)
    have hs := upto_set (sh by_) hlt
    have hok : shOk by_ (l.getD i default) = true := by
      have : l.getD i default = l[i] := by simp [List.getD_eq_getElem?_getD, hlt]
      rw [this]; exact List.all_eq_true.1 ha _ (List.getElem_mem hlt)
    simp only [shOk, timeB, Bool.and_eq_true, decide_eq_true_eq] at hok
    refine L_of ?_
    rw [e20_1111010]
    simp only [condD, condA, Nat.zero_add, Int.toNat_natCast, encU_t, encU_f, encU_g, encU_r, encU_e, encU_b, w, upto_get (sh by_) hlt]
    rw [if_pos (by omega), if_pos (by omega), if_pos (by omega), if_pos (by omega), if_pos (by omega), wrap_eq (x := (l.getD i default).t + by_) (by omega) (by omega)]
    rw [show (PV.agg [.int .i64 ((l.getD i default).t + by_), .int .i64 (l.getD i default).f, .str (ba (l.getD i default).g), .int .u8 (l.getD i default).r, .int .u8 (l.getD i default).e, .int .u8 (l.getD i default).b]) = encC (sh by_ (l.getD i default)) from rfl, hs]
    exact ih'
theorem c20 (hT : Texts X) (l : List Cu) (hn : Nam l) (hl : l.length ≤ 100000) (by_ : Int) : run tab X 20 [.p (.list true kC (encU l)), .p (.int .i64 by_)] [] = some (listR (shiftR l by_).1 (shiftR l by_).2) := by
  have hm : maxLen = 9223372036854775807 := by decide
  refine run_of (hX _ rfl) ?_
  rw [e20, c22 X hX hT.cmp l hn (by omega)]
  simp only [Option.bind_some, List.headD_cons, pv_p, toBool_bool, condO, encU_length]
  unfold shiftR
  cases hv : validC l with
  | false => rfl
  | true =>
    have hvc := validC_iff.1 hv
    have hlen := hvc.len
    simp only [cond_true, if_true, condD, condA]
    have go : l.all (shOk by_) = true → ((run tab X 55 [.p (.list true kC (encU l))] []).bind fun r3 => L tab (run tab X) 20 [] [.lp [1, 1, 1, 1, 0, 1, 0]] (S20_1111010 by_ 0 ((r3.1.headD .undef).freshList.length) (((r3.1.headD .undef).freshList.length : Nat) : Int) 0 ((r3.1.headD .undef).freshList))) = some (listR (l.map (sh by_)) 0) := by
      intro ha
      refine bindS (hT.clone l hl) ?_
      simp only [List.headD_cons, freshList_fresh, encU_length]
      have := c20_loop X hvc ha l.length 0 (by omega)
      rw [upto_zero] at this
      exact this
    by_cases h0 : 0 < l.length
    · have ends := shOk_ends hvc h0 by_
      obtain ⟨a1, -, -⟩ := fineB_iff.1 (hvc.fine 0 h0)
      obtain ⟨b1, -, -⟩ := fineB_iff.1 (hvc.fine (l.length - 1) (by omega))
      have w : IntKind.i64.wrap (((l.length : Nat) : Int) - 1) = ((l.length - 1 : Nat) : Int) := by rw [wrap_eq (by omega) (by omega)]; omega
      have t0 : (((encU l).getD 0 .nil).cell 0).toInt = (l.getD 0 default).t := encU_t l 0
      rw [if_pos (by omega), if_pos (by omega), w]
      simp only [Int.toNat_natCast, encU_t]
      rw [wrap_eq (x := 0 - (l.getD 0 default).t) (by omega) (by omega), wrap_eq (x := 3600000 - (l.getD (l.length - 1) default).t) (by omega) (by omega)]
      by_cases h1 : by_ < 0 - (l.getD 0 default).t
      · rw [if_pos h1, if_neg (fun h => by have := ends.1 h; omega)]; rfl
      · rw [if_neg h1, if_pos (by omega), if_pos (by omega)]
        by_cases h2 : by_ > 3600000 - (l.getD (l.length - 1) default).t
        · rw [if_pos h2, if_neg (fun h => by have := ends.1 h; omega)]; rfl
        · have ha := ends.2 ⟨by omega, by omega⟩
          rw [if_neg h2, if_pos ha]
          exact go ha
    · have hnil : l = [] := List.length_eq_zero_iff.1 (by omega)
      have ha : l.all (shOk by_) = true := by rw [hnil]; rfl
      rw [if_neg (by omega), if_pos ha]
      exact go ha
end
end Go.Skm.Cue
