/-
  The cues of a group and the colour of a group at a time: both come to the same; condition: the library's answers, parts in range.
-/
import Derived.Test.YtdhkklplijleiaaGreatDoorC12
namespace Go.Skm.Cue
open Go Go.Skm
def ofG (l : List Cu) (g : List UInt8) : List Cu := l.filter fun v => decide (v.g = g)
abbrev Oks (l : List Cu) : Prop := ∀ v ∈ l, v.ok
theorem Oks.nam {l : List Cu} (h : Oks l) : Nam l := fun v hv => (h v hv).g
theorem fine_mem {l : List Cu} (h : VC l) : ∀ v ∈ l, fineB v = true := fun v hv => by
  obtain ⟨i, hi, rfl⟩ := List.getElem_of_mem hv
  have := h.fine i hi
  simpa [List.getD_eq_getElem?_getD, hi] using this
theorem goods {l : List Cu} (h : VC l) (ho : Oks l) : ∀ v ∈ l, Good v := fun v hv => ⟨fine_mem h v hv, (ho v hv).r, (ho v hv).e, (ho v hv).b⟩
theorem Up.pair {l : List Cu} (h : Up l) : l.Pairwise fun a b => bef a b = true := by
  rw [List.pairwise_iff_getElem]
  intro i j hi hj hij
  have := h.lt hij hj
  simpa [List.getD_eq_getElem?_getD, hi, hj] using this
theorem ofG_pair {l : List Cu} (h : Up l) (g : List UInt8) : (ofG l g).Pairwise fun a b => a.t < b.t := by
  have h1 := h.pair.filter (fun v => decide (v.g = g))
  refine List.Pairwise.imp_of_mem ?_ h1
  intro a b ha hb hab
  have ga : a.g = g := by have := (List.mem_filter.1 ha).2; simpa using this
  have gb : b.g = g := by have := (List.mem_filter.1 hb).2; simpa using this
  rcases bef_iff.1 hab with h | ⟨-, h⟩
  · exact h
  · rw [ga, gb, bytesLt_irrefl] at h; cases h
structure Co where
  r : Int
  e : Int
  b : Int
  deriving DecidableEq
def Co.In (c : Co) : Prop := In8 c.r ∧ In8 c.e ∧ In8 c.b
abbrev encO (c : Co) : PV := colP c.r c.e c.b
theorem z8 : In8 0 := ⟨Int.le_refl _, by decide⟩
theorem co0 : Co.In ⟨0, 0, 0⟩ := ⟨z8, z8, z8⟩
def Cu.co (v : Cu) : Co := ⟨v.r, v.e, v.b⟩
def mixC (a b : Co) (num den : Int) : Co := if fracB num den then ⟨mixV a.r b.r num den, mixV a.e b.e num den, mixV a.b b.b num den⟩ else ⟨0, 0, 0⟩
theorem mixC_in {a b : Co} (ha : a.In) (hb : b.In) (num den : Int) : (mixC a b num den).In := by
  unfold mixC
  split
  · next h =>
    simp only [fracB, decide_eq_true_eq] at h
    exact ⟨mixV_in ha.1 hb.1 h.1.1 h.2.1 h.2.2, mixV_in ha.2.1 hb.2.1 h.1.1 h.2.1 h.2.2, mixV_in ha.2.2 hb.2.2 h.1.1 h.2.1 h.2.2⟩
  · exact co0
def vl (l : List Cu) : Nat → Int → Co
  | 0, _ => ⟨0, 0, 0⟩
  | n + 1, x =>
    if x < (l.getD n default).t then vl l n x
    else if x ≥ (l.getD n default).t + (l.getD n default).f then (l.getD n default).co
    else mixC (vl l n (l.getD n default).t) (l.getD n default).co (x - (l.getD n default).t) (l.getD n default).f
theorem good_get {l : List Cu} (h : ∀ v ∈ l, Good v) {n : Nat} (hn : n < l.length) : Good (l.getD n default) := by
  have : l.getD n default = l[n] := by simp [List.getD_eq_getElem?_getD, hn]
  rw [this]; exact h _ (List.getElem_mem hn)
theorem Good.co_in {v : Cu} (h : Good v) : v.co.In := ⟨h.r, h.e, h.b⟩
theorem vl_in {l : List Cu} (h : ∀ v ∈ l, Good v) : ∀ (n : Nat) (x : Int), n ≤ l.length → (vl l n x).In
  | 0, _, _ => co0
  | n + 1, x, hn => by
    unfold vl
    split
    · exact vl_in h n x (by omega)
    · split
      · exact (good_get h (by omega)).co_in
      · exact mixC_in (vl_in h n _ (by omega)) (good_get h (by omega)).co_in _ _
theorem vl_later {l : List Cu} {x : Int} : ∀ {n m : Nat}, m ≤ n → (∀ i, m ≤ i → i < n → x < (l.getD i default).t) → vl l n x = vl l m x
  | 0, m, hm, _ => by rw [show m = 0 by omega]
  | n + 1, m, hm, h => by
    by_cases e : m = n + 1
    · rw [e]
    · rw [vl, if_pos (h n (by omega) (by omega))]
      exact vl_later (by omega) (fun i hi hi' => h i hi (by omega))
def valR (l : List Cu) (g : List UInt8) (x : Int) : Co × Int :=
  if validC l && okN g then (if timeB x then (vl (ofG l g) (ofG l g).length x, 0) else (⟨0, 0, 0⟩, 3)) else (⟨0, 0, 0⟩, 2)
def coR (p : Co × Int) : List AV × List Blk := ([.p (encO p.1), .p (.int .i64 p.2)], [])
section
variable (X : Ext) (hX : Mine X)
theorem c49_loop (l : List Cu) (hl : l.length ≤ 100000) (g : List UInt8) : ∀ (n i : Nat) (out : List Cu), i + n = l.length → out.length ≤ i →
    L tab (run tab X) 49 [] [.lp [1, 1, 0, 1, 0]] (S49_11010 (ba g) 0 out.length (encU l) l.length i (encU out)) = some ([.fresh true kC (encU (out ++ ofG (l.drop i) g))], []) := by
  intro n
  induction n with
  | zero =>
    intro i out hi ho
    refine L_of ?_
    rw [e49_11010]
    simp only [condD, List.drop_zero]
    rw [if_neg (by omega), List.drop_eq_nil_of_le (show l.length ≤ i by omega), List.take_of_length_le (show (encU out).length ≤ out.length by simp)]
    simp [ofG]
  | succ n ih =>
    intro i out hi ho
    have hlt : i < l.length := by omega
    have hd : l.drop i = l.getD i default :: l.drop (i + 1) := by
      rw [List.drop_eq_getElem_cons hlt]; simp [List.getD_eq_getElem?_getD, hlt]
    have w : IntKind.i64.wrap ((i : Int) + 1) = ((i + 1 : Nat) : Int) := by rw [wrap_eq (by omega) (by omega)]; omega
    generalize hx : l.getD i default = x at hd
    have e2 : ([.agg [.int .i64 x.t, .int .i64 x.f, .str (ba x.g), .int .u8 x.r, .int .u8 x.e, .int .u8 x.b]] : List PV) = encU [x] := rfl
    have t0 : (encU out).take out.length = encU out := List.take_of_length_le (by simp)
    refine L_of ?_
    rw [e49_11010, hd]
    simp only [condD, condA, encU_length, Int.toNat_natCast, encU_t, encU_f, encU_g, encU_r, encU_e, encU_b, hx, w, ba_beq, ba_dec, List.drop_zero, t0, e2, encU_append]
    rw [if_pos (by omega), if_pos (by omega), if_pos (by omega)]
    by_cases hg : x.g = g
    · have ih1 := ih (i + 1) (out ++ [x]) (by omega) (by simp; omega)
      simp only [List.length_append, List.length_cons, List.length_nil, Nat.zero_add, List.append_assoc, List.singleton_append] at ih1
      have e3 : ofG (x :: l.drop (i + 1)) g = x :: ofG (l.drop (i + 1)) g := by simp [ofG, hg]
      rw [e3]
      first
        | refine condP (ba_inj.2 (congrArg _ hg)) ?_
        | refine iteP hg ?_
        | refine iteP (by rw [hg]) ?_
      rw [if_pos (by omega)]
      exact ih1
    · have ih1 := ih (i + 1) out (by omega) (by omega)
      have e3 : ofG (x :: l.drop (i + 1)) g = ofG (l.drop (i + 1)) g := by simp [ofG, hg]
      rw [e3]
      first
        | refine iteN hg ?_
        | refine iteN (fun h => hg (ba_inj.1 h)) ?_
      exact ih1
theorem c61_loop (l : List Cu) (hl : l.length ≤ 100000) (g : List UInt8) : ∀ (n i : Nat) (out : List Cu), i + n = l.length → out.length ≤ i →
    L tab (run tab X) 61 [] [.lp [1, 1, 0, 1, 0]] (S61_11010 (encU l) (ba g) 0 out.length i (encU out)) = some ([.fresh true kC (encU (out ++ ofG (l.drop i) g))], []) := by
  intro n
  induction n with
  | zero =>
    intro i out hi ho
    refine L_of ?_
    rw [e61_11010]
    simp only [condD, List.drop_zero, encU_length]
    rw [if_neg (by omega), List.drop_eq_nil_of_le (show l.length ≤ i by omega), List.take_of_length_le (show (encU out).length ≤ out.length by simp)]
    simp [ofG]
  | succ n ih =>
    intro i out hi ho
    have hlt : i < l.length := by omega
    have hd : l.drop i = l.getD i default :: l.drop (i + 1) := by
      rw [List.drop_eq_getElem_cons hlt]; simp [List.getD_eq_getElem?_getD, hlt]
    have w : IntKind.i64.wrap ((i : Int) + 1) = ((i + 1 : Nat) : Int) := by rw [wrap_eq (by omega) (by omega)]; omega
    generalize hx : l.getD i default = x at hd
    have e2 : ([.agg [.int .i64 x.t, .int .i64 x.f, .str (ba x.g), .int .u8 x.r, .int .u8 x.e, .int .u8 x.b]] : List PV) = encU [x] := rfl
    have t0 : (encU out).take out.length = encU out := List.take_of_length_le (by simp)
    refine L_of ?_
    rw [e61_11010, hd]
    simp only [condD, condA, encU_length, Int.toNat_natCast, encU_t, encU_f, encU_g, encU_r, encU_e, encU_b, hx, w, ba_beq, ba_dec, List.drop_zero, t0, e2, encU_append]
    rw [if_pos (by omega), if_pos (by omega), if_pos (by omega)]
    by_cases hg : x.g = g
    · have ih1 := ih (i + 1) (out ++ [x]) (by omega) (by simp; omega)
      simp only [List.length_append, List.length_cons, List.length_nil, Nat.zero_add, List.append_assoc, List.singleton_append] at ih1
      have e3 : ofG (x :: l.drop (i + 1)) g = x :: ofG (l.drop (i + 1)) g := by simp [ofG, hg]
      rw [e3]
      first
        | refine iteP hg ?_
        | refine iteP (by rw [hg]) ?_
      rw [if_pos (by omega), if_pos (by omega), if_pos (by omega)]
      exact ih1
    · have ih1 := ih (i + 1) out (by omega) (by omega)
      have e3 : ofG (x :: l.drop (i + 1)) g = ofG (l.drop (i + 1)) g := by simp [ofG, hg]
      rw [e3]
      first
        | refine iteN hg ?_
        | refine iteN (fun h => hg (ba_inj.1 h)) ?_
      exact ih1
include hX
theorem c49 (l : List Cu) (hl : l.length ≤ 100000) (g : List UInt8) : run tab X 49 [.p (.list true kC (encU l)), .p (.str (ba g))] [] = some ([.fresh true kC (encU (ofG l g))], []) :=
  run_of (hX _ rfl) (by
    rw [e49, encU_length]
    exact c49_loop X l hl g l.length 0 [] (by omega) (by simp))
theorem c61 (l : List Cu) (hl : l.length ≤ 100000) (g : List UInt8) : run tab X 61 [.p (.list true kC (encU l)), .p (.str (ba g))] [] = some ([.fresh true kC (encU (ofG l g))], []) :=
  run_of (hX _ rfl) (by
    rw [e61]
    exact c61_loop X l hl g l.length 0 [] (by omega) (by simp))
def ofR (l : List Cu) (g : List UInt8) : List Cu × Int := if validC l && okN g then (ofG l g, 0) else ([], 2)
theorem c27 (hT : Texts X) (l : List Cu) (hn : Nam l) (hl : l.length ≤ 100000) (g : List UInt8) (hg : g.length ≤ maxLen) : run tab X 27 [.p (.list true kC (encU l)), .p (.str (ba g))] [] = some (listR (ofR l g).1 (ofR l g).2) := by
  have hm : maxLen = 9223372036854775807 := by decide
  refine run_of (hX _ rfl) ?_
  rw [e27, c22 X hX hT.cmp l hn (by omega), c46 X hX g hg, c49 X hX l hl g]
  simp only [Option.bind_some, List.headD_cons, pv_p, toBool_bool, condO, freshList_fresh, List.drop_zero, List.take_length]
  unfold ofR
  cases validC l <;> cases okN g <;> rfl
theorem c28 (l : List Cu) (hn : Nam l) (hl : l.length ≤ 100000) (g : List UInt8) (hg : g.length ≤ maxLen) : run tab X 28 [.p (.list true kC (encU l)), .p (.str (ba g))] [] = some (listR (ofR l g).1 (ofR l g).2) := by
  have hm : maxLen = 9223372036854775807 := by decide
  refine run_of (hX _ rfl) ?_
  rw [e28, c14 X hX l hn (by omega), c45 X hX g hg, c61 X hX l hl g]
  simp only [Option.bind_some, List.headD_cons, pv_p, toBool_bool, condO, freshList_fresh, List.drop_zero, List.take_length]
  unfold ofR
  cases validC l <;> cases okN g <;> rfl
end
end Go.Skm.Cue
