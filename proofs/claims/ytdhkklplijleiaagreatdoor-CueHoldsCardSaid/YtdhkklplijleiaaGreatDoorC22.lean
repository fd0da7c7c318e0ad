/-
  The theorem of the stage answers true; condition: the library's answers, arguments in range.
-/
import Derived.Test.YtdhkklplijleiaaGreatDoorC21
namespace Go.Skm.Cue
open Go Go.Skm
theorem ins_filter {p : Cu → Bool} {c : Cu} (h : p c = false) : ∀ l : List Cu, (ins c l).filter p = l.filter p
  | [] => by simp [ins, h]
  | x :: r => by
    unfold ins
    split
    · rw [List.filter_cons, List.filter_cons, ins_filter h r]
    · rw [List.filter_cons, h]; rfl
theorem vl_congr {l m : List Cu} : ∀ {n : Nat}, (∀ i, i < n → l.getD i default = m.getD i default) → ∀ x, vl l n x = vl m n x
  | 0, _, _ => rfl
  | n + 1, h, x => by
    have ih := vl_congr (n := n) (fun i hi => h i (by omega))
    unfold vl
    rw [h n (by omega), ih, ih]
theorem vl_filter {l : List Cu} (hp : l.Pairwise fun a b => a.t < b.t) (x : Int) : vl l l.length x = vl (l.filter fun v => decide (v.t ≤ x)) (l.filter fun v => decide (v.t ≤ x)).length x := by
  have key : ∀ {l : List Cu}, (l.Pairwise fun a b => a.t < b.t) → ∃ m, m ≤ l.length ∧ (l.filter fun v => decide (v.t ≤ x)) = l.take m ∧ ∀ i, m ≤ i → i < l.length → x < (l.getD i default).t := by
    intro l
    induction l with
    | nil => intro _; exact ⟨0, Nat.le_refl _, rfl, fun i _ h => by simp at h⟩
    | cons a r ih =>
      intro hp
      have h1 := List.pairwise_cons.1 hp
      by_cases ha : a.t ≤ x
      · obtain ⟨m, m1, m2, m3⟩ := ih h1.2
        refine ⟨m + 1, by simpa using m1, by simp [ha, m2], fun i hi hi' => ?_⟩
        obtain ⟨j, rfl⟩ : ∃ j, i = j + 1 := ⟨i - 1, by omega⟩
        simpa using m3 j (by omega) (by simpa using hi')
      · refine ⟨0, Nat.zero_le _, ?_, fun i _ hi => ?_⟩
        · rw [List.take_zero, List.filter_eq_nil_iff]
          intro v hv
          rcases List.mem_cons.1 hv with rfl | hv
          · simp [ha]
          · have := h1.1 v hv
            simp; omega
        · cases i with
          | zero => simp; omega
          | succ j =>
            have hj : j < r.length := by simpa using hi
            have := h1.1 _ (List.getElem_mem hj)
            simp [List.getD_eq_getElem?_getD, hj]; omega
  obtain ⟨m, m1, m2, m3⟩ := key hp
  rw [m2, vl_later m1 m3, List.length_take, Nat.min_eq_left m1]
  refine vl_congr (fun i hi => ?_) x
  rw [List.getD_eq_getElem?_getD, List.getD_eq_getElem?_getD, List.getElem?_take, if_pos hi]
theorem ins_valid {l : List Cu} (hv : VC l) (hl : l.length < 1000) {c : Cu} (hc : fineB c = true) (hh : has l c = false) : VC (ins c l) := by
  have hp := ins_pair c hv.ups.pair hh
  refine ⟨by rw [(ins_perm c l).length_eq, List.length_cons]; omega, fun i hi => ?_, up_of_pair hp⟩
  have hm : (ins c l).getD i default ∈ ins c l := by
    rw [List.getD_eq_getElem?_getD, List.getElem?_eq_getElem hi]; exact List.getElem_mem hi
  rcases (ins_mem c _ l).1 hm with h | h
  · rw [h]; exact hc
  · exact fine_mem hv _ h
theorem ins_oks {l : List Cu} (ho : Oks l) {c : Cu} (hc : c.ok) : Oks (ins c l) := fun v hv => by
  rcases (ins_mem c v l).1 hv with rfl | h
  · exact hc
  · exact ho v h
theorem rem_ins {l : List Cu} (hv : VC l) (hl : l.length < 1000) {c : Cu} (hc : fineB c = true) (hh : has l c = false) : remR (ins c l) c.t c.g = (l, 0) := by
  obtain ⟨t1, -, t3⟩ := fineB_iff.1 hc
  unfold remR
  rw [validC_iff.2 (ins_valid hv hl hc hh), t3, show timeB c.t = true from by simp [timeB, t1]]
  have h1 : has (ins c l) ⟨c.t, 0, c.g, 0, 0, 0⟩ = true := by
    unfold has
    rw [List.any_eq_true]
    exact ⟨c, (ins_mem c c l).2 (.inl rfl), by simp [sam]⟩
  have h2 : cut (ins c l) ⟨c.t, 0, c.g, 0, 0, 0⟩ = l := by
    have : cut (ins c l) ⟨c.t, 0, c.g, 0, 0, 0⟩ = cut l ⟨c.t, 0, c.g, 0, 0, 0⟩ := ins_filter (by simp [sam]) l
    rw [this]
    exact cut_none hh
  rw [h1, h2]; rfl
theorem val_ok {l : List Cu} (hv : VC l) {g : By} (hg : okN g = true) {x : Int} (hx : 0 ≤ x ∧ x ≤ 3600000) : valR l g x = (vl (ofG l g) (ofG l g).length x, 0) := by
  unfold valR
  rw [validC_iff.2 hv, hg, show timeB x = true from by simp [timeB, hx]]
  rfl
theorem val_ins {l : List Cu} (hv : VC l) (hl : l.length < 1000) {c : Cu} (hc : fineB c = true) (hh : has l c = false) {g : By} (hg : okN g = true) {x : Int} (hx : 0 ≤ x ∧ x ≤ 3600000) (h : g ≠ c.g ∨ x < c.t) : valR (ins c l) g x = valR l g x := by
  have hv' := ins_valid hv hl hc hh
  rw [val_ok hv' hg hx, val_ok hv hg hx, vl_filter (ofG_pair hv'.ups g), vl_filter (ofG_pair hv.ups g)]
  have e : (ofG (ins c l) g).filter (fun v => decide (v.t ≤ x)) = (ofG l g).filter (fun v => decide (v.t ≤ x)) := by
    unfold ofG
    rw [List.filter_filter, List.filter_filter]
    refine ins_filter ?_ l
    rcases h with h | h
    · have : ¬ c.g = g := fun e => h e.symm
      simp [this]
    · have : ¬ c.t ≤ x := by omega
      simp [this]
  rw [e]
theorem vl_shift {l : List Cu} (b : Int) : ∀ (n : Nat) (x : Int), n ≤ l.length → vl (l.map (sh b)) n (x + b) = vl l n x
  | 0, _, _ => rfl
  | n + 1, x, hn => by
    have e : (l.map (sh b)).getD n default = sh b (l.getD n default) := by
      have hn' : n < l.length := by omega
      simp [List.getD_eq_getElem?_getD, hn']
    have ih1 := vl_shift (l := l) b n x (by omega)
    have ih2 := vl_shift (l := l) b n (l.getD n default).t (by omega)
    unfold vl
    rw [e]
    have t : (sh b (l.getD n default)).t = (l.getD n default).t + b := rfl
    have f : (sh b (l.getD n default)).f = (l.getD n default).f := rfl
    have co : (sh b (l.getD n default)).co = (l.getD n default).co := rfl
    rw [t, f, co, ih1, ih2]
    generalize l.getD n default = c
    by_cases h1 : x < c.t
    · rw [if_pos h1, if_pos (by omega)]
    · rw [if_neg h1, if_neg (by omega)]
      by_cases h2 : x ≥ c.t + c.f
      · rw [if_pos h2, if_pos (by omega)]
      · rw [if_neg h2, if_neg (by omega), show x + b - (c.t + b) = x - c.t by omega]
theorem shift_val {l : List Cu} (hv : VC l) (ho : Oks l) {g : By} (hg : okN g = true) {b x : Int} (hx : 0 ≤ x ∧ x ≤ 3600000) (he : (shiftR l b).2 = 0) (hb : 0 ≤ x + b ∧ x + b ≤ 3600000) :
    Oks (shiftR l b).1 ∧ valR (shiftR l b).1 g (x + b) = valR l g x ∧ (valR l g x).2 = 0 := by
  have hvb := validC_iff.2 hv
  have hall : l.all (shOk b) = true := by
    cases h : l.all (shOk b) with
    | true => rfl
    | false =>
      unfold shiftR at he
      rw [hvb, h] at he
      simp at he
  have e : (shiftR l b).1 = l.map (sh b) := by
    unfold shiftR
    rw [hvb, hall]; rfl
  have hok : ∀ v ∈ l, 0 ≤ v.t + b ∧ v.t + b ≤ 3600000 := fun v hv => by
    have := List.all_eq_true.1 hall v hv
    simp only [shOk, timeB, Bool.and_eq_true, decide_eq_true_eq] at this
    exact this.2
  have hget : ∀ i, i < l.length → (l.map (sh b)).getD i default = sh b (l.getD i default) := fun i hi => by
    simp [List.getD_eq_getElem?_getD, hi]
  have hv' : VC (l.map (sh b)) := by
    refine ⟨by simpa using hv.len, fun i hi => ?_, fun i hi => ?_⟩
    · have hi' : i < l.length := by simpa using hi
      rw [hget i hi']
      obtain ⟨-, f1, g1⟩ := fineB_iff.1 (hv.fine i hi')
      have := hok (l.getD i default) (by rw [List.getD_eq_getElem?_getD, List.getElem?_eq_getElem hi']; exact List.getElem_mem hi')
      exact fineB_iff.2 ⟨this, f1, g1⟩
    · have hi' : i + 1 < l.length := by simpa using hi
      rw [hget i (by omega), hget (i + 1) hi']
      have := hv.up i hi'
      rw [bef_iff] at this ⊢
      rcases this with h | ⟨h1, h2⟩
      · exact .inl (by show (l.getD i default).t + b < (l.getD (i + 1) default).t + b; omega)
      · exact .inr ⟨by show (l.getD i default).t + b = (l.getD (i + 1) default).t + b; omega, h2⟩
  have ho' : Oks (l.map (sh b)) := fun v hv => by
    obtain ⟨u, hu, rfl⟩ := List.mem_map.1 hv
    have := hok u hu
    have o := ho u hu
    exact ⟨⟨by show _ ≤ u.t + b; omega, by show u.t + b ≤ _; omega⟩, o.f, o.g, o.r, o.e, o.b⟩
  have hof : ofG (l.map (sh b)) g = (ofG l g).map (sh b) := by
    unfold ofG
    rw [List.filter_map]; rfl
  rw [e]
  refine ⟨ho', ?_, by rw [val_ok hv hg hx]⟩
  rw [val_ok hv' hg hb, val_ok hv hg hx, hof, List.length_map, vl_shift b _ x (Nat.le_refl _)]
theorem val_end {l : List Cu} (hv : VC l) {i : Nat} (hi : i < l.length) (he : (l.getD i default).t + (l.getD i default).f ≤ 3600000) (hl : ∀ k, i < k → k < l.length → (l.getD k default).g = (l.getD i default).g → (l.getD i default).t + (l.getD i default).f < (l.getD k default).t) :
    valR l (l.getD i default).g ((l.getD i default).t + (l.getD i default).f) = ((l.getD i default).co, 0) := by
  obtain ⟨t1, f1, g1⟩ := fineB_iff.1 (hv.fine i hi)
  have e : l.getD i default = l[i] := by simp [List.getD_eq_getElem?_getD, hi]
  rw [val_ok hv g1 (by omega)]
  generalize hc : l.getD i default = c at *
  have hd : l = l.take i ++ c :: l.drop (i + 1) := by
    rw [e, ← List.drop_eq_getElem_cons hi, List.take_append_drop]
  have ho : ofG l c.g = ofG (l.take i) c.g ++ c :: ofG (l.drop (i + 1)) c.g := by
    conv => lhs; rw [hd]
    unfold ofG
    rw [List.filter_append, List.filter_cons, if_pos (by simp)]
  have hm : (ofG l c.g).getD (ofG (l.take i) c.g).length default = c := by
    rw [ho, List.getD_eq_getElem?_getD, List.getElem?_append_right (Nat.le_refl _), Nat.sub_self]; rfl
  have hlen : (ofG l c.g).length = (ofG (l.take i) c.g).length + 1 + (ofG (l.drop (i + 1)) c.g).length := by
    rw [ho, List.length_append, List.length_cons]; omega
  have later : ∀ j, (ofG (l.take i) c.g).length + 1 ≤ j → j < (ofG l c.g).length → c.t + c.f < ((ofG l c.g).getD j default).t := by
    intro j hj hj'
    have hj2 : j - (ofG (l.take i) c.g).length - 1 < (ofG (l.drop (i + 1)) c.g).length := by omega
    have ej : (ofG l c.g).getD j default = (ofG (l.drop (i + 1)) c.g)[j - (ofG (l.take i) c.g).length - 1] := by
      rw [ho, List.getD_eq_getElem?_getD, List.getElem?_append_right (by omega)]
      obtain ⟨q, hq⟩ : ∃ q, j - (ofG (l.take i) c.g).length = q + 1 := ⟨j - (ofG (l.take i) c.g).length - 1, by omega⟩
      simp only [hq, List.getElem?_cons_succ, Nat.add_sub_cancel]
      rw [List.getElem?_eq_getElem (by omega)]; rfl
    rw [ej]
    have hmem := List.getElem_mem hj2
    obtain ⟨m1, m2⟩ := List.mem_filter.1 hmem
    obtain ⟨q, hq, eq⟩ := List.getElem_of_mem m1
    rw [← eq] at m2 ⊢
    have hq' : i + 1 + q < l.length := by simp at hq; omega
    have := hl (i + 1 + q) (by omega) hq'
    simp only [List.getD_eq_getElem?_getD, List.getElem?_eq_getElem hq', Option.getD_some] at this
    simp only [List.getElem_drop] at m2 ⊢
    exact this (by simpa using m2)
  rw [vl_later (by omega) later, vl, hm, if_neg (by omega), if_pos (by omega)]
section
variable (X : Ext) (hX : Mine X)
include hX
theorem law4_inner (hT : Texts X) {l : List Cu} (hv : VC l) (ho : Oks l) (hl : l.length ≤ 40) (c : Cu) (time by_ : Int) {i : Nat} (hi : i < l.length) {x : List AV × List Blk}
    (hn : L tab (run tab X) 4 [] [.lp [1, 1, 0, 1, 0]] (S4_11010 (encU l) time by_ (i + 1 : Nat) c.t c.f (ba c.g) c.r c.e c.b) = some x) : ∀ (n : Nat) (k : Int) (next : Int), k = i + n → i + n < l.length → next ≤ 3600001 → (∀ j : Nat, k < j → j < l.length → (l.getD j default).g = (l.getD i default).g → next ≤ (l.getD j default).t) →
    L tab (run tab X) 4 [] [.lp [1, 1, 0, 1, 0], .lp [1, 0, 0, 1, 1, 0, 1, 0]] (S4_11010_10011010 (encU l) time by_ i ((l.getD i default).t + (l.getD i default).f) next k c.t c.f (ba c.g) c.r c.e c.b) = some x := by
  have hm : maxLen = 9223372036854775807 := by decide
  have w : IntKind.i64.wrap ((i : Int) + 1) = ((i + 1 : Nat) : Int) := by rw [wrap_eq (by omega) (by omega)]; omega
  obtain ⟨t1, f1, g1⟩ := fineB_iff.1 (hv.fine i hi)
  intro n
  induction n with
  | zero =>
    intro k next hk hkl hnx hall
    refine L_of ?_
    rw [e4_11010_10011010]
    refine condNP (by omega) ?_
    by_cases he : (l.getD i default).t + (l.getD i default).f < next
    · refine condP he ?_
      have hval := val_end hv hi (by omega) (fun j hj hjl hg => by have := hall j (by omega) hjl hg; omega)
      simp only [condA, condD, encU_length, Int.toNat_natCast, encU_g, encU_r, encU_e, encU_b, w]
      rw [if_pos (by omega), if_pos (by omega)]
      refine bindS (c16 X hX hT l ho (by omega) (l.getD i default).g (ho.nam.get i) _) ?_
      rw [hval]
      refine condF rfl ?_
      rw [if_pos (by omega), if_pos (by omega)]
      refine condF (by simp [coR, Cu.co]) ?_
      exact hn
    · refine condNP he ?_
      rw [w]; exact hn
  | succ n ih =>
    intro k next hk hkl hnx hall
    have hkn : k = ((i + (n + 1) : Nat) : Int) := by omega
    have wk : IntKind.i64.wrap (((i + (n + 1) : Nat) : Int) - 1) = ((i + n : Nat) : Int) := by rw [wrap_eq (by omega) (by omega)]; omega
    refine L_of ?_
    rw [e4_11010_10011010, hkn]
    refine condP (by omega) ?_
    simp only [condA, condD, encU_length, Int.toNat_natCast, encU_g, encU_t, ba_beq, ba_dec, wk]
    rw [if_pos (by omega), if_pos (by omega), if_pos (by omega), if_pos (by omega)]
    by_cases hg : (l.getD (i + (n + 1)) default).g = (l.getD i default).g
    · refine iteP hg ?_
      rw [if_pos (by omega), if_pos (by omega)]
      obtain ⟨u1, -, -⟩ := fineB_iff.1 (hv.fine (i + (n + 1)) hkl)
      refine ih _ _ (by omega) (by omega) (by omega) (fun j hj hjl _ => ?_)
      exact hv.ups.t_le (by omega) hjl
    · refine iteN hg ?_
      refine ih _ _ (by omega) (by omega) hnx (fun j hj hjl hgj => ?_)
      by_cases ej : j = i + (n + 1)
      · rw [ej] at hgj; exact absurd hgj hg
      · exact hall j (by omega) hjl hgj
theorem law4_more (hK : Known X) (hT : Texts X) {l : List Cu} (hv : VC l) (ho : Oks l) (hl : l.length ≤ 40) (c : Cu) (hc : c.ok) (hf : fineB c = true) (hh : has l c = false) (time by_ : Int) (ht : 0 ≤ time ∧ time ≤ 3600000) : ∀ (n i : Nat), i + n = l.length →
    L tab (run tab X) 4 [] [.lp [1, 1, 1, 1, 0, 1, 0, 1, 1, 1, 0]] (S4_11110101110 (encU l) time by_ 0 (ins c l).length i c.t c.f (ba c.g) c.r c.e c.b (encU (ins c l))) = some ([.p (.bool true)], []) := by
  have hm : maxLen = 9223372036854775807 := by decide
  have hcg : okN c.g = true := (fineB_iff.1 hf).2.2
  have hil : (ins c l).length = l.length + 1 := by rw [(ins_perm c l).length_eq]; rfl
  intro n
  induction n with
  | zero =>
    intro i hi
    refine L_of ?_
    rw [e4_11110101110]
    refine condNP (by rw [encU_length]; omega) ?_
    refine bindS (c20 X hX hT l ho.nam (by omega) by_) ?_
    by_cases he : (shiftR l by_).2 = 0
    · refine condF (by simp [listR, he]) ?_
      by_cases b1 : by_ < -3600000
      · exact condP b1 (bindS hK rfl)
      refine condNP b1 ?_
      by_cases b2 : by_ > 3600000
      · exact condP b2 (bindS hK rfl)
      refine condNP b2 ?_
      rw [wrap_eq (x := time + by_) (by omega) (by omega)]
      by_cases b3 : time + by_ < 0
      · exact condP b3 (bindS hK rfl)
      refine condNP b3 ?_
      by_cases b4 : time + by_ > 3600000
      · exact condP b4 (bindS hK rfl)
      refine condNP b4 ?_
      obtain ⟨q1, q2, q3⟩ := shift_val hv ho hcg ht he (x := time) (by omega)
      have hl' := shiftR_len l by_
      refine bindS (c16 X hX hT l ho (by omega) c.g hc.g time) ?_
      simp only [listR, List.headD_cons, freshList_fresh, List.drop_zero, encU_length, takeU]
      refine bindS (c16 X hX hT (shiftR l by_).1 q1 (by omega) c.g hc.g (time + by_)) ?_
      rw [q2]
      exact condT (by simp [coR, q3]) (condT (by simp [coR, q3]) (condT (by simp) (bindS hK rfl)))
    · exact condT (by simp [listR, he]) (bindS hK rfl)
  | succ n ih =>
    intro i hi
    have hlt : i < l.length := by omega
    have w : IntKind.i64.wrap ((i : Int) + 1) = ((i + 1 : Nat) : Int) := by rw [wrap_eq (by omega) (by omega)]; omega
    have ih' := ih (i + 1) (by omega)
    obtain ⟨t1, f1, g1⟩ := fineB_iff.1 (hv.fine i hlt)
    have v1 := val_ok hv g1 ht
    have v2 := val_ok (ins_valid hv (by omega) hf hh) g1 ht
    refine L_of ?_
    rw [e4_11110101110]
    refine condP (by rw [encU_length]; omega) ?_
    simp only [condA, condD, encU_length, Int.toNat_natCast, encU_g, List.drop_zero, takeU, w]
    rw [if_pos (by omega), if_pos (by omega)]
    refine bindS (c16 X hX hT l ho (by omega) (l.getD i default).g (ho.nam.get i) time) ?_
    rw [if_pos (by omega), if_pos (by omega)]
    refine bindS (c16 X hX hT (ins c l) (ins_oks ho hc) (by omega) (l.getD i default).g (ho.nam.get i) time) ?_
    refine condF (by rw [v1]; rfl) (condF (by rw [v2]; rfl) ?_)
    rw [if_pos (by omega), if_pos (by omega)]
    by_cases hg : (l.getD i default).g = c.g
    · refine condF (by rw [hg]; simp) ?_
      by_cases hx : time < c.t
      · refine iteP hx ?_
        rw [val_ins hv (by omega) hf hh g1 ht (.inr hx)]
        exact condF (by simp) ih'
      · exact iteN hx ih'
    · refine condT (by rw [ba_toList, ba_toList]; simpa using hg) ?_
      rw [val_ins hv (by omega) hf hh g1 ht (.inl hg)]
      exact condF (by simp) ih'
theorem law4_outer (hK : Known X) (hT : Texts X) {l : List Cu} (hv : VC l) (ho : Oks l) (hl : l.length ≤ 40) (c : Cu) (hc : c.ok) (hf : fineB c = true) (time by_ : Int) (ht : 0 ≤ time ∧ time ≤ 3600000) : ∀ (n i : Nat), i + n = l.length →
    L tab (run tab X) 4 [] [.lp [1, 1, 0, 1, 0]] (S4_11010 (encU l) time by_ i c.t c.f (ba c.g) c.r c.e c.b) = some ([.p (.bool true)], []) := by
  have hm : maxLen = 9223372036854775807 := by decide
  have hcg : okN c.g = true := (fineB_iff.1 hf).2.2
  intro n
  induction n with
  | zero =>
    intro i hi
    refine L_of ?_
    rw [e4_11010]
    refine condNP (by rw [encU_length]; omega) ?_
    refine bindS (c17 X hX hT l ho.nam (by omega) c hc.g) ?_
    have hadd : addR l c = if has l c then ([], 11) else (ins c l, 0) := by
      unfold addR
      rw [validC_iff.2 hv, hf]
      simp only [Bool.and_self, if_true]
      rw [if_neg (by omega)]
    rw [hadd]
    cases hh : has l c with
    | false =>
      have hil : (ins c l).length = l.length + 1 := by rw [(ins_perm c l).length_eq]; rfl
      simp only [Bool.false_eq_true, if_false, listR, List.headD_cons, List.tail_cons, freshList_fresh, List.drop_zero, encU_length, takeU]
      refine condT rfl ?_
      refine bindS (c18 X hX hT (ins c l) (ins_oks ho hc).nam (by omega) c.t c.g hc.g) ?_
      rw [rem_ins hv (by omega) hf hh]
      refine condF rfl ?_
      simp only [listR, List.headD_cons, freshList_fresh, encU_length, takeU]
      refine bindS (c19 X hX l l (by omega)) (condF (by simp) ?_)
      exact law4_more X hX hK hT hv ho hl c hc hf hh time by_ ht l.length 0 (by omega)
    | true =>
      simp only [if_true]
      refine condF rfl (condF rfl ?_)
      refine bindS (c20 X hX hT l ho.nam (by omega) by_) ?_
      by_cases he : (shiftR l by_).2 = 0
      · refine condF (by simp [listR, he]) ?_
        by_cases b1 : by_ < -3600000
        · exact condP b1 (bindS hK rfl)
        refine condNP b1 ?_
        by_cases b2 : by_ > 3600000
        · exact condP b2 (bindS hK rfl)
        refine condNP b2 ?_
        rw [wrap_eq (x := time + by_) (by omega) (by omega)]
        by_cases b3 : time + by_ < 0
        · exact condP b3 (bindS hK rfl)
        refine condNP b3 ?_
        by_cases b4 : time + by_ > 3600000
        · exact condP b4 (bindS hK rfl)
        refine condNP b4 ?_
        obtain ⟨q1, q2, q3⟩ := shift_val hv ho hcg ht he (x := time) (by omega)
        have hl' := shiftR_len l by_
        refine bindS (c16 X hX hT l ho (by omega) c.g hc.g time) ?_
        simp only [listR, List.headD_cons, freshList_fresh, List.drop_zero, encU_length, takeU]
        refine bindS (c16 X hX hT (shiftR l by_).1 q1 (by omega) c.g hc.g (time + by_)) ?_
        rw [q2]
        exact condT (by simp [coR, q3]) (condT (by simp [coR, q3]) (condT (by simp) (bindS hK rfl)))
      · exact condT (by simp [listR, he]) (bindS hK rfl)
  | succ n ih =>
    intro i hi
    have hlt : i < l.length := by omega
    obtain ⟨t1, f1, g1⟩ := fineB_iff.1 (hv.fine i hlt)
    refine L_of ?_
    rw [e4_11010]
    refine condP (by rw [encU_length]; omega) ?_
    simp only [condA, condD, encU_length, Int.toNat_natCast, encU_t, encU_f]
    rw [if_pos (by omega), if_pos (by omega), if_pos (by omega), if_pos (by omega), wrap_eq (x := (l.getD i default).t + (l.getD i default).f) (by omega) (by omega), wrap_eq (x := ((l.length : Nat) : Int) - 1) (by omega) (by omega)]
    exact law4_inner X hX hT hv ho hl c time by_ hlt (ih (i + 1) (by omega)) (l.length - 1 - i) _ 3600001 (by omega) (by omega) (Int.le_refl _) (fun j hj hjl _ => by omega)
theorem law4 (hK : Known X) (hT : Texts X) (l : List Cu) (ho : Oks l) (hl : l.length ≤ maxLen) (c : Cu) (hc : c.ok) (time by_ : Int) : run tab X 4 [.p (.list true kC (encU l)), .p (encC c), .p (.int .i64 time), .p (.int .i64 by_)] [] = some ([.p (.bool true)], []) :=
  run_of (hX _ rfl) (by
    have hm : maxLen = 9223372036854775807 := by decide
    rw [e4]
    refine bindS (c13 X hX l hl 40) ?_
    cases hs : smallB l 40 with
    | false => exact condT rfl (bindS hK rfl)
    | true =>
      have hlen := small_len hs
      refine condF rfl ?_
      by_cases h : c.g.length > 100
      · exact condP (show ((ba c.g).size : Int) > 100 by rw [ba_size]; omega) (bindS hK rfl)
      refine condNP (show ¬ ((ba c.g).size : Int) > 100 by rw [ba_size]; omega) ?_
      refine bindS (c14 X hX l ho.nam hl) ?_
      cases hv : validC l with
      | false => exact condT rfl (bindS hK rfl)
      | true =>
        refine condF rfl ?_
        refine bindS (c15 X hX c hc.g) ?_
        cases hf : fineB c with
        | false => exact condT rfl (bindS hK rfl)
        | true =>
          refine condF rfl ?_
          by_cases h1 : time < 0
          · exact condP h1 (bindS hK rfl)
          refine condNP h1 ?_
          by_cases h2 : time > 3600000
          · exact condP h2 (bindS hK rfl)
          refine condNP h2 ?_
          exact law4_outer X hX hK hT (validC_iff.1 hv) ho (by omega) c hc hf time by_ ⟨by omega, by omega⟩ l.length 0 (by omega))
end
end Go.Skm.Cue
