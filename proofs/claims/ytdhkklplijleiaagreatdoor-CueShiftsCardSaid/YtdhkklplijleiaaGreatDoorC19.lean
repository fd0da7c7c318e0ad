/-
  A snapped list: both come to the same; condition: the library's answers, parts in range.
-/
import Derived.Test.YtdhkklplijleiaaGreatDoorC18
import Derived.Test.YtdhkklplijleiaaGreatDoorB10
namespace Go.Skm.Cue
open Go Go.Skm
noncomputable def nearF (tm : List Tm) (t s : Int) : Int × Int := open Classical in if h : ∃ p, NearP tm t s p then h.choose else (0, 0)
theorem nearF_eq {tm : List Tm} {t s : Int} {p : Int × Int} (h : NearP tm t s p) : nearF tm t s = p := by
  have hh : ∃ p, NearP tm t s p := ⟨p, h⟩
  unfold nearF
  rw [dif_pos hh]
  exact hh.choose_spec.unique h
noncomputable def tOf (tm : List Tm) (s t : Int) : Int × Int := timeR tm (nearF tm t s).1
noncomputable def sn (tm : List Tm) (s : Int) (v : Cu) : Cu := { v with t := (tOf tm s v.t).1 }
noncomputable def snOk (tm : List Tm) (s : Int) (v : Cu) : Bool := decide ((tOf tm s v.t).2 = 0)
theorem tOf_err {tm : List Tm} (hv : validB tm = true) (s t : Int) : (tOf tm s t).2 = 0 ∨ (tOf tm s t).2 = 3 := by
  unfold tOf timeR
  rw [if_pos hv]
  split
  · split
    · exact .inr rfl
    · exact .inl rfl
  · exact .inr rfl
def NoSam (l : List Cu) : Prop := l.Pairwise fun a b => sam a b = false
theorem up_of_pair {l : List Cu} (h : l.Pairwise fun a b => bef a b = true) : Up l := by
  intro i hi
  have := (List.pairwise_iff_getElem.1 h) i (i + 1) (by omega) hi (by omega)
  simpa [List.getD_eq_getElem?_getD, hi, show i < l.length by omega] using this
theorem ins_mem (c z : Cu) : ∀ l : List Cu, z ∈ ins c l ↔ z = c ∨ z ∈ l
  | [] => by simp [ins]
  | x :: r => by
    unfold ins
    split
    · rw [List.mem_cons, ins_mem c z r, List.mem_cons]
      constructor
      · rintro (h | h | h)
        · exact .inr (.inl h)
        · exact .inl h
        · exact .inr (.inr h)
      · rintro (h | h | h)
        · exact .inr (.inl h)
        · exact .inl h
        · exact .inr (.inr h)
    · simp
theorem ins_perm (c : Cu) : ∀ l : List Cu, (ins c l).Perm (c :: l)
  | [] => List.Perm.refl _
  | x :: r => by
    unfold ins
    split
    · exact (List.Perm.cons x (ins_perm c r)).trans (List.Perm.swap c x r)
    · exact List.Perm.refl _
theorem ins_pair (c : Cu) : ∀ {l : List Cu}, (l.Pairwise fun a b => bef a b = true) → has l c = false → (ins c l).Pairwise fun a b => bef a b = true
  | [], _, _ => by simp [ins]
  | x :: r, h, hh => by
    have h1 := List.pairwise_cons.1 h
    have hs : sam x c = false ∧ has r c = false := by simpa [has] using hh
    unfold ins
    split
    · next hx =>
      refine List.pairwise_cons.2 ⟨fun z hz => ?_, ins_pair c h1.2 hs.2⟩
      rcases (ins_mem c z r).1 hz with rfl | hz
      · exact hx
      · exact h1.1 z hz
    · next hx =>
      have hc : bef c x = true := by
        rcases bef_tri x c with h | h | h
        · exact absurd h hx
        · rw [hs.1] at h; cases h
        · exact h
      refine List.pairwise_cons.2 ⟨fun z hz => ?_, h⟩
      rcases List.mem_cons.1 hz with rfl | hz
      · exact hc
      · exact bef_trans hc (h1.1 z hz)
theorem pair_ext : ∀ {a b : List Cu}, (a.Pairwise fun a b => bef a b = true) → (b.Pairwise fun a b => bef a b = true) → (∀ x, x ∈ a ↔ x ∈ b) → a = b
  | [], [], _, _, _ => rfl
  | [], y :: b, _, _, h => by have := (h y).2 (by simp); simp at this
  | x :: a, [], _, _, h => by have := (h x).1 (by simp); simp at this
  | x :: a, y :: b, ha, hb, h => by
    have a1 := List.pairwise_cons.1 ha
    have b1 := List.pairwise_cons.1 hb
    have e : x = y := by
      rcases List.mem_cons.1 ((h x).1 (by simp)) with e | e
      · exact e
      · rcases List.mem_cons.1 ((h y).2 (by simp)) with e2 | e2
        · exact e2.symm
        · have := b1.1 x e
          rw [bef_asymm (a1.1 y e2)] at this; cases this
    subst e
    refine congrArg _ (pair_ext a1.2 b1.2 fun z => ?_)
    have ne : ∀ {l : List Cu}, (∀ z ∈ l, bef x z = true) → z ∈ l → z ≠ x := fun hl hz e => by
      have := hl z hz
      rw [e, bef_irrefl] at this; cases this
    constructor
    · intro hz
      rcases List.mem_cons.1 ((h z).1 (by simp [hz])) with e | e
      · exact absurd e (ne a1.1 hz)
      · exact e
    · intro hz
      rcases List.mem_cons.1 ((h z).2 (by simp [hz])) with e | e
      · exact absurd e (ne b1.1 hz)
      · exact e
def refS : List Cu → List Cu → Bool → List Cu × Bool
  | [], out, busy => (out, busy)
  | c :: r, out, busy => if has out c then refS r out true else refS r (ins c out) busy
theorem refS_busy : ∀ (m out : List Cu), (refS m out true).2 = true
  | [], _ => rfl
  | c :: r, out => by
    unfold refS
    split
    · exact refS_busy r out
    · exact refS_busy r _
theorem has_perm {a b : List Cu} (h : ∀ x, x ∈ a ↔ x ∈ b) (c : Cu) : has a c = has b c := by
  unfold has
  rw [Bool.eq_iff_iff, List.any_eq_true, List.any_eq_true]
  constructor
  · rintro ⟨x, hx, hs⟩; exact ⟨x, (h x).1 hx, hs⟩
  · rintro ⟨x, hx, hs⟩; exact ⟨x, (h x).2 hx, hs⟩
theorem refS_spec : ∀ (m out : List Cu), (out.Pairwise fun a b => bef a b = true) →
    ((refS m out false).2 = false ↔ NoSam m ∧ ∀ x ∈ m, has out x = false) ∧ ((refS m out false).2 = false → ((refS m out false).1.Pairwise fun a b => bef a b = true) ∧ (refS m out false).1.Perm (m ++ out))
  | [], out, h => ⟨⟨fun _ => ⟨by simp [NoSam], by simp⟩, fun _ => rfl⟩, fun _ => ⟨h, List.Perm.refl _⟩⟩
  | c :: r, out, h => by
    unfold refS
    split
    · next hh =>
      refine ⟨⟨fun e => ?_, fun e => ?_⟩, fun e => ?_⟩
      · rw [refS_busy] at e; cases e
      · rw [e.2 c (by simp)] at hh; cases hh
      · rw [refS_busy] at e; cases e
    · next hh =>
      have hh' : has out c = false := by simpa using hh
      obtain ⟨i1, i2⟩ := refS_spec r (ins c out) (ins_pair c h hh')
      have hins : ∀ x, has (ins c out) x = (sam c x || has out x) := fun x => by
        rw [has_perm (b := c :: out) (fun z => by rw [ins_mem, List.mem_cons]) x]
        simp [has]
      refine ⟨?_, fun e => ?_⟩
      · rw [i1]
        constructor
        · rintro ⟨a, b⟩
          refine ⟨List.pairwise_cons.2 ⟨fun x hx => ?_, a⟩, fun x hx => ?_⟩
          · have := b x hx
            rw [hins, Bool.or_eq_false_iff] at this
            exact this.1
          · rcases List.mem_cons.1 hx with rfl | hx
            · exact hh'
            · have := b x hx
              rw [hins, Bool.or_eq_false_iff] at this
              exact this.2
        · rintro ⟨a, b⟩
          have a1 := List.pairwise_cons.1 a
          refine ⟨a1.2, fun x hx => ?_⟩
          rw [hins, a1.1 x hx, b x (by simp [hx])]; rfl
      · obtain ⟨p1, p2⟩ := i2 e
        refine ⟨p1, p2.trans ?_⟩
        exact ((List.Perm.append_left r (ins_perm c out))).trans (List.perm_middle)
noncomputable def snapR (l : List Cu) (tm : List Tm) (s : Int) : List Cu × Int :=
  if validC l = true ∧ validB tm = true ∧ 1 ≤ s ∧ s ≤ Top then
    (if l.all (snOk tm s) then (if (refS (l.map (sn tm s)) [] false).2 then ([], 11) else ((refS (l.map (sn tm s)) [] false).1, 0)) else ([], 3))
  else ([], 2)
def SortC (X : Ext) : Prop := ∀ l : List Cu, l.length ≤ 100000 → ∃ s : List Cu, s.Perm l ∧ (s.Pairwise fun a b => bef b a = false) ∧
  run tab X 66 [.slice 100000 6 0 l.length, .p (.fn 54 [])] [.arr true kC (encU l)] = some ([], [.arr true kC (encU s)])
theorem sorted_up {s : List Cu} (h : s.Pairwise fun a b => bef b a = false) (hn : NoSam s) : s.Pairwise fun a b => bef a b = true := by
  have := h.and hn
  refine this.imp ?_
  rintro a b ⟨h1, h2⟩
  rcases bef_tri a b with h | h | h
  · exact h
  · rw [h] at h2; cases h2
  · rw [h] at h1; cases h1
theorem noSam_perm {a b : List Cu} (h : a.Perm b) : NoSam a ↔ NoSam b := h.pairwise_iff fun {x y} hxy => by rw [sam_comm]; exact hxy
theorem pair_noSam {a : List Cu} (h : a.Pairwise fun a b => bef a b = true) : NoSam a := h.imp fun hab => bef_not_sam hab
theorem sort_ref {m s : List Cu} (hp : s.Perm m) (hs : s.Pairwise fun a b => bef b a = false) :
    (rAll s 0 (s.length - 1) = true ↔ (refS m [] false).2 = false) ∧ ((refS m [] false).2 = false → s = (refS m [] false).1) := by
  obtain ⟨i1, i2⟩ := refS_spec m [] (by simp)
  have hns : (refS m [] false).2 = false ↔ NoSam m := by rw [i1]; exact ⟨fun h => h.1, fun h => ⟨h, fun x _ => rfl⟩⟩
  have k1 : rAll s 0 (s.length - 1) = true ↔ NoSam m := by
    rw [← noSam_perm hp, rAll_iff]
    constructor
    · intro h
      have hu : Up s := fun i hi => h i (by omega) (by omega)
      exact pair_noSam hu.pair
    · intro h j _ hj
      exact up_of_pair (sorted_up hs h) j (by omega)
  refine ⟨k1.trans hns.symm, fun h => ?_⟩
  obtain ⟨p1, p2⟩ := i2 h
  have hm := hns.1 h
  refine pair_ext (sorted_up hs ((noSam_perm hp).2 hm)) p1 fun x => ?_
  rw [hp.mem_iff, p2.mem_iff, List.append_nil]
section
variable (X : Ext) (hX : Mine X)
include hX
theorem c64' (tm : List Tm) (hl : tm.length ≤ maxLen) (t s : Int) : run tab X 64 [.p (.list true kT (encM tm)), .p (.int .i64 t), .p (.int .i64 s)] [] = some (pairR (nearF tm t s)) := by
  obtain ⟨p, h1, h2⟩ := c64 X hX tm hl t s
  rw [nearF_eq h1]; exact h2
theorem c68' (tm : List Tm) (t s : Int) : run tab X 68 [.p (.list true kT (encM tm)), .p (.int .i64 t), .p (.int .i64 s)] [] = some (pairR (nearF tm t s)) := by
  obtain ⟨p, h1, h2⟩ := c68 X hX tm t s
  rw [nearF_eq h1]; exact h2
theorem c31_loop (hT : Texts X) (hO : SortC X) (l : List Cu) (hl : l.length ≤ 1000) (tm : List Tm) (ht : tm.length ≤ maxLen) (hv : validB tm = true) (s : Int) : ∀ (n i : Nat), i + n = l.length →
    L tab (run tab X) 31 [] [.lp [1, 1, 1, 0, 1, 0]] (S31_111010 (encM tm) s 0 l.length 0 l.length l.length i (encU (upto (sn tm s) l i))) =
      some (if (l.drop i).all (snOk tm s) then (if (refS (l.map (sn tm s)) [] false).2 then listR [] 11 else listR (refS (l.map (sn tm s)) [] false).1 0) else listR [] 3) := by
  have hm : maxLen = 9223372036854775807 := by decide
  intro n
  induction n with
  | zero =>
    intro i hi
    have hi' : i = l.length := by omega
    subst hi'
    have hlen : (l.map (sn tm s)).length = l.length := by simp
    obtain ⟨o, o1, o2, o3⟩ := hO (l.map (sn tm s)) (by omega)
    rw [hlen] at o3
    have ol : o.length = l.length := by rw [o1.length_eq, hlen]
    obtain ⟨k1, k2⟩ := sort_ref o1 o2
    refine L_of ?_
    rw [e31_111010]
    simp only [condD]
    rw [if_neg (by omega), upto_all, List.drop_length]
    refine bindS o3 ?_
    simp only [List.headD_cons, xs_arr, List.drop_zero]
    rw [List.take_of_length_le (show (encU o).length ≤ l.length by simp [ol])]
    refine bindS (c57 X hX hT.cmp o (by omega)) ?_
    simp only [List.headD_cons, pv_p, toBool_bool, condO, List.all_nil, if_true]
    cases hr : (refS (l.map (sn tm s)) [] false).2 with
    | true =>
      have : rAll o 0 (o.length - 1) = false := by
        cases h : rAll o 0 (o.length - 1) with
        | false => rfl
        | true => rw [k1.1 h] at hr; cases hr
      rw [this]; rfl
    | false =>
      rw [k1.2 hr, ← k2 hr]; rfl
  | succ n ih =>
    intro i hi
    have hlt : i < l.length := by omega
    have w : IntKind.i64.wrap ((i : Int) + 1) = ((i + 1 : Nat) : Int) := by rw [wrap_eq (by omega) (by omega)]; omega
    have ih' := ih (i + 1) (by omega)
    have hs := upto_set (sn tm s) hlt
    have hd : l.drop i = l.getD i default :: l.drop (i + 1) := by
      rw [List.drop_eq_getElem_cons hlt]; simp [List.getD_eq_getElem?_getD, hlt]
    have hall : (l.drop i).all (snOk tm s) = (snOk tm s (l.getD i default) && (l.drop (i + 1)).all (snOk tm s)) := by rw [hd, List.all_cons]
    refine L_of ?_
    rw [e31_111010]
    simp only [condD, condA, Nat.zero_add, Int.toNat_natCast, encU_t, encU_f, encU_g, encU_r, encU_e, encU_b, w, upto_get (sn tm s) hlt]
    rw [if_pos (by omega), if_pos (by omega), if_pos (by omega)]
    refine bindS (c64' X hX tm ht _ s) (bindS (c65 X hX tm ht _) ?_)
    simp only [pairR, List.headD_cons, List.tail_cons, pv_p, toInt_int, condN]
    change (if (tOf tm s (l.getD i default).t).2 = 0 then _ else _) = _
    by_cases h0 : (tOf tm s (l.getD i default).t).2 = 0
    · have hok : snOk tm s (l.getD i default) = true := by simp only [snOk, h0, decide_true]
      rw [hok, Bool.true_and] at hall
      rw [if_pos h0, if_pos (by omega), if_pos (by omega), hall]
      rw [show (PV.agg [.int .i64 (timeR tm (nearF tm (l.getD i default).t s).1).1, .int .i64 (l.getD i default).f, .str (ba (l.getD i default).g), .int .u8 (l.getD i default).r, .int .u8 (l.getD i default).e, .int .u8 (l.getD i default).b]) = encC (sn tm s (l.getD i default)) from rfl, hs]
      exact ih'
    · have h3 : (tOf tm s (l.getD i default).t).2 = 3 := by
        rcases tOf_err hv s (l.getD i default).t with h | h
        · exact absurd h h0
        · exact h
      have hok : snOk tm s (l.getD i default) = false := by simp only [snOk, h0, decide_false]
      rw [hok, Bool.false_and] at hall
      rw [if_neg h0, hall]
      change some ([AV.fresh true kC [], AV.p (PV.int .i64 (tOf tm s (l.getD i default).t).2)], []) = _
      rw [h3]; rfl
theorem c31 (hT : Texts X) (hO : SortC X) (l : List Cu) (hn : Nam l) (hl : l.length ≤ 100000) (tm : List Tm) (ht : tm.length ≤ maxLen) (s : Int) : run tab X 31 [.p (.list true kC (encU l)), .p (.list true kT (encM tm)), .p (.int .i64 s)] [] = some (listR (snapR l tm s).1 (snapR l tm s).2) := by
  have hm : maxLen = 9223372036854775807 := by decide
  obtain ⟨p, p1, p2⟩ := c64 X hX tm ht 0 s
  refine run_of (hX _ rfl) ?_
  rw [e31]
  refine bindS p2 ?_
  simp only [pairR, List.headD_cons, List.tail_cons, pv_p, toInt_int, condN]
  unfold snapR
  by_cases hv : validB tm = true ∧ 1 ≤ s ∧ s ≤ Top
  · have p0 : p.2 = 0 := by
      unfold NearP at p1
      rw [if_pos hv, if_pos (by omega)] at p1
      exact p1.1
    rw [if_pos p0]
    refine bindS (c22 X hX hT.cmp l hn (by omega)) ?_
    simp only [List.headD_cons, pv_p, toBool_bool, condO]
    cases hvl : validC l with
    | false => rfl
    | true =>
      rw [if_pos ⟨rfl, hv⟩]
      simp only [cond_true]
      refine bindS (hT.clone l hl) ?_
      simp only [List.headD_cons, freshList_fresh, encU_length]
      have := c31_loop X hX hT hO l (validC_iff.1 hvl).len tm ht hv.1 s l.length 0 (by omega)
      rw [upto_zero, List.drop_zero] at this
      refine this.trans ?_
      split
      · split <;> rfl
      · rfl
  · have p0 : p.2 ≠ 0 := by
      unfold NearP at p1
      rw [if_neg hv] at p1
      rw [p1]; decide
    rw [if_neg p0, if_neg (fun h => hv h.2)]; rfl
theorem c32_loop (l : List Cu) (hl : l.length ≤ 1000) (tm : List Tm) (hv : validB tm = true) (s : Int) : ∀ (n i : Nat) (out : List Cu) (busy : Bool), i + n = l.length → out.length ≤ i → (out.Pairwise fun a b => bef a b = true) →
    L tab (run tab X) 32 [] [.lp [1, 1, 1, 1, 0, 1, 0]] (S32_1111010 (encU l) (encM tm) s 0 out.length busy i (encU out)) =
      some (if (l.drop i).all (snOk tm s) then (if (refS ((l.drop i).map (sn tm s)) out busy).2 then listR [] 11 else listR (refS ((l.drop i).map (sn tm s)) out busy).1 0) else listR [] 3) := by
  intro n
  induction n with
  | zero =>
    intro i out busy hi ho hp
    refine L_of ?_
    rw [e32_1111010]
    simp only [condD, encU_length, List.drop_zero]
    rw [if_neg (by omega), List.drop_eq_nil_of_le (show l.length ≤ i by omega), List.take_of_length_le (by simp)]
    cases busy <;> rfl
  | succ n ih =>
    intro i out busy hi ho hp
    have hlt : i < l.length := by omega
    have w : IntKind.i64.wrap ((i : Int) + 1) = ((i + 1 : Nat) : Int) := by rw [wrap_eq (by omega) (by omega)]; omega
    have hd : l.drop i = l.getD i default :: l.drop (i + 1) := by
      rw [List.drop_eq_getElem_cons hlt]; simp [List.getD_eq_getElem?_getD, hlt]
    have hall : (l.drop i).all (snOk tm s) = (snOk tm s (l.getD i default) && (l.drop (i + 1)).all (snOk tm s)) := by rw [hd, List.all_cons]
    have href : refS ((l.drop i).map (sn tm s)) out busy = if has out (sn tm s (l.getD i default)) then refS ((l.drop (i + 1)).map (sn tm s)) out true else refS ((l.drop (i + 1)).map (sn tm s)) (ins (sn tm s (l.getD i default)) out) busy := by
      rw [hd, List.map_cons, refS]
    refine L_of ?_
    rw [e32_1111010]
    simp only [condD, condA, encU_length, Int.toNat_natCast, encU_t, encU_f, encU_g, encU_r, encU_e, encU_b, w, List.drop_zero]
    rw [if_pos (by omega), if_pos (by omega), if_pos (by omega), List.take_of_length_le (show (encU out).length ≤ out.length by simp)]
    refine bindS (c68' X hX tm _ s) (bindS (c69 X hX tm _) ?_)
    simp only [pairR, List.headD_cons, List.tail_cons, pv_p, toInt_int, condN]
    change (if (tOf tm s (l.getD i default).t).2 = 0 then _ else _) = _
    by_cases h0 : (tOf tm s (l.getD i default).t).2 = 0
    · have hok : snOk tm s (l.getD i default) = true := by simp only [snOk, h0, decide_true]
      rw [hok, Bool.true_and] at hall
      rw [if_pos h0, hall, href]
      refine bindS (c56 X hX out (by omega) (sn tm s (l.getD i default))) ?_
      rw [putF_up _ (up_of_pair hp)]
      cases hh : has out (sn tm s (l.getD i default)) with
      | true => exact ih (i + 1) out true (by omega) (by omega) hp
      | false =>
        have hil : (ins (sn tm s (l.getD i default)) out).length = out.length + 1 := by rw [(ins_perm _ out).length_eq]; rfl
        have := ih (i + 1) (ins (sn tm s (l.getD i default)) out) busy (by omega) (by omega) (ins_pair _ hp hh)
        simp only [Bool.false_eq_true, if_false, putR, List.headD_cons, List.tail_cons, pv_p, toBool_bool, cond_true, freshList_fresh, encU_length]
        exact this
    · have h3 : (tOf tm s (l.getD i default).t).2 = 3 := by
        rcases tOf_err hv s (l.getD i default).t with h | h
        · exact absurd h h0
        · exact h
      have hok : snOk tm s (l.getD i default) = false := by simp only [snOk, h0, decide_false]
      rw [hok, Bool.false_and] at hall
      rw [if_neg h0, hall]
      change some ([AV.fresh true kC [], AV.p (PV.int .i64 (tOf tm s (l.getD i default).t).2)], []) = _
      rw [h3]; rfl
theorem c32 (l : List Cu) (hn : Nam l) (hl : l.length ≤ 100000) (tm : List Tm) (s : Int) : run tab X 32 [.p (.list true kC (encU l)), .p (.list true kT (encM tm)), .p (.int .i64 s)] [] = some (listR (snapR l tm s).1 (snapR l tm s).2) := by
  have hm : maxLen = 9223372036854775807 := by decide
  have hT : Top = 4194304 := rfl
  refine run_of (hX _ rfl) ?_
  rw [e32, c14 X hX l hn (by omega), c67 X hX tm]
  simp only [Option.bind_some, List.headD_cons, pv_p, toBool_bool, condO, condD]
  unfold snapR
  cases hvl : validC l with
  | false => rfl
  | true =>
    cases hvt : validB tm with
    | false => rfl
    | true =>
      simp only [cond_true, true_and]
      by_cases h1 : s < 1
      · rw [if_pos h1, if_neg (by omega)]; rfl
      · rw [if_neg h1]
        by_cases h2 : s > 4194304
        · rw [if_pos h2, if_neg (by omega)]; rfl
        · rw [if_neg h2, if_pos ⟨by omega, by omega⟩]
          have := c32_loop X hX l (validC_iff.1 hvl).len tm hvt s l.length 0 [] false (by omega) (by simp) (by simp)
          rw [List.drop_zero] at this
          refine this.trans ?_
          split
          · split <;> rfl
          · rfl
end
end Go.Skm.Cue
