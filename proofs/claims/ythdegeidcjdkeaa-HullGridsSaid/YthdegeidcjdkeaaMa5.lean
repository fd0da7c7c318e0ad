/-
  The document's hull is the program's; condition: points in range, at most 10000.
-/
import Derived.Test.YthdegeidcjdkeaaMa4
namespace Go.Skm.Hull
open Go Go.Skm

theorem sgn_zero {n : Int} : sgn n = 0 ↔ n = 0 := by unfold sgn; split <;> (try split) <;> omega
theorem sgn_pos {n : Int} : 0 < sgn n ↔ 0 < n := by unfold sgn; split <;> (try split) <;> omega
theorem sgn_nn {n : Int} : 0 ≤ sgn n ↔ 0 ≤ n := by unfold sgn; split <;> (try split) <;> omega
def Box (a b p : V3) : Prop := goMin a.x b.x ≤ p.x ∧ p.x ≤ goMax a.x b.x ∧ goMin a.y b.y ≤ p.y ∧ p.y ≤ goMax a.y b.y
theorem Box.symm {a b p : V3} (h : Box a b p) : Box b a p := by
  unfold Box goMin goMax at *
  repeat' split at h
  all_goals (repeat' split)
  all_goals omega
theorem Box.iff {a b p : V3} : Box a b p ↔ ((a.x ≤ p.x ∧ p.x ≤ b.x) ∨ (b.x ≤ p.x ∧ p.x ≤ a.x)) ∧ ((a.y ≤ p.y ∧ p.y ≤ b.y) ∨ (b.y ≤ p.y ∧ p.y ≤ a.y)) := by
  unfold Box goMin goMax
  repeat' split
  all_goals omega
theorem area_eq0 {a b p : V3} (k : area a b p = 0) : (b.x - a.x) * (p.y - a.y) = (b.y - a.y) * (p.x - a.x) := by unfold area at k; omega
theorem box_le {a b p : V3} (h : le2 a b) (k : area a b p = 0) (hb : Box a b p) : le2 a p ∧ le2 p b := by
  have e := area_eq0 k
  rw [Box.iff] at hb
  rcases h with h | ⟨h1, h2⟩
  · have hx : a.x ≤ p.x ∧ p.x ≤ b.x := by omega
    constructor
    · by_cases h3 : a.x < p.x
      · exact Or.inl h3
      · have h4 : p.x - a.x = 0 := by omega
        rw [h4, Int.mul_zero] at e
        rcases Int.mul_eq_zero.1 e with e | e
        · omega
        · exact Or.inr ⟨by omega, by omega⟩
    · by_cases h3 : p.x < b.x
      · exact Or.inl h3
      · have h4 : p.x - a.x = b.x - a.x := by omega
        rw [h4] at e
        have e2 : (b.x - a.x) * (p.y - b.y) = 0 := by
          have : (b.x - a.x) * (p.y - b.y) = (b.x - a.x) * (p.y - a.y) - (b.y - a.y) * (b.x - a.x) := by grind
          omega
        rcases Int.mul_eq_zero.1 e2 with e | e
        · omega
        · exact Or.inr ⟨by omega, by omega⟩
  · unfold le2; omega
theorem le_box {a b p : V3} (k : area a b p = 0) (h1 : le2 a p) (h2 : le2 p b) : Box a b p := by
  have e := area_eq0 k
  rw [Box.iff]
  by_cases hx : a.x < b.x
  · have hs : 0 ≤ p.x - a.x := by unfold le2 at h1; omega
    have hs2 : 0 ≤ b.x - p.x := by unfold le2 at h2; omega
    have e2 : (b.x - a.x) * (b.y - p.y) = (b.y - a.y) * (b.x - p.x) := by
      have : (b.x - a.x) * (b.y - p.y) = (b.x - a.x) * (b.y - a.y) - (b.x - a.x) * (p.y - a.y) := by grind
      rw [this, e]; grind
    refine ⟨Or.inl ⟨by omega, by omega⟩, ?_⟩
    by_cases hy : a.y ≤ b.y
    · left
      have m1 := mulnn (a := b.y - a.y) (by omega) hs
      have m2 := mulnn (a := b.y - a.y) (by omega) hs2
      constructor
      · refine Int.not_lt.1 fun hlt => ?_
        have := mulpp (a := b.x - a.x) (b := a.y - p.y) (by omega) (by omega)
        have e3 : (b.x - a.x) * (a.y - p.y) = - ((b.x - a.x) * (p.y - a.y)) := by grind
        omega
      · refine Int.not_lt.1 fun hlt => ?_
        have := mulpp (a := b.x - a.x) (b := p.y - b.y) (by omega) (by omega)
        have e3 : (b.x - a.x) * (p.y - b.y) = - ((b.x - a.x) * (b.y - p.y)) := by grind
        omega
    · right
      have m1 := mulnn (a := a.y - b.y) (by omega) hs
      have m2 := mulnn (a := a.y - b.y) (by omega) hs2
      have n1 : (a.y - b.y) * (p.x - a.x) = - ((b.y - a.y) * (p.x - a.x)) := by grind
      have n2 : (a.y - b.y) * (b.x - p.x) = - ((b.y - a.y) * (b.x - p.x)) := by grind
      constructor
      · refine Int.not_lt.1 fun hlt => ?_
        have := mulpp (a := b.x - a.x) (b := b.y - p.y) (by omega) (by omega)
        omega
      · refine Int.not_lt.1 fun hlt => ?_
        have := mulpp (a := b.x - a.x) (b := p.y - a.y) (by omega) (by omega)
        omega
  · unfold le2 at h1 h2; omega
theorem on_iff {a b p : V3} : onS a b p = true ↔ On2 a b p := by
  have h1 : onS a b p = true ↔ area a b p = 0 ∧ Box a b p := by
    unfold onS Box turnS
    simp only [Bool.and_eq_true, decide_eq_true_eq, beq_iff_eq, sgn_zero]
  rw [h1]
  constructor
  · rintro ⟨k, hb⟩
    refine ⟨k, ?_⟩
    rcases le2_or a b with h | h
    · exact Or.inl (box_le h k hb)
    · exact Or.inr (box_le h.le (by rw [area_rev]; omega) hb.symm)
  · rintro ⟨k, hb⟩
    refine ⟨k, ?_⟩
    rcases hb with ⟨g1, g2⟩ | ⟨g1, g2⟩
    · exact le_box k g1 g2
    · exact (le_box (a := b) (b := a) (by rw [area_rev]; omega) g1 g2).symm
def In2 (a b c p : V3) : Prop := On2 a b p ∨ On2 b c p ∨ On2 c a p ∨ Tri a b c p
theorem in_iff {a b c p : V3} : inS a b c p = true ↔ In2 a b c p := by
  unfold inS In2
  simp only [Bool.or_eq_true, on_iff, Bool.and_eq_true, bne_iff_ne, beq_iff_eq, ne_eq]
  have : (¬ turnS a b p = 0 ∧ turnS a b p = turnS b c p ∧ turnS b c p = turnS c a p) ↔ Tri a b c p := by
    unfold turnS Tri sgn
    repeat' split
    all_goals omega
  rw [this]
theorem Tri.swap {a b c p : V3} (h : Tri a b c p) : Tri b a c p := by
  unfold Tri at *
  have e1 := area_rev a b p
  have e2 := area_rev c a p
  have e3 := area_rev b c p
  omega
theorem Tri.rot {a b c p : V3} (h : Tri a b c p) : Tri b c a p := by
  unfold Tri at *
  omega
theorem In2.swap {a b c p : V3} (h : In2 a b c p) : In2 b a c p := by
  rcases h with h | h | h | h
  · exact Or.inl h.symm
  · exact Or.inr (Or.inr (Or.inl h.symm))
  · exact Or.inr (Or.inl h.symm)
  · exact Or.inr (Or.inr (Or.inr h.swap))
theorem In2.rot {a b c p : V3} (h : In2 a b c p) : In2 b c a p := by
  rcases h with h | h | h | h
  · exact Or.inr (Or.inr (Or.inl h))
  · exact Or.inl h
  · exact Or.inr (Or.inl h)
  · exact Or.inr (Or.inr (Or.inr h.rot))

theorem covT_iff {l : List V3} {p : V3} {i k m : Nat} : covT l p i k m = true ↔ (gt l i ≠ p ∧ gt l k ≠ p ∧ gt l m ≠ p) ∧ In2 (gt l i) (gt l k) (gt l m) p := by
  unfold covT
  simp only [Bool.and_eq_true, Bool.not_eq_true', decide_eq_false_iff_not, in_iff, ne_eq]
  exact ⟨fun ⟨a, b, c, d⟩ => ⟨⟨a, b, c⟩, d⟩, fun ⟨⟨a, b, c⟩, d⟩ => ⟨a, b, c, d⟩⟩
theorem covT_swap {l : List V3} {p : V3} {i k m : Nat} (h : covT l p i k m = true) : covT l p k i m = true := by
  rw [covT_iff] at *
  exact ⟨⟨h.1.2.1, h.1.1, h.1.2.2⟩, h.2.swap⟩
theorem covT_rot {l : List V3} {p : V3} {i k m : Nat} (h : covT l p i k m = true) : covT l p k m i = true := by
  rw [covT_iff] at *
  exact ⟨⟨h.1.2.1, h.1.2.2, h.1.1⟩, h.2.rot⟩
theorem covR_iff {l : List V3} {p : V3} : covR l p = true ↔ ∃ i k m, i < l.length ∧ k < l.length ∧ m < l.length ∧ covT l p i k m = true := by
  unfold covR
  constructor
  · intro h
    obtain ⟨i, _, hi, h⟩ := (anyFrom_iff _ _ _).1 h
    obtain ⟨k, _, hk, h⟩ := (anyFrom_iff _ _ _).1 h
    obtain ⟨m, _, hm, h⟩ := (anyFrom_iff _ _ _).1 h
    exact ⟨i, k, m, by omega, by omega, by omega, h⟩
  · rintro ⟨i, k, m, hi, hk, hm, h⟩
    have fin : ∀ i k m, i < l.length → k ≤ i → m ≤ k → covT l p i k m = true → anyFrom (fun i => anyFrom (fun k => anyFrom (covT l p i k) (k + 1) 0) (i + 1) 0) l.length 0 = true := by
      intro i k m h1 h2 h3 h4
      refine (anyFrom_iff _ _ _).2 ⟨i, by omega, by omega, ?_⟩
      refine (anyFrom_iff _ _ _).2 ⟨k, by omega, by omega, ?_⟩
      exact (anyFrom_iff _ _ _).2 ⟨m, by omega, by omega, h4⟩
    by_cases a1 : k ≤ i
    · by_cases a2 : m ≤ k
      · exact fin i k m hi a1 a2 h
      · by_cases a3 : m ≤ i
        · exact fin i m k hi a3 (by omega) (covT_rot (covT_swap h))
        · exact fin m i k hm (by omega) a1 (covT_rot (covT_rot h))
    · by_cases a2 : m ≤ i
      · exact fin k i m hk (by omega) a2 (covT_swap h)
      · by_cases a3 : m ≤ k
        · exact fin k m i hk a3 (by omega) (covT_rot h)
        · exact fin m k i hm (by omega) (by omega) (covT_rot (covT_rot (covT_swap h)))
theorem mem_gt {l : List V3} {v : V3} (h : v ∈ l) : ∃ i, i < l.length ∧ gt l i = v := by
  obtain ⟨i, hi, e⟩ := List.getElem_of_mem h
  refine ⟨i, hi, ?_⟩
  unfold gt
  rw [List.getD_eq_getElem?_getD, List.getElem?_eq_getElem hi, e]; rfl
theorem IsHull.covR {S : V3 → Prop} (hf : Flat S) {h : List V3} (hh : IsHull S h) {l : List V3} (hl : ∀ q, q ∈ l ↔ S q) {p : V3} (hp : p ∈ l) : Hull.covR l p = true ↔ p ∉ h := by
  rw [covR_iff]
  constructor
  · rintro ⟨i, k, m, hi, hk, hm, ht⟩ hph
    rw [covT_iff] at ht
    obtain ⟨⟨n1, n2, n3⟩, ht⟩ := ht
    have s1 := (hl _).1 (gt_mem hi)
    have s2 := (hl _).1 (gt_mem hk)
    have s3 := (hl _).1 (gt_mem hm)
    rcases ht with ht | ht | ht | ht
    · exact hh.no_seg hf hph s1 s2 n1.symm n2.symm ht
    · exact hh.no_seg hf hph s2 s3 n2.symm n3.symm ht
    · exact hh.no_seg hf hph s3 s1 n3.symm n1.symm ht
    · exact hh.no_tri hf hph s1 s2 s3 n1.symm ht
  · intro hph
    obtain ⟨a, b, c, sa, sb, sc, na, nb, nc, ht⟩ := hh.cov hf ((hl p).1 hp) hph
    obtain ⟨i, hi, rfl⟩ := mem_gt ((hl a).2 sa)
    obtain ⟨k, hk, rfl⟩ := mem_gt ((hl b).2 sb)
    obtain ⟨m, hm, rfl⟩ := mem_gt ((hl c).2 sc)
    refine ⟨i, k, m, hi, hk, hm, covT_iff.2 ⟨⟨na.symm, nb.symm, nc.symm⟩, ?_⟩⟩
    rcases ht with ht | ht
    · exact Or.inl ht
    · exact Or.inr (Or.inr (Or.inr ht))

theorem insD_sorted {p : V3} (hp : p.z = 0) : ∀ {s : List V3}, (∀ v ∈ s, v.z = 0) → s.Pairwise lt2 → (insD p s).Pairwise lt2
  | [], _, _ => List.pairwise_singleton _ _
  | q :: r, hz, h => by
    have hq := hz q (by simp)
    have h1 := List.pairwise_cons.1 h
    unfold insD
    split
    · rename_i hlt
      have hlt := cmpV_lt.1 hlt
      refine List.pairwise_cons.2 ⟨fun v hv => ?_, insD_sorted hp (fun v hv => hz v (List.mem_cons_of_mem _ hv)) h1.2⟩
      rcases (insD_mem p r v).1 hv with rfl | hv
      · unfold lt2; omega
      · exact h1.1 v hv
    · rename_i hlt
      split
      · exact h
      · rename_i hne
        have hpq : lt2 p q := by
          have h2 : ¬ (q.x < p.x ∨ (q.x = p.x ∧ (q.y < p.y ∨ (q.y = p.y ∧ q.z < p.z)))) := fun x => hlt (cmpV_lt.2 x)
          have h3 : ¬ (q.x = p.x ∧ q.y = p.y) := fun e => hne (V3.ext' e.1 e.2 (by omega))
          unfold lt2; omega
        refine List.pairwise_cons.2 ⟨fun v hv => ?_, h⟩
        rcases List.mem_cons.1 hv with rfl | hv
        · exact hpq
        · exact hpq.trans (h1.1 v hv)
theorem flatD_sorted : ∀ (l s : List V3), (∀ v ∈ s, v.z = 0) → s.Pairwise lt2 → (flatD s l).Pairwise lt2
  | [], _, _, h => h
  | p :: l, s, hz, h => flatD_sorted l _ (fun v hv => by
      rcases (insD_mem _ s v).1 hv with rfl | hv
      · rfl
      · exact hz v hv) (insD_sorted rfl hz h)
theorem flatD_flatS (l : List V3) (q : V3) : q ∈ flatD [] l ↔ q ∈ flatS l := by
  rw [flatD_mem, flatS_mem]; simp
theorem cornD_mem {l : List V3} (hne : l ≠ []) (q : V3) : q ∈ cornD l ↔ q ∈ hullC l := by
  have hh := hullC_ok hne
  have hf := flatS_flat l
  have hl := flatD_flatS l
  unfold cornD
  rw [List.mem_filter]
  constructor
  · rintro ⟨h1, h2⟩
    have h3 := hh.covR hf hl h1
    by_cases h4 : q ∈ hullC l
    · exact h4
    · rw [h3.2 h4] at h2; simp at h2
  · intro h
    have h1 := (hl q).2 (hh.sub q h)
    refine ⟨h1, ?_⟩
    have h3 := hh.covR hf hl h1
    by_cases h4 : covR (flatD [] l) q = true
    · exact absurd h (h3.1 h4)
    · simpa using h4
theorem lt2_nodup {l : List V3} (h : l.Pairwise lt2) : l.Nodup := h.imp fun hab e => by subst e; exact lt2_irrefl hab

theorem find_of {C : List V3} {f : V3 → Bool} {d : V3} (h1 : d ∈ C) (h2 : f d = true) (h3 : ∀ e ∈ C, f e = true → e = d) : C.find? f = some d := by
  have : (C.find? f).isSome = true := List.find?_isSome.2 ⟨d, h1, h2⟩
  obtain ⟨e, he⟩ := Option.isSome_iff_exists.1 this
  rw [he, h3 e (List.mem_of_find?_eq_some he) (List.find?_some he)]
theorem wrap_of {C : List V3} {S : V3 → Prop} (hn : ∀ b d, Nx S b d → d ∈ C → C.find? (fineD C b) = some d) {a : V3} : ∀ (t : List V3) (b : V3), (∀ v ∈ t, v ∈ C) → Pth (Nx S) ((b :: t) ++ [a]) → Wrap C b t
  | [], _, _, _ => trivial
  | d :: t, b, hC, hp => ⟨hn b d hp.1 (hC d (by simp)), wrap_of hn t d (fun v hv => hC v (List.mem_cons_of_mem _ hv)) hp.2⟩
/-- The way round the corners is the program's hull. -/
theorem hull_wrap {l : List V3} (hne : l ≠ []) : ∃ a t c, hullC l = a :: t ∧ cornD l = a :: c ∧ t.length = c.length ∧ Wrap (a :: c) a t := by
  have hh := hullC_ok hne
  have hf := flatS_flat l
  have hm := cornD_mem hne
  have hnd := hh.nodup hf
  have hcs : (cornD l).Pairwise lt2 := (flatD_sorted l [] (by simp) List.Pairwise.nil).filter _
  have hcn := lt2_nodup hcs
  have hsub := hh.sub
  have hns := fun p hp q1 q2 => hh.no_seg hf (p := p) (q1 := q1) (q2 := q2) hp
  obtain ⟨a, t, e, sa, la, na, t0, t1⟩ := hh
  rw [e] at hm hnd hsub hns
  cases hc : cornD l with
  | nil => 
    have := (hm a).2 (by simp)
    rw [hc] at this
    simp at this
  | cons x c =>
    rw [hc] at hm hcs hcn
    have hax : x = a := by
      rcases List.mem_cons.1 ((hm a).2 (by simp)) with h | h
      · exact h.symm
      · exact absurd (la x (hsub x ((hm x).1 (by simp)))) fun h2 => lt2_le2 ((List.pairwise_cons.1 hcs).1 a h) h2
    subst hax
    have hperm : (x :: t).Perm (x :: c) := (List.perm_ext_iff_of_nodup hnd hcn).2 fun v => (hm v).symm
    refine ⟨x, t, c, e, rfl, by simpa using hperm.length_eq, ?_⟩
    by_cases ht : t = []
    · subst ht; trivial
    · refine wrap_of (S := fun q => q ∈ flatS l) (a := x) (fun b d hn hd => ?_) t x (fun v hv => (hm v).2 (List.mem_cons_of_mem _ hv)) (t1 ht)
      obtain ⟨sb, sd, nbd, hbd⟩ := hn
      refine find_of hd ?_ fun e' he' hfe => ?_
      · unfold fineD
        rw [Bool.and_eq_true, List.all_eq_true]
        refine ⟨by simpa using nbd, fun q hq => ?_⟩
        have := (hbd q (hsub q ((hm q).1 hq))).1
        simpa [turnS] using sgn_nn.2 this
      · unfold fineD at hfe
        rw [Bool.and_eq_true, List.all_eq_true] at hfe
        obtain ⟨g1, g2⟩ := hfe
        have nbe : b ≠ e' := by simpa using g1
        have k1 : 0 ≤ area b e' d := by
          have := g2 d hd
          simp only [ge_iff_le, decide_eq_true_eq, turnS] at this
          exact sgn_nn.1 this
        have se := hsub e' ((hm e').1 he')
        have k2 := hbd e' se
        have k3 := area_swap b e' d
        have z : area b d e' = 0 := by omega
        by_cases hed : e' = d
        · exact hed
        · exact (hns e' ((hm e').1 he') b d sb sd (fun h => nbe h.symm) hed ⟨z, k2.2 z⟩).elim

/-- What counts as a hull, by the document. -/
def hullW (h : List V3) : Bool := decide (0 < h.length) && (decide (h.length ≤ 10000) && (ptsB h && decide (hullC h = h)))
theorem hullW_eq (h : List V3) : hullW h = hullV h := by
  unfold hullW hullV hullF
  by_cases h1 : h.length > 10000
  · have : decide (h.length ≤ 10000) = false := by simpa using h1
    rw [if_pos h1, this]; simp
  · rw [if_neg h1]
    cases hp : ptsB h with
    | false => simp
    | true =>
      by_cases h0 : h.length = 0
      · simp [h0]
      · have : decide (h.length ≤ 10000) = true := by simpa using h1
        have h3 : decide (0 < h.length) = true := by simp; omega
        rw [this, h3]; simp [h0]

section
variable (X : Ext) (hX : ∀ f, f ≠ 30 → X f = none)
include hX
theorem d13 (l : List V3) (h0 : l ≠ []) (hl : l.length ≤ 10000) (hb : ∀ v ∈ l, Bd 1048576 v) : run tab X 13 [.p (.list true kV (encL l))] [] = some ([.fresh true kV (encL (hullC l))], []) := by
  obtain ⟨a, t, c, e1, e2, e3, e4⟩ := hull_wrap h0
  rw [e1]
  refine c13 X hX l hl hb a t c e2 e3 (fun v hv => ?_) e4
  have : v ∈ flatS l := (hullC_ok h0).sub v (by rw [e1]; exact List.mem_cons_of_mem _ hv)
  exact (flatS_bd hb v this).mono (by decide)
theorem c15 (h : List V3) (hl : h.length ≤ 4611686018427387903) : run tab X 15 [.p (.list true kV (encL h))] [] = some ([.p (.bool (hullV h))], []) := by
  refine run_of (hX _ (by decide)) ?_
  rw [e15, ← hullW_eq]
  unfold hullW
  simp only [condD, encL_length]
  by_cases h0 : 0 < h.length
  case neg =>
    rw [if_neg (by omega), decide_eq_false h0]; rfl
  rw [if_pos (by omega), decide_eq_true h0]
  by_cases h1 : h.length ≤ 10000
  case neg =>
    rw [if_neg (by omega), decide_eq_false h1]; rfl
  rw [if_pos (by omega), decide_eq_true h1]
  simp only [c12 X hX h hl, Option.bind_some, List.headD_cons, pv_p, toBool_bool, Bool.true_and]
  cases hp : ptsB h with
  | false => rfl
  | true =>
    simp only [cond_true, Bool.true_and]
    have hn : h ≠ [] := by intro e; subst e; simp at h0
    have e2 := d13 X hX h hn h1 (ptsB_bd.1 hp)
    have e3 := c11 X hX (hullC h) h (by have := hullC_len h; omega)
    simp only [e2, Option.bind_some, List.headD_cons, freshList_fresh, List.drop_zero]
    have e4 : List.take (encL (hullC h)).length (encL (hullC h)) = encL (hullC h) := List.take_of_length_le (Nat.le_refl _)
    rw [e4]
    simp only [e3, Option.bind_some, List.headD_cons, pv_p, toBool_bool]
end
end Go.Skm.Hull
