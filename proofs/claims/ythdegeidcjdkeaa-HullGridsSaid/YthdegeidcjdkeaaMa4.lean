/-
  The corners of a hull are the points that no line and no triangle of others has; no program, no condition beside the hypotheses of each.
-/
import Derived.Test.YthdegeidcjdkeaaMa3
namespace Go.Skm.Hull
open Go Go.Skm

theorem path_nodup {S : V3 → Prop} (hf : Flat S) {a : V3} : ∀ (t : List V3) (b : V3), a ∉ t → Pth (Nx S) ((b :: t) ++ [a]) → b ∉ t ∧ t.Nodup
  | [], _, _, _ => ⟨by simp, List.Pairwise.nil⟩
  | c :: t, b, ha, hp => by
    have ih := path_nodup hf t c (fun x => ha (by simp [x])) hp.2
    refine ⟨fun hb => ?_, List.nodup_cons.2 ih⟩
    obtain ⟨t1, t2, e⟩ := List.append_of_mem hb
    rw [e] at hp ha
    have h2 : Pth (Nx S) ((b :: t2) ++ [a]) := by
      have : (b :: (t1 ++ b :: t2)) ++ [a] = (b :: t1) ++ (b :: (t2 ++ [a])) := by simp
      rw [this] at hp
      have drop : ∀ (l r : List V3), Pth (Nx S) (l ++ r) → Pth (Nx S) r := by
        intro l
        induction l with
        | nil => exact fun r h => h
        | cons x l ih =>
          intro r h
          refine ih r ?_
          match hl : l ++ r, h with
          | [], _ => trivial
          | y :: s, h => rw [List.cons_append, hl] at h; exact h.2
      exact drop _ _ hp
    have h3 := path_unique hf _ _ b ha (fun x => ha (by simp [x])) hp h2
    have := congrArg List.length h3
    simp at this
    omega
theorem IsHull.nodup {S : V3 → Prop} (hf : Flat S) {h : List V3} (hh : IsHull S h) : h.Nodup := by
  obtain ⟨a, t, rfl, sa, la, na, t0, t1⟩ := hh
  by_cases ht : t = []
  · subst ht; simp
  · have := path_nodup hf t a na (t1 ht)
    exact List.nodup_cons.2 this
theorem path_next {R : V3 → V3 → Prop} {a : V3} : ∀ {t : List V3} {p : V3}, Pth R (t ++ [a]) → p ∈ t → ∃ b, b ∈ t ++ [a] ∧ R p b
  | c :: [], p, h, hp => by
    have : p = c := by simpa using hp
    subst this
    exact ⟨a, by simp, h.1⟩
  | c :: d :: t, p, h, hp => by
    rcases List.mem_cons.1 hp with rfl | hp
    · exact ⟨d, by simp, h.1⟩
    · obtain ⟨b, h1, h2⟩ := path_next (t := d :: t) h.2 hp
      exact ⟨b, List.mem_cons_of_mem _ h1, h2⟩
theorem IsHull.sub {S : V3 → Prop} {h : List V3} (hh : IsHull S h) : ∀ p ∈ h, S p := by
  obtain ⟨a, t, rfl, sa, la, na, t0, t1⟩ := hh
  intro p hp
  by_cases ht : t = []
  · subst ht
    have : p = a := by simpa using hp
    subst this; exact sa
  · obtain ⟨b, -, h2⟩ := path_next (t := a :: t) (t1 ht) hp
    exact h2.1
theorem IsHull.next {S : V3 → Prop} {h : List V3} (hh : IsHull S h) {p : V3} (hp : p ∈ h) {q : V3} (hq : S q) (hne : q ≠ p) : ∃ b, Nx S p b := by
  obtain ⟨a, t, rfl, sa, la, na, t0, t1⟩ := hh
  by_cases ht : t = []
  · subst ht
    have h1 : p = a := by simpa using hp
    exact absurd ((t0 rfl q hq).trans h1.symm) hne
  · obtain ⟨b, -, h2⟩ := path_next (t := a :: t) (t1 ht) hp
    exact ⟨b, h2⟩

/-- Between two others, on their line. -/
def On2 (a b p : V3) : Prop := area a b p = 0 ∧ Btw a b p
def Tri (a b c p : V3) : Prop := (0 < area a b p ∧ 0 < area b c p ∧ 0 < area c a p) ∨ (area a b p < 0 ∧ area b c p < 0 ∧ area c a p < 0)
theorem le_lt {S : V3 → Prop} (hf : Flat S) {a b : V3} (ha : S a) (hb : S b) (h : le2 a b) (hne : a ≠ b) : lt2 a b := by
  rcases le2_or b a with h2 | h2
  · exact absurd (flat_eq hf ha hb h h2) hne
  · exact h2

theorem fan_seg {S : V3 → Prop} (hf : Flat S) {a c d p : V3} (la : ∀ q, S q → le2 a q) (sa : S a) (_sc : S c) (sp : S p) (hpa : p ≠ a) (k1 : area a c p = 0) (k2 : 0 < area c d p) (k3 : area a d p < 0) : On2 a c p := by
  refine ⟨k1, Or.inl ⟨la p sp, ?_⟩⟩
  rcases le2_or p c with h | h
  · exact h
  · exfalso
    have hap := le_lt hf sa sp (la p sp) (fun e => hpa e.symm)
    have : (0 : Int) < 0 := by
      refine coneS (α := 0) (β := area c d p) (γ := - area a d p) (vx := 1) (vy := 0) (wx := p.x - a.x) (wy := p.y - a.y) (ux := p.x - c.x) (uy := p.y - c.y) (by omega) ?_ ?_ k2 (by omega) ?_ ?_
      · unfold lt2 at hap; omega
      · unfold lt2 at h; omega
      · have : (area c d p) * (p.x - a.x) + (- area a d p) * (p.x - c.x) = (area a c p) * (d.x - p.x) := by unfold area; grind
        rw [this, k1]; simp
      · have : (area c d p) * (p.y - a.y) + (- area a d p) * (p.y - c.y) = (area a c p) * (d.y - p.y) := by unfold area; grind
        rw [this, k1]; simp
    omega

theorem fan_cov {S : V3 → Prop} (hf : Flat S) {a p : V3} (la : ∀ q, S q → le2 a q) (sa : S a) (sp : S p) (hpa : p ≠ a) : ∀ (t : List V3) (c : V3), Pth (Nx S) ((c :: t) ++ [a]) → 0 ≤ area a c p → p ∉ c :: t →
    (∃ c d, S c ∧ S d ∧ p ≠ c ∧ p ≠ d ∧ On2 c d p) ∨ (∃ c d, S c ∧ S d ∧ p ≠ c ∧ p ≠ d ∧ 0 < area a c p ∧ 0 < area c d p ∧ 0 < area d a p)
  | [], c, hp, h0, hne => by
    have hn := hp.1
    have k := hn.2.2.2 p sp
    have e1 := area_swap c a p
    have e2 := area_cyc a c p
    have e3 := area_cyc c p a
    have e4 : area c a p = - area a c p := by unfold area; grind
    exact Or.inl ⟨c, a, hn.1, sa, fun e => hne (by simp [e]), hpa, by omega, k.2 (by omega)⟩
  | d :: t, c, hp, h0, hne => by
    have hn := hp.1
    by_cases h1 : 0 ≤ area a d p
    · exact fan_cov hf la sa sp hpa t d hp.2 h1 (fun x => hne (List.mem_cons_of_mem _ x))
    · have hpc : p ≠ c := fun e => hne (by simp [e])
      have hpd : p ≠ d := fun e => hne (by simp [e])
      have k := hn.2.2.2 p sp
      have e4 : area d a p = - area a d p := by unfold area; grind
      by_cases h2 : area c d p = 0
      · exact Or.inl ⟨c, d, hn.1, hn.2.1, hpc, hpd, h2, k.2 h2⟩
      · have k2 : 0 < area c d p := by omega
        by_cases h3 : area a c p = 0
        · exact Or.inl ⟨a, c, sa, hn.1, hpa, hpc, fan_seg hf la sa hn.1 sp hpa h3 k2 (by omega)⟩
        · exact Or.inr ⟨c, d, hn.1, hn.2.1, hpc, hpd, by omega, k2, by omega⟩

/-- A point that is no corner is on a line or in a triangle of others. -/
theorem IsHull.cov {S : V3 → Prop} (hf : Flat S) {h : List V3} (hh : IsHull S h) {p : V3} (sp : S p) (hp : p ∉ h) :
    ∃ a b c, S a ∧ S b ∧ S c ∧ p ≠ a ∧ p ≠ b ∧ p ≠ c ∧ (On2 a b p ∨ Tri a b c p) := by
  obtain ⟨a, t, rfl, sa, la, na, t0, t1⟩ := hh
  have hpa : p ≠ a := fun e => hp (by simp [e])
  cases t with
  | nil => exact absurd (t0 rfl p sp) hpa
  | cons c t =>
    have hpt := t1 (by simp)
    have hn := hpt.1
    rcases fan_cov hf la sa sp hpa t c hpt.2 (hn.2.2.2 p sp).1 (fun x => hp (List.mem_cons_of_mem _ x)) with ⟨c, d, h1, h2, h3, h4, h5⟩ | ⟨c, d, h1, h2, h3, h4, h5, h6, h7⟩
    · exact ⟨c, d, d, h1, h2, h2, h3, h4, h4, Or.inl h5⟩
    · exact ⟨a, c, d, sa, h1, h2, hpa, h3, h4, Or.inr (Or.inl ⟨h5, h6, h7⟩)⟩

theorem area_rev (a b p : V3) : area b a p = - area a b p := by unfold area; grind
theorem On2.symm {a b p : V3} (h : On2 a b p) : On2 b a p := by
  have h1 := h.1
  have e := area_rev a b p
  exact ⟨by omega, h.2.symm⟩
theorem nx_no_seg {S : V3 → Prop} (_hf : Flat S) {p b q1 q2 : V3} (hn : Nx S p b) (h1 : S q1) (h2 : S q2) (l1 : lt2 q1 p) (l2 : lt2 p q2) (k : area q1 q2 p = 0) : False := by
  obtain ⟨sp, sb, -, hb⟩ := hn
  have f1 := hb q1 h1
  have f2 := hb q2 h2
  have i1 : (area p b q2) * (p.x - q1.x) + (area p b q1) * (q2.x - p.x) = (- area q1 q2 p) * (b.x - p.x) := by unfold area; grind
  have i2 : (area p b q2) * (p.y - q1.y) + (area p b q1) * (q2.y - p.y) = (- area q1 q2 p) * (b.y - p.y) := by unfold area; grind
  rw [k] at i1 i2
  simp only [Int.neg_zero, Int.zero_mul] at i1 i2
  have z2 : area p b q2 = 0 := by
    refine Int.le_antisymm (Int.not_lt.1 fun hlt => ?_) f2.1
    have : (0 : Int) < 0 := by
      refine coneS (α := 0) (β := area p b q2) (γ := area p b q1) (vx := 1) (vy := 0) (wx := p.x - q1.x) (wy := p.y - q1.y) (ux := q2.x - p.x) (uy := q2.y - p.y) (by omega) ?_ ?_ hlt f1.1 (by omega) (by omega)
      · unfold lt2 at l1; omega
      · unfold lt2 at l2; omega
    omega
  have z1 : area p b q1 = 0 := by
    refine Int.le_antisymm (Int.not_lt.1 fun hlt => ?_) f1.1
    have : (0 : Int) < 0 := by
      refine coneS (α := 0) (β := area p b q1) (γ := area p b q2) (vx := 1) (vy := 0) (wx := q2.x - p.x) (wy := q2.y - p.y) (ux := p.x - q1.x) (uy := p.y - q1.y) (by omega) ?_ ?_ hlt f2.1 (by omega) (by omega)
      · unfold lt2 at l2; omega
      · unfold lt2 at l1; omega
    omega
  rcases f1.2 z1 with ⟨g1, g2⟩ | ⟨g1, g2⟩
  · exact lt2_le2 l1 g1
  · rcases f2.2 z2 with ⟨g3, g4⟩ | ⟨g3, g4⟩
    · exact lt2_le2 (l1.trans l2) (g4.trans g1)
    · exact lt2_le2 l2 g4
/-- A corner is on no line of others. -/
theorem IsHull.no_seg {S : V3 → Prop} (hf : Flat S) {h : List V3} (hh : IsHull S h) {p q1 q2 : V3} (hp : p ∈ h) (h1 : S q1) (h2 : S q2) (n1 : p ≠ q1) (n2 : p ≠ q2) (k : On2 q1 q2 p) : False := by
  obtain ⟨b, hn⟩ := hh.next hp h1 (fun e => n1 e.symm)
  have sp := hh.sub p hp
  rcases k.2 with ⟨g1, g2⟩ | ⟨g1, g2⟩
  · exact nx_no_seg hf hn h1 h2 (le_lt hf h1 sp g1 (fun e => n1 e.symm)) (le_lt hf sp h2 g2 n2) k.1
  · exact nx_no_seg hf hn h2 h1 (le_lt hf h2 sp g1 (fun e => n2 e.symm)) (le_lt hf sp h1 g2 n1) k.symm.1
/-- A corner is in no triangle of others. -/
theorem IsHull.no_tri {S : V3 → Prop} (hf : Flat S) {h : List V3} (hh : IsHull S h) {p q1 q2 q3 : V3} (hp : p ∈ h) (h1 : S q1) (h2 : S q2) (h3 : S q3) (n1 : p ≠ q1) (k : Tri q1 q2 q3 p) : False := by
  obtain ⟨b, hn⟩ := hh.next hp h1 (fun e => n1 e.symm)
  obtain ⟨sp, sb, npb, hb⟩ := hn
  have f1 := (hb q1 h1).1
  have f2 := (hb q2 h2).1
  have f3 := (hb q3 h3).1
  have id1 : area q1 q2 p * area p b q3 + area q2 q3 p * area p b q1 + area q3 q1 p * area p b q2 = 0 := by unfold area; grind
  have z : area p b q1 = 0 ∧ area p b q2 = 0 := by
    rcases k with ⟨k1, k2, k3⟩ | ⟨k1, k2, k3⟩
    · have m1 := mulnn (Int.le_of_lt k1) f3
      have m2 := mulnn (Int.le_of_lt k2) f1
      have m3 := mulnn (Int.le_of_lt k3) f2
      have e2 : area q2 q3 p * area p b q1 = 0 := by omega
      have e3 : area q3 q1 p * area p b q2 = 0 := by omega
      refine ⟨?_, ?_⟩
      · rcases Int.mul_eq_zero.1 e2 with e | e
        · omega
        · exact e
      · rcases Int.mul_eq_zero.1 e3 with e | e
        · omega
        · exact e
    · have m1 := mulnn (a := - area q1 q2 p) (by omega) f3
      have m2 := mulnn (a := - area q2 q3 p) (by omega) f1
      have m3 := mulnn (a := - area q3 q1 p) (by omega) f2
      rw [Int.neg_mul] at m1 m2 m3
      have e2 : area q2 q3 p * area p b q1 = 0 := by omega
      have e3 : area q3 q1 p * area p b q2 = 0 := by omega
      refine ⟨?_, ?_⟩
      · rcases Int.mul_eq_zero.1 e2 with e | e
        · omega
        · exact e
      · rcases Int.mul_eq_zero.1 e3 with e | e
        · omega
        · exact e
  have ix : area q1 q2 p * (b.x - p.x) = area p b q1 * (p.x - q2.x) - area p b q2 * (p.x - q1.x) := by unfold area; grind
  have iy : area q1 q2 p * (b.y - p.y) = area p b q1 * (p.y - q2.y) - area p b q2 * (p.y - q1.y) := by unfold area; grind
  rw [z.1, z.2] at ix iy
  simp only [Int.zero_mul, Int.sub_self] at ix iy
  have hx : area q1 q2 p ≠ 0 := by rcases k with k | k <;> omega
  rcases Int.mul_eq_zero.1 ix with e | e
  · exact hx e
  · rcases Int.mul_eq_zero.1 iy with e' | e'
    · exact hx e'
    · exact npb (V3.ext' (by omega) (by omega) (by rw [hf p sp, hf b sb]))
end Go.Skm.Hull
