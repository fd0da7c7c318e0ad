/-
  The sides and the sizes of a hull by the program and by the document agree; no program, no condition beside the hypotheses of each.
-/
import Derived.Test.YthdegeidcjdkeaaLw1
namespace Go.Skm.Hull
open Go Go.Skm

/-! ### The area -/
theorem shoe_add (h : List V3) : ∀ (k i : Nat) (s : Int), shoe h k i s = s + shoe h k i 0
  | 0, _, _ => by simp [shoe]
  | k + 1, i, s => by
    rw [shoe, shoe, shoe_add h k (i + 1) (s + _), shoe_add h k (i + 1) (0 + _)]
    omega
theorem fan_add (h : List V3) : ∀ (k i : Nat) (s : Int), fan h k i s = s + fan h k i 0
  | 0, _, _ => by simp [fan]
  | k + 1, i, s => by
    rw [fan, fan, fan_add h k (i + 1) (s + _), fan_add h k (i + 1) (0 + _)]
    omega
def crossZ (a b : V3) : Int := a.x * b.y - a.y * b.x
theorem area_cross (a b c : V3) : area a b c = crossZ a b + crossZ b c + crossZ c a := by unfold area crossZ; grind
theorem crossZ_self (a : V3) : crossZ a a = 0 := by unfold crossZ; grind
theorem crossZ_anti (a b : V3) : crossZ b a = - crossZ a b := by unfold crossZ; grind
theorem area_same (a b : V3) : area a a b = 0 := by unfold area; grind
/-- From corner i to the last one, the shoelace formula is the fan, but for two sides. -/
theorem shoe_fan (h : List V3) : ∀ (k i : Nat), i + k + 1 = h.length → shoe h (k + 1) i 0 = fan h k i 0 + crossZ (gt h i) (gt h 0)
  | 0, i, hi => by
    have e : nx h i = gt h 0 := by
      unfold nx gt
      rw [show i + 1 = h.length from by omega, Nat.mod_self]
    simp only [shoe, fan, e]
    unfold crossZ; omega
  | k + 1, i, hi => by
    have e : nx h i = gt h (i + 1) := by
      unfold nx gt
      rw [Nat.mod_eq_of_lt (by omega)]
    rw [shoe, shoe_add, shoe_fan h k (i + 1) (by omega), fan, fan_add h k (i + 1) (0 + _), e, area_cross]
    have := crossZ_anti (gt h 0) (gt h i)
    have e2 : (gt h i).x * (gt h (i + 1)).y - (gt h i).y * (gt h (i + 1)).x = crossZ (gt h i) (gt h (i + 1)) := rfl
    have e3 := crossZ_anti (gt h 0) (gt h (i + 1))
    omega
theorem shoe_eq_fan (h : List V3) (h0 : 0 < h.length) : shoe h h.length 0 0 = fan h (h.length - 2) 1 0 := by
  by_cases h1 : h.length = 1
  · have := shoe_fan h 0 0 (by omega)
    rw [h1, this, crossZ_self]
    simp [fan]
  · obtain ⟨n, hn⟩ : ∃ n, h.length = n + 2 := ⟨h.length - 2, by omega⟩
    have := shoe_fan h (n + 1) 0 (by omega)
    rw [hn, this, crossZ_self, fan, fan_add, area_same]
    simp

/-! ### The side of a point -/
theorem least_spec (h : List V3) (p : V3) : ∀ (k i : Nat) (s : Int), leastR h p k i s ≤ s ∧ (∀ j, i ≤ j → j < i + k → leastR h p k i s ≤ turnS (gt h j) (nx h j) p) ∧ (leastR h p k i s = s ∨ ∃ j, i ≤ j ∧ j < i + k ∧ leastR h p k i s = turnS (gt h j) (nx h j) p)
  | 0, i, s => ⟨Int.le_refl _, fun j h1 h2 => by omega, Or.inl rfl⟩
  | k + 1, i, s => by
    obtain ⟨a1, a2, a3⟩ := least_spec h p k (i + 1) (goMin s (turnS (gt h i) (nx h i) p))
    have m1 : goMin s (turnS (gt h i) (nx h i) p) ≤ s ∧ goMin s (turnS (gt h i) (nx h i) p) ≤ turnS (gt h i) (nx h i) p ∧ (goMin s (turnS (gt h i) (nx h i) p) = s ∨ goMin s (turnS (gt h i) (nx h i) p) = turnS (gt h i) (nx h i) p) := by
      unfold goMin
      split <;> omega
    rw [leastR]
    refine ⟨by omega, fun j h1 h2 => ?_, ?_⟩
    · by_cases hj : j = i
      · subst hj; omega
      · exact a2 j (by omega) (by omega)
    · rcases a3 with a3 | ⟨j, h1, h2, h3⟩
      · rcases m1.2.2 with m | m
        · left; omega
        · right; exact ⟨i, by omega, by omega, by omega⟩
      · exact Or.inr ⟨j, by omega, by omega, h3⟩
theorem sideR_on (h : List V3) (p : V3) : ∀ (k i : Nat) (ins : Bool) (j : Nat), i ≤ j → j < i + k → onS (gt h j) (nx h j) p = true → sideR h p k i ins = 0
  | 0, i, ins, j, h1, h2, _ => by omega
  | k + 1, i, ins, j, h1, h2, h3 => by
    rw [sideR]
    by_cases hj : j = i
    · subst hj; rw [if_pos h3]
    · split
      · rfl
      · exact sideR_on h p k (i + 1) _ j (by omega) (by omega) h3
theorem sideR_off (h : List V3) (p : V3) : ∀ (k i : Nat) (ins : Bool), (∀ j, i ≤ j → j < i + k → onS (gt h j) (nx h j) p = false) → sideR h p k i ins = if ins = true ∧ ∀ j, j < k → turnS (gt h (i + j)) (nx h (i + j)) p > 0 then 1 else -1
  | 0, i, ins, _ => by
    rw [sideR]
    by_cases hi : ins = true
    · rw [if_pos hi, if_pos ⟨hi, fun j hj => by omega⟩]
    · rw [if_neg hi, if_neg fun x => hi x.1]
  | k + 1, i, ins, hoff => by
    rw [sideR, if_neg (by rw [hoff i (by omega) (by omega)]; simp), sideR_off h p k (i + 1) _ (fun j h1 h2 => hoff j (by omega) (by omega))]
    by_cases hc : ins = true ∧ ∀ j, j < k + 1 → turnS (gt h (i + j)) (nx h (i + j)) p > 0
    · rw [if_pos hc, if_pos]
      refine ⟨?_, fun j hj => ?_⟩
      · rw [Bool.and_eq_true]
        exact ⟨hc.1, by simpa using hc.2 0 (by omega)⟩
      · have := hc.2 (j + 1) (by omega)
        rwa [show i + (j + 1) = i + 1 + j from by omega] at this
    · rw [if_neg hc, if_neg]
      rintro ⟨c1, c2⟩
      rw [Bool.and_eq_true] at c1
      refine hc ⟨c1.1, fun j hj => ?_⟩
      match j with
      | 0 => simpa using c1.2
      | j + 1 =>
        have := c2 j (by omega)
        rwa [show i + 1 + j = i + (j + 1) from by omega] at this

theorem on_box {a b p : V3} : onS a b p = true ↔ area a b p = 0 ∧ Box a b p := by
  unfold onS Box turnS
  simp only [Bool.and_eq_true, decide_eq_true_eq, beq_iff_eq, sgn_zero]
/-- A point on a side is not on the right of what has the ends not on the right. -/
theorem on_left {a b c d p : V3} (hp : onS c d p = true) (h1 : 0 ≤ area a b c) (h2 : 0 ≤ area a b d) : 0 ≤ area a b p := by
  obtain ⟨k, hb⟩ := on_box.1 hp
  rw [Box.iff] at hb
  obtain ⟨hx, hy⟩ := hb
  have ix : (d.x - c.x) * area a b p = (d.x - p.x) * area a b c + (p.x - c.x) * area a b d + (b.x - a.x) * area c d p := by unfold area; grind
  have iy : (d.y - c.y) * area a b p = (d.y - p.y) * area a b c + (p.y - c.y) * area a b d + (b.y - a.y) * area c d p := by unfold area; grind
  rw [k, Int.mul_zero, Int.add_zero] at ix iy
  rcases Int.lt_trichotomy c.x d.x with h | h | h
  · have m1 := mulnn (a := d.x - p.x) (by omega) h1
    have m2 := mulnn (a := p.x - c.x) (by omega) h2
    refine Int.not_lt.1 fun hlt => ?_
    have := mulnp hlt (b := d.x - c.x) (by omega)
    rw [Int.mul_comm] at this
    omega
  · rcases Int.lt_trichotomy c.y d.y with g | g | g
    · have m1 := mulnn (a := d.y - p.y) (by omega) h1
      have m2 := mulnn (a := p.y - c.y) (by omega) h2
      refine Int.not_lt.1 fun hlt => ?_
      have := mulnp hlt (b := d.y - c.y) (by omega)
      rw [Int.mul_comm] at this
      omega
    · have e1 : p.x = c.x := by omega
      have e2 : p.y = c.y := by omega
      have : area a b p = area a b c := by unfold area; rw [e1, e2]
      omega
    · have m1 := mulnn (a := p.y - d.y) (by omega) h1
      have m2 := mulnn (a := c.y - p.y) (by omega) h2
      have i2 : (c.y - d.y) * area a b p = (p.y - d.y) * area a b c + (c.y - p.y) * area a b d := by grind
      refine Int.not_lt.1 fun hlt => ?_
      have := mulnp hlt (b := c.y - d.y) (by omega)
      rw [Int.mul_comm] at this
      omega
  · have m1 := mulnn (a := p.x - d.x) (by omega) h1
    have m2 := mulnn (a := c.x - p.x) (by omega) h2
    have i2 : (c.x - d.x) * area a b p = (p.x - d.x) * area a b c + (c.x - p.x) * area a b d := by grind
    refine Int.not_lt.1 fun hlt => ?_
    have := mulnp hlt (b := c.x - d.x) (by omega)
    rw [Int.mul_comm] at this
    omega
theorem sgn_mul {u v A B : Int} (hA : 0 < A) (hB : 0 ≤ B) (h : v * A = u * B) : (0 ≤ u → 0 ≤ v) ∧ (u ≤ 0 → v ≤ 0) := by
  constructor
  · intro hu
    have := mulnn hu hB
    refine Int.not_lt.1 fun hv => ?_
    have := mulnp hv hA
    omega
  · intro hu
    have := mulnn (a := -u) (by omega) hB
    rw [Int.neg_mul] at this
    refine Int.not_lt.1 fun hv => ?_
    have := mulpp hv hA
    omega
/-- A point on the line of a side, not on the right of the sides beside it, is on the side. -/
theorem line_on {a c d e p : V3} (k : area c d p = 0) (h1 : 0 ≤ area a c p) (h2 : 0 ≤ area d e p) (ha : 0 < area c d a) (he : 0 < area c d e) : onS c d p = true := by
  refine on_box.2 ⟨k, ?_⟩
  rw [Box.iff]
  have i1 : (p.x - c.x) * area c d a = (d.x - c.x) * area a c p + (a.x - c.x) * area c d p := by unfold area; grind
  have i2 : (p.y - c.y) * area c d a = (d.y - c.y) * area a c p + (a.y - c.y) * area c d p := by unfold area; grind
  have i3 : (d.x - p.x) * area c d e = (d.x - c.x) * area d e p + (d.x - e.x) * area c d p := by unfold area; grind
  have i4 : (d.y - p.y) * area c d e = (d.y - c.y) * area d e p + (d.y - e.y) * area c d p := by unfold area; grind
  rw [k, Int.mul_zero, Int.add_zero] at i1 i2 i3 i4
  have s1 := sgn_mul ha h1 i1
  have s2 := sgn_mul ha h1 i2
  have s3 := sgn_mul he h2 i3
  have s4 := sgn_mul he h2 i4
  constructor
  · by_cases hu : 0 ≤ d.x - c.x
    · have := s1.1 hu; have := s3.1 hu; omega
    · have := s1.2 (by omega); have := s3.2 (by omega); omega
  · by_cases hu : 0 ≤ d.y - c.y
    · have := s2.1 hu; have := s4.1 hu; omega
    · have := s2.2 (by omega); have := s4.2 (by omega); omega

theorem path_at {R : V3 → V3 → Prop} {a : V3} : ∀ {l : List V3}, Pth R (l ++ [a]) → ∀ i, i < l.length → R (gt (l ++ [a]) i) (gt (l ++ [a]) (i + 1))
  | [], _, i, hi => by simp at hi
  | [b], hp, 0, _ => hp.1
  | [b], _, i + 1, hi => by simp at hi
  | b :: c :: l, hp, 0, _ => hp.1
  | b :: c :: l, hp, i + 1, hi => path_at (l := c :: l) hp.2 i (by simpa using hi)
theorem gt_append {l r : List V3} {i : Nat} (hi : i < l.length) : gt (l ++ r) i = gt l i := by
  unfold gt
  rw [List.getD_eq_getElem?_getD, List.getD_eq_getElem?_getD, List.getElem?_append_left hi]
theorem IsHull.edge {S : V3 → Prop} {h : List V3} (hh : IsHull S h) (h2 : 2 ≤ h.length) {i : Nat} (hi : i < h.length) : Nx S (gt h i) (nx h i) := by
  obtain ⟨a, t, rfl, sa, la, na, t0, t1⟩ := hh
  have ht : t ≠ [] := by
    intro e; subst e; simp at h2
  have := path_at (t1 ht) i hi
  rw [gt_append hi] at this
  have e : gt ((a :: t) ++ [a]) (i + 1) = nx (a :: t) i := by
    unfold nx
    by_cases h3 : i + 1 < (a :: t).length
    · rw [gt_append h3, Nat.mod_eq_of_lt h3]; rfl
    · have h4 : i + 1 = (a :: t).length := by omega
      rw [h4, Nat.mod_self]
      unfold gt
      rw [List.getD_eq_getElem?_getD, List.getElem?_append_right (Nat.le_refl _)]
      simp
  rw [e] at this
  exact this
theorem gt_inj {h : List V3} (hn : h.Nodup) {i j : Nat} (hi : i < h.length) (hj : j < h.length) (e : gt h i = gt h j) : i = j := by
  unfold gt at e
  rw [List.getD_eq_getElem?_getD, List.getD_eq_getElem?_getD, List.getElem?_eq_getElem hi, List.getElem?_eq_getElem hj] at e
  simp only [Option.getD_some] at e
  rcases Nat.lt_trichotomy i j with h1 | h1 | h1
  · exact absurd e ((List.pairwise_iff_getElem.1 hn) i j hi hj h1)
  · exact h1
  · exact absurd e.symm ((List.pairwise_iff_getElem.1 hn) j i hj hi h1)
theorem turn_rng (a b c : V3) : -1 ≤ turnS a b c ∧ turnS a b c ≤ 1 := by unfold turnS sgn; split <;> (try split) <;> omega

theorem corner_left {S : V3 → Prop} (hf : Flat S) {h : List V3} (hh : IsHull S h) (h2 : 2 ≤ h.length) {j i : Nat} (hj : j < h.length) (hi : i < h.length) (n1 : i ≠ j) (n2 : i ≠ (j + 1) % h.length) : 0 < area (gt h j) (nx h j) (gt h i) := by
  have hn := hh.nodup hf
  have ed := hh.edge h2 hj
  have si := hh.sub _ (gt_mem hi)
  have k := ed.2.2.2 _ si
  refine posOf k.1 fun e => ?_
  refine hh.no_seg hf (gt_mem hi) ed.1 ed.2.1 (fun x => n1 (gt_inj hn hi hj x)) (fun x => ?_) ⟨e.symm, k.2 e.symm⟩
  exact n2 (gt_inj hn hi (Nat.mod_lt _ (by omega)) x)
theorem side_many {S : V3 → Prop} (hf : Flat S) {h : List V3} (hh : IsHull S h) (h3 : 2 < h.length) (p : V3) : leastR h p h.length 0 1 = sideR h p h.length 0 true := by
  obtain ⟨l1, l2, l3⟩ := least_spec h p h.length 0 1
  have ed := fun i (hi : i < h.length) => hh.edge (by omega) hi
  by_cases hon : ∃ j, j < h.length ∧ onS (gt h j) (nx h j) p = true
  · obtain ⟨j, hj, ho⟩ := hon
    rw [sideR_on h p h.length 0 true j (by omega) (by omega) ho]
    have e1 : turnS (gt h j) (nx h j) p = 0 := sgn_zero.2 (on_box.1 ho).1
    have e2 := l2 j (by omega) (by omega)
    have e3 : ∀ i, i < h.length → 0 ≤ turnS (gt h i) (nx h i) p := fun i hi => by
      have hi' := ed i hi
      have hj' := ed j hj
      exact sgn_nn.2 (on_left ho (hi'.2.2.2 _ hj'.1).1 (hi'.2.2.2 _ hj'.2.1).1)
    rcases l3 with l3 | ⟨i, _, hi, l3⟩
    · omega
    · have := e3 i (by omega); omega
  · have hoff : ∀ j, 0 ≤ j → j < 0 + h.length → onS (gt h j) (nx h j) p = false := fun j _ hj => by
      by_cases ho : onS (gt h j) (nx h j) p = true
      · exact absurd ⟨j, by omega, ho⟩ hon
      · simpa using ho
    rw [sideR_off h p h.length 0 true hoff]
    simp only [Nat.zero_add]
    by_cases hall : ∀ j, j < h.length → turnS (gt h j) (nx h j) p > 0
    · rw [if_pos ⟨trivial, hall⟩]
      rcases l3 with l3 | ⟨i, _, hi, l3⟩
      · exact l3
      · have := hall i (by omega); omega
    · rw [if_neg fun x => hall x.2]
      have hneg : ∃ j, j < h.length ∧ turnS (gt h j) (nx h j) p < 0 := by
        refine Classical.byContradiction fun hno => ?_
        have nn : ∀ j, j < h.length → 0 ≤ turnS (gt h j) (nx h j) p := fun j hj => Int.not_lt.1 fun x => hno ⟨j, hj, x⟩
        refine hall fun j hj => ?_
        have h0 := nn j hj
        by_cases hz : turnS (gt h j) (nx h j) p = 0
        · exfalso
          have hn : 0 < h.length := by omega
          have hpi : (j + (h.length - 1)) % h.length < h.length := Nat.mod_lt _ hn
          have hne : (j + 1) % h.length < h.length := Nat.mod_lt _ hn
          have hpn : nx h ((j + (h.length - 1)) % h.length) = gt h j := by
            show gt h _ = _
            congr 1
            by_cases j0 : j = 0
            · subst j0
              have e : (0 + (h.length - 1)) % h.length = h.length - 1 := by rw [Nat.zero_add, Nat.mod_eq_of_lt (by omega)]
              rw [e, Nat.sub_add_cancel (by omega), Nat.mod_self]
            · have e : (j + (h.length - 1)) % h.length = j - 1 := by
                rw [show j + (h.length - 1) = j - 1 + h.length from by omega, Nat.add_mod_right, Nat.mod_eq_of_lt (by omega)]
              rw [e, Nat.sub_add_cancel (by omega), Nat.mod_eq_of_lt hj]
          have t1 := nn _ hpi
          have t2 := nn _ hne
          rw [hpn] at t1
          have ho := line_on (a := gt h ((j + (h.length - 1)) % h.length)) (c := gt h j) (d := nx h j) (e := nx h ((j + 1) % h.length)) (p := p) (sgn_zero.1 hz) (sgn_nn.1 t1) (sgn_nn.1 t2) ?_ ?_
          · rw [hoff j (by omega) (by omega)] at ho; simp at ho
          · refine corner_left hf hh (by omega) hj hpi ?_ ?_
            · by_cases j0 : j = 0
              · subst j0
                rw [Nat.zero_add, Nat.mod_eq_of_lt (by omega)]; omega
              · rw [show j + (h.length - 1) = j - 1 + h.length from by omega, Nat.add_mod_right, Nat.mod_eq_of_lt (by omega)]; omega
            · by_cases j0 : j = 0
              · subst j0
                rw [Nat.zero_add, Nat.mod_eq_of_lt (by omega), Nat.mod_eq_of_lt (by omega)]; omega
              · rw [show j + (h.length - 1) = j - 1 + h.length from by omega, Nat.add_mod_right, Nat.mod_eq_of_lt (by omega)]
                by_cases jl : j + 1 = h.length
                · rw [jl, Nat.mod_self]; omega
                · rw [Nat.mod_eq_of_lt (by omega)]; omega
          · show 0 < area (gt h j) (nx h j) (gt h (((j + 1) % h.length + 1) % h.length))
            refine corner_left hf hh (by omega) hj (Nat.mod_lt _ hn) ?_ ?_
            · by_cases jl : j + 1 = h.length
              · rw [jl, Nat.mod_self, Nat.mod_eq_of_lt (by omega)]; omega
              · rw [Nat.mod_eq_of_lt (show j + 1 < h.length by omega)]
                by_cases jm : j + 1 + 1 = h.length
                · rw [jm, Nat.mod_self]; omega
                · rw [Nat.mod_eq_of_lt (by omega)]; omega
            · by_cases jl : j + 1 = h.length
              · rw [jl, Nat.mod_self, Nat.mod_eq_of_lt (by omega)]; omega
              · rw [Nat.mod_eq_of_lt (show j + 1 < h.length by omega)]
                by_cases jm : j + 1 + 1 = h.length
                · rw [jm, Nat.mod_self]; omega
                · rw [Nat.mod_eq_of_lt (by omega)]; omega
        · omega
      obtain ⟨j, hj, hlt⟩ := hneg
      have e1 := l2 j (by omega) (by omega)
      have e2 := turn_rng (gt h j) (nx h j) p
      rcases l3 with l3 | ⟨i, _, hi, l3⟩
      · omega
      · have := turn_rng (gt h i) (nx h i) p; omega
theorem hullC_self {h : List V3} (hne : h ≠ []) (he : hullC h = h) : IsHull (fun q => q ∈ flatS h) h := by
  have := hullC_ok hne
  rwa [he] at this
theorem side_eq {h : List V3} (hv : hullV h = true) (p : V3) : sideF h p = sideR h p h.length 0 (decide (2 < h.length)) := by
  obtain ⟨h0, -, -, he⟩ := hullV_ok hv
  have hne : h ≠ [] := by intro e; subst e; simp at h0
  have hh := hullC_self hne he
  have hf := flatS_flat h
  by_cases h3 : 2 < h.length
  · have : sideF h p = leastR h p h.length 0 1 := if_neg (by omega)
    rw [this, decide_eq_true h3]
    exact side_many hf hh h3 p
  · rw [decide_eq_false h3]
    obtain ⟨a, t, rfl, sa, la, na, t0, t1⟩ := hh
    cases t with
    | nil =>
      have n0 : nx [a] 0 = a := by simp [nx]
      have s1 : sideF [a] p = if turnS a a p ≠ 0 ∨ p.x < a.x ∨ p.x > a.x ∨ p.y < goMin a.y a.y ∨ p.y > goMax a.y a.y then -1 else 0 := by
        unfold sideF
        rw [if_pos (by simp)]; rfl
      have s2 : sideR [a] p [a].length 0 false = if onS a a p = true then 0 else -1 := by
        show sideR [a] p 1 0 false = _
        rw [sideR, sideR, n0, Bool.false_and, if_neg (c := (false = true)) (by simp)]; rfl
      rw [s1, s2]
      by_cases ho : onS a a p = true
      · rw [if_pos ho]
        obtain ⟨k, hb⟩ := on_box.1 ho
        have e1 : turnS a a p = 0 := sgn_zero.2 k
        unfold Box at hb
        have m1 : goMin a.x a.x = a.x := by unfold goMin; split <;> rfl
        have m2 : goMax a.x a.x = a.x := by unfold goMax; split <;> rfl
        rw [if_neg]
        rintro (x | x | x | x | x)
        · exact x e1
        all_goals omega
      · rw [if_neg ho, if_pos]
        refine Classical.byContradiction fun hno => ho (on_box.2 ⟨area_same a p, ?_⟩)
        have m1 : goMin a.x a.x = a.x := by unfold goMin; split <;> rfl
        have m2 : goMax a.x a.x = a.x := by unfold goMax; split <;> rfl
        unfold Box
        refine ⟨?_, ?_, ?_, ?_⟩
        · rw [m1]; exact Int.not_lt.1 fun x => hno (Or.inr (Or.inl x))
        · rw [m2]; exact Int.not_lt.1 fun x => hno (Or.inr (Or.inr (Or.inl x)))
        · exact Int.not_lt.1 fun x => hno (Or.inr (Or.inr (Or.inr (Or.inl x))))
        · exact Int.not_lt.1 fun x => hno (Or.inr (Or.inr (Or.inr (Or.inr x))))
    | cons b t =>
      have ht : t = [] := by
        cases t with
        | nil => rfl
        | cons c t => simp only [List.length_cons] at h3; omega
      subst ht
      have hab := (t1 (by simp)).1
      have lab := la b hab.2.1
      have n0 : nx [a, b] 0 = b := by simp [nx]
      have n1 : nx [a, b] 1 = a := by simp [nx]
      have s1 : sideF [a, b] p = if turnS a b p ≠ 0 ∨ p.x < a.x ∨ p.x > b.x ∨ p.y < goMin a.y b.y ∨ p.y > goMax a.y b.y then -1 else 0 := by
        unfold sideF
        rw [if_pos (by simp)]; rfl
      have s2 : sideR [a, b] p [a, b].length 0 false = if onS a b p = true then 0 else if onS b a p = true then 0 else -1 := by
        show sideR [a, b] p 2 0 false = _
        rw [sideR, sideR, sideR, n0, Nat.zero_add, n1, Bool.false_and, Bool.false_and, if_neg (c := (false = true)) (by simp)]; rfl
      rw [s1, s2]
      have hx : a.x ≤ b.x := by unfold le2 at lab; omega
      have m1 : goMin a.x b.x = a.x := by unfold goMin; split <;> omega
      have m2 : goMax a.x b.x = b.x := by unfold goMax; split <;> omega
      by_cases ho : onS a b p = true
      · rw [if_pos ho]
        obtain ⟨k, hb⟩ := on_box.1 ho
        have e1 : turnS a b p = 0 := sgn_zero.2 k
        unfold Box at hb
        rw [if_neg]
        rintro (x | x | x | x | x)
        · exact x e1
        all_goals omega
      · rw [if_neg ho]
        have ho2 : ¬ onS b a p = true := fun x => ho (on_iff.2 (on_iff.1 x).symm)
        rw [if_neg ho2, if_pos]
        refine Classical.byContradiction fun hno => ho (on_box.2 ⟨?_, ?_⟩)
        · exact sgn_zero.1 (Classical.byContradiction fun x => hno (Or.inl x))
        · unfold Box
          refine ⟨?_, ?_, ?_, ?_⟩
          · rw [m1]; exact Int.not_lt.1 fun x => hno (Or.inr (Or.inl x))
          · rw [m2]; exact Int.not_lt.1 fun x => hno (Or.inr (Or.inr (Or.inl x)))
          · exact Int.not_lt.1 fun x => hno (Or.inr (Or.inr (Or.inr (Or.inl x))))
          · exact Int.not_lt.1 fun x => hno (Or.inr (Or.inr (Or.inr (Or.inr x))))
end Go.Skm.Hull
