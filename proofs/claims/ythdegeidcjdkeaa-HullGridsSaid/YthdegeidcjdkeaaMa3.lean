/-
  The program's hull is a hull; no program, no condition beside the hypotheses of each.
-/
import Derived.Test.YthdegeidcjdkeaaMa2
namespace Go.Skm.Hull
open Go Go.Skm

/-- The plane, turned by half a circle. -/
def ng (v : V3) : V3 := ⟨-v.x, -v.y, v.z⟩
theorem ng_ng (v : V3) : ng (ng v) = v := V3.ext' (by simp [ng]) (by simp [ng]) rfl
theorem ng_area (a b c : V3) : area (ng a) (ng b) (ng c) = area a b c := by simp only [area, ng]; grind
theorem ng_lt {a b : V3} : lt2 (ng a) (ng b) ↔ lt2 b a := by simp only [lt2, ng]; omega
theorem ng_le {a b : V3} : le2 (ng a) (ng b) ↔ le2 b a := by simp only [le2, ng]; omega
theorem ng_pop (p : V3) : ∀ s : List V3, popS (ng p) (s.map ng) = (popS p s).map ng
  | [] => rfl
  | [_] => rfl
  | b :: a :: r => by
    have ih := ng_pop p (a :: r)
    simp only [List.map_cons] at ih ⊢
    unfold popS turnS
    rw [ng_area]
    split
    · exact ih
    · rfl
theorem ng_chainR : ∀ (l s : List V3), chainR (s.map ng) (l.map ng) = (chainR s l).map ng
  | [], s => rfl
  | p :: l, s => by
    show chainR (ng p :: popS (ng p) (s.map ng)) (l.map ng) = (chainR (p :: popS p s) l).map ng
    rw [ng_pop, ← List.map_cons, ng_chainR]
theorem ng_chainL (l : List V3) : chainL (l.map ng) = (chainL l).map ng := by
  unfold chainL
  have := ng_chainR l []
  rw [List.map_nil] at this
  rw [this, List.map_reverse]
theorem map_ng_ng (l : List V3) : (l.map ng).map ng = l := by
  rw [List.map_map]
  have : (ng ∘ ng) = id := funext ng_ng
  rw [this, List.map_id]
/-- An edge of the upper side. -/
def EdU (S : V3 → Prop) (a b : V3) : Prop := lt2 b a ∧ ∀ q, S q → 0 ≤ area a b q ∧ (area a b q = 0 → le2 b q ∧ le2 q a)
theorem Pth.map {R Q : V3 → V3 → Prop} {f : V3 → V3} (h : ∀ a b, R a b → Q (f a) (f b)) : ∀ {l : List V3}, Pth R l → Pth Q (l.map f)
  | [], _ => trivial
  | [_], _ => trivial
  | a :: b :: r, hp => ⟨h a b hp.1, Pth.map h (l := b :: r) hp.2⟩
theorem chainL_upper {a z : V3} {l : List V3} (h : (a :: (l ++ [z])).Pairwise lt2) (hf : ∀ v ∈ a :: (l ++ [z]), v.z = 0) :
    ∃ m, chainL (a :: (l ++ [z])).reverse = z :: (m ++ [a]) ∧ Pth (EdU fun q => q ∈ a :: (l ++ [z])) (z :: (m ++ [a])) := by
  have er : (a :: (l ++ [z])).reverse.map ng = ng z :: ((l.reverse.map ng) ++ [ng a]) := by simp
  have h' : (ng z :: ((l.reverse.map ng) ++ [ng a])).Pairwise lt2 := by
    rw [← er, List.pairwise_map, List.pairwise_reverse]
    exact h.imp fun hab => ng_lt.2 hab
  have hm : ∀ v, v ∈ ng z :: ((l.reverse.map ng) ++ [ng a]) ↔ ng v ∈ a :: (l ++ [z]) := by
    intro v
    rw [← er, List.mem_map]
    constructor
    · rintro ⟨u, hu, rfl⟩
      rw [ng_ng]
      exact List.mem_reverse.1 hu
    · intro hv
      exact ⟨ng v, List.mem_reverse.2 hv, ng_ng v⟩
  obtain ⟨m, e1, e2, -⟩ := chainL_lower h' fun v hv => hf (ng v) ((hm v).1 hv)
  refine ⟨m.map ng, ?_, ?_⟩
  · have : (chainL (a :: (l ++ [z])).reverse).map ng = ng z :: (m ++ [ng a]) := by rw [← ng_chainL, er, e1]
    have := congrArg (List.map ng) this
    rw [map_ng_ng] at this
    rw [this]
    simp [ng_ng]
  · have := Pth.map (Q := EdU fun q => q ∈ a :: (l ++ [z])) (f := ng) (fun u v huv => ?_) e2
    · simpa [ng_ng] using this
    · refine ⟨ng_lt.2 huv.1, fun q hq => ?_⟩
      have := huv.2 (ng q) ((hm _).2 (by rw [ng_ng]; exact hq))
      have ea : area (ng u) (ng v) q = area u v (ng q) := by
        have := ng_area u v (ng q)
        rwa [ng_ng] at this
      rw [ea]
      refine ⟨this.1, fun e => ?_⟩
      have := this.2 e
      have g1 := ng_le (a := v) (b := ng q)
      have g2 := ng_le (a := ng q) (b := u)
      rw [ng_ng] at g1 g2
      exact ⟨g1.2 this.2, g2.2 this.1⟩

theorem Ed.nx {S : V3 → Prop} {a b : V3} (ha : S a) (hb : S b) (h : Ed S a b) : Nx S a b :=
  ⟨ha, hb, fun e => by subst e; exact lt2_irrefl h.1, fun q hq => ⟨(h.2 q hq).1, fun e => Or.inl ((h.2 q hq).2 e)⟩⟩
theorem EdU.nx {S : V3 → Prop} {a b : V3} (ha : S a) (hb : S b) (h : EdU S a b) : Nx S a b :=
  ⟨ha, hb, fun e => by subst e; exact lt2_irrefl h.1, fun q hq => ⟨(h.2 q hq).1, fun e => Or.inr ((h.2 q hq).2 e)⟩⟩
theorem Pth.imp_mem {R Q : V3 → V3 → Prop} : ∀ {l : List V3}, (∀ a ∈ l, ∀ b ∈ l, R a b → Q a b) → Pth R l → Pth Q l
  | [], _, _ => trivial
  | [_], _, _ => trivial
  | a :: b :: r, h, hp => ⟨h a (by simp) b (by simp) hp.1, Pth.imp_mem (fun u hu v hv => h u (List.mem_cons_of_mem _ hu) v (List.mem_cons_of_mem _ hv)) hp.2⟩

theorem flatS_flat (l : List V3) : Flat fun q => q ∈ flatS l := fun q hq => by
  obtain ⟨u, _, rfl⟩ := flatS_mem.1 hq
  rfl
theorem two_ends : ∀ {l : List V3}, 2 ≤ l.length → ∃ a m z, l = a :: (m ++ [z])
  | a :: b :: r, _ => ⟨a, (b :: r).dropLast, (b :: r).getLast (by simp), by rw [List.dropLast_concat_getLast]⟩
theorem hullC_ok {l : List V3} (hne : l ≠ []) : IsHull (fun q => q ∈ flatS l) (hullC l) := by
  have hs := flatS_sorted l
  have hfl := flatS_flat l
  have hne := flatS_ne hne
  unfold hullC
  by_cases h1 : (flatS l).length = 1
  · rw [if_pos h1]
    obtain ⟨a, ha⟩ := List.length_eq_one_iff.1 h1
    rw [ha]
    refine ⟨a, [], rfl, by simp, ?_, by simp, ?_, by simp⟩
    · intro q hq
      have : q = a := by simpa using hq
      subst this; exact le2_refl _
    · intro _ q hq
      simpa using hq
  · rw [if_neg h1]
    have h2 : 2 ≤ (flatS l).length := by
      have := List.length_pos_iff.2 hne
      omega
    obtain ⟨a, k, z, e⟩ := two_ends h2
    rw [e] at hs
    have hz : ∀ v ∈ a :: (k ++ [z]), v.z = 0 := fun v hv => hfl v (by rw [e]; exact hv)
    obtain ⟨m, em, pm, -⟩ := chainL_lower hs hz
    obtain ⟨n, en, pn⟩ := chainL_upper hs hz
    have hmemL : ∀ v ∈ a :: (m ++ [z]), v ∈ flatS l := fun v hv => by
      rw [← em, ← e] at hv
      exact chainL_mem hv
    have hmemU : ∀ v ∈ z :: (n ++ [a]), v ∈ flatS l := fun v hv => by
      rw [← en, ← e] at hv
      have := chainL_mem hv
      exact List.mem_reverse.1 this
    have eh : (chainL (flatS l)).dropLast ++ (chainL (flatS l).reverse).dropLast = a :: (m ++ (z :: n)) := by
      rw [e, em, en]
      have d1 : (a :: (m ++ [z])).dropLast = a :: m := by rw [← List.cons_append, List.dropLast_concat]
      have d2 : (z :: (n ++ [a])).dropLast = z :: n := by rw [← List.cons_append, List.dropLast_concat]
      rw [d1, d2, List.cons_append]
    rw [eh]
    rw [← e] at pm pn
    have wl : (a :: (m ++ [z])).Pairwise lt2 := Pth.pw (fun a b c h1 h2 => h1.trans h2) (pm.imp fun a b h => h.1)
    have wu : (z :: (n ++ [a])).Pairwise fun a b => lt2 b a := Pth.pw (fun a b c h1 h2 => h2.trans h1) (pn.imp fun a b h => h.1)
    refine ⟨a, m ++ (z :: n), rfl, hmemL a (by simp), ?_, ?_, ?_, ?_⟩
    · intro q hq
      change q ∈ flatS l at hq
      rw [e] at hq
      rcases List.mem_cons.1 hq with rfl | hq
      · exact le2_refl _
      · exact ((List.pairwise_cons.1 hs).1 q hq).le
    · intro ha
      rcases List.mem_append.1 ha with ha | ha
      · exact lt2_irrefl ((List.pairwise_cons.1 wl).1 a (by simp [ha]))
      · have : a ∈ z :: n := ha
        rw [← List.cons_append, List.pairwise_append] at wu
        exact lt2_irrefl (wu.2.2 a this a (by simp))
    · intro ht
      simp at ht
    · intro _
      have e2 : (a :: (m ++ z :: n)) ++ [a] = (a :: m) ++ z :: (n ++ [a]) := by simp
      rw [e2]
      refine Pth.app ?_ ?_
      · exact pm.imp_mem fun u hu v hv h => h.nx (hmemL u hu) (hmemL v hv)
      · exact pn.imp_mem fun u hu v hv h => h.nx (hmemU u hu) (hmemU v hv)
end Go.Skm.Hull
