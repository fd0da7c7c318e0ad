/-
  What a hull of a set of points is, that there is one, and that the program's is one; no program, no condition beside the hypotheses of each.
-/
import Derived.Test.YthdegeidcjdkeaaMa1
namespace Go.Skm.Hull
open Go Go.Skm

theorem cmpI_le {x y : Int} : cmpI x y ≤ 0 ↔ x ≤ y := by unfold cmpI; split <;> (try split) <;> omega
theorem cmpV_le {a b : V3} : cmpV a b ≤ 0 ↔ a.x < b.x ∨ (a.x = b.x ∧ (a.y < b.y ∨ (a.y = b.y ∧ a.z ≤ b.z))) := by
  unfold cmpV cmpI
  repeat' split
  all_goals omega
theorem cmpV_lt {a b : V3} : cmpV a b < 0 ↔ a.x < b.x ∨ (a.x = b.x ∧ (a.y < b.y ∨ (a.y = b.y ∧ a.z < b.z))) := by
  unfold cmpV cmpI
  repeat' split
  all_goals omega
theorem cmpV_anti {a b : V3} (h1 : cmpV a b ≤ 0) (h2 : cmpV b a ≤ 0) : a = b := by
  rw [cmpV_le] at h1 h2
  exact V3.ext' (by omega) (by omega) (by omega)
theorem cmpV_trans {a b c : V3} (h1 : cmpV a b ≤ 0) (h2 : cmpV b c ≤ 0) : cmpV a c ≤ 0 := by
  rw [cmpV_le] at *
  omega
theorem srt_sorted (l : List V3) : (srt l).Pairwise fun a b => cmpV a b ≤ 0 := by
  have := List.pairwise_mergeSort (le := fun a b : V3 => decide (cmpV a b ≤ 0)) (fun a b c h1 h2 => by
    simp only [decide_eq_true_eq] at *
    exact cmpV_trans h1 h2) (fun a b => by
    simp only [Bool.or_eq_true, decide_eq_true_eq, cmpV_le]
    omega) l
  unfold srt
  simpa using this
theorem comp_sorted : ∀ {l : List V3}, (l.Pairwise fun a b => cmpV a b ≤ 0) → (comp l).Pairwise fun a b => cmpV a b ≤ 0 ∧ a ≠ b
  | [], _ => List.Pairwise.nil
  | [a], _ => by unfold comp; exact List.pairwise_singleton _ _
  | a :: b :: r, h => by
    unfold comp
    have h1 := List.pairwise_cons.1 h
    have ih := comp_sorted h1.2
    split
    · exact ih
    · rename_i hab
      refine List.pairwise_cons.2 ⟨fun v hv => ?_, ih⟩
      have hv' : v ∈ b :: r := (comp_mem _ _).1 hv
      refine ⟨h1.1 v hv', fun e => ?_⟩
      subst e
      rcases List.mem_cons.1 hv' with e | hv2
      · exact hab e
      · exact hab (cmpV_anti (h1.1 b (by simp)) ((List.pairwise_cons.1 h1.2).1 a hv2))
theorem flatS_sorted (l : List V3) : (flatS l).Pairwise lt2 := by
  have h : (flatS l).Pairwise fun a b => cmpV a b ≤ 0 ∧ a ≠ b := comp_sorted (srt_sorted _)
  refine h.imp_of_mem fun {a b} ha hb hab => ?_
  obtain ⟨u, _, rfl⟩ := flatS_mem.1 ha
  obtain ⟨v, _, rfl⟩ := flatS_mem.1 hb
  have h1 := cmpV_le.1 hab.1
  have h2 : ¬ ((flatV u).x = (flatV v).x ∧ (flatV u).y = (flatV v).y) := fun e => hab.2 (V3.ext' e.1 e.2 rfl)
  unfold lt2
  omega

/-- Between. -/
def Btw (a b q : V3) : Prop := (le2 a q ∧ le2 q b) ∨ (le2 b q ∧ le2 q a)
/-- b is the corner after a. -/
def Nx (S : V3 → Prop) (a b : V3) : Prop := S a ∧ S b ∧ a ≠ b ∧ ∀ q, S q → 0 ≤ area a b q ∧ (area a b q = 0 → Btw a b q)
def Pth (R : V3 → V3 → Prop) : List V3 → Prop
  | a :: b :: r => R a b ∧ Pth R (b :: r)
  | _ => True
/-- A set of points in the plane. -/
def Flat (S : V3 → Prop) : Prop := ∀ q, S q → q.z = 0
/-- The corners of a set, from the least one on. -/
def IsHull (S : V3 → Prop) (h : List V3) : Prop := ∃ a t, h = a :: t ∧ S a ∧ (∀ q, S q → le2 a q) ∧ a ∉ t ∧ (t = [] → ∀ q, S q → q = a) ∧ (t ≠ [] → Pth (Nx S) ((a :: t) ++ [a]))

theorem Pth.imp {R Q : V3 → V3 → Prop} (h : ∀ a b, R a b → Q a b) : ∀ {l : List V3}, Pth R l → Pth Q l
  | [], _ => trivial
  | [_], _ => trivial
  | a :: b :: _r, hp => ⟨h a b hp.1, Pth.imp h hp.2⟩
theorem Pth.app {R : V3 → V3 → Prop} : ∀ {l : List V3} {m : V3} {r : List V3}, Pth R (l ++ [m]) → Pth R (m :: r) → Pth R (l ++ m :: r)
  | [], _, _, _, h => h
  | [_a], _m, _r, h1, h => ⟨h1.1, h⟩
  | _a :: b :: l, _m, _r, h1, h => ⟨h1.1, Pth.app (l := b :: l) h1.2 h⟩
theorem Pth.pw {R : V3 → V3 → Prop} (ht : ∀ a b c, R a b → R b c → R a c) : ∀ {l : List V3}, Pth R l → l.Pairwise R
  | [], _ => List.Pairwise.nil
  | [_], _ => List.pairwise_singleton _ _
  | a :: b :: r, hp => by
    have ih := Pth.pw ht hp.2
    refine List.pairwise_cons.2 ⟨fun v hv => ?_, ih⟩
    rcases List.mem_cons.1 hv with rfl | hv
    · exact hp.1
    · exact ht _ _ _ hp.1 ((List.pairwise_cons.1 ih).1 v hv)
theorem flat_eq {S : V3 → Prop} (hf : Flat S) {a b : V3} (ha : S a) (hb : S b) (h1 : le2 a b) (h2 : le2 b a) : a = b := by
  have := le2_anti h1 h2
  exact V3.ext' this.1 this.2 (by rw [hf a ha, hf b hb])
theorem Nx.unique {S : V3 → Prop} (hf : Flat S) {a b c : V3} (h1 : Nx S a b) (h2 : Nx S a c) : b = c := by
  obtain ⟨sa, sb, nb, k1⟩ := h1
  obtain ⟨-, sc, nc, k2⟩ := h2
  have e := area_swap a b c
  have p1 := k1 c sc
  have p2 := k2 b sb
  have z1 : area a b c = 0 := by omega
  have z2 : area a c b = 0 := by omega
  rcases p1.2 z1 with ⟨q1, q2⟩ | ⟨q1, q2⟩ <;> rcases p2.2 z2 with ⟨r1, r2⟩ | ⟨r1, r2⟩
  · exact flat_eq hf sb sc r2 q2
  · exact absurd (flat_eq hf sa sc q1 (r1.trans r2)) nc
  · exact absurd (flat_eq hf sa sb r1 (q1.trans q2)) nb
  · exact flat_eq hf sb sc q1 r1
theorem path_unique {S : V3 → Prop} (hf : Flat S) {a : V3} : ∀ (t u : List V3) (b : V3), a ∉ t → a ∉ u → Pth (Nx S) ((b :: t) ++ [a]) → Pth (Nx S) ((b :: u) ++ [a]) → t = u
  | [], [], _, _, _, _, _ => rfl
  | [], c :: u, b, _, hu, h1, h2 => by
    have := Nx.unique hf h1.1 h2.1
    subst this
    simp at hu
  | c :: t, [], b, ht, _, h1, h2 => by
    have := Nx.unique hf h1.1 h2.1
    subst this
    simp at ht
  | c :: t, d :: u, b, ht, hu, h1, h2 => by
    have := Nx.unique hf h1.1 h2.1
    subst this
    rw [path_unique hf t u c (fun x => ht (by simp [x])) (fun x => hu (by simp [x])) h1.2 h2.2]
theorem IsHull.unique {S : V3 → Prop} (hf : Flat S) {h h' : List V3} (h1 : IsHull S h) (h2 : IsHull S h') : h = h' := by
  obtain ⟨a, t, rfl, sa, la, na, t0, t1⟩ := h1
  obtain ⟨b, u, rfl, sb, lb, nb, u0, u1⟩ := h2
  have hab : a = b := flat_eq hf sa sb (la b sb) (lb a sa)
  subst hab
  by_cases ht : t = []
  · subst ht
    by_cases hu : u = []
    · rw [hu]
    · cases u with
      | nil => rfl
      | cons c u =>
        have := (u1 hu).1
        exact absurd (t0 rfl c this.2.1).symm this.2.2.1
  · by_cases hu : u = []
    · subst hu
      cases t with
      | nil => rfl
      | cons c t =>
        have := (t1 ht).1
        exact absurd (u0 rfl c this.2.1).symm this.2.2.1
    · rw [path_unique hf t u a na nb (t1 ht) (u1 hu)]

theorem good_path {S : V3 → Prop} : ∀ {b : V3} {s : List V3}, Good S (b :: s) → Pth (Ed S) (b :: s).reverse
  | b, [], _ => trivial
  | b, a :: s, hg => by
    have ih := good_path hg.2
    rw [List.reverse_cons, List.reverse_cons, List.append_assoc]
    rw [List.reverse_cons] at ih
    exact Pth.app (r := [b]) ih ⟨hg.1, trivial⟩
theorem good_last {S : V3 → Prop} : ∀ {b : V3} {s : List V3}, Good S (b :: s) → ∃ m l, (b :: s).reverse = m :: l ∧ ∀ q, S q → le2 m q
  | b, [], hg => ⟨b, [], rfl, hg⟩
  | b, a :: s, hg => by
    obtain ⟨m, l, e, h⟩ := good_last hg.2
    exact ⟨m, l ++ [b], by rw [List.reverse_cons, e]; rfl, h⟩
/-- The chain of a list in order: from its first to its last point along the lower side. -/
theorem chainL_lower {a z : V3} {l : List V3} (h : (a :: (l ++ [z])).Pairwise lt2) (hf : ∀ v ∈ a :: (l ++ [z]), v.z = 0) :
    ∃ m, chainL (a :: (l ++ [z])) = a :: (m ++ [z]) ∧ Pth (Ed fun q => q ∈ a :: (l ++ [z])) (a :: (m ++ [z])) ∧ ∀ v ∈ m, v ∈ a :: (l ++ [z]) := by
  obtain ⟨s', e, g1, g2⟩ := chain_good' a (l ++ [z]) h
  have el : ((l ++ [z]).getLast?.getD a) = z := by simp
  rw [el] at e g1 g2
  have ec : chainL (a :: (l ++ [z])) = (z :: s').reverse := by rw [chainL, e]
  obtain ⟨m, r, er, hm⟩ := good_last g1
  have hmem : ∀ v ∈ (z :: s').reverse, v ∈ a :: (l ++ [z]) := fun v hv => g2 v (List.mem_reverse.1 hv)
  have hma : m = a := by
    have h1 : m ∈ a :: (l ++ [z]) := hmem m (by rw [er]; simp)
    rcases List.mem_cons.1 h1 with h2 | h2
    · exact h2
    · exact absurd (hm a (by simp)) fun x => lt2_le2 ((List.pairwise_cons.1 h).1 m h2) x
  subst hma
  have hpth := good_path g1
  rw [er] at hpth hmem
  have haz : lt2 m z := (List.pairwise_cons.1 h).1 z (by simp)
  cases s' with
  | nil =>
    simp at er
    rw [er.1] at haz
    exact (lt2_irrefl haz).elim
  | cons c s' =>
    have e1 : r = (r.dropLast) ++ [z] := by
      have : (z :: c :: s').reverse.getLast? = some z := by simp
      rw [er] at this
      cases r with
      | nil => 
        have := congrArg List.length er
        simp at this
      | cons d r =>
        rw [List.getLast?_cons_cons, List.getLast?_eq_some_getLast (by simp)] at this
        have h3 := List.dropLast_concat_getLast (l := d :: r) (by simp)
        rw [Option.some.inj this] at h3
        exact h3.symm
    refine ⟨r.dropLast, ?_, ?_, ?_⟩
    · rw [ec, er, ← e1]
    · rw [← e1]; exact hpth
    · intro v hv
      exact hmem v (List.mem_cons_of_mem _ (List.dropLast_subset _ hv))
end Go.Skm.Hull
