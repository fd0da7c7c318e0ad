/-
  Picks are far from each other, and no other choice of as many points covers four times as well; condition: a set of points.
-/
import Derived.Test.YtipkmkmngcjdbaaS13
namespace Go.Skm.Sct
open Go Go.Skm
theorem d2_self (a : V3) : d2 a a = 0 := by simp [d2]
theorem sq_par (x y : Int) : (x - y) * (x - y) ≤ 2 * (x * x) + 2 * (y * y) := by
  have h := sq_nn (x + y)
  have e1 : (x - y) * (x - y) = x * x - x * y - (y * x - y * y) := by rw [Int.sub_mul, Int.mul_sub, Int.mul_sub]
  have e2 : (x + y) * (x + y) = x * x + x * y + (y * x + y * y) := by rw [Int.add_mul, Int.mul_add, Int.mul_add]
  omega
theorem d2_par (a b z : V3) : d2 a b ≤ 2 * d2 a z + 2 * d2 b z := by
  have p : ∀ x y w : Int, (x - y) * (x - y) ≤ 2 * ((x - w) * (x - w)) + 2 * ((y - w) * (y - w)) := by
    intro x y w
    have := sq_par (x - w) (y - w)
    rwa [show x - w - (y - w) = x - y by omega] at this
  have h1 := p a.x b.x z.x
  have h2 := p a.y b.y z.y
  have h3 := p a.z b.z z.z
  unfold d2
  omega
theorem two_in {α : Type} [DecidableEq α] (f : Nat → α) : ∀ (ks : List Nat) (ch : List α), ks.Nodup → ch.length < ks.length → (∀ k ∈ ks, f k ∈ ch) → ∃ i j, i ∈ ks ∧ j ∈ ks ∧ i ≠ j ∧ f i = f j
  | [], ch, _, h, _ => by simp at h
  | k :: ks, ch, hn, h, hm => by
    obtain ⟨n1, n2⟩ := List.nodup_cons.1 hn
    by_cases e : ∃ j ∈ ks, f j = f k
    · obtain ⟨j, hj, e⟩ := e
      exact ⟨j, k, List.mem_cons_of_mem _ hj, by simp, fun h => n1 (h ▸ hj), e⟩
    · have hk := hm k (by simp)
      have hl := List.length_erase_of_mem hk
      have hpos := List.length_pos_of_mem hk
      simp only [List.length_cons] at h
      obtain ⟨i, j, h1, h2, h3, h4⟩ := two_in f ks (ch.erase (f k)) n2 (by omega) fun j hj => by
        refine (List.mem_erase_of_ne fun h => e ⟨j, hj, h⟩).2 (hm j (by simp [hj]))
      exact ⟨i, j, by simp [h1], by simp [h2], h3, h4⟩
theorem nr_anti {p : V3} {a b : List V3} (ha : a ≠ []) (h : ∀ v ∈ a, v ∈ b) : nr p b ≤ nr p a := by
  obtain ⟨q, h1, h2⟩ := nr_or (p := p) ha
  rw [h2]; exact nr_all (h q h1)
theorem nr_nn (p : V3) (l : List V3) : 0 ≤ nr p l := by
  cases l with
  | nil => exact Int.le_refl _
  | cons c cs =>
    obtain ⟨q, _, h⟩ := nr_or (p := p) (l := c :: cs) (by simp)
    rw [h]; exact d2_nn _ _
theorem nr_mem {p : V3} {l : List V3} (h : p ∈ l) : nr p l = 0 := by
  have h1 := nr_all (p := p) h
  have h2 := nr_nn p l
  rw [d2_self] at h1; omega
section
variable {l : List V3} (hl : isSet l = true) {m : Nat} (hm : m ≤ l.length)
include hl hm
theorem pick_far : ∀ {i k : Nat}, k < i → i < m → cov l ((pk l m).map (at_ l)) 0 ≤ d2 (at_ l ((pk l m).getD i 0)) (at_ l ((pk l m).getD k 0)) := by
  intro i k hk hi
  obtain ⟨s1, s2⟩ := set_pts hl
  have hlt := pk_lt l m hm
  have ti := pk_take l i m (by omega)
  have ti1 := pk_take l (i + 1) m (by omega)
  have ei : (pk l m).getD i 0 = amax (keyP l (pk l i)) l.length 0 0 := by
    have h1 : (pk l (i + 1)).getD i 0 = amax (keyP l (pk l i)) l.length 0 0 := by
      show (pk l i ++ [_]).getD i 0 = _
      rw [List.getD_eq_getElem?_getD, List.getElem?_append_right (by simp)]; simp
    rw [← h1, ← ti1, List.getD_eq_getElem?_getD, List.getD_eq_getElem?_getD, List.getElem?_take_of_lt (by omega)]
  have ek : (pk l m).getD k 0 ∈ pk l i := by
    rw [← ti, List.getD_eq_getElem?_getD]
    have hkl : k < (pk l m).length := by simp; omega
    rw [List.getElem?_eq_getElem hkl, Option.getD_some]
    exact List.mem_take_iff_getElem.2 ⟨k, by simp; omega, rfl⟩
  have hne : (pk l i).map (at_ l) ≠ [] := by
    intro h
    have := congrArg List.length h
    simp at this; omega
  have hneK : pk l i ≠ [] := fun h => hne (by rw [h]; rfl)
  have hil : ∀ j ∈ pk l i, j < l.length := pk_lt l i (by omega)
  have hb : amax (keyP l (pk l i)) l.length 0 0 < l.length := by
    have := amax_lt (keyP l (pk l i)) l.length 0 0 (by omega); omega
  have hni : amax (keyP l (pk l i)) l.length 0 0 ∉ pk l i := by
    have h := pk_nodup l (i + 1) (by omega)
    have h : (pk l i ++ [amax (keyP l (pk l i)) l.length 0 0]).Nodup := h
    rw [List.nodup_append] at h
    exact fun hh => h.2.2 _ hh _ (by simp) rfl
  have hkey := keyP_far s2 hil hb hni hneK
  have hsub : ∀ v ∈ (pk l i).map (at_ l), v ∈ (pk l m).map (at_ l) := by
    intro v hv
    obtain ⟨j, hj, rfl⟩ := List.mem_map.1 hv
    rw [← ti] at hj
    exact List.mem_map.2 ⟨j, List.mem_of_mem_take hj, rfl⟩
  rw [ei]
  refine cov_le _ _ _ _ (d2_nn _ _) fun q hq => ?_
  obtain ⟨j, hj, rfl⟩ := mem_at hq
  have h1 : nr (at_ l (amax (keyP l (pk l i)) l.length 0 0)) ((pk l i).map (at_ l)) ≤ d2 (at_ l (amax (keyP l (pk l i)) l.length 0 0)) (at_ l ((pk l m).getD k 0)) := nr_all (List.mem_map.2 ⟨_, ek, rfl⟩)
  by_cases hjm : j ∈ pk l i
  · rw [nr_mem (hsub _ (List.mem_map.2 ⟨j, hjm, rfl⟩))]
    exact d2_nn _ _
  · have h2 := (amax_ge (keyP l (pk l i)) l.length 0 0).2 j (by omega) (by omega)
    rw [hkey, keyP_far s2 hil hj hjm hneK] at h2
    have h3 := nr_anti (p := at_ l j) hne hsub
    omega
theorem pick_all (h : m = l.length) : cov l ((pk l m).map (at_ l)) 0 = 0 := by
  have _ := hl
  have h1 := cov_ge l ((pk l m).map (at_ l)) 0
  have h2 := cov_le l ((pk l m).map (at_ l)) 0 0 (Int.le_refl _) fun a ha => by
    obtain ⟨j, hj, rfl⟩ := mem_at ha
    have hjm : j ∈ pk l m := by
      refine Decidable.byContradiction fun hn => ?_
      have hnd : (j :: pk l m).Nodup := List.nodup_cons.2 ⟨hn, pk_nodup l m hm⟩
      have hsub : ∀ k ∈ j :: pk l m, k ∈ List.range l.length := by
        intro k hk
        rw [List.mem_range]
        rcases List.mem_cons.1 hk with rfl | hk
        · exact hj
        · exact pk_lt l m hm k hk
      have := List.Nodup.length_le_of_subset hnd hsub
      simp at this; omega
    rw [nr_mem (List.mem_map.2 ⟨j, hjm, rfl⟩)]; exact Int.le_refl _
  omega
theorem pick_best (h1 : 1 ≤ m) {ch : List V3} (hc : ch.length = m) {r : Int} (hr : ∀ p ∈ l, nr p ch ≤ r) : cov l ((pk l m).map (at_ l)) 0 ≤ 4 * r := by
  have hne : ch ≠ [] := by intro e; rw [e] at hc; simp at hc; omega
  have hr0 : 0 ≤ r := by
    have : 0 < l.length := by omega
    have := hr _ (at_mem this)
    have := nr_nn (at_ l 0) ch
    omega
  refine cov_le _ _ _ _ (by omega) fun q hq => ?_
  obtain ⟨j, hj, rfl⟩ := mem_at hq
  by_cases hjm : j ∈ pk l m
  · rw [nr_mem (List.mem_map.2 ⟨j, hjm, rfl⟩)]; omega
  have hch : ∀ p : V3, ∃ z ∈ ch, nr p ch = d2 p z := fun p => nr_or hne
  let f : Nat → V3 := fun k => (hch (at_ l k)).choose
  have hf : ∀ k, f k ∈ ch ∧ nr (at_ l k) ch = d2 (at_ l k) (f k) := fun k => (hch (at_ l k)).choose_spec
  have hnd : (j :: pk l m).Nodup := List.nodup_cons.2 ⟨hjm, pk_nodup l m hm⟩
  obtain ⟨a, b, ha, hb, hab, e⟩ := two_in f (j :: pk l m) ch hnd (by simp; omega) fun k _ => (hf k).1
  have hlt : ∀ k ∈ j :: pk l m, k < l.length := by
    intro k hk
    rcases List.mem_cons.1 hk with rfl | hk
    · exact hj
    · exact pk_lt l m hm k hk
  have near : d2 (at_ l a) (at_ l b) ≤ 4 * r := by
    have h2 := hr _ (at_mem (hlt a ha))
    have h3 := hr _ (at_mem (hlt b hb))
    rw [(hf a).2] at h2
    rw [(hf b).2, ← e] at h3
    have := d2_par (at_ l a) (at_ l b) (f a)
    omega
  refine Int.le_trans ?_ near
  have one : ∀ k ∈ pk l m, nr (at_ l j) ((pk l m).map (at_ l)) ≤ d2 (at_ l j) (at_ l k) := fun k hk => nr_all (List.mem_map.2 ⟨k, hk, rfl⟩)
  have two : ∀ u ∈ pk l m, ∀ w ∈ pk l m, u ≠ w → nr (at_ l j) ((pk l m).map (at_ l)) ≤ d2 (at_ l u) (at_ l w) := by
    intro u hu w hw huw
    refine Int.le_trans (cov_all l _ 0 _ (at_mem hj)) ?_
    obtain ⟨x, hx, rfl⟩ := List.getElem_of_mem hu
    obtain ⟨y, hy, rfl⟩ := List.getElem_of_mem hw
    have gx : (pk l m).getD x 0 = (pk l m)[x] := by rw [List.getD_eq_getElem?_getD]; simp [List.getElem?_eq_getElem hx]
    have gy : (pk l m).getD y 0 = (pk l m)[y] := by rw [List.getD_eq_getElem?_getD]; simp [List.getElem?_eq_getElem hy]
    rw [pk_length] at hx hy
    rcases Nat.lt_trichotomy x y with h | h | h
    · have := pick_far hl hm h hy
      rw [gx, gy, d2_comm] at this
      exact this
    · subst h; exact absurd rfl huw
    · have := pick_far hl hm h hx
      rw [gx, gy] at this
      exact this
  rcases List.mem_cons.1 ha with ea | ha'
  · rcases List.mem_cons.1 hb with eb | hb'
    · exact absurd (ea.trans eb.symm) hab
    · rw [ea]; exact one b hb'
  · rcases List.mem_cons.1 hb with eb | hb'
    · rw [eb, d2_comm]; exact one a ha'
    · exact two a ha' b hb' hab
end
end Go.Skm.Sct
