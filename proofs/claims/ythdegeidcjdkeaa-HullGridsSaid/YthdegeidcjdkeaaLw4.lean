/-
  Hulls of hulls, merged hulls, areas and extents; no program, no condition beside the hypotheses of each.
-/
import Derived.Test.YthdegeidcjdkeaaLw3
namespace Go.Skm.Hull
open Go Go.Skm

theorem IsHull.restrict {S T : V3 → Prop} {h : List V3} (hh : IsHull S h) (h1 : ∀ q, T q → S q) (h2 : ∀ q ∈ h, T q) : IsHull T h := by
  obtain ⟨a, t, rfl, sa, la, na, t0, t1⟩ := hh
  refine ⟨a, t, rfl, h2 a (by simp), fun q hq => la q (h1 q hq), na, fun ht q hq => t0 ht q (h1 q hq), fun ht => ?_⟩
  refine (t1 ht).imp_mem fun u hu v hv hn => ⟨?_, ?_, hn.2.2.1, fun q hq => hn.2.2.2 q (h1 q hq)⟩
  · refine h2 u ?_
    rcases List.mem_append.1 hu with hu | hu
    · exact hu
    · have : u = a := by simpa using hu
      rw [this]; simp
  · refine h2 v ?_
    rcases List.mem_append.1 hv with hv | hv
    · exact hv
    · have : v = a := by simpa using hv
      rw [this]; simp
theorem hullC_of {l x : List V3} (hne : l ≠ []) (h : IsHull (fun q => q ∈ flatS l) x) : hullC l = x := IsHull.unique (flatS_flat l) (hullC_ok hne) h
theorem hullC_flat {l : List V3} (hne : l ≠ []) {v : V3} (hv : v ∈ hullC l) : v.z = 0 := flatS_flat l v ((hullC_ok hne).sub v hv)
theorem flatV_flat {v : V3} (h : v.z = 0) : flatV v = v := V3.ext' rfl rfl h.symm
theorem flatS_hullC {l : List V3} (hne : l ≠ []) (v : V3) : v ∈ flatS (hullC l) ↔ v ∈ hullC l := by
  rw [flatS_mem]
  constructor
  · rintro ⟨u, hu, rfl⟩
    rw [flatV_flat (hullC_flat hne hu)]; exact hu
  · intro hv
    exact ⟨v, hv, flatV_flat (hullC_flat hne hv)⟩
theorem hullC_ne {l : List V3} (hne : l ≠ []) : hullC l ≠ [] := by
  obtain ⟨a, t, e, _⟩ := hullC_ok hne
  rw [e]; simp
theorem hullC_hullC {l : List V3} (hne : l ≠ []) : hullC (hullC l) = hullC l :=
  hullC_of (hullC_ne hne) ((hullC_ok hne).restrict (fun q hq => (hullC_ok hne).sub q ((flatS_hullC hne q).1 hq)) fun q hq => (flatS_hullC hne q).2 hq)
theorem flatS_append (l m : List V3) (v : V3) : v ∈ flatS (l ++ m) ↔ v ∈ flatS l ∨ v ∈ flatS m := by
  rw [flatS_mem, flatS_mem, flatS_mem]
  constructor
  · rintro ⟨u, hu, rfl⟩
    rcases List.mem_append.1 hu with h | h
    · exact Or.inl ⟨u, h, rfl⟩
    · exact Or.inr ⟨u, h, rfl⟩
  · rintro (⟨u, hu, rfl⟩ | ⟨u, hu, rfl⟩)
    · exact ⟨u, List.mem_append_left _ hu, rfl⟩
    · exact ⟨u, List.mem_append_right _ hu, rfl⟩
theorem corner_part {S T : V3 → Prop} (hf : Flat S) (hfT : Flat T) {x h : List V3} (hx : IsHull S x) (hh : IsHull T h) (hsub : ∀ q, T q → S q) {q : V3} (hq : q ∈ x) (hT : T q) : q ∈ h := by
  by_cases hqh : q ∈ h
  · exact hqh
  · exfalso
    obtain ⟨a, b, c, sa, sb, sc, na, nb, nc, ht⟩ := hh.cov hfT hT hqh
    rcases ht with ht | ht
    · exact hx.no_seg hf hq (hsub a sa) (hsub b sb) na nb ht
    · exact hx.no_tri hf hq (hsub a sa) (hsub b sb) (hsub c sc) na ht
theorem hullC_merge {l m : List V3} (hl : l ≠ []) (hm : m ≠ []) : hullC (hullC l ++ hullC m) = hullC (l ++ m) := by
  have hlm : l ++ m ≠ [] := by simp [hl]
  have hx := hullC_ok hlm
  have hf := flatS_flat (l ++ m)
  refine hullC_of (by simp [hullC_ne hl]) (hx.restrict (fun q hq => ?_) fun q hq => ?_)
  · rw [flatS_append]
    rcases (flatS_append _ _ _).1 hq with h | h
    · exact Or.inl ((hullC_ok hl).sub q ((flatS_hullC hl q).1 h))
    · exact Or.inr ((hullC_ok hm).sub q ((flatS_hullC hm q).1 h))
  · rw [flatS_append]
    rcases (flatS_append _ _ _).1 (hx.sub q hq) with h | h
    · exact Or.inl ((flatS_hullC hl q).2 (corner_part hf (flatS_flat l) hx (hullC_ok hl) (fun p hp => (flatS_append _ _ _).2 (Or.inl hp)) hq h))
    · exact Or.inr ((flatS_hullC hm q).2 (corner_part hf (flatS_flat m) hx (hullC_ok hm) (fun p hp => (flatS_append _ _ _).2 (Or.inr hp)) hq h))
theorem hullC_comm {l m : List V3} (hl : l ≠ []) : hullC (m ++ l) = hullC (l ++ m) := by
  refine hullC_of (by simp [hl]) ((hullC_ok (l := l ++ m) (by simp [hl])).restrict (fun q hq => ?_) fun q hq => ?_)
  · exact (flatS_append _ _ _).2 ((flatS_append _ _ _).1 hq).symm
  · exact (flatS_append _ _ _).2 ((flatS_append _ _ _).1 ((hullC_ok (l := l ++ m) (by simp [hl])).sub q hq)).symm
theorem hullC_twice {l : List V3} (hl : l ≠ []) : hullC (hullC l ++ hullC l) = hullC l := by
  rw [hullC_merge hl hl]
  refine hullC_of (by simp [hl]) ((hullC_ok hl).restrict (fun q hq => ?_) fun q hq => ?_)
  · rcases (flatS_append _ _ _).1 hq with h | h <;> exact h
  · exact (flatS_append _ _ _).2 (Or.inl ((hullC_ok hl).sub q hq))

theorem hullF_ok {l : List V3} (hne : l ≠ []) (hl : l.length ≤ 10000) (hp : ptsB l = true) : hullF l = (hullC l, 0) := by
  have h0 : ¬ l.length = 0 := fun e => hne (List.length_eq_zero_iff.1 e)
  unfold hullF
  rw [if_neg (by omega), if_pos hp, if_neg h0]
theorem hullC_pts {l : List V3} (hne : l ≠ []) (hp : ptsB l = true) : ptsB (hullC l) = true :=
  ptsB_bd.2 fun v hv => flatS_bd (ptsB_bd.1 hp) v ((hullC_ok hne).sub v hv)
theorem hullV_hull {l : List V3} (hne : l ≠ []) (hl : (hullC l).length ≤ 10000) (hp : ptsB l = true) : hullV (hullC l) = true := by
  unfold hullV
  rw [hullF_ok (hullC_ne hne) hl (hullC_pts hne hp), hullC_hullC hne]
  simp

/-- No point is outside. -/
theorem side_nn {l : List V3} (hne : l ≠ []) (hv : hullV (hullC l) = true) {p : V3} (hp : p ∈ l) : 0 ≤ sideF (hullC l) p := by
  have hh := hullC_ok hne
  have hf := flatS_flat l
  have hq : flatV p ∈ flatS l := flatS_mem.2 ⟨p, hp, rfl⟩
  by_cases h3 : 2 < (hullC l).length
  · have e : sideF (hullC l) p = leastR (hullC l) p (hullC l).length 0 1 := if_neg (by omega)
    rw [e]
    obtain ⟨-, -, h⟩ := least_spec (hullC l) p (hullC l).length 0 1
    rcases h with h | ⟨j, _, hj, h⟩
    · omega
    · rw [h]
      have := (hh.edge (by omega) (i := j) (by omega)).2.2.2 _ hq
      exact sgn_nn.2 this.1
  · rw [side_eq hv p]
    have h0 : 0 < (hullC l).length := List.length_pos_iff.2 (hullC_ne hne)
    have hon : onS (gt (hullC l) 0) (nx (hullC l) 0) p = true := by
      show onS (gt (hullC l) 0) (nx (hullC l) 0) (flatV p) = true
      by_cases h2 : (hullC l).length = 2
      · have e1 := (hh.edge (by omega) (i := 0) (by omega)).2.2.2 _ hq
        have e2 := (hh.edge (by omega) (i := 1) (by omega)).2.2.2 _ hq
        have n0 : nx (hullC l) 0 = gt (hullC l) 1 := by unfold nx; rw [h2]; rfl
        have n1 : nx (hullC l) 1 = gt (hullC l) 0 := by unfold nx; rw [h2]; rfl
        rw [n0] at e1 ⊢
        rw [n1] at e2
        have e3 := area_rev (gt (hullC l) 0) (gt (hullC l) 1) (flatV p)
        have k : area (gt (hullC l) 0) (gt (hullC l) 1) (flatV p) = 0 := by omega
        exact on_iff.2 ⟨k, e1.2 k⟩
      · obtain ⟨a, t, e, sa, la, na, t0, t1⟩ := hh
        cases t with
        | cons b t => rw [e] at h3 h2; simp only [List.length_cons] at h3 h2; omega
        | nil =>
          have := t0 rfl _ hq
          rw [this, e]
          have n0 : nx [a] 0 = a := by simp [nx]
          rw [n0]
          show onS a a a = true
          refine on_box.2 ⟨area_same a a, ?_⟩
          unfold Box goMin goMax
          split <;> split <;> simp
    rw [sideR_on (hullC l) p _ 0 _ 0 (by omega) (by omega) hon]
    exact Int.le_refl _

theorem fan_pos (h : List V3) : ∀ (k i : Nat), (∀ j, i ≤ j → j < i + k → 0 < area (gt h 0) (gt h j) (gt h (j + 1))) → 0 < k → 0 < fan h k i 0
  | 0, i, _, hk => by omega
  | 1, i, hp, _ => by
    have := hp i (by omega) (by omega)
    rw [fan, fan]; omega
  | k + 2, i, hp, _ => by
    have h1 := hp i (by omega) (by omega)
    have h2 := fan_pos h (k + 1) (i + 1) (fun j a b => hp j (by omega) (by omega)) (by omega)
    rw [fan, fan_add]; omega
theorem area_pos {l : List V3} (hne : l ≠ []) : (0 < shoe (hullC l) (hullC l).length 0 0) ↔ 2 < (hullC l).length := by
  have hh := hullC_ok hne
  have hf := flatS_flat l
  rw [shoe_eq_fan _ (List.length_pos_iff.2 (hullC_ne hne))]
  constructor
  · intro h
    refine Classical.byContradiction fun h3 => ?_
    have : (hullC l).length - 2 = 0 := by omega
    rw [this, fan] at h
    omega
  · intro h3
    refine fan_pos _ _ _ (fun j h1 h2 => ?_) (by omega)
    have := corner_left hf hh (by omega) (j := j) (i := 0) (by omega) (by omega) (by omega) (by rw [Nat.mod_eq_of_lt (by omega)]; omega)
    have e : nx (hullC l) j = gt (hullC l) (j + 1) := by
      unfold nx; rw [Nat.mod_eq_of_lt (by omega)]; rfl
    rw [e] at this
    have e2 := area_cyc (gt (hullC l) 0) (gt (hullC l) j) (gt (hullC l) (j + 1))
    omega

/-! ### Extents -/
theorem dot2_neg (d a : V3) : dot2 (negV d) a = - dot2 d a := by unfold dot2 negV; grind
theorem ext_neg (h : List V3) (d : V3) : ∀ (k i : Nat) (s : Int × Int), extR h (negV d) k i (-s.2, -s.1) = (-(extR h d k i s).2, -(extR h d k i s).1)
  | 0, _, _ => rfl
  | k + 1, i, s => by
    have m1 : goMin (-s.2) (dot2 (negV d) (gt h i)) = - goMax s.2 (dot2 d (gt h i)) := by
      rw [dot2_neg]; unfold goMin goMax; split <;> split <;> omega
    have m2 : goMax (-s.1) (dot2 (negV d) (gt h i)) = - goMin s.1 (dot2 d (gt h i)) := by
      rw [dot2_neg]; unfold goMin goMax; split <;> split <;> omega
    rw [extR, extR]
    simp only
    rw [m1, m2]
    exact ext_neg h d k (i + 1) (_, _)
theorem ext_rng (h : List V3) (d : V3) {B : Int} (hB : ∀ i, i < h.length → -B ≤ dot2 d (gt h i) ∧ dot2 d (gt h i) ≤ B) : ∀ (k i : Nat) (s : Int × Int), i + k ≤ h.length → s.1 ≤ s.2 → -B ≤ s.1 → s.2 ≤ B →
    (extR h d k i s).1 ≤ (extR h d k i s).2 ∧ -B ≤ (extR h d k i s).1 ∧ (extR h d k i s).2 ≤ B
  | 0, _, s, _, h1, h2, h3 => ⟨h1, h2, h3⟩
  | k + 1, i, s, hk, h1, h2, h3 => by
    have hb := hB i (by omega)
    rw [extR]
    refine ext_rng h d hB k (i + 1) _ (by omega) ?_ ?_ ?_
    · simp only [goMin, goMax]; split <;> split <;> omega
    · simp only [goMin]; split <;> omega
    · simp only [goMax]; split <;> omega

section
variable (X : Ext) (hX : ∀ f, f ≠ 30 → X f = none) (hS : SortOk X)
include hX hS

theorem law8 (l m : List V3) (d : V3) : run tab X 8 [.p (.list true kV (encL l)), .p (.list true kV (encL m)), .p (encV d)] [] = some ([.p (.bool true)], []) := by
  refine run_of (hX _ (by decide)) ?_
  have k := c9 X hX hS
  have q24 := c24 X hX d
  simp only [encV] at q24 ⊢
  rw [e8]
  simp only [condD, condE, encL_length, k, Option.bind_some, List.headD_cons, pv_p, toBool_bool]
  by_cases g1 : l.length > 20
  · rw [if_pos (by omega)]
  rw [if_neg (by omega)]
  by_cases g2 : m.length > 20
  · rw [if_pos (by omega)]
  rw [if_neg (by omega)]
  by_cases g3 : l.length = 0
  · rw [if_pos (by omega)]
  rw [if_neg (by omega)]
  by_cases g4 : m.length = 0
  · rw [if_pos (by omega)]
  rw [if_neg (by omega), c12 X hX l (by omega), c12 X hX m (by omega)]
  simp only [Option.bind_some, List.headD_cons, pv_p, toBool_bool]
  cases hpl : ptsB l with
  | false => rfl
  | true =>
  simp only [condNb]
  cases hpm : ptsB m with
  | false => rfl
  | true =>
  simp only [condNb]
  by_cases g5 : d.x < -1000000
  · rw [if_pos g5]
  rw [if_neg g5]
  by_cases g6 : d.x > 1000000
  · rw [if_pos g6]
  rw [if_neg g6]
  by_cases g7 : d.y < -1000000
  · rw [if_pos g7]
  rw [if_neg g7]
  by_cases g8 : d.y > 1000000
  · rw [if_pos g8]
  rw [if_neg g8]
  simp only [q24, Option.bind_some, List.headD_cons, pv_p, toBool_bool]
  cases hd : inM 16777216 d with
  | false => rfl
  | true =>
  simp only [condNb]
  have hl : l ≠ [] := fun e => g3 (by rw [e]; rfl)
  have hm : m ≠ [] := fun e => g4 (by rw [e]; rfl)
  have fl := hullF_ok hl (by omega) hpl
  have fm := hullF_ok hm (by omega) hpm
  have ll := hullC_len l
  have lm := hullC_len m
  have vl := hullV_hull hl (by omega) hpl
  have vm := hullV_hull hm (by omega) hpm
  have fh : hullF (hullC l) = (hullC l, 0) := by
    rw [hullF_ok (hullC_ne hl) (by omega) (hullC_pts hl hpl), hullC_hullC hl]
  have nn : ∀ {α : Type} (a b : α), cond ((0 : Int) != 0) a b = b := fun a b => rfl
  simp only [c10 X hX hS, fl, fm, Option.bind_some, List.headD_cons, List.tail_cons, freshList_fresh, take_all, pv_p, toInt_int, fh, nn, c16 X hX hS, vl, toBool_bool, condNb]
  rw [c11 X hX (hullC l) (hullC l) (by omega)]
  simp only [Option.bind_some, List.headD_cons, pv_p, toBool_bool, decide_true, condNb, encL_length]
  -- the last part
  have fin : L tab (run tab X) 8 [] [[1, 1, 1, 1, 1, 1, 1, 0, 1, 0]] (S8_1111111010 (encL l) (encL m) 0 (hullC l).length 0 (hullC m).length 0 (hullC l).length ((hullC l).length : Int) ((hullC l).length : Int) d.x d.y d.z (encL (hullC l)) (encL (hullC m))) = some ([.p (.bool true)], []) := by
    refine L_of ?_
    rw [e8_1111111010]
    simp only [condD, encL_length, take_all']
    rw [if_neg (by omega)]
    have pa : ∀ a b : List V3, ptsB a = true → ptsB b = true → ptsB (a ++ b) = true := fun a b ha hb => ptsB_bd.2 fun v hv => (List.mem_append.1 hv).elim (ptsB_bd.1 ha v) (ptsB_bd.1 hb v)
    have ph := hullC_pts hl hpl
    have pi := hullC_pts hm hpm
    have lhi : ∀ a b : List V3, (a ++ b).length = a.length + b.length := fun a b => List.length_append
    have mg : ∀ a b : List V3, hullV a = true → hullV b = true → a ≠ [] → a.length ≤ 5000 → b.length ≤ 5000 → mergeF a b = (hullC (a ++ b), 0) := by
      intro a b ha hb hne la lb
      unfold mergeF
      rw [if_pos ha, if_pos hb, hullF_ok (by simp [hne]) (by rw [lhi]; omega) (pa a b (ptsB_bd.2 (hullV_ok ha).2.2.1) (ptsB_bd.2 (hullV_ok hb).2.2.1))]
    have m1 := mg _ _ vl vm (hullC_ne hl) (by omega) (by omega)
    have m2 := mg _ _ vm vl (hullC_ne hm) (by omega) (by omega)
    have m3 := mg _ _ vl vl (hullC_ne hl) (by omega) (by omega)
    rw [hullC_merge hl hm] at m1
    rw [hullC_merge hm hl, hullC_comm hl] at m2
    rw [hullC_twice hl] at m3
    have lx := hullC_len (l ++ m)
    rw [lhi] at lx
    simp only [c26 X hX hS, m1, m2, m3, Option.bind_some, List.headD_cons, List.tail_cons, freshList_fresh, take_all, pv_p, toInt_int, nn]
    rw [c11 X hX (hullC (l ++ m)) (hullC (l ++ m)) (by omega), c11 X hX (hullC l) (hullC l) (by omega)]
    simp only [Option.bind_some, List.headD_cons, pv_p, toBool_bool, decide_true, condNb]
    rw [if_pos (by omega), if_pos (by omega)]
    have e3 : List.take (l.length + m.length) (List.drop 0 (encL l ++ encL m)) = encL (l ++ m) := by
      rw [encL_append, List.drop_zero, List.take_of_length_le (by simp)]
    have fx : hullF (l ++ m) = (hullC (l ++ m), 0) := hullF_ok (by simp [hl]) (by rw [lhi]; omega) (pa l m hpl hpm)
    rw [e3]
    simp only [c10 X hX hS, fx, Option.bind_some, List.headD_cons, List.tail_cons, freshList_fresh, take_all, pv_p, toInt_int, nn]
    rw [c11 X hX (hullC (l ++ m)) (hullC (l ++ m)) (by omega)]
    have ar : areaP (hullC l) = (shoe (hullC l) (hullC l).length 0 0, 0) := if_pos vl
    simp only [c19 X hX hS, ar, Option.bind_some, List.headD_cons, List.tail_cons, pv_p, toBool_bool, decide_true, condNb, toInt_int, nn]
    have ea : ((decide (shoe (hullC l) (hullC l).length 0 0 > 0)) == (decide (((hullC l).length : Int) > 2))) = true := by
      have := area_pos hl
      by_cases h2 : 2 < (hullC l).length
      · rw [decide_eq_true (this.2 h2), decide_eq_true (by omega)]; rfl
      · rw [decide_eq_false (fun x => h2 (this.1 x)), decide_eq_false (by omega)]; rfl
    change (bif !(decide (shoe (hullC l) (hullC l).length 0 0 > 0) == decide (((hullC l).length : Int) > 2)) then _ else _) = _
    rw [ea]
    simp only [condNb]
    have bd := inM_bd.1 hd
    have bdn : Bd 16777216 (negV d) := by
      obtain ⟨⟨a1, a2⟩, ⟨a3, a4⟩, a5, a6⟩ := bd
      refine ⟨?_, ?_, ?_⟩ <;> simp only [negV] <;> omega
    have ex : extP (hullC l) d = (ext (hullC l) d, 0) := if_pos ⟨vl, hd⟩
    have exn : extP (hullC l) (negV d) = (ext (hullC l) (negV d), 0) := if_pos ⟨vl, inM_bd.2 bdn⟩
    have t1 := c21 X hX hS (hullC l) d
    have t2 := c28 X hX d (bd.mono (by decide))
    have t3 := c21 X hX hS (hullC l) (negV d)
    simp only [encV] at t1 t2 t3
    have hneg : ext (hullC l) (negV d) = (-(ext (hullC l) d).2, -(ext (hullC l) d).1) := by
      unfold ext
      rw [dot2_neg]
      exact ext_neg (hullC l) d _ 0 (dot2 d (gt (hullC l) 0), dot2 d (gt (hullC l) 0))
    have bh := ptsB_bd.1 ph
    have hB : ∀ i, i < (hullC l).length → -35184372088832 ≤ dot2 d (gt (hullC l) i) ∧ dot2 d (gt (hullC l) i) ≤ 35184372088832 := fun i hi => by
      have := dot2_bd bd (bh _ (gt_mem hi))
      unfold dot2; omega
    have h0 : 0 < (hullC l).length := List.length_pos_iff.2 (hullC_ne hl)
    have rng := ext_rng (hullC l) d hB (hullC l).length 0 (dot2 d (gt (hullC l) 0), dot2 d (gt (hullC l) 0)) (by omega) (Int.le_refl _) (hB 0 h0).1 (hB 0 h0).2
    change (ext (hullC l) d).1 ≤ (ext (hullC l) d).2 ∧ -35184372088832 ≤ (ext (hullC l) d).1 ∧ (ext (hullC l) d).2 ≤ 35184372088832 at rng
    rw [ex] at t1
    rw [exn, hneg] at t3
    simp only [t1, t2, Option.bind_some, List.headD_cons, List.tail_cons, pv_p, cell_agg, List.getD_cons_zero, List.getD_cons_succ, toInt_int, t3]
    have w1 : IntKind.i64.wrap (0 - -(ext (hullC l) d).1) = (ext (hullC l) d).1 := by rw [wrap_eq (by omega) (by omega)]; omega
    have w2 : IntKind.i64.wrap (0 - -(ext (hullC l) d).2) = (ext (hullC l) d).2 := by rw [wrap_eq (by omega) (by omega)]; omega
    rw [w1, w2]
    simp only [beq_self_eq_true, cond_true]
    change (if (ext (hullC l) d).1 ≤ (ext (hullC l) d).2 then _ else _) = _
    rw [if_pos rng.1, k]
    rfl
  -- each corner is a point
  have corners : ∀ c t : Nat, t + c = (hullC l).length → L tab (run tab X) 8 [] [[1, 1, 1, 1, 1, 1, 1, 0, 1, 0]] (S8_1111111010 (encL l) (encL m) 0 (hullC l).length 0 (hullC m).length 0 (hullC l).length ((hullC l).length : Int) (t : Int) d.x d.y d.z (encL (hullC l)) (encL (hullC m))) = some ([.p (.bool true)], []) := by
    intro c
    induction c with
    | zero =>
      intro t ht
      have : t = (hullC l).length := by omega
      subst this
      exact fin
    | succ c ih =>
      intro t ht
      refine L_of ?_
      rw [e8_1111111010]
      simp only [condD, condA, encL_length, Int.toNat_natCast, Nat.zero_add, encL_x, encL_y, encL_z]
      rw [if_pos (by omega), if_pos (by omega), if_pos (by omega)]
      have hc := gt_mem (h := hullC l) (i := t) (by omega)
      have hz := hullC_flat hl hc
      obtain ⟨u, hu, hue⟩ := flatS_mem.1 ((hullC_ok hl).sub _ hc)
      have inner : ∀ r j : Nat, j + r = l.length → ∀ found : Bool, (found = true ∨ u ∈ l.drop j) → L tab (run tab X) 8 [] [[1, 1, 1, 1, 1, 1, 1, 0, 1, 0], [1, 1, 0, 0, 1, 1, 0, 1, 0]] (S8_1111111010_110011010 (encL l) (encL m) 0 (hullC l).length 0 (hullC m).length found 0 (hullC l).length ((hullC l).length : Int) (t : Int) (encL l) (l.length : Int) (j : Int) d.x d.y d.z (encL (hullC l)) (encL (hullC m)) (gt (hullC l) t).x (gt (hullC l) t).y (gt (hullC l) t).z) = some ([.p (.bool true)], []) := by
        intro r
        induction r with
        | zero =>
          intro j hj found hfo
          refine L_of ?_
          rw [e8_1111111010_110011010]
          have : found = true := by
            rcases hfo with h | h
            · exact h
            · rw [List.drop_of_length_le (by omega)] at h; simp at h
          subst this
          simp only [condD, condNb]
          rw [if_neg (by omega), hz, wrap_nat (by omega)]
          exact ih (t + 1) (by omega)
        | succ r ihr =>
          intro j hj found hfo
          refine L_of ?_
          rw [e8_1111111010_110011010]
          simp only [condD, condA, condE, encL_length, Int.toNat_natCast, encL_x, encL_y, wrap_nat (show j < 4611686018427387904 by omega)]
          rw [if_pos (by omega), if_pos (by omega), if_pos (by omega)]
          cases found with
          | true =>
            exact ihr (j + 1) (by omega) true (Or.inl rfl)
          | false =>
            simp only [cond_false]
            have hu' : u ∈ l.drop j := by
              rcases hfo with h | h
              · cases h
              · exact h
            rw [drop_getD (by omega)] at hu'
            by_cases hx : (l.getD j default).x = (gt (hullC l) t).x
            · rw [if_pos hx]
              refine ihr (j + 1) (by omega) _ ?_
              rcases List.mem_cons.1 hu' with h | h
              · left
                rw [← h, ← hue]
                exact beq_self_eq_true _
              · exact Or.inr h
            · rw [if_neg hx]
              refine ihr (j + 1) (by omega) _ ?_
              rcases List.mem_cons.1 hu' with h | h
              · rw [← h, ← hue] at hx
                exact absurd rfl hx
              · exact Or.inr h
      exact inner l.length 0 (by omega) false (Or.inr (by simpa using hu))
  -- no point is outside
  have points : ∀ c t : Nat, t + c = l.length → L tab (run tab X) 8 [] [[1, 1, 1, 1, 1, 1, 0, 1, 0]] (S8_111111010 (encL l) (encL m) 0 (hullC l).length 0 (hullC m).length (encL l) (l.length : Int) (t : Int) d.x d.y d.z (encL (hullC l)) (encL (hullC m))) = some ([.p (.bool true)], []) := by
    intro c
    induction c with
    | zero =>
      intro t ht
      refine L_of ?_
      rw [e8_111111010]
      simp only [condD]
      rw [if_neg (by omega)]
      exact corners (hullC l).length 0 (by omega)
    | succ c ih =>
      intro t ht
      refine L_of ?_
      rw [e8_111111010]
      have hp := gt_mem (h := l) (i := t) (by omega)
      have sp : sideP (hullC l) (gt l t) = (sideF (hullC l) (gt l t), 0) := if_pos ⟨vl, inM_bd.2 (ptsB_bd.1 hpl _ hp)⟩
      have q := c14 X hX hS (hullC l) (gt l t)
      rw [sp] at q
      simp only [encV, gt] at q
      have sn := side_nn hl vl hp
      simp only [condD, condA, encL_length, take_all', Int.toNat_natCast, encL_x, encL_y, encL_z, q, Option.bind_some, List.headD_cons, List.tail_cons, pv_p, toInt_int, nn, wrap_nat (show t < 4611686018427387904 by omega)]
      rw [if_pos (by omega), if_pos (by omega), if_pos (by omega)]
      change (if sideF (hullC l) (gt l t) < 0 then _ else _) = _
      rw [if_neg (by omega)]
      exact ih (t + 1) (by omega)
  exact points l.length 0 (by omega)
end
end Go.Skm.Hull
