/-
  The picture with a text: what is parsed is what was written; plain lists of bytes, no condition.
-/
import Derived.Test.YtidoclepnecnbaaDoorP18
namespace Go.Skm.Pic
open Go Go.Skm
structure Good (p : Pi) : Prop where
  valid : validP p = true
  col : Col (p.a, p.e, p.b)
  dots : ∀ v ∈ p.d, Col (v.a, v.e, v.b)
def dotB (d : Dt) : List UInt8 := lineB [100, 111, 116] [d.x, d.y, d.r] (d.a, d.e, d.b)
def picB (p : Pi) : List UInt8 := lineB [112, 105, 99, 116, 117, 114, 101] [p.w, p.h] (p.a, p.e, p.b)
theorem splitC_joinC {c : UInt8} : ∀ {l : List (List UInt8)}, l ≠ [] → (∀ x ∈ l, c ∉ x) → splitC c (joinC c l) = l
  | [], h, _ => absurd rfl h
  | [p], _, h => by rw [show joinC c [p] = p from rfl, splitC_none (h p (by simp))]
  | p :: q :: r, _, h => by
    rw [show joinC c (p :: q :: r) = p ++ c :: joinC c (q :: r) from rfl, splitC_app _ (h p (by simp)), splitC_joinC (by simp) fun x hx => h x (by simp at hx ⊢; exact .inr hx)]
theorem dots_join : ∀ (ds : List Dt) (x : List UInt8), x ++ (10 :: dotsT ds) = joinC 10 (x :: ds.map dotB) ++ [10]
  | [], x => by simp [dotsT, joinC]
  | d :: ds, x => by
    have ih := dots_join ds (dotB d)
    have e : joinC 10 (x :: (d :: ds).map dotB) = x ++ 10 :: joinC 10 (dotB d :: ds.map dotB) := rfl
    rw [e, dotsT, dotT, lineT_eq]
    have e2 : x ++ 10 :: joinC 10 (dotB d :: ds.map dotB) ++ [10] = x ++ 10 :: (joinC 10 (dotB d :: ds.map dotB) ++ [10]) := by simp
    rw [e2, ← ih]
    simp [dotB]
def textM (p : Pi) : List UInt8 := joinC 10 (picB p :: p.d.map dotB)
theorem textP_eq (p : Pi) : textP p = textM p ++ [10] := by
  rw [textM, ← dots_join, textP, lineT_eq]
  simp [picB]
theorem textM_split {p : Pi} (g : Good p) : splitC 10 (textM p) = picB p :: p.d.map dotB := by
  refine splitC_joinC (by simp) fun x hx => ?_
  rcases List.mem_cons.1 hx with rfl | hx
  · exact lineB_break g.col (by decide)
  · obtain ⟨d, hd, rfl⟩ := List.mem_map.1 hx
    exact lineB_break (g.dots d hd) (by decide)
theorem dotsO_map : ∀ {ds : List Dt}, (∀ v ∈ ds, Col (v.a, v.e, v.b)) → (∀ v ∈ ds, In64 v.x ∧ In64 v.y ∧ In64 v.r) → dotsO (ds.map dotB) = some ds
  | [], _, _ => rfl
  | d :: ds, h1, h2 => by
    have hd := h2 d (by simp)
    have := readO_line (w := [100, 111, 116]) (ns := [d.x, d.y, d.r]) (by decide) (by
      intro n hn
      simp only [List.mem_cons, List.not_mem_nil, or_false] at hn
      rcases hn with rfl | rfl | rfl
      · exact hd.1
      · exact hd.2.1
      · exact hd.2.2) (h1 d (by simp))
    have this : readO [100, 111, 116] 3 (splitC 32 (dotB d)) = some ([d.x, d.y, d.r], d.a, d.e, d.b) := this
    rw [List.map_cons, dotsO, this]
    simp only [dotO]
    rw [dotsO_map (fun v hv => h1 v (by simp [hv])) fun v hv => h2 v (by simp [hv])]
    rfl
theorem dotsO_some : ∀ {ls : List (List UInt8)} {ds : List Dt}, dotsO ls = some ds → ls = ds.map dotB ∧ ∀ v ∈ ds, Col (v.a, v.e, v.b)
  | [], ds, h => by simp [dotsO] at h; subst h; simp
  | l :: ls, ds, h => by
    simp only [dotsO] at h
    split at h
    · next d hd =>
      cases hl : dotsO ls with
      | none => rw [hl] at h; cases h
      | some es =>
        rw [hl] at h
        simp only [Option.map_some, Option.some.injEq] at h
        subst h
        obtain ⟨h1, h2⟩ := dotsO_some hl
        cases hr : readO [100, 111, 116] 3 (splitC 32 l) with
        | none => rw [hr] at hd; cases hd
        | some q =>
          obtain ⟨ns, c⟩ := q
          obtain ⟨r1, r2, r3, r4⟩ := readO_some hr
          rw [hr] at hd
          match ns, r2 with
          | [x, y, z], _ =>
            obtain ⟨a, e, b⟩ := c
            simp only [dotO, Option.some.injEq] at hd
            subst hd
            refine ⟨by rw [List.map_cons, r1, h1]; rfl, fun v hv => ?_⟩
            rcases List.mem_cons.1 hv with rfl | hv
            · exact r4
            · exact h2 v hv
    · cases h
theorem cut_parts {m x : List UInt8} {ls : List (List UInt8)} (h : splitC 10 m = x :: ls) : (cutC 10 m).1 = x ∧ (bif (cutC 10 m).2.2 then splitC 10 (cutC 10 m).2.1 else []) = ls := by
  rw [cut_split, List.cons.injEq] at h
  exact h
theorem parse_text {p : Pi} (g : Good p) : parseM (textM p) = some p := by
  obtain ⟨h1, h2⟩ := cut_parts (textM_split g)
  have V := valid_iff.1 g.valid
  obtain ⟨v1, v2⟩ := V.w
  obtain ⟨v3, v4⟩ := V.h
  have hp := readO_line (w := [112, 105, 99, 116, 117, 114, 101]) (ns := [p.w, p.h]) (by decide) (by
    intro n hn
    simp only [List.mem_cons, List.not_mem_nil, or_false] at hn
    unfold In64
    rcases hn with rfl | rfl <;> omega) g.col
  have hp : readO [112, 105, 99, 116, 117, 114, 101] 2 (splitC 32 (picB p)) = some ([p.w, p.h], p.a, p.e, p.b) := hp
  unfold parseM
  rw [h1, h2, hp]
  simp only [picO, restO]
  rw [dotsO_map g.dots fun v hv => by
    have := V.d v hv
    unfold In64
    omega]
  simp only [Option.bind_some, List.nil_append, finO]
  rw [show validP ⟨p.w, p.h, p.a, p.e, p.b, p.d⟩ = true from g.valid]
  rfl
theorem parse_some {m : List UInt8} {p : Pi} (h : parseM m = some p) : Good p ∧ m = textM p := by
  unfold parseM at h
  cases hr : readO [112, 105, 99, 116, 117, 114, 101] 2 (splitC 32 (cutC 10 m).1) with
  | none => rw [hr] at h; cases h
  | some q =>
    obtain ⟨ns, c⟩ := q
    obtain ⟨r1, r2, r3, r4⟩ := readO_some hr
    rw [hr] at h
    match ns, r2 with
    | [x, y], _ =>
      obtain ⟨a, e, b⟩ := c
      simp only [picO, restO] at h
      cases hd : dotsO (bif (cutC 10 m).2.2 then splitC 10 (cutC 10 m).2.1 else []) with
      | none => rw [hd] at h; cases h
      | some ds =>
        rw [hd] at h
        simp only [Option.bind_some, List.nil_append, finO] at h
        cases hv : validP ⟨x, y, a, e, b, ds⟩ with
        | false => rw [hv] at h; cases h
        | true =>
          rw [hv] at h
          simp only [cond_true, Option.some.injEq] at h
          subst h
          obtain ⟨d1, d2⟩ := dotsO_some hd
          refine ⟨⟨hv, r4, d2⟩, ?_⟩
          have hj := joinC_splitC 10 m
          rw [cut_split, d1, r1] at hj
          exact hj.symm
end Go.Skm.Pic
