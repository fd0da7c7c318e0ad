/-
  The law of texts, from the examples and the library's answers; condition: a picture as a law's argument is.
-/
import Derived.Test.YtidoclepnecnbaaDoorP22
import Derived.Test.YtidoclepnecnbaaDoorP19
namespace Go.Skm.Pic
open Go Go.Skm
theorem dotsT_len : ∀ {ds : List Dt}, (∀ v ∈ ds, v.near) → (dotsT ds).length ≤ 100 * ds.length
  | [], _ => by simp [dotsT]
  | d :: ds, h => by
    have hd := h d (by simp)
    have := dotsT_len (ds := ds) fun v hv => h v (by simp [hv])
    have hs : ∀ n ∈ [d.x, d.y, d.r], Small n := by
      have dx := hd.x
      have dy := hd.y
      have dr := hd.r
      intro n hn
      simp only [List.mem_cons, List.not_mem_nil, or_false] at hn
      unfold Small
      rcases hn with rfl | rfl | rfl <;> omega
    have h2 := lineT_len (w := [100, 111, 116]) (r := d.a) (e := d.e) (b := d.b) hs
    simp only [List.length_cons, List.length_nil] at h2
    simp only [dotsT, dotT, List.length_append, List.length_cons]
    omega
theorem textP_len {p : Pi} (V : Valid p) : (textP p).length ≤ 500000 := by
  obtain ⟨v1, v2⟩ := V.w
  obtain ⟨v3, v4⟩ := V.h
  have hl := V.len
  have hs : ∀ n ∈ [p.w, p.h], Small n := by
    intro n hn
    simp only [List.mem_cons, List.not_mem_nil, or_false] at hn
    unfold Small
    rcases hn with rfl | rfl <;> omega
  have h2 := lineT_len (w := [112, 105, 99, 116, 117, 114, 101]) (r := p.a) (e := p.e) (b := p.b) hs
  have h3 := dotsT_len V.near
  simp only [List.length_cons, List.length_nil] at h2
  simp only [textP, List.length_append]
  omega
section
variable (X : Ext) (hX : Mine X) (hT : Texts X)
include hX hT
theorem c16_text {p : Pi} (g : Good p) : run tab X 16 [.p (.str (ba (textP p)))] [] = some (parsR (some p)) := by
  have hl := textP_len (valid_iff.1 g.valid)
  rw [textP_eq] at hl ⊢
  rw [c16_good X hX hT (textM p) (by simp at hl; omega), parse_text g]
theorem law4 (hk : Known X) (p : Pi) (ho : p.ok) : run tab X 4 [.p (encP p)] [] = some ([.p (.bool true)], []) :=
  run_of (hX _ rfl) (by
    have hp : In8 p.a ∧ In8 p.e ∧ In8 p.b := ⟨ho.a, ho.e, ho.b⟩
    unfold Known at hk
    rw [e4, c13 X hX p, hk, c14 X hX hT p ho.len hp ho.d, c15 X hX p ho.len hp ho.d]
    simp only [Option.bind_some, List.headD_cons, pv_p, toBool_bool, condO, beq_self_eq_true, cond_true]
    cases decide (p.d.length ≤ 40) with
    | false => rfl
    | true =>
      simp only [cond_true]
      cases hv : validP p with
      | false => simp only [textR, hv, cond_false]; rfl
      | true =>
        have g : Good p := ⟨hv, hp, fun v hv => ⟨(ho.d v hv).a, (ho.d v hv).e, (ho.d v hv).b⟩⟩
        have h16 := c16_text X hX hT g
        have h17 : run tab X 17 [.p (encP p), .p (etaP ((parsR (some p)).1.headD .undef).pv)] [] = some ([.p (.bool true)], []) := by
          have e : etaP ((parsR (some p)).1.headD .undef).pv = encP p := by
            obtain ⟨w, h, a, e, b, d⟩ := p
            cases d <;> rfl
          rw [e, c17 X hX p p ho.len]; simp
        simp only [textR, hv, cond_true]
        refine condF rfl ?_
        refine condF rfl ?_
        refine bindS h16 ?_
        refine condT rfl ?_
        exact bindS h17 rfl)
end
end Go.Skm.Pic
