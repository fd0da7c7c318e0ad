/-
  The law of parsing, from the examples and the library's answers; condition: none.
-/
import Derived.Test.YtidoclepnecnbaaDoorP21
import Derived.Test.YtidoclepnecnbaaDoorP23
namespace Go.Skm.Pic
open Go Go.Skm
theorem pars_eta {o : Option Pi} (h : ∀ p, o = some p → p.d.length ≤ maxLen) : ∃ q : Pi, q.d.length ≤ maxLen ∧ etaP ((parsR o).1.headD .undef).pv = encP q := by
  cases o with
  | none => exact ⟨⟨0, 0, 0, 0, 0, []⟩, by simp, rfl⟩
  | some p =>
    refine ⟨p, h p rfl, ?_⟩
    obtain ⟨w, h, a, e, b, d⟩ := p
    cases d <;> rfl
section
variable (X : Ext) (hX : Mine X) (hT : Texts X)
include hX hT
theorem both_parse (s : List UInt8) (hs : s.length ≤ 1000) : ∃ o : Option Pi, (∀ p, o = some p → p.d.length ≤ maxLen) ∧ run tab X 16 [.p (.str (ba s))] [] = some (parsR o) ∧ run tab X 18 [.p (.str (ba s))] [] = some (parsR o) := by
  have hm : (maxLen : Int) = 9223372036854775807 := by decide
  have h18 := c18 X hX s hs
  rcases List.eq_nil_or_concat s with rfl | ⟨m, x, rfl⟩
  · refine ⟨none, by simp, c16_bad X hX hT [] [] (by simp) (c40_nil X hX), ?_⟩
    rw [h18, docL_nil]
  · rw [List.concat_eq_append] at *
    have hml : m.length ≤ 1000 := by simp at hs; omega
    by_cases hx : x = 10
    · subst hx
      refine ⟨parseM m, fun p hp => ?_, c16_good X hX hT m (by omega), ?_⟩
      · have := (valid_iff.1 (parse_some hp).1.valid).len
        omega
      · rw [h18, docL_parse]
    · have h40 := c40_snoc X hX m x (by omega)
      rw [if_neg hx] at h40
      refine ⟨none, by simp, c16_bad X hX hT (m ++ [x]) (m ++ [x]) (by simp; omega) h40, ?_⟩
      rw [h18, docL_bad hx]
theorem law5 (hk : Known X) (s : List UInt8) : run tab X 5 [.p (.str (ba s))] [] = some ([.p (.bool true)], []) :=
  run_of (hX _ rfl) (by
    unfold Known at hk
    rw [e5, hk, ba_size]
    by_cases hs : s.length ≤ 1000
    · obtain ⟨o, ho, h16, h18⟩ := both_parse X hX hT s hs
      obtain ⟨q, q1, q2⟩ := pars_eta ho
      have h17 : run tab X 17 [.p (etaP ((parsR o).1.headD .undef).pv), .p (etaP ((parsR o).1.headD .undef).pv)] [] = some ([.p (.bool true)], []) := by
        rw [q2, c17 X hX q q q1]; simp
      refine condNP (show ¬ (((s.length : Nat) : Int) > 1000) by omega) ?_
      refine bindS h16 (bindS h18 (bindS h17 ?_))
      refine condT rfl (condT (by simp) rfl)
    · exact condP (show (((s.length : Nat) : Int) > 1000) by omega) rfl)
end
end Go.Skm.Pic
