/-
  The laws of valid pictures and of colours, from the examples (Known); condition: a picture as a law's argument is.
-/
import Derived.Test.YtidoclepnecnbaaDoorP12
import Derived.Test.YtidoclepnecnbaaDoorP10
namespace Go.Skm.Pic
open Go Go.Skm
def Known (X : Ext) : Prop := run tab X 10 [] [] = some ([.p (.bool true)], [])
section
variable (X : Ext) (hX : Mine X)
include hX
theorem law3 (hk : Known X) (p : Pi) (hl : p.d.length ≤ maxLen) : run tab X 3 [.p (encP p)] [] = some ([.p (.bool true)], []) :=
  run_of (hX _ rfl) (by
    unfold Known at hk
    rw [e3, c11 X hX p hl, c12 X hX p hl, hk]
    simp only [condD, Option.bind_some, List.headD_cons, pv_p, toBool_bool]
    split
    · rfl
    · cases validP p <;> rfl)
theorem law8 (hk : Known X) (p : Pi) (hl : p.d.length ≤ maxLen) (x y : Int) : run tab X 8 [.p (encP p), .p (.int .i64 x), .p (.int .i64 y)] [] = some ([.p (.bool true)], []) :=
  run_of (hX _ rfl) (by
    have hm : (maxLen : Int) = 9223372036854775807 := by decide
    have hc : ∀ l : List PV, (∃ m : List (Int × Int × Int), m.length ≤ maxLen ∧ l = encC m) → run tab X 28 [.p (.list true kC ((l.drop 0).take l.length)), .p (.list true kC ((l.drop 0).take l.length))] [] = some ([.p (.bool true)], []) := by
      rintro l ⟨m, hm1, rfl⟩
      rw [List.drop_zero, List.take_length, c28 X hX m m hm1]
      simp
    have hr : ∃ m : List (Int × Int × Int), m.length ≤ maxLen ∧ ((rowR p y).1.headD .undef).freshList = encC m := by
      unfold rowR
      cases hv : validP p with
      | false => exact ⟨[], by simp, rfl⟩
      | true =>
        have V := valid_iff.1 hv
        obtain ⟨v1, v2⟩ := V.w
        simp only [cond_true]
        split
        · exact ⟨rowL p y p.w.toNat, by rw [rowL_length]; omega, rfl⟩
        · exact ⟨[], by simp, rfl⟩
    have h28 := hc _ hr
    unfold Known at hk
    rw [e8, c13 X hX p, c24 X hX p hl, c25 X hX p hl, c26 X hX p hl, c27 X hX p hl, hk]
    simp only [Option.bind_some, List.headD_cons, pv_p, toBool_bool, condO, beq_self_eq_true, Bool.true_and, cond_true, h28]
    cases decide (p.d.length ≤ 40) with
    | false => rfl
    | true =>
      simp only [cond_true, condD]
      split
      · split <;> rfl
      · rfl)
abbrev etaP (v : PV) : PV := .agg [.int .i64 (v.cell 0).toInt, .int .i64 (v.cell 1).toInt, .int .u8 (v.cell 2).toInt, .int .u8 (v.cell 3).toInt, .int .u8 (v.cell 4).toInt, .list true kD (v.cell 5).toList]
omit hX in
theorem cropF_len (x y w h : Int) : ∀ l : List Dt, (cropF x y w h l).length ≤ l.length
  | [] => by simp [cropF]
  | d :: l => by
    have := cropF_len x y w h l
    simp only [cropF]
    cases touch d x y w h <;> simp <;> omega
omit hX in
theorem crop_eta (p : Pi) (hl : p.d.length ≤ maxLen) (x y w h : Int) : ∃ q : Pi, q.d.length ≤ maxLen ∧ etaP ((cropR p x y w h).1.headD .undef).pv = encP q := by
  unfold cropR
  cases validP p with
  | false => exact ⟨⟨0, 0, 0, 0, 0, []⟩, by simp, rfl⟩
  | true =>
    simp only [cond_true]
    split
    · split
      · refine ⟨⟨w, h, p.a, p.e, p.b, cropF x y w h p.d⟩, Nat.le_trans (cropF_len x y w h p.d) hl, ?_⟩
        cases hc : cropF x y w h p.d with
        | nil => rfl
        | cons d l => rfl
      · exact ⟨⟨0, 0, 0, 0, 0, []⟩, by simp, rfl⟩
    · exact ⟨⟨0, 0, 0, 0, 0, []⟩, by simp, rfl⟩
theorem law7 (hk : Known X) (p : Pi) (hl : p.d.length ≤ maxLen) (x y w h : Int) : run tab X 7 [.p (encP p), .p (.int .i64 x), .p (.int .i64 y), .p (.int .i64 w), .p (.int .i64 h)] [] = some ([.p (.bool true)], []) :=
  run_of (hX _ rfl) (by
    obtain ⟨q, q1, q2⟩ := crop_eta p hl x y w h
    have h17 : run tab X 17 [.p (etaP ((cropR p x y w h).1.headD .undef).pv), .p (etaP ((cropR p x y w h).1.headD .undef).pv)] [] = some ([.p (.bool true)], []) := by
      rw [q2, c17 X hX q q q1]; simp
    unfold Known at hk
    rw [e7, c13 X hX p, hk]
    simp only [Option.bind_some, List.headD_cons, pv_p, toBool_bool, condO]
    by_cases hs : p.d.length ≤ 40
    · have h19 := c19 X hX p (by omega)
      have h17b : run tab X 17 [.p (etaP (encP p)), .p (encP p)] [] = some ([.p (.bool true)], []) := by
        show run tab X 17 [.p (encP p), .p (encP p)] [] = _
        rw [c17 X hX p p hl]; simp
      have h22 : run tab X 22 [.p (etaP (encP p)), .p (.int .i64 x), .p (.int .i64 y), .p (.int .i64 w), .p (.int .i64 h)] [] = some (cropR p x y w h) := c22 X hX p hl x y w h
      rw [decide_eq_true hs, h19, c23 X hX p hl]
      simp only [Option.bind_some, List.headD_cons, pv_p, cond_true, condD]
      rw [h22]
      simp only [Option.bind_some, h17, h17b, List.headD_cons, pv_p, toBool_bool, cond_true, beq_self_eq_true]
      repeat' split
      all_goals rfl
    · rw [decide_eq_false hs]; rfl)
end
end Go.Skm.Pic
