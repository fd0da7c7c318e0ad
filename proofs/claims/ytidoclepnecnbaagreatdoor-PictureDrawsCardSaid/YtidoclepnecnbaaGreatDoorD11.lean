/-
  The picture of points, for both, and the law, from the examples (Known); condition: none.
-/
import Derived.Test.YtidoclepnecnbaaGreatDoorD10
namespace Go.Skm.Drw
open Go Go.Skm
def dotS (cs : List (Int × Int × Int)) (s : Sp) : Dt := ⟨s.x, s.y, min s.r 4096, (cs.getD s.i.toNat default).1, (cs.getD s.i.toNat default).2.1, (cs.getD s.i.toNat default).2.2⟩
abbrev picR (p : Pi) (e : Int) : List AV × List Blk := ([.agg [.p (.int .i64 p.w), .p (.int .i64 p.h), .p (.int .u8 p.a), .p (.int .u8 p.e), .p (.int .u8 p.b), .fresh true kD (encL p.d)], .p (.int .i64 e)], [])
theorem colC_getD (cs : List (Int × Int × Int)) {i : Nat} (h : i < cs.length) : (encC cs).getD i .nil = colC (cs.getD i default) := by
  rw [encC_getD cs h, List.getD_eq_getElem?_getD, List.getElem?_eq_getElem h]
  rfl
theorem encT_get' (W : List Sp) {i : Nat} (h : i < W.length) : (encT W).getD (0 + i) .nil = encS W[i] := by rw [Nat.zero_add, encT_getD W h]
section
variable (X : Ext) (hX : Mine X)
include hX
theorem c5_loop (cs : List (Int × Int × Int)) (W : List Sp) (hW : W.length ≤ 40) (hi : ∀ s ∈ W, 0 ≤ s.i ∧ s.i < (cs.length : Int)) (b0 b1 b2 b3 b4 w h r g b : Int) : ∀ (n i : Nat) (acc : List Dt), i + n = W.length → acc.length = i → acc ++ (W.drop i).map (dotS cs) = W.map (dotS cs) →
    L tab (run tab X) 5 [] [.lp [1, 1, 1, 1, 0, 1, 0]] (S5_1111010_s1 (encC cs) 0 W.length ((W.length : Nat) : Int) ((i : Nat) : Int) b0 b1 b2 b3 b4 (encT W) w h r g b 0 acc.length (encL acc)) = some (picR ⟨w, h, r, g, b, W.map (dotS cs)⟩ 0) := by
  have _ := hX
  intro n
  induction n with
  | zero =>
    intro i acc hn ha he
    rw [List.drop_eq_nil_of_le (by omega)] at he
    simp only [List.map_nil, List.append_nil] at he
    subst he
    refine L_of ?_
    rw [e5_1111010_s1]
    refine condNP (show ¬ ((i : Nat) : Int) < ((W.length : Nat) : Int) by omega) ?_
    rw [List.drop_zero, List.take_of_length_le (by rw [encL_length]; omega)]
  | succ n ih =>
    intro i acc hn ha he
    have hil : i < W.length := by omega
    have hs := hi W[i] (List.getElem_mem hil)
    have hc : W[i].i.toNat < cs.length := by omega
    have w1 : IntKind.i64.wrap (((i : Nat) : Int) + 1) = ((i + 1 : Nat) : Int) := by rw [wrap_eq (by omega) (by omega)]; omega
    rw [List.drop_eq_getElem_cons hil] at he
    have ih' := ih (i + 1) (acc ++ [dotS cs W[i]]) (by omega) (by simp; omega) (by rw [← he, List.map_cons, List.append_assoc]; rfl)
    refine L_of ?_
    rw [e5_1111010_s1, w1, Int.toNat_natCast, encT_get' W hil]
    refine condP (show ((i : Nat) : Int) < ((W.length : Nat) : Int) by omega) (condT (in_bd hil) (condT (show (leI 0 W[i].i && ltI W[i].i (((encC cs).length : Nat) : Int)) = true by rw [encC_length]; simp only [leI, ltI, Bool.and_eq_true, decide_eq_true_eq]; omega) (condT (by simp only [leN, decide_eq_true_eq]; omega) ?_)))
    have e1 : ((encL acc).drop 0).take acc.length ++ [PV.agg [.int .i64 W[i].x, .int .i64 W[i].y, .int .i64 (goMin W[i].r 4096), .int .u8 (((encC cs).getD W[i].i.toNat .nil).cell 0).toInt, .int .u8 (((encC cs).getD W[i].i.toNat .nil).cell 1).toInt, .int .u8 (((encC cs).getD W[i].i.toNat .nil).cell 2).toInt]] = encL (acc ++ [dotS cs W[i]]) := by
      rw [List.drop_zero, List.take_of_length_le (by rw [encL_length]; omega), goMin_eq, colC_getD cs hc]
      simp only [encL, List.map_append, List.map_cons, List.map_nil]
      rfl
    refine Eq.trans (congrArg (fun T => L tab (run tab X) 5 [] [.lp [1, 1, 1, 1, 0, 1, 0]] (S5_1111010_s1 (encC cs) 0 W.length ((W.length : Nat) : Int) ((i + 1 : Nat) : Int) b0 b1 b2 b3 b4 (encT W) w h r g b 0 (acc.length + 1) T)) e1) ?_
    rw [List.length_append, List.length_singleton] at ih'
    exact ih'
theorem c5_start (cs : List (Int × Int × Int)) (W : List Sp) (hW : W.length ≤ 40) (hi : ∀ s ∈ W, 0 ≤ s.i ∧ s.i < (cs.length : Int)) (b0 b1 b2 b3 b4 w h r g b : Int) :
    L tab (run tab X) 5 [] [.lp [1, 1, 1, 1, 0, 1, 0]] (S5_1111010 (encC cs) 0 W.length ((W.length : Nat) : Int) 0 b0 b1 b2 b3 b4 (encT W) w h r g b) = some (picR ⟨w, h, r, g, b, W.map (dotS cs)⟩ 0) := by
  rcases Nat.eq_zero_or_pos W.length with h0 | h0
  · have : W = [] := List.eq_nil_of_length_eq_zero h0
    subst this
    refine L_of ?_
    rw [e5_1111010]
    exact condNP (show ¬ (0 : Int) < ((([] : List Sp).length : Nat) : Int) by simp) rfl
  · have hil : 0 < W.length := h0
    have hs := hi W[0] (List.getElem_mem hil)
    have hc : W[0].i.toNat < cs.length := by omega
    have ih' := c5_loop X hX cs W hW hi b0 b1 b2 b3 b4 w h r g b (W.length - 1) 1 [dotS cs W[0]] (by omega) rfl (by
      have : W = W[0] :: W.drop 1 := by
        have := List.drop_eq_getElem_cons hil
        simpa using this
      conv => rhs; rw [this]
      rfl)
    refine L_of ?_
    rw [e5_1111010, show IntKind.i64.wrap (0 + 1) = 1 by decide]
    rw [show (0 : Int).toNat = 0 from rfl, encT_get' W hil]
    refine condP (show (0 : Int) < ((W.length : Nat) : Int) by omega) (condT (by simp only [leI, ltI, Bool.and_eq_true, decide_eq_true_eq]; omega) (condT (show (leI 0 W[0].i && ltI W[0].i (((encC cs).length : Nat) : Int)) = true by rw [encC_length]; simp only [leI, ltI, Bool.and_eq_true, decide_eq_true_eq]; omega) ?_))
    have e1 : [PV.agg [.int .i64 W[0].x, .int .i64 W[0].y, .int .i64 (goMin W[0].r 4096), .int .u8 (((encC cs).getD W[0].i.toNat .nil).cell 0).toInt, .int .u8 (((encC cs).getD W[0].i.toNat .nil).cell 1).toInt, .int .u8 (((encC cs).getD W[0].i.toNat .nil).cell 2).toInt]] = encL [dotS cs W[0]] := by
      rw [goMin_eq, colC_getD cs hc]
      rfl
    refine Eq.trans (congrArg (fun T => L tab (run tab X) 5 [] [.lp [1, 1, 1, 1, 0, 1, 0]] (S5_1111010_s1 (encC cs) 0 W.length ((W.length : Nat) : Int) 1 b0 b1 b2 b3 b4 (encT W) w h r g b 0 1 T)) e1) ?_
    exact ih'
theorem c6_loop (cs : List (Int × Int × Int)) (W : List Sp) (hW : W.length ≤ 40) (hi : ∀ s ∈ W, 0 ≤ s.i ∧ s.i < (cs.length : Int)) (b0 b1 b2 b3 b4 w h r g b : Int) : ∀ (n i : Nat) (acc : List Dt), i + n = W.length → acc.length = i → acc ++ (W.drop i).map (dotS cs) = W.map (dotS cs) →
    L tab (run tab X) 6 [] [.lp [1, 1, 1, 1, 0, 1, 0]] (S6_1111010_s1 (encC cs) 0 W.length ((i : Nat) : Int) b0 b1 b2 b3 b4 (encT W) w h r g b 0 acc.length (encL acc)) = some (picR ⟨w, h, r, g, b, W.map (dotS cs)⟩ 0) := by
  have _ := hX
  intro n
  induction n with
  | zero =>
    intro i acc hn ha he
    rw [List.drop_eq_nil_of_le (by omega)] at he
    simp only [List.map_nil, List.append_nil] at he
    subst he
    refine L_of ?_
    rw [e6_1111010_s1]
    refine condNP (show ¬ ((i : Nat) : Int) < ((W.length : Nat) : Int) by omega) ?_
    rw [List.drop_zero, List.take_of_length_le (by rw [encL_length]; omega)]
  | succ n ih =>
    intro i acc hn ha he
    have hil : i < W.length := by omega
    have hs := hi W[i] (List.getElem_mem hil)
    have hc : W[i].i.toNat < cs.length := by omega
    have w1 : IntKind.i64.wrap (((i : Nat) : Int) + 1) = ((i + 1 : Nat) : Int) := by rw [wrap_eq (by omega) (by omega)]; omega
    rw [List.drop_eq_getElem_cons hil] at he
    have ih' := ih (i + 1) (acc ++ [dotS cs W[i]]) (by omega) (by simp; omega) (by rw [← he, List.map_cons, List.append_assoc]; rfl)
    refine L_of ?_
    rw [e6_1111010_s1, w1, Int.toNat_natCast, encT_get' W hil]
    refine condP (show ((i : Nat) : Int) < ((W.length : Nat) : Int) by omega) (condT (in_bd hil) (condT (in_bd hil) (condT (in_bd hil) (condT (in_bd hil) (condT (show (leI 0 W[i].i && ltI W[i].i (((encC cs).length : Nat) : Int)) = true by rw [encC_length]; simp only [leI, ltI, Bool.and_eq_true, decide_eq_true_eq]; omega) (condT (by simp only [leN, decide_eq_true_eq]; omega) ?_))))))
    have e1 : ((encL acc).drop 0).take acc.length ++ [PV.agg [.int .i64 W[i].x, .int .i64 W[i].y, .int .i64 (goMin 4096 W[i].r), .int .u8 (((encC cs).getD W[i].i.toNat .nil).cell 0).toInt, .int .u8 (((encC cs).getD W[i].i.toNat .nil).cell 1).toInt, .int .u8 (((encC cs).getD W[i].i.toNat .nil).cell 2).toInt]] = encL (acc ++ [dotS cs W[i]]) := by
      rw [List.drop_zero, List.take_of_length_le (by rw [encL_length]; omega), goMin_eq, Int.min_comm, colC_getD cs hc]
      simp only [encL, List.map_append, List.map_cons, List.map_nil]
      rfl
    refine Eq.trans (congrArg (fun T => L tab (run tab X) 6 [] [.lp [1, 1, 1, 1, 0, 1, 0]] (S6_1111010_s1 (encC cs) 0 W.length ((i + 1 : Nat) : Int) b0 b1 b2 b3 b4 (encT W) w h r g b 0 (acc.length + 1) T)) e1) ?_
    rw [List.length_append, List.length_singleton] at ih'
    exact ih'
theorem c6_start (cs : List (Int × Int × Int)) (W : List Sp) (hW : W.length ≤ 40) (hi : ∀ s ∈ W, 0 ≤ s.i ∧ s.i < (cs.length : Int)) (b0 b1 b2 b3 b4 w h r g b : Int) :
    L tab (run tab X) 6 [] [.lp [1, 1, 1, 1, 0, 1, 0]] (S6_1111010 (encC cs) 0 W.length 0 b0 b1 b2 b3 b4 (encT W) w h r g b) = some (picR ⟨w, h, r, g, b, W.map (dotS cs)⟩ 0) := by
  rcases Nat.eq_zero_or_pos W.length with h0 | h0
  · have : W = [] := List.eq_nil_of_length_eq_zero h0
    subst this
    refine L_of ?_
    rw [e6_1111010]
    exact condNP (show ¬ (0 : Int) < ((([] : List Sp).length : Nat) : Int) by simp) rfl
  · have hil : 0 < W.length := h0
    have hs := hi W[0] (List.getElem_mem hil)
    have hc : W[0].i.toNat < cs.length := by omega
    have ih' := c6_loop X hX cs W hW hi b0 b1 b2 b3 b4 w h r g b (W.length - 1) 1 [dotS cs W[0]] (by omega) rfl (by
      have : W = W[0] :: W.drop 1 := by
        have := List.drop_eq_getElem_cons hil
        simpa using this
      conv => rhs; rw [this]
      rfl)
    have hb : (leI 0 0 && ltI 0 ((W.length : Nat) : Int)) = true := by simp only [leI, ltI, Bool.and_eq_true, decide_eq_true_eq]; omega
    refine L_of ?_
    rw [e6_1111010, show IntKind.i64.wrap (0 + 1) = 1 by decide]
    rw [show (0 : Int).toNat = 0 from rfl, encT_get' W hil]
    refine condP (show (0 : Int) < ((W.length : Nat) : Int) by omega) (condT hb (condT hb (condT hb (condT hb (condT (show (leI 0 W[0].i && ltI W[0].i (((encC cs).length : Nat) : Int)) = true by rw [encC_length]; simp only [leI, ltI, Bool.and_eq_true, decide_eq_true_eq]; omega) ?_)))))
    have e1 : [PV.agg [.int .i64 W[0].x, .int .i64 W[0].y, .int .i64 (goMin 4096 W[0].r), .int .u8 (((encC cs).getD W[0].i.toNat .nil).cell 0).toInt, .int .u8 (((encC cs).getD W[0].i.toNat .nil).cell 1).toInt, .int .u8 (((encC cs).getD W[0].i.toNat .nil).cell 2).toInt]] = encL [dotS cs W[0]] := by
      rw [goMin_eq, Int.min_comm, colC_getD cs hc]
      rfl
    refine Eq.trans (congrArg (fun T => L tab (run tab X) 6 [] [.lp [1, 1, 1, 1, 0, 1, 0]] (S6_1111010_s1 (encC cs) 0 W.length 1 b0 b1 b2 b3 b4 (encT W) w h r g b 0 1 T)) e1) ?_
    exact ih'
theorem draws (c : Cam) (r g b : Int) (l : List V3) (hl : l.length ≤ 40) (cs : List (Int × Int × Int)) (rad : Int) : ∃ (p : Pi) (e : Int), p.d.length ≤ 40 ∧
    run tab X 5 [.p (encCam c), .p (colP r g b), .p (.list true kV (encW l)), .p (.list true kC (encC cs)), .p (.int .i64 rad)] [] = some (picR p e) ∧
    run tab X 6 [.p (encCam c), .p (colP r g b), .p (.list true kV (encW l)), .p (.list true kC (encC cs)), .p (.int .i64 rad)] [] = some (picR p e) := by
  obtain ⟨W, e, h1, h2, h3, h4⟩ := scene X hX c rad l hl
  by_cases he : e = 0
  · subst he
    by_cases hn : l.length = cs.length
    · have hi : ∀ s ∈ W, 0 ≤ s.i ∧ s.i < (cs.length : Int) := by rw [← hn]; exact h2 rfl
      refine ⟨⟨c.w, c.h, r, g, b, W.map (dotS cs)⟩, 0, by simpa using h1, run_of (hX _ rfl) ?_, run_of (hX _ rfl) ?_⟩
      · rw [e5]
        refine bindS h3 (condF rfl (condF (by rw [encW_length, encC_length, hn]; simp) ?_))
        have := c5_start X hX cs W h1 hi 0 0 0 0 0 c.w c.h r g b
        rw [← encT_length] at this
        exact this
      · rw [e6]
        refine bindS h4 (condF rfl (condF (by rw [encW_length, encC_length, hn]; simp) ?_))
        have := c6_start X hX cs W h1 hi 0 0 0 0 0 c.w c.h r g b
        rw [← encT_length] at this
        exact this
    · refine ⟨⟨0, 0, 0, 0, 0, []⟩, 2, by simp, run_of (hX _ rfl) ?_, run_of (hX _ rfl) ?_⟩
      · rw [e5]
        refine bindS h3 (condF rfl (condT (by rw [encW_length, encC_length]; simp; omega) rfl))
      · rw [e6]
        refine bindS h4 (condF rfl (condT (by rw [encW_length, encC_length]; simp; omega) rfl))
  · refine ⟨⟨0, 0, 0, 0, 0, []⟩, 2, by simp, run_of (hX _ rfl) ?_, run_of (hX _ rfl) ?_⟩
    · rw [e5]
      exact bindS h3 (condT (show (e != 0) = true by simpa using he) rfl)
    · rw [e6]
      exact bindS h4 (condT (show (e != 0) = true by simpa using he) rfl)
theorem c3_loop (hK : Known X) (l : List V3) (hl : l.length ≤ 40) (cs : List (Int × Int × Int)) (hc : cs.length ≤ 40) (p : Pi) (hp : p.d.length ≤ 40) (e : Int) : ∀ (n i : Nat), i + n = l.length →
    L tab (run tab X) 3 [] [.lp [1, 1, 1, 1, 1, 0, 1, 0]] (S3_11111010 (encW l) (encC cs) 0 l.length 0 cs.length e e ((i : Nat) : Int) (encW l) (encC cs) (encL p.d) p.w p.h p.a p.e p.b 0 p.d.length (encL p.d) p.w p.h p.a p.e p.b 0 p.d.length) = some ([.p (.bool true)], []) := by
  intro n
  induction n with
  | zero =>
    intro i hi
    refine L_of ?_
    rw [e3_11111010, encW_length]
    refine condNP (show ¬ ((i : Nat) : Int) < ((l.length : Nat) : Int) by omega) ?_
    rw [List.drop_zero, List.take_of_length_le (by rw [encL_length]; omega)]
    refine bindS (c7 X hX p p (by unfold maxLen; omega)) ?_
    refine condT (show decide (p = p) = true by simp) (condT (show (e == e) = true by simp) ?_)
    rw [List.drop_zero, List.take_of_length_le (by rw [encC_length]; omega)]
    refine bindS (c8 X hX cs cs (by unfold maxLen; omega)) ?_
    refine condT (show decide (cs = cs) = true by simp) ?_
    exact bindS hK rfl
  | succ n ih =>
    intro i hi
    have hil : i < l.length := by omega
    have w1 : IntKind.i64.wrap (((i : Nat) : Int) + 1) = ((i + 1 : Nat) : Int) := by rw [wrap_eq (by omega) (by omega)]; omega
    refine L_of ?_
    rw [e3_11111010, encW_length, w1, Int.toNat_natCast, Nat.zero_add]
    refine condP (show ((i : Nat) : Int) < ((l.length : Nat) : Int) by omega) (condT (in_bd hil) (condT (in_bd hil) (condF (by simp) ?_)))
    exact ih (i + 1) (by omega)
theorem draw_law (hK : Known X) (c : Cam) (r g b : Int) (l : List V3) (cs : List (Int × Int × Int)) (rad : Int) :
    run tab X 3 [.p (encCam c), .p (colP r g b), .p (.list true kV (encW l)), .p (.list true kC (encC cs)), .p (.int .i64 rad)] [] = some ([.p (.bool true)], []) :=
  run_of (hX _ rfl) (by
    rw [e3, encW_length, encC_length]
    by_cases h1 : l.length > 40
    · exact condP (show ((l.length : Nat) : Int) > 40 by omega) (bindS hK rfl)
    · refine condNP (show ¬ ((l.length : Nat) : Int) > 40 by omega) ?_
      by_cases h2 : cs.length > 40
      · exact condP (show ((cs.length : Nat) : Int) > 40 by omega) (bindS hK rfl)
      · refine condNP (show ¬ ((cs.length : Nat) : Int) > 40 by omega) (condT (by simp only [leN, decide_eq_true_eq]; omega) (condT (by simp only [leN, decide_eq_true_eq]; omega) ?_))
        obtain ⟨p, e, d1, d2, d3⟩ := draws X hX c r g b l (by omega) cs rad
        rw [List.drop_zero, List.drop_zero, List.take_of_length_le (by rw [encW_length]; omega), List.take_of_length_le (by rw [encC_length]; omega)]
        refine bindS d2 (bindS d3 ?_)
        have := c3_loop X hX hK l (by omega) cs (by omega) p d1 e l.length 0 (by omega)
        rw [← encL_length] at this
        exact this)
end
end Go.Skm.Drw
