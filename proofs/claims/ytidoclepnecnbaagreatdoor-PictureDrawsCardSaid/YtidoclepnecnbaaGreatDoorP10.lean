/-
  Crop: both give the same part of a picture, or the same error; condition: lengths that fit.
-/
import Derived.Test.YtidoclepnecnbaaGreatDoorP9
import Derived.Test.YtidoclepnecnbaaGreatDoorP7
namespace Go.Skm.Drw
open Go Go.Skm
def cropF (x y w h : Int) : List Dt → List Dt
  | [] => []
  | d :: l => bif touch d x y w h then ⟨d.x - x, d.y - y, d.r, d.a, d.e, d.b⟩ :: cropF x y w h l else cropF x y w h l
def dotsP : List Dt → PV
  | [] => .nil
  | d :: l => .list true kD (encL (d :: l))
def cropR (p : Pi) (x y w h : Int) : List AV × List Blk :=
  bif validP p then (if 1 ≤ w ∧ 1 ≤ h then (if (0 ≤ x ∧ x ≤ p.w) ∧ (0 ≤ y ∧ y ≤ p.h) ∧ w ≤ p.w - x ∧ h ≤ p.h - y then
    ([.p (.agg [.int .i64 w, .int .i64 h, .int .u8 p.a, .int .u8 p.e, .int .u8 p.b, dotsP (cropF x y w h p.d)]), .p (.int .i64 0)], []) else ([.p errP, .p (.int .i64 3)], [])) else ([.p errP, .p (.int .i64 2)], []))
  else ([.p errP, .p (.int .i64 2)], [])
section
variable (X : Ext) (hX : Mine X)
include hX
theorem c13_more (l : List Dt) (hl : l.length ≤ 4096) (hn : ∀ v ∈ l, v.near) {x y : Int} {w h : Nat} (hx : 0 ≤ x ∧ x ≤ 4096) (hy : 0 ≤ y ∧ y ≤ 4096) (hw : 1 ≤ w ∧ w ≤ 4096) (hh : 1 ≤ h ∧ h ≤ 4096) (a e b : Int) : ∀ (n i : Nat) (A : List Dt), i + n = l.length → A.length ≤ i →
    L tab (run tab X) 13 [] [.lp [1, 1, 1, 1, 0, 1, 0]] (S13_1111010_s1 x y w h (encL l) l.length i 0 0 0 0 0 w h a e b 0 A.length (encL A)) = some ([.p (.agg [.int .i64 w, .int .i64 h, .int .u8 a, .int .u8 e, .int .u8 b, .list true kD (encL (A ++ cropF x y w h (l.drop i)))]), .p (.int .i64 0)], []) := by
  intro n
  induction n with
  | zero =>
    intro i A hi hA
    refine L_of ?_
    rw [e13_1111010_s1]
    simp only [condD, encL_length]
    rw [if_neg (by omega), List.drop_eq_nil_of_le (show l.length ≤ i by omega), cropF, List.append_nil, List.drop_zero, encL_full]
  | succ n ih =>
    intro i A hi hA
    have hlt : i < l.length := by omega
    have w1 : IntKind.i64.wrap ((i : Int) + 1) = ((i + 1 : Nat) : Int) := by rw [wrap_eq (by omega) (by omega)]; omega
    have hd := hn l[i] (List.getElem_mem hlt)
    have bx := hd.x
    have by_ := hd.y
    have w2 : IntKind.i64.wrap (l[i].x - x) = l[i].x - x := wrap_eq (by omega) (by omega)
    have w3 : IntKind.i64.wrap (l[i].y - y) = l[i].y - y := wrap_eq (by omega) (by omega)
    have hc := c24 X hX (hn l[i] (List.getElem_mem hlt)) (x := x) (y := y) (w := w) (h := h) ⟨by omega, by omega⟩ ⟨by omega, by omega⟩ ⟨by omega, by omega⟩ ⟨by omega, by omega⟩
    refine L_of ?_
    rw [e13_1111010_s1]
    simp only [condD, condA, encL_length, encL_x, encL_y, encL_r, encL_a, encL_e, encL_b, Int.toNat_natCast, dt_get hlt, w1, w2, w3]
    rw [if_pos (by omega), if_pos (by omega), if_pos (by omega), List.drop_eq_getElem_cons hlt]
    refine bindS hc ?_
    simp only [List.headD_cons, pv_p, toBool_bool, cropF]
    cases touch l[i] x y w h with
    | true =>
      simp only [cond_true]
      rw [if_pos (by omega)]
      have := ih (i + 1) (A ++ [⟨l[i].x - x, l[i].y - y, l[i].r, l[i].a, l[i].e, l[i].b⟩]) (by omega) (by simp; omega)
      simp only [List.length_append, List.length_cons, List.length_nil, List.append_assoc, List.cons_append, List.nil_append] at this
      rw [← encL_append] at this
      rw [List.drop_zero, encL_full]
      exact this
    | false =>
      simp only [cond_false]
      exact ih (i + 1) A (by omega) (by omega)
theorem c13_loop (l : List Dt) (hl : l.length ≤ 4096) (hn : ∀ v ∈ l, v.near) {x y : Int} {w h : Nat} (hx : 0 ≤ x ∧ x ≤ 4096) (hy : 0 ≤ y ∧ y ≤ 4096) (hw : 1 ≤ w ∧ w ≤ 4096) (hh : 1 ≤ h ∧ h ≤ 4096) (a e b : Int) : ∀ (n i : Nat), i + n = l.length →
    L tab (run tab X) 13 [] [.lp [1, 1, 1, 1, 0, 1, 0]] (S13_1111010 x y w h (encL l) l.length i 0 0 0 0 0 w h a e b) = some ([.p (.agg [.int .i64 w, .int .i64 h, .int .u8 a, .int .u8 e, .int .u8 b, dotsP (cropF x y w h (l.drop i))]), .p (.int .i64 0)], []) := by
  intro n
  induction n with
  | zero =>
    intro i hi
    refine L_of ?_
    rw [e13_1111010]
    simp only [condD, encL_length]
    rw [if_neg (by omega), List.drop_eq_nil_of_le (by omega), cropF, dotsP]
  | succ n ih =>
    intro i hi
    have hlt : i < l.length := by omega
    have w1 : IntKind.i64.wrap ((i : Int) + 1) = ((i + 1 : Nat) : Int) := by rw [wrap_eq (by omega) (by omega)]; omega
    have hd := hn l[i] (List.getElem_mem hlt)
    have bx := hd.x
    have by_ := hd.y
    have w2 : IntKind.i64.wrap (l[i].x - x) = l[i].x - x := wrap_eq (by omega) (by omega)
    have w3 : IntKind.i64.wrap (l[i].y - y) = l[i].y - y := wrap_eq (by omega) (by omega)
    have hc := c24 X hX (hn l[i] (List.getElem_mem hlt)) (x := x) (y := y) (w := w) (h := h) ⟨by omega, by omega⟩ ⟨by omega, by omega⟩ ⟨by omega, by omega⟩ ⟨by omega, by omega⟩
    refine L_of ?_
    rw [e13_1111010]
    simp only [condD, condA, encL_length, encL_x, encL_y, encL_r, encL_a, encL_e, encL_b, Int.toNat_natCast, dt_get hlt, w1, w2, w3]
    rw [if_pos (by omega), if_pos (by omega), if_pos (by omega), List.drop_eq_getElem_cons hlt]
    refine bindS hc ?_
    simp only [List.headD_cons, pv_p, toBool_bool, cropF]
    cases touch l[i] x y w h with
    | true =>
      simp only [cond_true, dotsP]
      exact c13_more X hX l hl hn hx hy hw hh a e b n (i + 1) [⟨l[i].x - x, l[i].y - y, l[i].r, l[i].a, l[i].e, l[i].b⟩] (by omega) (by simp)
    | false =>
      simp only [cond_false]
      exact ih (i + 1) (by omega)
theorem c13 (p : Pi) (hl : p.d.length ≤ maxLen) (x y w h : Int) : run tab X 13 [.p (encP p), .p (.int .i64 x), .p (.int .i64 y), .p (.int .i64 w), .p (.int .i64 h)] [] = some (cropR p x y w h) :=
  run_of (hX _ rfl) (by
    rw [e13, c18 X hX p hl, encL_length]
    unfold cropR
    simp only [Option.bind_some, List.headD_cons, pv_p, toBool_bool, condO]
    cases hv : validP p with
    | false => rfl
    | true =>
      have V := valid_iff.1 hv
      obtain ⟨v1, v2⟩ := V.w
      obtain ⟨v3, v4⟩ := V.h
      simp only [cond_true, c22 X hX, Option.bind_some, List.headD_cons, pv_p, toBool_bool, goMin_eq]
      by_cases a1 : min w h < 1
      · rw [if_neg (show ¬ (1 ≤ w ∧ 1 ≤ h) by omega)]
        exact condP a1 rfl
      · rw [if_pos (show 1 ≤ w ∧ 1 ≤ h by omega)]
        refine condNP a1 ?_
        by_cases a2 : 0 ≤ x ∧ x ≤ p.w
        · refine condP a2 ?_
          by_cases a3 : 0 ≤ y ∧ y ≤ p.h
          · refine condP a3 ?_
            rw [wrap_eq (x := p.w - x) (by omega) (by omega), wrap_eq (x := p.h - y) (by omega) (by omega)]
            by_cases a4 : w > p.w - x
            · rw [if_neg (by omega)]
              exact condP a4 rfl
            · refine condNP a4 ?_
              by_cases a5 : h > p.h - y
              · rw [if_neg (by omega)]
                exact condP a5 rfl
              · rw [if_pos (show (0 ≤ x ∧ x ≤ p.w) ∧ (0 ≤ y ∧ y ≤ p.h) ∧ w ≤ p.w - x ∧ h ≤ p.h - y by omega)]
                refine condNP a5 ?_
                obtain ⟨w', rfl⟩ := Int.eq_ofNat_of_zero_le (show 0 ≤ w by omega)
                obtain ⟨h', rfl⟩ := Int.eq_ofNat_of_zero_le (show 0 ≤ h by omega)
                exact c13_loop X hX p.d V.len V.near (x := x) (y := y) (w := w') (h := h') (by omega) (by omega) (by omega) (by omega) p.a p.e p.b p.d.length 0 (by omega)
          · rw [if_neg (by omega)]
            exact condNP a3 rfl
        · rw [if_neg (by omega)]
          exact condNP a2 rfl)
end
end Go.Skm.Drw
