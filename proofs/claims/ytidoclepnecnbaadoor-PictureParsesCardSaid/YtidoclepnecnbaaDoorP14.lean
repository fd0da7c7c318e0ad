/-
  The text of a picture, as the document writes it; condition: lengths that fit.
-/
import Derived.Test.YtidoclepnecnbaaDoorP13
namespace Go.Skm.Pic
open Go Go.Skm
abbrev encN (w h a e b : Int) : PV := .agg [.int .i64 w, .int .i64 h, .int .u8 a, .int .u8 e, .int .u8 b, .nil]
section
variable (X : Ext) (hX : Mine X)
include hX
set_option maxHeartbeats 1000000 in
theorem c15_loop (p : Pi) (hl : p.d.length ≤ 4096) (hn : ∀ v ∈ p.d, v.near) (hc : ∀ v ∈ p.d, v.ok) : ∀ (k i : Nat) (acc : List UInt8), i + k = p.d.length → acc.length ≤ 100 + 100 * i →
    L tab (run tab X) 15 [] [.lp [1, 1, 1, 0, 1, 0]] (S15_111010 (ba acc) i p.w p.h p.a p.e p.b (encL p.d)) = some ([.p (.str (ba (acc ++ dotsT (p.d.drop i)))), .p (.int .i64 0)], []) := by
  intro k
  induction k with
  | zero =>
    intro i acc hi ha
    refine L_of ?_
    rw [e15_111010]
    simp only [condD, encL_length]
    rw [if_neg (by omega), List.drop_eq_nil_of_le (by omega), dotsT, List.append_nil]
  | succ k ih =>
    intro i acc hi ha
    have hlt : i < p.d.length := by omega
    have w1 : IntKind.i64.wrap ((i : Int) + 1) = ((i + 1 : Nat) : Int) := by rw [wrap_eq (by omega) (by omega)]; omega
    have hd := hn p.d[i] (List.getElem_mem hlt)
    have ho := hc p.d[i] (List.getElem_mem hlt)
    have dx := hd.x
    have dy := hd.y
    have dr := hd.r
    have l1 := itoa_len10 (n := p.d[i].x) (by omega) (by omega)
    have l2 := itoa_len10 (n := p.d[i].y) (by omega) (by omega)
    have l3 := itoa_len10 (n := p.d[i].r) (by omega) (by omega)
    have l4 : (colT p.d[i].a p.d[i].e p.d[i].b).length = 7 := rfl
    have ih' := ih (i + 1) (acc ++ dotT p.d[i]) (by omega) (by simp only [dotT, lineT, numsT, List.length_append, List.length_cons, List.length_nil]; omega)
    refine L_of ?_
    rw [e15_111010]
    simp only [condA, condD, encL_length, encL_x, encL_y, encL_r, encL_a, encL_e, encL_b, Int.toNat_natCast, dt_get hlt, w1]
    rw [c38 X hX (n := p.d[i].x) (by omega) (by omega), c38 X hX (n := p.d[i].y) (by omega) (by omega), c38 X hX (n := p.d[i].r) (by omega) (by omega), c39 X hX ho.a ho.e ho.b]
    simp only [Option.bind_some, List.headD_cons, pv_p, toStr_str, show (⟨#[100, 111, 116, 32]⟩ : ByteArray) = ba [100, 111, 116, 32] from rfl, show (⟨#[32]⟩ : ByteArray) = ba [32] from rfl, show (⟨#[10]⟩ : ByteArray) = ba [10] from rfl, ba_append, ba_size, List.length_append, List.length_cons, List.length_nil]
    rw [if_pos (by omega), if_pos (by omega), if_pos (by omega), if_pos (by omega), if_pos (by omega), if_pos (by omega), if_pos (by omega), if_pos (by omega), if_pos (by omega), if_pos (by omega), if_pos (by omega), if_pos (by omega), List.drop_eq_getElem_cons hlt, dotsT]
    simp only [dotT, lineT, numsT, List.append_assoc, List.cons_append, List.nil_append] at ih' ⊢
    exact ih'
set_option maxHeartbeats 1000000 in
theorem c15 (p : Pi) (hl : p.d.length ≤ maxLen) (hp : In8 p.a ∧ In8 p.e ∧ In8 p.b) (hc : ∀ v ∈ p.d, v.ok) : run tab X 15 [.p (encP p)] [] = some (textR p) :=
  run_of (hX _ rfl) (by
    rw [e15, c12 X hX p hl]
    unfold textR
    simp only [Option.bind_some, List.headD_cons, pv_p, toBool_bool, condO]
    cases hv : validP p with
    | false => rfl
    | true =>
      have V := valid_iff.1 hv
      obtain ⟨v1, v2⟩ := V.w
      obtain ⟨v3, v4⟩ := V.h
      have l1 := itoa_len10 (n := p.w) (by omega) (by omega)
      have l2 := itoa_len10 (n := p.h) (by omega) (by omega)
      have l4 : (colT p.a p.e p.b).length = 7 := rfl
      have h0 := c15_loop X hX p V.len V.near hc p.d.length 0 (lineT [112, 105, 99, 116, 117, 114, 101] [p.w, p.h] p.a p.e p.b) (by omega) (by simp only [lineT, numsT, List.length_append, List.length_cons, List.length_nil]; omega)
      rw [c38 X hX (n := p.w) (by omega) (by omega), c38 X hX (n := p.h) (by omega) (by omega), c39 X hX hp.1 hp.2.1 hp.2.2]
      simp only [cond_true, condD, Option.bind_some, List.headD_cons, pv_p, toStr_str, show (⟨#[112, 105, 99, 116, 117, 114, 101, 32]⟩ : ByteArray) = ba [112, 105, 99, 116, 117, 114, 101, 32] from rfl, show (⟨#[32]⟩ : ByteArray) = ba [32] from rfl, show (⟨#[10]⟩ : ByteArray) = ba [10] from rfl, ba_append, ba_size, List.length_append, List.length_cons, List.length_nil]
      rw [if_pos (by omega), if_pos (by omega), if_pos (by omega), if_pos (by omega), if_pos (by omega), if_pos (by omega)]
      simp only [textP, lineT, numsT, List.append_assoc, List.cons_append, List.nil_append, List.drop_zero] at h0 ⊢
      exact h0)
theorem c11n (w h a e b : Int) : run tab X 11 [.p (encN w h a e b)] [] = some ([.p (.bool (validP ⟨w, h, a, e, b, []⟩))], []) :=
  run_of (hX _ rfl) (by
    rw [e11n]
    refine L_of ?_
    rw [e11_11010n]
    refine condNP (show ¬ (0 : Int) < 0 by omega) ?_
    simp only [c33 X hX, Option.bind_some, List.headD_cons, pv_p, toBool_bool]
    unfold validP side
    cases decide (1 ≤ w ∧ w ≤ 4096) <;> cases decide (1 ≤ h ∧ h ≤ 4096) <;> rfl)
theorem c12n (w h a e b : Int) : run tab X 12 [.p (encN w h a e b)] [] = some ([.p (.bool (validP ⟨w, h, a, e, b, []⟩))], []) :=
  run_of (hX _ rfl) (by
    have hL : L tab (run tab X) 12 [] [.lp [1, 1, 0, 1, 0]] (S12_11010n 0 w h a e b) = some ([.p (.bool true)], []) := by
      refine L_of ?_
      rw [e12_11010n]
      exact condNP (show ¬ (0 : Int) < 0 by omega) rfl
    rw [e12n]
    simp only [c34 X hX, Option.bind_some, List.headD_cons, pv_p, toBool_bool, hL]
    unfold validP side
    cases decide (1 ≤ w ∧ w ≤ 4096) <;> cases decide (1 ≤ h ∧ h ≤ 4096) <;> rfl)
set_option maxHeartbeats 1000000 in
theorem c15n (w h a e b : Int) (hp : In8 a ∧ In8 e ∧ In8 b) : run tab X 15 [.p (encN w h a e b)] [] = some (textR ⟨w, h, a, e, b, []⟩) :=
  run_of (hX _ rfl) (by
    rw [e15n, c12n X hX]
    unfold textR
    simp only [Option.bind_some, List.headD_cons, pv_p, toBool_bool, condO]
    cases hv : validP ⟨w, h, a, e, b, []⟩ with
    | false => rfl
    | true =>
      have V := valid_iff.1 hv
      obtain ⟨v1, v2⟩ := V.w
      obtain ⟨v3, v4⟩ := V.h
      simp only at v1 v2 v3 v4
      have l1 := itoa_len10 (n := w) (by omega) (by omega)
      have l2 := itoa_len10 (n := h) (by omega) (by omega)
      have l4 : (colT a e b).length = 7 := rfl
      rw [c38 X hX (n := w) (by omega) (by omega), c38 X hX (n := h) (by omega) (by omega), c39 X hX hp.1 hp.2.1 hp.2.2]
      simp only [cond_true, condD, Option.bind_some, List.headD_cons, pv_p, toStr_str, show (⟨#[112, 105, 99, 116, 117, 114, 101, 32]⟩ : ByteArray) = ba [112, 105, 99, 116, 117, 114, 101, 32] from rfl, show (⟨#[32]⟩ : ByteArray) = ba [32] from rfl, show (⟨#[10]⟩ : ByteArray) = ba [10] from rfl, ba_append, ba_size, List.length_append, List.length_cons, List.length_nil]
      rw [if_pos (by omega), if_pos (by omega), if_pos (by omega), if_pos (by omega), if_pos (by omega), if_pos (by omega)]
      refine L_of ?_
      rw [e15_111010n]
      refine condNP (show ¬ (0 : Int) < 0 by omega) ?_
      simp [textP, lineT, numsT, dotsT])
end
end Go.Skm.Pic
