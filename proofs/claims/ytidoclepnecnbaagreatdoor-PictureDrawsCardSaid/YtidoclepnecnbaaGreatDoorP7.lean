/-
  Equality of pictures, a copy, colours of rows, and one picture over another: both give the same; condition: lengths that fit.
-/
import Derived.Test.YtidoclepnecnbaaGreatDoorP6
namespace Go.Skm.Drw
open Go Go.Skm
theorem dt_beq (u v : Dt) : ((u.x == v.x) && ((u.y == v.y) && ((u.r == v.r) && (((u.a == v.a) && ((u.e == v.e) && ((u.b == v.b) && true))) && true)))) = decide (u = v) := by
  cases u; cases v
  rw [Bool.eq_iff_iff]
  simp [Dt.mk.injEq]
theorem col_beq (a e b a' e' b' : Int) : ((a == a') && ((e == e') && ((b == b') && true))) = decide ((a, e, b) = (a', e', b')) := by
  rw [Bool.eq_iff_iff]
  simp
theorem cons_dec {α : Type} [DecidableEq α] (x y : α) (l m : List α) : decide (x :: l = y :: m) = (decide (x = y) && decide (l = m)) := by
  by_cases h : x = y <;> simp [h]
abbrev kC : List Kd := [.int .u8, .int .u8, .int .u8]
def encC (l : List (Int × Int × Int)) : List PV := l.map colC
@[simp] theorem encC_length (l : List (Int × Int × Int)) : (encC l).length = l.length := by simp [encC]
theorem encC_getD (l : List (Int × Int × Int)) {i : Nat} (h : i < l.length) : (encC l).getD i .nil = colC l[i] := by
  rw [List.getD_eq_getElem?_getD]; simp [encC, h]
abbrev errP : PV := .agg [.int .i64 0, .int .i64 0, .int .u8 0, .int .u8 0, .int .u8 0, .nil]
abbrev encR (p : Pi) : AV := .agg [.p (.int .i64 p.w), .p (.int .i64 p.h), .p (.int .u8 p.a), .p (.int .u8 p.e), .p (.int .u8 p.b), .fresh true kD (encL p.d)]
def overQ (a b : Pi) : Pi × Int :=
  bif validP a then (bif validP b then (if a.w = b.w then (if a.h = b.h then (if (4096 : Int) < ((a.d.length + b.d.length : Nat) : Int) then (⟨0, 0, 0, 0, 0, []⟩, 7) else ({ a with d := a.d ++ b.d }, 0))
    else (⟨0, 0, 0, 0, 0, []⟩, 10)) else (⟨0, 0, 0, 0, 0, []⟩, 10)) else (⟨0, 0, 0, 0, 0, []⟩, 2)) else (⟨0, 0, 0, 0, 0, []⟩, 2)
def overR (a b : Pi) : List AV × List Blk := ([encR (overQ a b).1, .p (.int .i64 (overQ a b).2)], [])
section
variable (X : Ext) (hX : Mine X)
include hX
omit hX in
theorem c7_loop (a b : Pi) (hl : a.d.length ≤ maxLen) (he : a.d.length = b.d.length) : ∀ (n i : Nat), i + n = a.d.length →
    L tab (run tab X) 7 [] [.lp [1, 1, 0, 1, 0]] (S7_11010 i a.w a.h a.a a.e a.b (encL a.d) b.w b.h b.a b.e b.b (encL b.d)) = some ([.p (.bool (decide (a.d.drop i = b.d.drop i)))], []) := by
  have hm : (maxLen : Int) = 9223372036854775807 := by decide
  intro n
  induction n with
  | zero =>
    intro i hi
    refine L_of ?_
    rw [e7_11010]
    simp only [condD, encL_length]
    rw [if_neg (by omega), List.drop_eq_nil_of_le (by omega), List.drop_eq_nil_of_le (by omega)]
    rfl
  | succ n ih =>
    intro i hi
    have h1 : i < a.d.length := by omega
    have h2 : i < b.d.length := by omega
    have w : IntKind.i64.wrap ((i : Int) + 1) = ((i + 1 : Nat) : Int) := by rw [wrap_eq (by omega) (by omega)]; omega
    have ih' := ih (i + 1) (by omega)
    refine L_of ?_
    rw [e7_11010]
    simp only [condD, condA, encL_length, encL_x, encL_y, encL_r, encL_a, encL_e, encL_b, Int.toNat_natCast, dt_get h1, dt_get h2, w, ih']
    rw [if_pos (by omega), if_pos (by omega), if_pos (by omega), if_pos (by omega), if_pos (by omega), List.drop_eq_getElem_cons h1, List.drop_eq_getElem_cons h2]
    simp only [dt_beq, condO, condD]
    rw [cons_dec]
    by_cases e : a.d[i] = b.d[i]
    · rw [if_pos e, decide_eq_true e, Bool.true_and]
    · rw [if_neg e, decide_eq_false e, Bool.false_and]
theorem c7 (a b : Pi) (hl : a.d.length ≤ maxLen) : run tab X 7 [.p (encP a), .p (encP b)] [] = some ([.p (.bool (decide (a = b)))], []) :=
  run_of (hX _ rfl) (by
    rw [e7]
    simp only [encL_length, col_beq, condO, condD, condN]
    obtain ⟨aw, ah, aa, ae, ab, ad⟩ := a
    obtain ⟨bw, bh, ba, be, bb, bd⟩ := b
    simp only [Pi.mk.injEq] at hl ⊢
    by_cases e1 : aw = bw
    · rw [if_pos e1]
      by_cases e2 : ah = bh
      · rw [if_pos e2]
        by_cases e3 : (aa, ae, ab) = (ba, be, bb)
        · rw [if_pos e3]
          by_cases e4 : ((ad.length : Nat) : Int) = ((bd.length : Nat) : Int)
          · rw [if_pos e4]
            refine (c7_loop X ⟨aw, ah, aa, ae, ab, ad⟩ ⟨bw, bh, ba, be, bb, bd⟩ hl (show ad.length = bd.length by omega) ad.length 0 (show 0 + ad.length = ad.length by omega)).trans ?_
            simp only [Prod.mk.injEq] at e3
            obtain ⟨f1, f2, f3⟩ := e3
            simp [e1, e2, f1, f2, f3]
          · rw [if_neg e4]
            have : ad ≠ bd := fun h => e4 (by rw [h])
            simp [this]
        · rw [if_neg e3]
          simp only [Prod.mk.injEq] at e3
          have : ¬ (aa = ba ∧ ae = be ∧ ab = bb ∧ ad = bd) := fun h => e3 ⟨h.1, h.2.1, h.2.2.1⟩
          simp [this]
      · rw [if_neg e2]; simp [e2]
    · rw [if_neg e1]; simp [e1])
omit hX in
theorem c8_loop (a b : List (Int × Int × Int)) (hl : a.length ≤ maxLen) (he : a.length = b.length) : ∀ (n i : Nat), i + n = a.length →
    L tab (run tab X) 8 [] [.lp [1, 1, 0, 1, 0]] (S8_11010 (encC a) (encC b) i) = some ([.p (.bool (decide (a.drop i = b.drop i)))], []) := by
  have hm : (maxLen : Int) = 9223372036854775807 := by decide
  intro n
  induction n with
  | zero =>
    intro i hi
    refine L_of ?_
    rw [e8_11010]
    simp only [condD, encC_length]
    rw [if_neg (by omega), List.drop_eq_nil_of_le (by omega), List.drop_eq_nil_of_le (by omega)]
    rfl
  | succ n ih =>
    intro i hi
    have h1 : i < a.length := by omega
    have h2 : i < b.length := by omega
    have w : IntKind.i64.wrap ((i : Int) + 1) = ((i + 1 : Nat) : Int) := by rw [wrap_eq (by omega) (by omega)]; omega
    have ih' := ih (i + 1) (by omega)
    refine L_of ?_
    rw [e8_11010]
    simp only [condD, condA, encC_length, Int.toNat_natCast, encC_getD a h1, encC_getD b h2, w, ih']
    rw [if_pos (by omega), if_pos (by omega), if_pos (by omega), if_pos (by omega), if_pos (by omega), List.drop_eq_getElem_cons h1, List.drop_eq_getElem_cons h2]
    have e0 : ((((colC a[i]).cell 0).toInt == ((colC b[i]).cell 0).toInt) && ((((colC a[i]).cell 1).toInt == ((colC b[i]).cell 1).toInt) && ((((colC a[i]).cell 2).toInt == ((colC b[i]).cell 2).toInt) && true))) = decide (a[i] = b[i]) := col_beq _ _ _ _ _ _
    rw [e0]
    simp only [condO, condD]
    rw [cons_dec]
    by_cases e : a[i] = b[i]
    · rw [if_pos e, decide_eq_true e, Bool.true_and]
    · rw [if_neg e, decide_eq_false e, Bool.false_and]
theorem c8 (a b : List (Int × Int × Int)) (hl : a.length ≤ maxLen) : run tab X 8 [.p (.list true kC (encC a)), .p (.list true kC (encC b))] [] = some ([.p (.bool (decide (a = b)))], []) :=
  run_of (hX _ rfl) (by
    rw [e8]
    simp only [encC_length, condN]
    by_cases e4 : ((a.length : Nat) : Int) = ((b.length : Nat) : Int)
    · rw [if_pos e4]
      exact c8_loop X a b hl (by omega) a.length 0 (by omega)
    · rw [if_neg e4]
      have : a ≠ b := fun h => e4 (by rw [h])
      simp [this])
theorem c41 (n : Nat) (h : n ≤ 2147483648) : run tab X 41 [.p .nil, .p (.int .i64 (n : Int))] [] = some ([.fresh true kD []], []) :=
  run_of (hX _ rfl) (by
    have w : IntKind.i64.wrap ((n : Int) - 0) = (n : Int) := by rw [wrap_eq (by omega) (by omega)]; omega
    rw [e41, w]
    simp only [condD, condA, Int.toNat_natCast]
    rw [if_neg (by omega)]
    by_cases h0 : (n : Int) > 0
    · rw [if_pos h0, if_pos (by omega), if_pos (by omega), if_pos h, if_pos (by omega), if_pos (by omega)]
      simp
    · rw [if_neg h0])
theorem c25 (a b : List Dt) (h : a.length + b.length ≤ 1000000) : run tab X 25 [.p (.list false [.slice true kD] [.list true kD (encL a), .list true kD (encL b)])] [] = some ([.fresh true kD (encL (a ++ b))], []) :=
  run_of (hX _ rfl) (by
    have s1 : IntKind.i64.wrap (0 + ((((([PV.list true kD (encL a), PV.list true kD (encL b)] : List PV).getD (Int.toNat 0) .nil).cell 0).toList.length : Nat) : Int)) = (a.length : Int) := by
      show IntKind.i64.wrap (0 + (((encL a).length : Nat) : Int)) = (a.length : Int)
      rw [encL_length, wrap_eq (by omega) (by omega)]; omega
    have s2 : IntKind.i64.wrap ((a.length : Int) + ((((([PV.list true kD (encL a), PV.list true kD (encL b)] : List PV).getD (Int.toNat 1) .nil).cell 0).toList.length : Nat) : Int)) = ((a.length + b.length : Nat) : Int) := by
      show IntKind.i64.wrap ((a.length : Int) + (((encL b).length : Nat) : Int)) = ((a.length + b.length : Nat) : Int)
      rw [encL_length, wrap_eq (by omega) (by omega)]; omega
    have z1 : IntKind.i64.wrap ((0 : Int) + 1) = 1 := by decide
    have z2 : IntKind.i64.wrap ((1 : Int) + 1) = 2 := by decide
    rw [e25]
    refine L_of ?_
    rw [e25_11010]
    refine condP (show (0 : Int) < ((2 : Nat) : Int) by decide) ?_
    refine condT (show (leI 0 0 && ltI 0 ((2 : Nat) : Int)) = true by decide) ?_
    rw [s1, z1]
    refine condNP (by omega) ?_
    refine L_of ?_
    rw [e25_11010]
    refine condP (show (1 : Int) < ((2 : Nat) : Int) by decide) ?_
    refine condT (show (leI 0 1 && ltI 1 ((2 : Nat) : Int)) = true by decide) ?_
    rw [s2, z2]
    refine condNP (by omega) ?_
    refine L_of ?_
    rw [e25_11010]
    refine condNP (show ¬ (2 : Int) < ((2 : Nat) : Int) by decide) ?_
    refine bindS (c41 X hX (a.length + b.length) (by omega)) ?_
    refine L_of ?_
    rw [e25_1111010]
    refine condP (show (0 : Int) < ((2 : Nat) : Int) by decide) ?_
    refine condT (show (leI 0 0 && ltI 0 ((2 : Nat) : Int)) = true by decide) ?_
    refine condP (p := 0 + (encL a).length ≤ 2147483648) (by simp; omega) ?_
    rw [z1]
    refine L_of ?_
    rw [e25_1111010]
    refine condP (show (1 : Int) < ((2 : Nat) : Int) by decide) ?_
    refine condT (show (leI 0 1 && ltI 1 ((2 : Nat) : Int)) = true by decide) ?_
    refine condP (p := 0 + (encL a).length + (encL b).length ≤ 2147483648) (by simp; omega) ?_
    rw [z2]
    refine L_of ?_
    rw [e25_1111010]
    refine condNP (show ¬ (2 : Int) < ((2 : Nat) : Int) by decide) ?_
    have e : ((((((([] : List PV).drop 0).take 0) ++ encL a).drop 0).take (0 + (encL a).length) ++ encL b).drop 0).take (0 + (encL a).length + (encL b).length) = encL (a ++ b) := by
      simp only [List.drop_zero, List.take_nil, List.nil_append, Nat.zero_add, List.take_length]
      rw [List.take_of_length_le (by simp), encL_append]
    exact congrArg (fun x => some ([AV.fresh true kD x], [])) e)
omit hX in
theorem len_sum (a b : Pi) (ha : Valid a) (hb : Valid b) : IntKind.i64.wrap (((a.d.length : Nat) : Int) + ((b.d.length : Nat) : Int)) = ((a.d.length + b.d.length : Nat) : Int) := by
  have := ha.len
  have := hb.len
  rw [wrap_eq (by omega) (by omega)]; omega
theorem c14 (a b : Pi) (ha : a.d.length ≤ maxLen) (hb : b.d.length ≤ maxLen) : run tab X 14 [.p (encP a), .p (encP b)] [] = some (overR a b) :=
  run_of (hX _ rfl) (by
    rw [e14, c18 X hX a ha, c18 X hX b hb]
    unfold overR overQ
    simp only [Option.bind_some, List.headD_cons, pv_p, toBool_bool, condO, condN, encL_length]
    cases h1 : validP a with
    | false => rfl
    | true =>
      cases h2 : validP b with
      | false => rfl
      | true =>
        rw [len_sum a b (valid_iff.1 h1) (valid_iff.1 h2)]
        simp only [cond_true]
        by_cases e1 : a.w = b.w
        · rw [if_pos e1, if_pos e1]
          by_cases e2 : a.h = b.h
          · rw [if_pos e2, if_pos e2]
            by_cases e3 : (4096 : Int) < ((a.d.length + b.d.length : Nat) : Int)
            · rw [if_pos e3]
              exact condP (p := ((a.d.length + b.d.length : Nat) : Int) > 4096) e3 rfl
            · rw [if_neg e3]
              refine condNP (p := ((a.d.length + b.d.length : Nat) : Int) > 4096) e3 ?_
              refine bindS (c25 X hX a.d b.d (by omega)) ?_
              have e : ((encL (a.d ++ b.d)).drop 0).take (encL (a.d ++ b.d)).length = encL (a.d ++ b.d) := by rw [List.drop_zero, List.take_length]
              exact congrArg (fun x => some ([AV.agg [.p (.int .i64 a.w), .p (.int .i64 a.h), .p (.int .u8 a.a), .p (.int .u8 a.e), .p (.int .u8 a.b), .fresh true kD x], AV.p (.int .i64 0)], [])) e
          · rw [if_neg e2, if_neg e2]; rfl
        · rw [if_neg e1, if_neg e1]; rfl)
end
end Go.Skm.Drw
