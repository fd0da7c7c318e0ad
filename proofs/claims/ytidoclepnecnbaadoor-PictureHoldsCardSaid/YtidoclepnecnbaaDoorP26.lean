/-
  The theorem of pictures: rows, parts and pictures over others show the colours that they should, from the examples; condition: lengths that fit.
-/
import Derived.Test.YtidoclepnecnbaaDoorP22
namespace Go.Skm.Pic
open Go Go.Skm
theorem cov_shift (d : Dt) (x y p q : Int) : cov ⟨d.x - x, d.y - y, d.r, d.a, d.e, d.b⟩ p q = cov d (x + p) (y + q) := by
  unfold cov
  simp only
  rw [show p - (d.x - x) = x + p - d.x by omega, show q - (d.y - y) = y + q - d.y by omega]
theorem touch_cov {d : Dt} {x y w h p q : Int} (hp : 0 ≤ p ∧ p < w) (hq : 0 ≤ q ∧ q < h) (hc : cov d (x + p) (y + q) = true) : touch d x y w h = true := by
  have hw : w = ((w.toNat : Nat) : Int) := by omega
  have hh : h = ((h.toNat : Nat) : Int) := by omega
  rw [hw, hh, ← touch_any d x y (by omega) (by omega)]
  exact anyI_iff.2 ⟨x + p, y + q, by omega, by omega, by omega, by omega, hc⟩
theorem cropF_pix {x y w h p q : Int} (hp : 0 ≤ p ∧ p < w) (hq : 0 ≤ q ∧ q < h) : ∀ (l : List Dt) (c : Int × Int × Int), pixF p q (cropF x y w h l) c = pixF (x + p) (y + q) l c
  | [], _ => rfl
  | d :: l, c => by
    rw [cropF, pixF]
    cases ht : touch d x y w h with
    | true =>
      simp only [cond_true]
      rw [pixF, cov_shift, cropF_pix hp hq l]
    | false =>
      simp only [cond_false]
      have hc : cov d (x + p) (y + q) = false := by
        cases hc : cov d (x + p) (y + q) with
        | false => rfl
        | true => rw [touch_cov hp hq hc] at ht; cases ht
      rw [cropF_pix hp hq l, hc]; rfl
theorem pixF_none {x y : Int} : ∀ {l : List Dt} (c : Int × Int × Int), (l.any fun d => cov d x y) = false → pixF x y l c = c
  | [], _, _ => rfl
  | d :: l, c, h => by
    simp only [List.any_cons, Bool.or_eq_false_iff] at h
    rw [pixF, h.1, pixF_none _ h.2]; rfl
theorem pixF_some {x y : Int} : ∀ {l : List Dt} (c c' : Int × Int × Int), (l.any fun d => cov d x y) = true → pixF x y l c = pixF x y l c'
  | [], _, _, h => by cases h
  | d :: l, c, c', h => by
    rw [pixF, pixF]
    cases hd : cov d x y with
    | true => rfl
    | false =>
      simp only [List.any_cons, hd, Bool.false_or] at h
      exact pixF_some _ _ h
theorem cov_near2 {d : Dt} (hd : d.near) {x y : Int} (h : cov d x y = true) : d.y - d.r ≤ y ∧ y ≤ d.y + d.r :=
  cov_near (d := ⟨d.y, d.x, d.r, d.a, d.e, d.b⟩) ⟨hd.y, hd.x, hd.r⟩ (x := y) (y := x) (by
    simp only [cov, decide_eq_true_eq] at h ⊢
    omega)
theorem crop_valid {p : Pi} (V : Valid p) {x y w h : Int} (hw : 1 ≤ w ∧ 1 ≤ h) (hr : (0 ≤ x ∧ x ≤ p.w) ∧ (0 ≤ y ∧ y ≤ p.h) ∧ w ≤ p.w - x ∧ h ≤ p.h - y) : Valid ⟨w, h, p.a, p.e, p.b, cropF x y w h p.d⟩ := by
  obtain ⟨v1, v2⟩ := V.w
  obtain ⟨v3, v4⟩ := V.h
  refine ⟨⟨hw.1, by show w ≤ 4096; omega⟩, ⟨hw.2, by show h ≤ 4096; omega⟩, Nat.le_trans (cropF_len x y w h p.d) V.len, ?_⟩
  have hd : ∀ l : List Dt, (∀ v ∈ l, v ∈ p.d) → ∀ v ∈ cropF x y w h l, (-8192 ≤ v.x ∧ v.x ≤ 8192) ∧ (-8192 ≤ v.y ∧ v.y ≤ 8192) ∧ (1 ≤ v.r ∧ v.r ≤ 4096) := by
    intro l
    induction l with
    | nil => intro _ v hv; cases hv
    | cons d l ih =>
      intro hl v hv
      have hl' : ∀ v ∈ l, v ∈ p.d := fun v hv => hl v (by simp [hv])
      simp only [cropF] at hv
      cases ht : touch d x y w h with
      | false => rw [ht] at hv; exact ih hl' v hv
      | true =>
        rw [ht] at hv
        rcases List.mem_cons.1 hv with rfl | hv
        · have hm := hl d (by simp)
          obtain ⟨⟨x1, x2⟩, ⟨y1, y2⟩, r1, r2⟩ := V.d d hm
          have hwn : w = ((w.toNat : Nat) : Int) := by omega
          have hhn : h = ((h.toNat : Nat) : Int) := by omega
          rw [hwn, hhn, ← touch_any d x y (by omega) (by omega)] at ht
          obtain ⟨j, k, j1, j2, k1, k2, hc⟩ := anyI_iff.1 ht
          have n1 := cov_near (V.near d hm) hc
          have n2 := cov_near2 (V.near d hm) hc
          simp only
          omega
        · exact ih hl' v hv
  exact hd p.d fun v hv => hv
theorem orK {b : Bool} {s t r : Option (List AV × List Blk)} (e : t = s) (h : b = false → r = s) : cond b t r = s := by
  cases b with
  | true => exact e
  | false => exact h rfl
section
variable (X : Ext) (hX : Mine X)
include hX
theorem c9_loop (hk : Known X) (l : List Dt) (hl : l.length ≤ 4096) (hn : ∀ v ∈ l, v.near) {x y p q : Int} (hx : 0 ≤ x + p ∧ x + p ≤ 4096) (hy : 0 ≤ y + q ∧ y + q ≤ 4096) (bw bh ba be bb : Int) (c i j : Int × Int × Int) : ∀ (k m : Nat) (cv : Bool), m + k = l.length → (if (cv || (l.drop m).any fun d => cov d (x + p) (y + q)) = true then i = j else i = c) →
    L tab (run tab X) 9 [] [.lp [1, 1, 1, 1, 1, 1, 1, 1, 1, 1, 1, 1, 1, 1, 0, 1, 0]] (S9_11111111111111010 x y p q 0 0 cv m bw bh ba be bb (encL l) c.1 c.2.1 c.2.2 i.1 i.2.1 i.2.2 j.1 j.2.1 j.2.2) = some ([.p (.bool true)], []) := by
  have wx : IntKind.i64.wrap (x + p) = x + p := wrap_eq (by omega) (by omega)
  have wy : IntKind.i64.wrap (y + q) = y + q := wrap_eq (by omega) (by omega)
  intro k
  induction k with
  | zero =>
    intro m cv hi hf
    unfold Known at hk
    refine L_of ?_
    rw [e9_11111111111111010, encL_length]
    refine condNP (show ¬ (m : Int) < (l.length : Int) by omega) ?_
    rw [List.drop_eq_nil_of_le (by omega), List.any_nil, Bool.or_false] at hf
    refine condT rfl (condT rfl ?_)
    cases cv with
    | true =>
      rw [if_pos rfl] at hf
      subst hf
      refine condT rfl (condT (by simp) ?_)
      exact bindS hk rfl
    | false =>
      rw [if_neg (by simp)] at hf
      subst hf
      refine condF rfl (condT rfl (condT (by simp) ?_))
      exact bindS hk rfl
  | succ k ih =>
    intro m cv hi hf
    have hlt : m < l.length := by omega
    have w1 : IntKind.i64.wrap ((m : Int) + 1) = ((m + 1 : Nat) : Int) := by rw [wrap_eq (by omega) (by omega)]; omega
    rw [List.drop_eq_getElem_cons hlt, List.any_cons] at hf
    refine L_of ?_
    rw [e9_11111111111111010, encL_length, w1]
    refine condP (show (m : Int) < (l.length : Int) by omega) ?_
    cases cv with
    | true =>
      refine condT rfl (ih (m + 1) true (by omega) ?_)
      simpa using hf
    | false =>
      refine condF rfl ?_
      have h29 := c29 X hX (hn l[m] (List.getElem_mem hlt)) (x := x + p) (y := y + q) ⟨by omega, by omega⟩ ⟨by omega, by omega⟩
      simp only [condA, encL_x, encL_y, encL_r, encL_a, encL_e, encL_b, Int.toNat_natCast, dt_get hlt, wx, wy]
      refine condP (show (0 : Int) ≤ (m : Int) by omega) (condP (show (m : Int) < (l.length : Int) by omega) ?_)
      refine bindS h29 ?_
      refine ih (m + 1) (cov l[m] (x + p) (y + q)) (by omega) ?_
      simpa using hf
theorem law9 (hk : Known X) (a b : Pi) (hla : a.d.length ≤ maxLen) (hlb : b.d.length ≤ maxLen) (x y w h p q : Int) (_hx64 : In64 x) (_hy64 : In64 y) :
    run tab X 9 [.p (encP a), .p (encP b), .p (.int .i64 x), .p (.int .i64 y), .p (.int .i64 w), .p (.int .i64 h), .p (.int .i64 p), .p (.int .i64 q)] [] = some ([.p (.bool true)], []) :=
  run_of (hX _ rfl) (by
    have hk' := hk
    unfold Known at hk'
    rw [e9]
    refine bindS (c13 X hX a) (orK (bindS hk' rfl) fun s1 => bindS (c13 X hX b) (orK (bindS hk' rfl) fun s2 => ?_))
    refine bindS (c12 X hX a hla) (orK (bindS hk' rfl) fun s3 => bindS (c12 X hX b hlb) (orK (bindS hk' rfl) fun s4 => ?_))
    simp only [List.headD_cons, pv_p, toBool_bool, Bool.not_eq_false', decide_eq_true_eq] at s1 s2 s3 s4
    have Va := valid_iff.1 s3
    have Vb := valid_iff.1 s4
    obtain ⟨v1, v2⟩ := Va.w
    obtain ⟨v3, v4⟩ := Va.h
    refine orK (bindS hk' rfl) fun t1 => orK (bindS hk' rfl) fun t2 => orK (bindS hk' rfl) fun t3 => orK (bindS hk' rfl) fun t4 => orK (bindS hk' rfl) fun t5 => orK (bindS hk' rfl) fun t6 => orK (bindS hk' rfl) fun t7 => orK (bindS hk' rfl) fun t8 => ?_
    have t1 := of_decide_eq_false t1
    have t2 := of_decide_eq_false t2
    have t3 := of_decide_eq_false t3
    have t4 := of_decide_eq_false t4
    have t5 := of_decide_eq_false t5
    have t6 := of_decide_eq_false t6
    have t7 := of_decide_eq_false t7
    have t8 := of_decide_eq_false t8
    rw [wrap_eq (x := a.w - x) (by omega) (by omega), wrap_eq (x := a.h - y) (by omega) (by omega)]
    refine orK (bindS hk' rfl) fun t9 => orK (bindS hk' rfl) fun ta => orK (bindS hk' rfl) fun tb => orK (bindS hk' rfl) fun tc => orK (bindS hk' rfl) fun td => orK (bindS hk' rfl) fun te => ?_
    have t9 := of_decide_eq_false t9
    have ta := of_decide_eq_false ta
    have tb := of_decide_eq_false tb
    have tc := of_decide_eq_false tc
    have td := of_decide_eq_false td
    have te := of_decide_eq_false te
    rw [wrap_eq (x := x + p) (by omega) (by omega), wrap_eq (x := y + q) (by omega) (by omega)]
    generalize hC : pixF (x + p) (y + q) a.d (a.a, a.e, a.b) = C
    have h24 : run tab X 24 [.p (encP a), .p (.int .i64 (x + p)), .p (.int .i64 (y + q))] [] = some ([.p (colC C), .p (.int .i64 0)], []) := by
      rw [c24 X hX a hla]
      unfold pixR
      rw [s3, cond_true, if_pos ⟨by omega, by omega, by omega, by omega⟩, hC]
    have h26 : run tab X 26 [.p (encP a), .p (.int .i64 (y + q))] [] = some ([.fresh true kC (encC (rowL a (y + q) a.w.toNat)), .p (.int .i64 0)], []) := by
      rw [c26 X hX a hla]
      unfold rowR
      rw [s3, cond_true, if_pos ⟨by omega, by omega⟩]
    have hr : (0 ≤ x ∧ x ≤ a.w) ∧ (0 ≤ y ∧ y ≤ a.h) ∧ w ≤ a.w - x ∧ h ≤ a.h - y := ⟨⟨by omega, by omega⟩, ⟨by omega, by omega⟩, by omega, by omega⟩
    have h22 : run tab X 22 [.p (encP a), .p (.int .i64 x), .p (.int .i64 y), .p (.int .i64 w), .p (.int .i64 h)] [] = some ([.p (.agg [.int .i64 w, .int .i64 h, .int .u8 a.a, .int .u8 a.e, .int .u8 a.b, dotsP (cropF x y w h a.d)]), .p (.int .i64 0)], []) := by
      rw [c22 X hX a hla]
      unfold cropR
      rw [s3, cond_true, if_pos ⟨by omega, by omega⟩, if_pos hr]
    have Vc := crop_valid Va ⟨by omega, by omega⟩ hr
    have hlc : (cropF x y w h a.d).length ≤ maxLen := Nat.le_trans (cropF_len x y w h a.d) hla
    have heta : ∀ D : List Dt, (dotsP D).toList = encL D := dotsP_list
    have h12 : run tab X 12 [.p (.agg [.int .i64 w, .int .i64 h, .int .u8 a.a, .int .u8 a.e, .int .u8 a.b, .list true kD (dotsP (cropF x y w h a.d)).toList])] [] = some ([.p (.bool true)], []) := by
      rw [heta, c12 X hX ⟨w, h, a.a, a.e, a.b, cropF x y w h a.d⟩ hlc, valid_iff.2 Vc]
    have h24b : run tab X 24 [.p (.agg [.int .i64 w, .int .i64 h, .int .u8 a.a, .int .u8 a.e, .int .u8 a.b, .list true kD (dotsP (cropF x y w h a.d)).toList]), .p (.int .i64 p), .p (.int .i64 q)] [] = some ([.p (colC C), .p (.int .i64 0)], []) := by
      rw [heta, c24 X hX ⟨w, h, a.a, a.e, a.b, cropF x y w h a.d⟩ hlc]
      unfold pixR
      rw [valid_iff.2 Vc, cond_true, if_pos ⟨by omega, by show p < w; omega, by omega, by show q < h; omega⟩]
      simp only
      rw [cropF_pix ⟨by omega, by omega⟩ ⟨by omega, by omega⟩, hC]
    have Vb' : validP ⟨a.w, a.h, b.a, b.e, b.b, b.d⟩ = true := valid_iff.2 ⟨Va.w, Va.h, Vb.len, Vb.d⟩
    have h20 : run tab X 20 [.p (encP a), .p (encP ⟨a.w, a.h, b.a, b.e, b.b, b.d⟩)] [] = some ([.p (encP { a with d := a.d ++ b.d }), .p (.int .i64 0)], []) := by
      rw [c20 X hX a ⟨a.w, a.h, b.a, b.e, b.b, b.d⟩ hla hlb]
      unfold overR
      rw [s3, Vb']
      simp only [cond_true, if_true]
      rw [if_neg (by omega)]
    have hl2 : (a.d ++ b.d).length ≤ maxLen := by
      have : (80 : Nat) ≤ maxLen := by decide
      rw [List.length_append]; omega
    have Vo : validP { a with d := a.d ++ b.d } = true := valid_iff.2 ⟨Va.w, Va.h, by show (a.d ++ b.d).length ≤ 4096; rw [List.length_append]; omega, fun v hv => by
      rcases List.mem_append.1 hv with hv | hv
      · exact Va.d v hv
      · exact Vb.d v hv⟩
    have h24c : run tab X 24 [.p (encP { a with d := a.d ++ b.d }), .p (.int .i64 (x + p)), .p (.int .i64 (y + q))] [] = some ([.p (colC (pixF (x + p) (y + q) b.d C)), .p (.int .i64 0)], []) := by
      rw [c24 X hX { a with d := a.d ++ b.d } hl2]
      unfold pixR
      rw [Vo, cond_true, if_pos ⟨by omega, by show x + p < a.w; omega, by omega, by show y + q < a.h; omega⟩]
      simp only
      rw [pixF_app, hC]
    have h24d : run tab X 24 [.p (encP ⟨a.w, a.h, b.a, b.e, b.b, b.d⟩), .p (.int .i64 (x + p)), .p (.int .i64 (y + q))] [] = some ([.p (colC (pixF (x + p) (y + q) b.d (b.a, b.e, b.b))), .p (.int .i64 0)], []) := by
      rw [c24 X hX ⟨a.w, a.h, b.a, b.e, b.b, b.d⟩ hlb]
      unfold pixR
      rw [Vb', cond_true, if_pos ⟨by omega, by show x + p < a.w; omega, by omega, by show y + q < a.h; omega⟩]
    refine bindS h24 (bindS h26 (bindS h22 (condF rfl (condF rfl (condF rfl ?_)))))
    refine condF (by
      show ((((encC (rowL a (y + q) a.w.toNat)).length : Nat) : Int) != a.w) = false
      rw [encC_length, rowL_length]; simp; omega) ?_
    refine condT (by
      show (leI 0 (x + p) && ltI (x + p) (((encC (rowL a (y + q) a.w.toNat)).length : Nat) : Int)) = true
      rw [encC_length, rowL_length]
      simp only [leI, ltI, Bool.and_eq_true, decide_eq_true_eq]; omega) ?_
    have hg : (encC (rowL a (y + q) a.w.toNat)).getD (0 + (x + p).toNat) .nil = colC C := by
      rw [Nat.zero_add, encC_getD _ (by rw [rowL_length]; omega)]
      unfold rowL
      simp only [List.getElem_map, List.getElem_range]
      rw [show (((x + p).toNat : Nat) : Int) = x + p by omega, hC]
    refine condF (by
      show (!(((((encC (rowL a (y + q) a.w.toNat)).getD (0 + (x + p).toNat) .nil).cell 0).toInt == C.1) && (((((encC (rowL a (y + q) a.w.toNat)).getD (0 + (x + p).toNat) .nil).cell 1).toInt == C.2.1) && (((((encC (rowL a (y + q) a.w.toNat)).getD (0 + (x + p).toNat) .nil).cell 2).toInt == C.2.2) && true)))) = false
      rw [hg]
      show (!((C.1 == C.1) && ((C.2.1 == C.2.1) && ((C.2.2 == C.2.2) && true)))) = false
      simp) ?_
    refine bindS h12 (condF rfl (bindS h24b (condF rfl (condF (by
      show (!((C.1 == C.1) && ((C.2.1 == C.2.1) && ((C.2.2 == C.2.2) && true)))) = false
      simp) ?_))))
    refine bindS h20 (condF rfl (bindS h24c (bindS h24d ?_)))
    refine c9_loop X hX hk b.d Vb.len Vb.near (x := x) (y := y) (p := p) (q := q) ⟨by omega, by omega⟩ ⟨by omega, by omega⟩ a.w a.h b.a b.e b.b C (pixF (x + p) (y + q) b.d C) (pixF (x + p) (y + q) b.d (b.a, b.e, b.b)) b.d.length 0 false (by omega) ?_
    rw [List.drop_zero, Bool.false_or]
    split
    · next hc => exact pixF_some _ _ hc
    · next hc => exact pixF_none _ (by simpa using hc))
end
end Go.Skm.Pic
