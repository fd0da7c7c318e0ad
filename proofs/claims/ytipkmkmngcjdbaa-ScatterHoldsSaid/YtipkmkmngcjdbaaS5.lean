/-
  Which points are picked, by the program (distances kept from round to round) and by the document; condition: lists that fit, and a library that copies lists.
-/
import Derived.Test.YtipkmkmngcjdbaaS4
namespace Go.Skm.Sct
open Go Go.Skm
theorem wrapU_eq {x : Int} (h1 : 0 ≤ x) (h2 : x ≤ 9223372036854775807) : IntKind.u64.wrap x = x := by
  have : ∀ y : Int, y = x % 2 ^ 64 → (if (false && decide (y ≥ 2 ^ (64 - 1))) = true then y - 2 ^ 64 else y) = x := by
    intro y hy
    rw [if_neg (by simp)]; omega
  exact this _ rfl
def Clones (X : Ext) : Prop := ∀ xs : List PV, xs.length ≤ 100000 → run tab X 26 [.p (.list false [.int .i64] xs)] [] = some ([.fresh false [.int .i64] xs], [])
def tbl (n : Nat) (f : Nat → Int) : List PV := (List.range n).map fun j => .int .i64 (f j)
@[simp] theorem tbl_length (n : Nat) (f : Nat → Int) : (tbl n f).length = n := by simp [tbl]
theorem tbl_get {n : Nat} {f : Nat → Int} {i : Nat} (h : i < n) : (((tbl n f).getD i .nil).cell 0).toInt = f i := by
  unfold tbl; rw [List.getD_eq_getElem?_getD]; simp [h]
theorem tbl_congr {n : Nat} {f g : Nat → Int} (h : ∀ j, j < n → f j = g j) : tbl n f = tbl n g := by
  unfold tbl
  apply List.map_congr_left
  intro j hj
  rw [h j (List.mem_range.1 hj)]
theorem tbl_set {n : Nat} {f : Nat → Int} {i : Nat} {v : Int} : (tbl n f).set i (.int .i64 v) = tbl n (fun j => if j = i then v else f j) := by
  apply List.ext_getElem
  · simp
  · intro j h1 h2
    rw [List.getElem_set]
    simp only [tbl, List.getElem_map, List.getElem_range]
    by_cases h : i = j
    · subst h; simp
    · rw [if_neg h, if_neg (fun e => h e.symm)]
theorem tbl_rep (n : Nat) (v : Int) : List.replicate n (PV.int .i64 v) = tbl n (fun _ => v) := by
  apply List.ext_getElem
  · simp
  · intro j h1 h2; simp [tbl]
def keyP (l : List V3) (ks : List Nat) (j : Nat) : Int := if j ∈ ks then -1 else mn far (at_ l j) (ks.map (at_ l))
def amax (f : Nat → Int) : Nat → Nat → Nat → Nat
  | 0, _, b => b
  | m + 1, i, b => amax f m (i + 1) (if f i > f b then i else b)
def pk (l : List V3) : Nat → List Nat
  | 0 => []
  | m + 1 => pk l m ++ [amax (keyP l (pk l m)) l.length 0 0]
def pickR (l : List V3) (many : Int) : List V3 × Int :=
  if isSet l = true ∧ 0 ≤ many then (if many > l.length then ([], 3) else ((pk l many.toNat).map (at_ l), 0)) else ([], 2)
theorem amax_lt (f : Nat → Int) : ∀ m i b, b < i + m → amax f m i b < i + m
  | 0, i, b, h => h
  | m + 1, i, b, h => by
    unfold amax
    have := amax_lt f m (i + 1) (if f i > f b then i else b) (by split <;> omega)
    omega
@[simp] theorem pk_length (l : List V3) : ∀ m, (pk l m).length = m
  | 0 => rfl
  | m + 1 => by simp [pk, pk_length l m]
theorem pk_lt (l : List V3) : ∀ m, m ≤ l.length → ∀ k ∈ pk l m, k < l.length
  | 0, _, k, hk => by simp [pk] at hk
  | m + 1, h, k, hk => by
    rcases List.mem_append.1 hk with hk | hk
    · exact pk_lt l m (by omega) k hk
    · simp at hk; subst hk
      have := amax_lt (keyP l (pk l m)) l.length 0 0 (by omega)
      omega
theorem mn_ge {n m : Int} {p : V3} (h : m ≤ n) (hm : m ≤ 0) : ∀ l : List V3, m ≤ mn n p l := by
  intro l
  rcases mn_or l n p with e | ⟨q, _, e⟩
  · omega
  · have := d2_nn p q; omega
theorem keyP_snoc (l : List V3) (ks : List Nat) (k j : Nat) : (if j = k then -1 else min (keyP l ks j) (d2 (at_ l j) (at_ l k))) = keyP l (ks ++ [k]) j := by
  unfold keyP
  by_cases h : j = k
  · simp [h]
  · rw [if_neg h]
    by_cases h2 : j ∈ ks
    · have := d2_nn (at_ l j) (at_ l k)
      rw [if_pos h2, if_pos (by simp [h2])]; omega
    · rw [if_neg h2, if_neg (by simp [h2, h]), List.map_append, mn_append]; rfl
theorem pigeon {n : Nat} {ks : List Nat} (h : ks.length < n) : ∃ j, j < n ∧ j ∉ ks := by
  by_cases hc : ∃ j, j < n ∧ j ∉ ks
  · exact hc
  · have hall : ∀ j, j < n → j ∈ ks := fun j hj => Decidable.byContradiction fun hk => hc ⟨j, hj, hk⟩
    exfalso
    have key : ∀ (m : Nat) (ks : List Nat), (∀ j, j < m → j ∈ ks) → m ≤ ks.length := by
      intro m
      induction m with
      | zero => intro ks _; omega
      | succ m ih =>
        intro ks hk
        have h1 := hk m (by omega)
        have h2 := ih (ks.erase m) (fun j hj => (List.mem_erase_of_ne (by omega)).2 (hk j (by omega)))
        rw [List.length_erase_of_mem h1] at h2
        have := List.length_pos_of_mem h1
        omega
    have := key n ks hall
    omega
theorem bindS {α β : Type} {o : Option α} {x : α} {f : α → Option β} {y : Option β} (h : o = some x) (h2 : f x = y) : o.bind f = y := by rw [h]; exact h2
section
variable (X : Ext) (hX : Mine X)
include hX
theorem c62 (n : Nat) (h : n < 4097) : run tab X 62 [.p (.int .u64 1), .p (.int .u64 (n : Int))] [] = some ([.p (.int .u64 0), .p (.int .u64 (n : Int))], []) :=
  run_of (hX _ rfl) (by
    rw [e62]
    have key : ∀ a b a' b' : Int, a = a' → b = b' → (some ([AV.p (.int .u64 a), AV.p (.int .u64 b)], []) : Option (List AV × List Blk)) = some ([AV.p (.int .u64 a'), AV.p (.int .u64 b')], []) := fun a b a' b' h1 h2 => by rw [h1, h2]
    refine key _ _ _ _ ?_ ?_
    · clear key
      obtain ⟨a, b, ha, hb, rfl⟩ : ∃ a b, a < 65 ∧ b < 64 ∧ n = 64 * a + b := ⟨n / 64, n % 64, by omega, by omega, by omega⟩
      clear h
      revert hb
      revert b
      revert ha
      revert a
      decide +kernel
    · rw [Int.one_mul]; exact wrapU_eq (by omega) (by omega))
theorem c41 (n : Nat) (h : n < 4097) : run tab X 41 [.p (.int .u64 1), .p (.int .u64 (n : Int))] [] = some ([.p (.int .u64 0), .p (.int .u64 (n : Int))], []) :=
  run_of (hX _ rfl) (by
    rw [e41]
    exact bindS (c62 X hX n h) rfl)
omit hX in
theorem l25 (c : PV) (n : Nat) (hn : n ≤ 4096) : ∀ (j m : Nat) (B : List PV), n - m ≤ j → 1 ≤ m ∨ n = 0 → m ≤ n → B.length = n → B.take m = List.replicate m c →
    L tab (run tab X) 25 [] [.lp [1, 1, 1, 1, 1, 1, 0, 0]] (S25_11111100 0 n (m : Int) B) = some ([.fresh false [.int .i64] (List.replicate n c)], []) := by
  have fin : ∀ (m : Nat) (B : List PV), m = n → B.length = n → B.take m = List.replicate m c → L tab (run tab X) 25 [] [.lp [1, 1, 1, 1, 1, 1, 0, 0]] (S25_11111100 0 n (m : Int) B) = some ([.fresh false [.int .i64] (List.replicate n c)], []) := by
    intro m B hm hB ht
    refine L_of ?_
    rw [e25_11111100]
    refine condNP (show ¬ (m : Int) < (n : Int) by omega) ?_
    rw [List.drop_zero, ← hm, ht]
  intro j
  induction j with
  | zero => intro m B h1 h2 h3 hB ht; exact fin m B (by omega) hB ht
  | succ j ih =>
    intro m B h1 h2 h3 hB ht
    by_cases e : m = n
    · exact fin m B e hB ht
    · have t1 : ((m : Int) - 0).toNat = m := by omega
      have t2 : ((n : Int) - (m : Int)).toNat = n - m := by omega
      have t3 : IntKind.i64.wrap ((m : Int) + ((Nat.min m (n - m) : Nat) : Int)) = ((m + Nat.min m (n - m) : Nat) : Int) := by
        have : Nat.min m (n - m) ≤ m := Nat.min_le_left _ _
        rw [wrap_eq (by omega) (by omega)]; omega
      have hk : Nat.min m (n - m) ≤ n - m := Nat.min_le_right _ _
      have hk1 : Nat.min m (n - m) ≤ m := Nat.min_le_left _ _
      have hk2 : 1 ≤ Nat.min m (n - m) := Nat.le_min.2 ⟨by omega, by omega⟩
      refine L_of ?_
      rw [e25_11111100]
      simp only [condD, condA, t1, t2, t3, Int.toNat_natCast, Nat.zero_add, List.drop_zero, ht]
      rw [if_pos (by omega), if_pos (by omega), if_pos (by omega), if_pos (by omega), if_pos (by omega), if_pos (by omega), if_pos (by omega), if_pos (by omega)]
      generalize Nat.min m (n - m) = k at *
      have ev : (List.replicate m c).take k = List.replicate k c := by rw [List.take_replicate, Nat.min_eq_left hk1]
      rw [ev]
      refine ih (m + k) _ (by omega) (by omega) (by omega) ?_ ?_
      · simp only [patch, List.length_append, List.length_take, List.length_replicate, List.length_drop, hB]; omega
      · simp only [patch, List.length_replicate, ht]
        rw [List.take_left' (by simp), List.replicate_append_replicate]
theorem c25 (c : PV) (n : Nat) (hn : n ≤ 4096) : run tab X 25 [.p (.list false [.int .i64] [c]), .p (.int .i64 (n : Int))] [] = some ([.fresh false [.int .i64] (List.replicate n c)], []) :=
  run_of (hX _ rfl) (by
    have w0 : IntKind.u64.wrap (n : Int) = (n : Int) := wrapU_eq (by omega) (by omega)
    have w1 : IntKind.i64.wrap (n : Int) = (n : Int) := wrap_eq (by omega) (by omega)
    rw [e25, w0]
    refine condNP (show ¬ (n : Int) < 0 by omega) ?_
    refine bindS (c41 X hX n (by omega)) ?_
    refine condNP (show ¬ (0 : Int) > 0 by omega) ?_
    refine condNP (show ¬ (n : Int) > 9223372036854775807 by omega) ?_
    have e1 : ((([AV.p (.int .u64 0), AV.p (.int .u64 (n : Int))], ([] : List Blk)).1.tail.headD .undef).pv.toInt) = (n : Int) := rfl
    rw [e1, w1]
    simp only [condA, condD, Int.toNat_natCast]
    rw [if_pos (by omega), if_pos (by omega), if_pos (by omega)]
    by_cases h0 : n = 0
    · subst h0
      exact l25 X c 0 hn 0 0 _ (by omega) (by omega) (by omega) (by simp [patch]) (by simp)
    have e2 : Nat.min [c].length n = 1 := by
      show Nat.min 1 n = 1
      exact Nat.min_eq_left (by omega)
    rw [e2]
    refine l25 X c n hn n 1 _ (by omega) (by omega) (by omega) ?_ ?_
    · simp [patch]; omega
    · simp [patch])
omit hX in
theorem l27 (n : Nat) (f : Nat → Int) (hn : n ≤ 2147483648) : ∀ m i b, i + m = n → b < n → L tab (run tab X) 27 [] [.lp [1, 1, 0, 1, 0]] (S27_11010 (tbl n f) (b : Int) (tbl n f) (n : Int) (i : Int)) = some ([.p (.int .i64 ((amax f m i b : Nat) : Int))], []) := by
  intro m
  induction m with
  | zero =>
    intro i b hi hb
    refine L_of ?_
    rw [e27_11010]
    exact condNP (by omega) rfl
  | succ m ih =>
    intro i b hi hb
    have hlt : i < n := by omega
    refine L_of ?_
    rw [e27_11010]
    refine condP (by omega) (condT (by rw [tbl_length]; exact gd hlt) (condT (by rw [tbl_length]; exact gd hb) ?_))
    simp only [tn, tbl_get hlt, tbl_get hb, wr1 (show i < 1099511627776 by omega)]
    unfold amax
    by_cases h : f i > f b
    · rw [if_pos h]; exact condP h (ih (i + 1) i (by omega) hlt)
    · rw [if_neg h]; exact condNP h (ih (i + 1) b (by omega) hb)
theorem c27 (n : Nat) (f : Nat → Int) (hn : n ≤ 2147483648) (h0 : 0 < n) : run tab X 27 [.p (.ref [.list false [.int .i64] (tbl n f)])] [] = some ([.p (.int .i64 ((amax f n 0 0 : Nat) : Int))], []) :=
  run_of (hX _ rfl) (by rw [e27, tbl_length]; exact l27 X n f hn n 0 0 (by omega) h0)
theorem l10i (l out : List V3) (hl : l.length ≤ 2147483648) (hla : ∀ v ∈ l, pnt v = true) (k : Nat) (hk : k < l.length) (many t : Int) (r : List AV × List Blk) : ∀ m i f, i + m = l.length →
    L tab (run tab X) 10 [] [.lp [1, 1, 1, 1, 1, 1, 1, 0, 1, 0]] (S10_1111111010 (encL l) 0 out.length many (IntKind.i64.wrap (t + 1)) (tbl l.length fun j => if j = k then -1 else if i ≤ j then min (f j) (d2 (at_ l j) (at_ l k)) else f j) 0 l.length (encL out)) = some r →
    L tab (run tab X) 10 [] [.lp [1, 1, 1, 1, 1, 1, 1, 0, 1, 0], .lp [1, 1, 0, 0, 1, 1, 0, 1, 0]] (S10_1111111010_110011010 (encL l) 0 out.length (k : Int) many t (l.length : Int) (i : Int) (tbl l.length f) 0 l.length (encL out)) = some r := by
  intro m
  induction m with
  | zero =>
    intro i f hi h
    refine L_of ?_
    rw [e10_1111111010_110011010]
    refine condNP (by omega) (condT (by exact gd hk) ?_)
    rw [Nat.zero_add, tn, tbl_set]
    rw [tbl_congr (g := fun j => if j = k then -1 else f j) (fun j hj => by simp only [show ¬ i ≤ j by omega, if_false])] at h
    exact h
  | succ m ih =>
    intro i f hi h
    have hlt : i < l.length := by omega
    have c28' := c28 X hX (l.getD i default) (l.getD k default) (hla _ (at_mem hlt)) (hla _ (at_mem hk))
    refine L_of ?_
    rw [e10_1111111010_110011010]
    refine condP (by omega) (condT (gd hlt) (condT (by rw [encL_length]; exact gd hlt) (condT (by rw [encL_length]; exact gd hk) ?_)))
    simp only [tn, encL_x, encL_y, encL_z, c28', Option.bind_some, List.headD_cons, pv_p, toInt_int, wr1 (show i < 1099511627776 by omega), goMin_eq, Nat.zero_add, tbl_get hlt]
    refine condT (gd hlt) ?_
    rw [tbl_set]
    refine ih (i + 1) _ (by omega) ?_
    refine Eq.trans ?_ h
    congr 2
    apply tbl_congr
    intro j hj
    by_cases h1 : j = k
    · simp [h1]
    · simp only [h1, if_false]
      by_cases h2 : j = i
      · subst h2
        simp only [Nat.le_refl, if_true, show ¬ j + 1 ≤ j by omega, if_false]
        rfl
      · by_cases h3 : i ≤ j
        · simp only [h3, if_true, show i + 1 ≤ j by omega, h2, if_false]
        · simp only [h3, if_false, show ¬ i + 1 ≤ j by omega, h2]
theorem l10 (l : List V3) (hl : l.length ≤ 4096) (hla : ∀ v ∈ l, pnt v = true) (many : Nat) (hm : many ≤ l.length) : ∀ m t, t + m = many →
    L tab (run tab X) 10 [] [.lp [1, 1, 1, 1, 1, 1, 1, 0, 1, 0]] (S10_1111111010 (encL l) 0 t (many : Int) (t : Int) (tbl l.length (keyP l (pk l t))) 0 l.length (encL ((pk l t).map (at_ l)))) = some ([.fresh true kV (encL ((pk l many).map (at_ l))), .p (.int .i64 0)], []) := by
  intro m
  induction m with
  | zero =>
    intro t ht
    refine L_of ?_
    rw [e10_1111111010]
    refine condNP (by omega) ?_
    rw [List.drop_zero, List.take_of_length_le (by simp)]
    rw [show t = many by omega]
  | succ m ih =>
    intro t ht
    have h0 : 0 < l.length := by omega
    have hk : amax (keyP l (pk l t)) l.length 0 0 < l.length := by
      have := amax_lt (keyP l (pk l t)) l.length 0 0 (by omega); omega
    refine L_of ?_
    rw [e10_1111111010]
    refine condP (by omega) ?_
    rw [List.drop_zero, List.take_of_length_le (show (tbl l.length (keyP l (pk l t))).length ≤ l.length by simp)]
    refine bindS (c27 X hX l.length _ (by omega) h0) ?_
    simp only [List.headD_cons, pv_p, toInt_int]
    refine condT (by rw [encL_length]; exact gd hk) (condP (p := t + 1 ≤ 2147483648) (by omega) ?_)
    rw [List.drop_zero, List.take_of_length_le (show (encL ((pk l t).map (at_ l))).length ≤ t by simp)]
    simp only [tn, encL_x, encL_y, encL_z]
    have eo : encL ((pk l t).map (at_ l)) ++ [PV.agg [.int .i64 (l.getD (amax (keyP l (pk l t)) l.length 0 0) default).x, .int .i64 (l.getD (amax (keyP l (pk l t)) l.length 0 0) default).y, .int .i64 (l.getD (amax (keyP l (pk l t)) l.length 0 0) default).z]] = encL ((pk l (t + 1)).map (at_ l)) := by
      show _ = encL (((pk l t) ++ [_]).map (at_ l))
      rw [List.map_append, ← encL_append]; rfl
    rw [eo]
    have := l10i X hX l ((pk l (t + 1)).map (at_ l)) (by omega) hla _ hk (many : Int) (t : Int) ([.fresh true kV (encL ((pk l many).map (at_ l))), .p (.int .i64 0)], []) l.length 0 (keyP l (pk l t)) (by omega) (by
      rw [wr1 (show t < 1099511627776 by omega)]
      rw [tbl_congr (g := keyP l (pk l (t + 1))) (fun j hj => by simp only [Nat.zero_le, if_true]; exact keyP_snoc l (pk l t) _ j)]
      have h := ih (t + 1) (by omega)
      rw [List.length_map, pk_length]
      exact h)
    rw [List.length_map, pk_length] at this
    exact this
theorem c10 (hK : Clones X) (l : List V3) (hl : l.length ≤ 2147483648) (many : Int) : run tab X 10 [.p (.list true kV (encL l)), .p (.int .i64 many)] [] = some ([.fresh true kV (encL (pickR l many).1), .p (.int .i64 (pickR l many).2)], []) :=
  run_of (hX _ rfl) (by
    rw [e10, c24 X hX l hl]
    simp only [Option.bind_some, List.headD_cons, pv_p, toBool_bool]
    unfold pickR
    by_cases h1 : isSet l = true
    · rw [h1]
      simp only [Bool.not_true, cond_false]
      by_cases h2 : many < 0
      · rw [if_neg (by omega)]; exact condP h2 rfl
      · rw [if_pos ⟨trivial, by omega⟩]
        refine condNP h2 ?_
        by_cases h3 : many > l.length
        · rw [if_pos h3]; exact condP (by rw [encL_length]; omega) rfl
        · rw [if_neg h3]
          have h4 := (set_pts h1).1
          refine condNP (by rw [encL_length]; omega) ?_
          rw [encL_length]
          refine bindS (c25 X hX _ l.length h4) ?_
          simp only [List.headD_cons, freshList_fresh, List.drop_zero, List.length_replicate]
          rw [List.take_of_length_le (by simp)]
          refine bindS (hK _ (by simp; omega)) ?_
          simp only [List.headD_cons, freshList_fresh, List.length_replicate]
          obtain ⟨k, rfl⟩ : ∃ k : Nat, many = (k : Int) := ⟨many.toNat, by omega⟩
          rw [tbl_rep, tn]
          have := l10 X hX l h4 (set_pts h1).2 k (by omega) k 0 (by omega)
          rw [← this]
          congr 2
    · have h1' : isSet l = false := by simpa using h1
      rw [h1', if_neg (by simp)]; rfl)
end
end Go.Skm.Sct
