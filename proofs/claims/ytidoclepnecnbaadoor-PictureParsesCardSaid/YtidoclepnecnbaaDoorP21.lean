/-
  The document's Parse: the picture that a text seems to be must have this text; condition: at most 1000 bytes.
-/
import Derived.Test.YtidoclepnecnbaaDoorP20
namespace Go.Skm.Pic
open Go Go.Skm
def seemW : List (List UInt8) → Option (Int × Int × Int × Int × Int)
  | [_, x, y, c] => (parseC c).map fun k => (numV x, numV y, k.1, k.2.1, k.2.2)
  | _ => none
def seemD : List (List UInt8) → Option Dt
  | [_, x, y, z, c] => (parseC c).map fun k => ⟨numV x, numV y, numV z, k.1, k.2.1, k.2.2⟩
  | _ => none
def seemDs : List (List UInt8) → Option (List Dt)
  | [] => some []
  | l :: ls => match seemD (splitC 32 l) with
    | some d => (seemDs ls).map (d :: ·)
    | none => none
def finD (s : List UInt8) (p : Pi) : Option Pi := bif validP p then (if textP p = s then some p else none) else none
def restD (s : List UInt8) (w h a e b : Int) (acc : List Dt) (ls : List (List UInt8)) : Option Pi := (seemDs ls).bind fun ds => finD s ⟨w, h, a, e, b, acc ++ ds⟩
def docL (s : List UInt8) : List (List UInt8) → Option Pi
  | [] => finD s ⟨0, 0, 0, 0, 0, []⟩
  | l :: ls => match seemW (splitC 32 l) with
    | some (w, h, a, e, b) => restD s w h a e b [] ls
    | none => none
theorem numF_rng : ∀ (l : List UInt8) (k : Nat) (n sg : Int), 0 ≤ n → n + 1 ≤ ((10 ^ k : Nat) : Int) → (sg = 1 ∨ sg = -1) →
    0 ≤ (l.foldl numStep (n, sg)).1 ∧ (l.foldl numStep (n, sg)).1 + 1 ≤ ((10 ^ (k + l.length) : Nat) : Int) ∧ ((l.foldl numStep (n, sg)).2 = 1 ∨ (l.foldl numStep (n, sg)).2 = -1)
  | [], k, n, sg, h0, h1, hs => ⟨h0, h1, hs⟩
  | x :: l, k, n, sg, h0, h1, hs => by
    have hp : 10 ^ (k + 1) = 10 ^ k * 10 := Nat.pow_succ 10 k
    rw [List.foldl_cons, List.length_cons, show k + (l.length + 1) = (k + 1) + l.length by omega]
    unfold numStep
    split
    · exact numF_rng l (k + 1) n (-1) h0 (by omega) (.inr rfl)
    · split
      · exact numF_rng l (k + 1) _ sg (by omega) (by simp only; omega) hs
      · exact numF_rng l (k + 1) n sg h0 (by omega) hs
theorem numV_rng (l : List UInt8) : In64 (numV l) := by
  obtain ⟨h0, h1, h2⟩ := numF_rng (l.take 5) 0 0 1 (by omega) (by omega) (.inl rfl)
  have hp : 10 ^ (0 + (l.take 5).length) ≤ 10 ^ 5 := Nat.pow_le_pow_right (by omega) (by simp; omega)
  unfold numV In64
  generalize ((l.take 5).foldl numStep (0, 1)).1 = n at *
  rcases h2 with h2 | h2 <;> rw [h2] <;> constructor <;> omega
theorem seemD_ok {W : List (List UInt8)} {d : Dt} (h : seemD W = some d) : d.ok := by
  unfold seemD at h
  split at h
  · next x y z c =>
    cases hc : parseC c with
    | none => rw [hc] at h; cases h
    | some k =>
      obtain ⟨r, e, b⟩ := k
      obtain ⟨⟨h1, h2, h3⟩, _⟩ := parseC_some hc
      rw [hc] at h
      simp only [Option.map_some, Option.some.injEq] at h
      subst h
      exact ⟨numV_rng x, numV_rng y, numV_rng z, h1, h2, h3⟩
  · cases h
theorem seemW_ok {W : List (List UInt8)} {w h a e b : Int} (hq : seemW W = some (w, h, a, e, b)) : In8 a ∧ In8 e ∧ In8 b := by
  unfold seemW at hq
  split at hq
  · next x y c =>
    cases hc : parseC c with
    | none => rw [hc] at hq; cases hq
    | some k =>
      obtain ⟨r', e', b'⟩ := k
      rw [hc] at hq
      simp only [Option.map_some, Option.some.injEq, Prod.mk.injEq] at hq
      obtain ⟨_, _, rfl, rfl, rfl⟩ := hq
      exact (parseC_some hc).1
  · cases hq
theorem seemDs_ok : ∀ {ls : List (List UInt8)} {ds : List Dt}, seemDs ls = some ds → ∀ v ∈ ds, v.ok
  | [], ds, h => by simp [seemDs] at h; subst h; simp
  | l :: ls, ds, h => by
    simp only [seemDs] at h
    split at h
    · next d hd =>
      cases hl : seemDs ls with
      | none => rw [hl] at h; cases h
      | some es =>
        rw [hl] at h
        simp only [Option.map_some, Option.some.injEq] at h
        subst h
        intro v hv
        rcases List.mem_cons.1 hv with rfl | hv
        · exact seemD_ok hd
        · exact seemDs_ok hl v hv
    · cases h
theorem strs_at (ls : List (List UInt8)) {i : Nat} (h : i < ls.length) : (((strs ls).getD (0 + (i : Int).toNat) .nil).cell 0).toStr = ba ls[i] := by
  rw [Int.toNat_natCast, Nat.zero_add]; exact strs_get ls h
section
variable (X : Ext) (hX : Mine X)
include hX
omit hX in
theorem c18_fin (s : List UInt8) (p : Pi) (V : PV) (hV : run tab X 15 [.p V] [] = some (textR p)) (hd : ∀ q, finD s p = some q → parsR (some p) = ([.p V, .p (.int .i64 0)], [])) :
    ((run tab X 15 [.p V] []).bind fun r26 =>
    bif ((r26.1.tail.headD .undef).pv.toInt != (0 : Int)) then
      some (([.p errP, .p (.int .i64 6)], []) : List AV × List Blk)
    else
      bif (!(((r26.1.headD .undef).pv.toStr).toList == (ba s).toList)) then
        some ([.p errP, .p (.int .i64 6)], [])
      else
        some ([.p V, .p (.int .i64 0)], [])) = some (parsR (finD s p)) := by
  refine bindS hV ?_
  unfold finD textR at *
  cases hv : validP p with
  | false => rfl
  | true =>
    simp only [hv, cond_true] at hd ⊢
    refine condF rfl ?_
    simp only [List.headD_cons, pv_p, toStr_str, ba_beq]
    by_cases ht : textP p = s
    · rw [if_pos ht] at hd ⊢
      rw [hd p rfl, ht]; simp
    · rw [if_neg ht, show decide (ba (textP p) = ba s) = false from decide_eq_false fun e => ht (ba_inj.1 e)]; rfl
set_option maxHeartbeats 1000000 in
theorem c18_more (s : List UInt8) (lines : List (List UInt8)) (n : Nat) (hn : lines.length = n + 1) (hs : n ≤ 2000) (hb : ∀ x ∈ lines, x.length ≤ 100000) (w h a e b : Int) (hp : In8 a ∧ In8 e ∧ In8 b) : ∀ (k i : Nat) (acc : List Dt), i + k = n → 1 ≤ i → acc ≠ [] → acc.length = i - 1 → (∀ v ∈ acc, v.ok) →
    L tab (run tab X) 18 [] [.lp [1, 1, 1, 1, 0, 1, 0]] (S18_1111010_s1 (ba s) 0 (n + 1) i 0 0 0 0 0 (strs lines) w h a e b 0 acc.length (encL acc)) = some (parsR (restD s w h a e b acc ((lines.take n).drop i))) := by
  have hm : (maxLen : Int) = 9223372036854775807 := by decide
  have wn : IntKind.i64.wrap (((n + 1 : Nat) : Int) - 1) = (n : Int) := by rw [wrap_eq (by omega) (by omega)]; omega
  have htl : (lines.take n).length = n := by simp; omega
  intro k
  induction k with
  | zero =>
    intro i acc hi h1 hne hlen hok
    refine L_of ?_
    rw [e18_1111010_s1, wn]
    refine condNP (show ¬ (i : Int) < (n : Int) by omega) ?_
    rw [List.drop_zero, encL_full, List.drop_eq_nil_of_le (by omega)]
    simp only [restD, seemDs, Option.bind_some, List.append_nil]
    refine c18_fin X s ⟨w, h, a, e, b, acc⟩ _ (c15 X hX ⟨w, h, a, e, b, acc⟩ (by show acc.length ≤ maxLen; omega) hp hok) ?_
    intro q _
    simp only [parsR]
    rw [dotsP_ne hne]
  | succ k ih =>
    intro i acc hi h1 hne hlen hok
    have hlt : i < lines.length := by omega
    have hlt2 : i < (lines.take n).length := by omega
    have hg : (lines.take n)[i] = lines[i] := by simp
    have w1 : IntKind.i64.wrap ((i : Int) + 1) = ((i + 1 : Nat) : Int) := by rw [wrap_eq (by omega) (by omega)]; omega
    have hx := hb lines[i] (List.getElem_mem hlt)
    have h43 := c43 X hX 32 lines[i] (by omega)
    have hwl : ∀ u ∈ splitC 32 lines[i], u.length ≤ 100000 := fun u hu => Nat.le_trans (splitC_piece hu) hx
    have hwn := splitC_length 32 lines[i]
    rw [List.drop_eq_getElem_cons hlt2, hg]
    have hrest : ∀ ls, restD s w h a e b acc (lines[i] :: ls) = match seemD (splitC 32 lines[i]) with | some d => restD s w h a e b (acc ++ [d]) ls | none => none := by
      intro ls
      simp only [restD, seemDs]
      cases seemD (splitC 32 lines[i]) with
      | none => rfl
      | some d =>
        cases seemDs ls with
        | none => rfl
        | some ds => simp
    rw [hrest]
    have hih : ∀ d, seemD (splitC 32 lines[i]) = some d → _ := fun d hd => ih (i + 1) (acc ++ [d]) (by omega) (by omega) (by simp) (by simp; omega) (by
      intro v hv
      rcases List.mem_append.1 hv with hv | hv
      · exact hok v hv
      · rw [List.mem_singleton.1 hv]; exact seemD_ok hd)
    refine L_of ?_
    rw [e18_1111010_s1, wn, w1]
    refine condP (show (i : Int) < (n : Int) by omega) ?_
    simp only [condA, strs_at lines hlt]
    refine condP (show (0 : Int) ≤ (i : Int) by omega) (condP (show (i : Int) < ((n + 1 : Nat) : Int) by omega) ?_)
    refine bindS h43 ?_
    generalize splitC 32 lines[i] = W at *
    refine condF (by simp; omega) (condP (p := (0 : Int) < (i : Int)) (by omega) ?_)
    by_cases h5 : W.length = 5
    · match W, h5 with
      | [q, x, y, z, c], _ =>
        refine condF rfl (condT rfl ?_)
        have h44 := c44 X hX c (by have := hwl c (by simp); omega)
        have hxl := hwl x (by simp)
        have hyl := hwl y (by simp)
        have hzl := hwl z (by simp)
        refine bindS h44 ?_
        cases hc : parseC c with
        | none => simp only [seemD, hc]; rfl
        | some kk =>
          obtain ⟨r', e', b'⟩ := kk
          have hih := hih ⟨numV x, numV y, numV z, r', e', b'⟩ (by simp only [seemD, hc]; rfl)
          refine condF rfl (condF (by simp; omega) ?_)
          refine condT rfl (bindS (c45 X hX x (by omega)) (condT rfl (bindS (c45 X hX y (by omega)) (condT rfl (bindS (c45 X hX z (by omega)) ?_)))))
          refine condP (p := acc.length + 1 ≤ 2147483648) (by omega) ?_
          rw [List.drop_zero, encL_full]
          simp only [seemD, hc]
          rw [← encL_append] at hih
          simp only [List.length_append, List.length_cons, List.length_nil] at hih
          exact hih
    · have hnone : seemD W = none := by
        unfold seemD
        split
        · simp at h5
        · rfl
      rw [hnone]
      refine condT ?_ rfl
      simp
      omega
set_option maxHeartbeats 1000000 in
theorem c18_one (s : List UInt8) (lines : List (List UInt8)) (n : Nat) (hn : lines.length = n + 1) (h1 : 1 ≤ n) (hs : n ≤ 2000) (hb : ∀ x ∈ lines, x.length ≤ 100000) (w h a e b : Int) (hp : In8 a ∧ In8 e ∧ In8 b) :
    L tab (run tab X) 18 [] [.lp [1, 1, 1, 1, 0, 1, 0]] (S18_1111010 (ba s) 0 (n + 1) ((1 : Nat) : Int) 0 0 0 0 0 (strs lines) w h a e b) = some (parsR (restD s w h a e b [] ((lines.take n).drop 1))) := by
  have hm : (maxLen : Int) = 9223372036854775807 := by decide
  have wn : IntKind.i64.wrap (((n + 1 : Nat) : Int) - 1) = (n : Int) := by rw [wrap_eq (by omega) (by omega)]; omega
  have htl : (lines.take n).length = n := by simp; omega
  by_cases hn1 : n = 1
  · refine L_of ?_
    rw [e18_1111010, wn]
    refine condNP (show ¬ ((1 : Nat) : Int) < (n : Int) by omega) ?_
    rw [List.drop_eq_nil_of_le (by omega)]
    simp only [restD, seemDs, Option.bind_some, List.append_nil]
    exact c18_fin X s ⟨w, h, a, e, b, []⟩ _ (c15n X hX w h a e b hp) (fun q _ => rfl)
  · have hlt : 1 < lines.length := by omega
    have hlt2 : 1 < (lines.take n).length := by omega
    have hg : (lines.take n)[1] = lines[1] := by simp
    have w1 : IntKind.i64.wrap (((1 : Nat) : Int) + 1) = ((2 : Nat) : Int) := by rw [wrap_eq (by omega) (by omega)]; omega
    have hx := hb lines[1] (List.getElem_mem hlt)
    have h43 := c43 X hX 32 lines[1] (by omega)
    have hwl : ∀ u ∈ splitC 32 lines[1], u.length ≤ 100000 := fun u hu => Nat.le_trans (splitC_piece hu) hx
    have hwn := splitC_length 32 lines[1]
    rw [List.drop_eq_getElem_cons hlt2, hg]
    have hrest : ∀ ls, restD s w h a e b [] (lines[1] :: ls) = match seemD (splitC 32 lines[1]) with | some d => restD s w h a e b [d] ls | none => none := by
      intro ls
      simp only [restD, seemDs]
      cases seemD (splitC 32 lines[1]) with
      | none => rfl
      | some d =>
        cases seemDs ls with
        | none => rfl
        | some ds => simp
    rw [hrest]
    have hih : ∀ d, seemD (splitC 32 lines[1]) = some d → _ := fun d hd => c18_more X hX s lines n hn hs hb w h a e b hp (n - 2) 2 [d] (by omega) (by omega) (by simp) (by simp) (by
      intro v hv
      rw [List.mem_singleton.1 hv]; exact seemD_ok hd)
    refine L_of ?_
    rw [e18_1111010, wn, w1]
    refine condP (show ((1 : Nat) : Int) < (n : Int) by omega) ?_
    simp only [condA, strs_at lines hlt]
    refine condP (show (0 : Int) ≤ ((1 : Nat) : Int) by omega) (condP (show ((1 : Nat) : Int) < ((n + 1 : Nat) : Int) by omega) ?_)
    refine bindS h43 ?_
    generalize splitC 32 lines[1] = W at *
    refine condF rfl (condT rfl ?_)
    by_cases h5 : W.length = 5
    · match W, h5 with
      | [q, x, y, z, c], _ =>
        refine condF rfl (condT rfl ?_)
        have h44 := c44 X hX c (by have := hwl c (by simp); omega)
        have hxl := hwl x (by simp)
        have hyl := hwl y (by simp)
        have hzl := hwl z (by simp)
        refine bindS h44 ?_
        cases hc : parseC c with
        | none => simp only [seemD, hc]; rfl
        | some kk =>
          obtain ⟨r', e', b'⟩ := kk
          have hih := hih ⟨numV x, numV y, numV z, r', e', b'⟩ (by simp only [seemD, hc]; rfl)
          refine condF rfl (condF rfl ?_)
          refine condT rfl (bindS (c45 X hX x (by omega)) (condT rfl (bindS (c45 X hX y (by omega)) (condT rfl (bindS (c45 X hX z (by omega)) ?_)))))
          simp only [seemD, hc]
          exact hih
    · have hnone : seemD W = none := by
        unfold seemD
        split
        · simp at h5
        · rfl
      rw [hnone]
      refine condT ?_ rfl
      simp
      omega
set_option maxHeartbeats 1000000 in
theorem c18 (s : List UInt8) (hs : s.length ≤ 1000) : run tab X 18 [.p (.str (ba s))] [] = some (parsR (docL s ((splitC 10 s).take ((splitC 10 s).length - 1)))) :=
  run_of (hX _ rfl) (by
    have hm : (maxLen : Int) = 9223372036854775807 := by decide
    have h43 := c43 X hX 10 s (by omega)
    have hlen := splitC_length 10 s
    have hne := splitC_ne 10 s
    have hb : ∀ x ∈ splitC 10 s, x.length ≤ 100000 := fun x hx => Nat.le_trans (splitC_piece hx) (by omega)
    rw [e18]
    refine bindS h43 ?_
    change cond (gtI (((strs (splitC 10 s)).length : Nat) : Int) 4100) _ (L tab (run tab X) 18 [] [.lp [1, 1, 1, 1, 0, 1, 0]] (S18_1111010 (ba s) 0 (strs (splitC 10 s)).length 0 0 0 0 0 0 (strs (splitC 10 s)) 0 0 0 0 0)) = _
    generalize splitC 10 s = lines at *
    have sl : (strs lines).length = lines.length := by simp [strs]
    rw [sl]
    refine condNP (show ¬ (((lines.length : Nat) : Int) > 4100) by omega) ?_
    obtain ⟨n, hn⟩ : ∃ n, lines.length = n + 1 := ⟨lines.length - 1, by
      have : 0 < lines.length := List.length_pos_iff.2 hne
      omega⟩
    rw [hn, Nat.add_sub_cancel]
    have wn : IntKind.i64.wrap (((n + 1 : Nat) : Int) - 1) = (n : Int) := by rw [wrap_eq (by omega) (by omega)]; omega
    have htl : (lines.take n).length = n := by simp; omega
    refine L_of ?_
    rw [e18_1111010, wn]
    by_cases hn0 : n = 0
    · refine condNP (show ¬ (0 : Int) < (n : Int) by omega) ?_
      rw [hn0, List.take_zero]
      exact c18_fin X s ⟨0, 0, 0, 0, 0, []⟩ _ (c15n X hX 0 0 0 0 0 ⟨⟨by omega, by omega⟩, ⟨by omega, by omega⟩, ⟨by omega, by omega⟩⟩) (fun q _ => rfl)
    · have hlt : 0 < lines.length := by omega
      have hlt2 : 0 < (lines.take n).length := by omega
      have hg : (lines.take n)[0] = lines[0] := by simp
      have hx := hb lines[0] (List.getElem_mem hlt)
      have h32 := c43 X hX 32 lines[0] (by omega)
      have hwl : ∀ u ∈ splitC 32 lines[0], u.length ≤ 100000 := fun u hu => Nat.le_trans (splitC_piece hu) hx
      have hone := fun w h a e b hp => c18_one X hX s lines n hn (by omega) (by omega) hb w h a e b hp
      have ht : lines.take n = lines[0] :: (lines.take n).drop 1 := by
        conv => lhs; rw [← List.drop_zero (l := lines.take n), List.drop_eq_getElem_cons hlt2, hg]
      rw [ht]
      refine condP (show (0 : Int) < (n : Int) by omega) ?_
      have hat : (((strs lines).getD (0 + (0 : Int).toNat) .nil).cell 0).toStr = ba lines[0] := strs_at lines hlt
      simp only [condA, hat]
      refine condP (show (0 : Int) ≤ 0 by omega) (condP (show (0 : Int) < ((n + 1 : Nat) : Int) by omega) ?_)
      refine bindS h32 (condT rfl ?_)
      simp only [docL]
      generalize splitC 32 lines[0] = W at *
      by_cases h4 : W.length = 4
      · match W, h4 with
        | [q, x, y, c], _ =>
          refine condF rfl (condF rfl (condT rfl ?_))
          have h44 := c44 X hX c (by have := hwl c (by simp); omega)
          have hxl := hwl x (by simp)
          have hyl := hwl y (by simp)
          refine bindS h44 ?_
          cases hc : parseC c with
          | none => simp only [seemW, hc]; rfl
          | some kk =>
            obtain ⟨r', e', b'⟩ := kk
            have hone := hone (numV x) (numV y) r' e' b' (parseC_some hc).1
            refine condF rfl (condT rfl ?_)
            refine condT rfl (bindS (c45 X hX x (by omega)) (condT rfl (bindS (c45 X hX y (by omega)) ?_)))
            simp only [seemW, hc]
            exact hone
      · have hnone : seemW W = none := by
          unfold seemW
          split
          · simp at h4
          · rfl
        rw [hnone]
        refine condT ?_ rfl
        simp
        omega)
end
theorem finD_some {s : List UInt8} {p q : Pi} (h : finD s p = some q) : p = q ∧ validP q = true ∧ textP q = s := by
  unfold finD at h
  cases hv : validP p with
  | false => rw [hv] at h; cases h
  | true =>
    rw [hv] at h
    simp only [cond_true] at h
    split at h
    · next ht => cases h; exact ⟨rfl, hv, ht⟩
    · cases h
theorem restD_some {s : List UInt8} {w h a e b : Int} {ls : List (List UInt8)} {q : Pi} (hp : In8 a ∧ In8 e ∧ In8 b) (hr : restD s w h a e b [] ls = some q) : Good q ∧ textP q = s := by
  unfold restD at hr
  cases hd : seemDs ls with
  | none => rw [hd] at hr; cases hr
  | some ds =>
    rw [hd] at hr
    obtain ⟨rfl, hv, ht⟩ := finD_some hr
    refine ⟨⟨hv, hp, fun v hv => ?_⟩, ht⟩
    have := seemDs_ok hd v (by simpa using hv)
    exact ⟨this.a, this.e, this.b⟩
theorem docL_some {s : List UInt8} {ls : List (List UInt8)} {q : Pi} (h : docL s ls = some q) : Good q ∧ textP q = s := by
  unfold docL at h
  split at h
  · obtain ⟨rfl, hv, ht⟩ := finD_some h
    exact absurd hv (by decide)
  · split at h
    · next hw => exact restD_some (seemW_ok hw) h
    · cases h
theorem seemDs_map : ∀ {ds : List Dt}, (∀ v ∈ ds, Col (v.a, v.e, v.b)) → (∀ v ∈ ds, (-8192 ≤ v.x ∧ v.x ≤ 8192) ∧ (-8192 ≤ v.y ∧ v.y ≤ 8192) ∧ (1 ≤ v.r ∧ v.r ≤ 4096)) → seemDs (ds.map dotB) = some ds
  | [], _, _ => rfl
  | d :: ds, h1, h2 => by
    have hc := h1 d (by simp)
    obtain ⟨⟨x1, x2⟩, ⟨y1, y2⟩, r1, r2⟩ := h2 d (by simp)
    have hs : seemD (splitC 32 (dotB d)) = some d := by
      unfold dotB
      rw [lineB_split hc (by decide)]
      show (parseC (colT d.a d.e d.b)).map (fun k : Int × Int × Int => (⟨numV (Lib.itoa d.x), numV (Lib.itoa d.y), numV (Lib.itoa d.r), k.1, k.2.1, k.2.2⟩ : Dt)) = some d
      rw [parseC_colT hc.1 hc.2.1 hc.2.2, numV_itoa (by omega) (by omega), numV_itoa (by omega) (by omega), numV_itoa (by omega) (by omega)]
      rfl
    rw [List.map_cons, seemDs, hs]
    simp only
    rw [seemDs_map (fun v hv => h1 v (by simp [hv])) fun v hv => h2 v (by simp [hv])]
    rfl
theorem docL_text {p : Pi} (g : Good p) : docL (textP p) (picB p :: p.d.map dotB) = some p := by
  have V := valid_iff.1 g.valid
  obtain ⟨v1, v2⟩ := V.w
  obtain ⟨v3, v4⟩ := V.h
  have hs : seemW (splitC 32 (picB p)) = some (p.w, p.h, p.a, p.e, p.b) := by
    unfold picB
    rw [lineB_split g.col (by decide)]
    show (parseC (colT p.a p.e p.b)).map (fun k : Int × Int × Int => (numV (Lib.itoa p.w), numV (Lib.itoa p.h), k.1, k.2.1, k.2.2)) = _
    rw [parseC_colT g.col.1 g.col.2.1 g.col.2.2, numV_itoa (by omega) (by omega), numV_itoa (by omega) (by omega)]
    rfl
  rw [docL, hs]
  simp only [restD]
  rw [seemDs_map g.dots V.d]
  simp only [Option.bind_some, List.nil_append, finD]
  rw [show validP ⟨p.w, p.h, p.a, p.e, p.b, p.d⟩ = true from g.valid, cond_true, if_pos trivial]
theorem splitC_snoc (c : UInt8) : ∀ m : List UInt8, splitC c (m ++ [c]) = splitC c m ++ [[]]
  | [] => by simp [splitC]
  | x :: m => by
    have ih := splitC_snoc c m
    by_cases h : x = c
    · subst h
      simp only [List.cons_append, splitC, if_pos, ih]
    · rw [List.cons_append, splitC, if_neg h, ih, splitC, if_neg h]
      cases hc : splitC c m with
      | nil => exact absurd hc (splitC_ne c m)
      | cons y l => rfl
theorem docL_parse (m : List UInt8) : docL (m ++ [10]) ((splitC 10 (m ++ [10])).take ((splitC 10 (m ++ [10])).length - 1)) = parseM m := by
  have e : (splitC 10 (m ++ [10])).take ((splitC 10 (m ++ [10])).length - 1) = splitC 10 m := by rw [splitC_snoc]; simp
  rw [e]
  cases hp : parseM m with
  | some p =>
    obtain ⟨g, hm⟩ := parse_some hp
    have hd := docL_text g
    rw [textP_eq, ← hm] at hd
    rw [← textM_split g, ← hm] at hd
    exact hd
  | none =>
    cases hd : docL (m ++ [10]) (splitC 10 m) with
    | none => rfl
    | some q =>
      obtain ⟨g, ht⟩ := docL_some hd
      rw [textP_eq] at ht
      have hm := (List.append_inj' ht rfl).1
      rw [← hm, parse_text g] at hp
      cases hp
theorem docL_bad {m : List UInt8} {x : UInt8} (hx : x ≠ 10) (ls : List (List UInt8)) : docL (m ++ [x]) ls = none := by
  cases hd : docL (m ++ [x]) ls with
  | none => rfl
  | some q =>
    obtain ⟨g, ht⟩ := docL_some hd
    rw [textP_eq] at ht
    have := (List.append_inj' ht rfl).2
    simp only [List.cons.injEq, and_true] at this
    exact absurd this.symm hx
theorem docL_nil (ls : List (List UInt8)) : docL [] ls = none := by
  cases hd : docL [] ls with
  | none => rfl
  | some q =>
    obtain ⟨g, ht⟩ := docL_some hd
    rw [textP_eq] at ht
    simp at ht
end Go.Skm.Pic
