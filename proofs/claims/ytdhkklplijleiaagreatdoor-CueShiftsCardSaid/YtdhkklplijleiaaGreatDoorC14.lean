/-
  The colour of a group at a time: the document's recursion and the program's functions come to the same; condition: the library's answers, parts in range.
-/
import Derived.Test.YtdhkklplijleiaaGreatDoorC13
namespace Go.Skm.Cue
open Go Go.Skm
theorem mixR_eq (a b : Co) (num den : Int) : mixR a.r a.e a.b b.r b.e b.b num den = ([.p (encO (mixC a b num den)), .p (.int .i64 (if fracB num den then 0 else 2))], []) := by
  unfold mixR mixC
  cases fracB num den <;> rfl
def nowV (l : List Cu) : Nat → PV
  | 0 => .fn 48 []
  | n + 1 => .fn 50 [.ref [.int .i64 (l.getD n default).t, .int .i64 (l.getD n default).f, .str (ba (l.getD n default).g), .int .u8 (l.getD n default).r, .int .u8 (l.getD n default).e, .int .u8 (l.getD n default).b],
      .ref [.int .u8 (vl l n (l.getD n default).t).r, .int .u8 (vl l n (l.getD n default).t).e, .int .u8 (vl l n (l.getD n default).t).b]]
section
variable (X : Ext) (hX : Mine X)
include hX
theorem c50 (c : Cu) (g : Good c) (s : Co) (hs : s.In) (x : Int) (h0 : 0 ≤ x) (h1 : x ≤ 3600000) :
    run tab X 50 [.p (.int .i64 x), .p (.ref [.int .i64 c.t, .int .i64 c.f, .str (ba c.g), .int .u8 c.r, .int .u8 c.e, .int .u8 c.b]), .p (.ref [.int .u8 s.r, .int .u8 s.e, .int .u8 s.b])] [] =
      some ([.p (encO (if x ≥ c.t + c.f then c.co else mixC s c.co (x - c.t) c.f))], []) := by
  obtain ⟨t1, f1, -⟩ := fineB_iff.1 g.fine
  refine run_of (hX _ rfl) ?_
  rw [e50, wrap_eq (x := c.t + c.f) (by omega) (by omega), wrap_eq (x := x - c.t) (by omega) (by omega)]
  simp only [condD]
  by_cases hx2 : x ≥ c.t + c.f
  · simp only [if_pos hx2]; rfl
  · simp only [if_neg hx2]
    refine bindS (c51 X hX (x - c.t) c.f hs.1 hs.2.1 hs.2.2 g.r g.e g.b) ?_
    rw [show mixR s.r s.e s.b c.r c.e c.b (x - c.t) c.f = _ from mixR_eq s c.co _ _]
    rfl
theorem c48 (x : Int) : run tab X 48 [.p (.int .i64 x)] [] = some ([.p (colP 0 0 0)], []) :=
  run_of (hX _ rfl) (by rw [e48])
theorem now_at {l : List Cu} (h : ∀ v ∈ l, Good v) (n : Nat) (hn : n + 1 ≤ l.length) (x : Int) (hx : (l.getD n default).t ≤ x) (h1 : x ≤ 3600000) :
    run tab X 50 [.p (.int .i64 x), .p (.ref [.int .i64 (((nowV l (n + 1)).cap 0).rcell 0).toInt, .int .i64 (((nowV l (n + 1)).cap 0).rcell 1).toInt, .str (((nowV l (n + 1)).cap 0).rcell 2).toStr, .int .u8 (((nowV l (n + 1)).cap 0).rcell 3).toInt, .int .u8 (((nowV l (n + 1)).cap 0).rcell 4).toInt, .int .u8 (((nowV l (n + 1)).cap 0).rcell 5).toInt]), .p (.ref [.int .u8 (((nowV l (n + 1)).cap 1).rcell 0).toInt, .int .u8 (((nowV l (n + 1)).cap 1).rcell 1).toInt, .int .u8 (((nowV l (n + 1)).cap 1).rcell 2).toInt])] [] =
      some ([.p (encO (vl l (n + 1) x))], []) := by
  have g := good_get h (n := n) (by omega)
  obtain ⟨t1, f1, -⟩ := fineB_iff.1 g.fine
  have e := c50 X hX (l.getD n default) g (vl l n (l.getD n default).t) (vl_in h n _ (by omega)) x (by omega) h1
  rw [vl, if_neg (by omega)]
  exact e
set_option maxHeartbeats 1000000 in
theorem c16_loop {l : List Cu} (h : ∀ v ∈ l, Good v) (hp : l.Pairwise fun a b => a.t < b.t) (hl : l.length ≤ 100000) (x : Int) (_h0 : 0 ≤ x) (h1 : x ≤ 3600000) : ∀ (n i : Nat), i + n = l.length → (∀ j, j < i → (l.getD j default).t ≤ x) →
    L tab (run tab X) 16 [] [.lp [1, 1, 1, 0, 1, 0]] (S16_111010 x (nowV l i) 0 l.length l.length i 0 0 0 (encU l)) = some ([.p (encO (vl l l.length x)), .p (.int .i64 0)], []) := by
  have srt : ∀ i j : Nat, i < j → j < l.length → (l.getD i default).t < (l.getD j default).t := by
    intro i j hij hj
    have := (List.pairwise_iff_getElem.1 hp) i j (by omega) hj hij
    simpa [List.getD_eq_getElem?_getD, hj, Nat.lt_trans hij hj] using this
  intro n
  induction n with
  | zero =>
    intro i hi hb
    have hi' : i = l.length := by omega
    refine L_of ?_
    rw [e16_111010]
    simp only [condD]
    rw [if_neg (by omega)]
    cases i with
    | zero =>
      have : l.length = 0 := by omega
      refine condT rfl ?_
      rw [c48 X hX, this]; rfl
    | succ m =>
      refine condF rfl (condT rfl ?_)
      refine bindS (now_at X hX h m (by omega) x (hb m (by omega)) h1) ?_
      rw [hi']; rfl
  | succ n ih =>
    intro i hi hb
    have hlt : i < l.length := by omega
    have g := good_get h hlt
    obtain ⟨t1, f1, -⟩ := fineB_iff.1 g.fine
    have w : IntKind.i64.wrap ((i : Int) + 1) = ((i + 1 : Nat) : Int) := by rw [wrap_eq (by omega) (by omega)]; omega
    refine L_of ?_
    rw [e16_111010]
    simp only [condD, condA, Nat.zero_add, Int.toNat_natCast, encU_t, encU_f, encU_g, encU_r, encU_e, encU_b, w]
    rw [if_pos (by omega), if_pos (by omega), if_pos (by omega)]
    by_cases hx : (l.getD i default).t > x
    · refine iteP hx ?_
      have later : vl l l.length x = vl l i x := vl_later (by omega) (fun j hj hj' => by
        by_cases e : j = i
        · rw [e]; exact hx
        · have := srt i j (by omega) hj'; omega)
      rw [later]
      cases i with
      | zero =>
        refine condT rfl ?_
        rw [c48 X hX]; rfl
      | succ m =>
        refine condF rfl (condT rfl ?_)
        refine bindS (now_at X hX h m (by omega) x (hb m (by omega)) h1) ?_
        rfl
    · refine iteN hx ?_
      have hnext := ih (i + 1) (by omega) (fun j hj => by
        by_cases e : j = i
        · rw [e]; omega
        · exact hb j (by omega))
      cases i with
      | zero =>
        refine condT rfl ?_
        rw [c48 X hX]
        exact hnext
      | succ m =>
        refine condF rfl (condT rfl ?_)
        refine bindS (now_at X hX h m (by omega) (l.getD (m + 1) default).t (by have := srt m (m + 1) (by omega) hlt; omega) t1.2) ?_
        exact hnext
theorem c16 (hT : Texts X) (l : List Cu) (ho : Oks l) (hl : l.length ≤ 100000) (g : List UInt8) (hg : g.length ≤ maxLen) (x : Int) : run tab X 16 [.p (.list true kC (encU l)), .p (.str (ba g)), .p (.int .i64 x)] [] = some (coR (valR l g x)) := by
  have hm : maxLen = 9223372036854775807 := by decide
  refine run_of (hX _ rfl) ?_
  rw [e16, c22 X hX hT.cmp l ho.nam (by omega), c46 X hX g hg, c47 X hX x, c49 X hX l hl g]
  simp only [Option.bind_some, List.headD_cons, pv_p, toBool_bool, condO, freshList_fresh, encU_length]
  unfold valR
  cases hv : validC l with
  | false => rfl
  | true =>
    cases hgn : okN g with
    | false => rfl
    | true =>
      cases hx : timeB x with
      | false => rfl
      | true =>
        simp only [timeB, decide_eq_true_eq] at hx
        have hvc := validC_iff.1 hv
        have hgood : ∀ v ∈ ofG l g, Good v := fun v hv' => goods hvc ho v (List.mem_filter.1 hv').1
        have hlen : (ofG l g).length ≤ l.length := List.length_filter_le _ _
        exact c16_loop X hX hgood (ofG_pair hvc.ups g) (by omega) x hx.1 hx.2 (ofG l g).length 0 (by omega) (fun j hj => by omega)
end
end Go.Skm.Cue
