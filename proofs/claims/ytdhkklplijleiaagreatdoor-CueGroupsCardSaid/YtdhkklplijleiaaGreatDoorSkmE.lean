/-
  A machine that runs this program's functions on pure values, and the proof that what it returns is true of the program; no condition beside the hypotheses of each.
-/
import Derived.Test.YtdhkklplijleiaaGreatDoorSkmD
import Derived.Below
import Derived.Lib.SplitLaws
import Derived.Lib.AtoiAll
import Derived.Lib.ItoaMem
import Derived.Lib.IndexBytes
import Derived.Laws.Strings
import Derived.Test.YtdhkklplijleiaaGreatDoorSkmA
import Derived.ProofKit
namespace Go.Skm
open Go.RowKit
abbrev ExtFn := List AV → List Blk → Option (List AV × List Blk)
def ExtOk1 (P : Program) (T : Tab) (gl : List (Nat × Obj)) (f : Nat) (s : ExtFn) : Prop :=
  ∀ fi args bl rs bl', tlook T.funcs f = some fi → s args bl = some (rs, bl') → (∃ c, fi.fn.body = some c) ∧ (∀ b ∈ bl, pureBlk b = true) ∧
    ∀ (w : World) (M : Nat → Prop) (β : Nat → Option (Nat × Nat)) (cargs : Array Value), (∀ p ∈ gl, M p.1 ∧ w.heap[p.1]? = some p.2) → CallPre w M β args bl cargs →
      Calls P f cargs w fun e w' => ∃ cs ps M', e = .returned (wrapV cs) ∧ CallPost gl T fi w M β bl rs bl' w' M' cs ps
def extL (l : List (Nat × ExtFn)) : Ext := fun f => tlook l f
theorem extOk_nil {P : Program} {T : Tab} {gl : List (Nat × Obj)} : ExtOk P T gl (extL []) := fun f fi s args bl rs bl' _ h => by cases h
theorem extOk_cons {P : Program} {T : Tab} {gl : List (Nat × Obj)} {f : Nat} {s : ExtFn} {l : List (Nat × ExtFn)} (h1 : ExtOk1 P T gl f s) (h2 : ExtOk P T gl (extL l)) : ExtOk P T gl (extL ((f, s) :: l)) := by
  intro g fi s' args bl rs bl' hf hX h
  unfold extL at hX
  rw [tlook] at hX
  by_cases e : f = g
  · subst e
    rw [beq_self_eq_true, cond_true] at hX
    cases hX
    exact h1 fi args bl rs bl' hf h
  · rw [show (f == g) = false from by simpa using e, cond_false] at hX
    exact h2 g fi s' args bl rs bl' hf hX h
section
variable {P : Program} {T : Tab} {gl : List (Nat × Obj)} {fi : FI} {w w' : World} {M : Nat → Prop} {β : Nat → Option (Nat × Nat)} {cargs : Array Value}
theorem cargs_one {x : PV} (h : CallPre w M β [.p x] [] cargs) : ∃ v, cargs = #[v] ∧ VR w M x v := by
  have h0 := h.args 0 _ rfl
  have hs : cargs.size = 1 := h.num
  refine ⟨cargs[0], ?_, ?_⟩
  · apply Array.ext
    · simpa using hs
    · intro i h1 h2
      have : i = 0 := by omega
      subst this; rfl
  · have e : cargs.getD 0 undef = cargs[0] := by simp [Array.getD, hs]
    rw [e] at h0
    cases h0 with
    | p _ _ hv => exact hv
theorem cargs_two {x y : PV} (h : CallPre w M β [.p x, .p y] [] cargs) : ∃ v u, cargs = #[v, u] ∧ VR w M x v ∧ VR w M y u := by
  have h0 := h.args 0 _ rfl
  have h1 := h.args 1 _ rfl
  have hs : cargs.size = 2 := h.num
  have e0 : cargs.getD 0 undef = cargs[0] := by simp [Array.getD, hs]
  have e1 : cargs.getD 1 undef = cargs[1] := by simp [Array.getD, hs]
  rw [e0] at h0
  rw [e1] at h1
  refine ⟨cargs[0], cargs[1], ?_, ?_, ?_⟩
  · apply Array.ext
    · simpa using hs
    · intro i h2 h3
      have : i = 0 ∨ i = 1 := by omega
      rcases this with rfl | rfl <;> rfl
  · cases h0 with
    | p _ _ hv => exact hv
  · cases h1 with
    | p _ _ hv => exact hv
theorem vr_int' {k : IntKind} {n : Int} {c : Value} (h : VR w M (.int k n) c) : c = .int k n := by cases h; rfl
theorem vr_str' {s : ByteArray} {c : Value} (h : VR w M (.str s) c) : c = .string s := by cases h; rfl
theorem post_grow {args : List AV} (hpre : CallPre w M β args [] cargs) (hb : Below w.heap.size w w') (hdr : DrawnLe gl w.drawn w'.drawn) {rs : List AV} {cs : List Value} {ps : List (Option (Nat × Nat))}
    (hres : ∀ M : Nat → Prop, ResL T w' M β (look (initHeap 0 [])) fi.cfg.rets fi.fn.resultTypes.toList rs cs ps) (hown : ∀ b o, some (b, o) ∈ ps → b < w'.heap.size ∧ w.heap.size ≤ b) : CallPost gl T fi w M β [] rs [] w' M cs ps := by
  refine ⟨hres M, fun b o h => ⟨fun hM => ?_, hown b o h⟩, fun _ _ => ⟨fun _ => False, fun b h => h.elim, hres _⟩, fun b h => h, fun b h => .inl h, fun b h => Nat.lt_of_lt_of_le (hpre.msub b h) hb.size, fun b h _ => hb.block b h, ?_, hb.size, hb.os, hb.tape, hb.output, hdr, rfl, ?_⟩
  · have := hpre.msub b hM
    have := (hown b o h).2
    omega
  · intro b n h hr
    obtain ⟨C, e, fr, h1, h2, h3⟩ := hr
    exact ⟨C, e, fr, by rw [hb.block b h]; exact h1, h2, h3⟩
  · intro i b0 b1 h; simp at h
theorem below_alloc {w : World} (o : Obj) : Below w.heap.size w (w.alloc o) := (Below.refl _ _).alloc (Nat.le_refl _) o
theorem resL_one {t : TypeId} {v : PV} {c : Value} {h : Nat → Option Blk} (hr : fi.cfg.rets = []) (ht : fi.fn.resultTypes = #[t]) (hs : shapeOk (shapeT T t).1 (shapeT T t).2 v = true) (hv : VR w' M v c) :
    ResL T w' M β h fi.cfg.rets fi.fn.resultTypes.toList [.p v] [c] [none] := by
  rw [hr, ht]
  exact .cons _ _ _ _ _ _ _ _ _ (.deep _ _ _ hs hv) (.nil _) (fun b o o' h => by cases h)
theorem resL_two {t u : TypeId} {v x : PV} {c d : Value} {h : Nat → Option Blk} (hr : fi.cfg.rets = []) (ht : fi.fn.resultTypes = #[t, u]) (hs : shapeOk (shapeT T t).1 (shapeT T t).2 v = true) (hv : VR w' M v c)
    (hs' : shapeOk (shapeT T u).1 (shapeT T u).2 x = true) (hv' : VR w' M x d) : ResL T w' M β h fi.cfg.rets fi.fn.resultTypes.toList [.p v, .p x] [c, d] [none, none] := by
  rw [hr, ht]
  exact .cons _ _ _ _ _ _ _ _ _ (.deep _ _ _ hs hv) (.cons _ _ _ _ _ _ _ _ _ (.deep _ _ _ hs' hv') (.nil _) (fun b o o' h => by cases h)) (fun b o o' h => by cases h)
theorem resL_fresh {t e : TypeId} {k : Kd} {xs : List PV} {vs : List Value} {el : TypeId} {n : Nat} {cap : Nat} {h : Nat → Option Blk} (hr : fi.cfg.rets = [.fresh]) (ht : fi.fn.resultTypes = #[t]) (hu : und T t = some (.slice e)) (hsh : shapeT T e = (false, [k]))
    (hlen : vs.length = xs.length) (hcap : xs.length ≤ cap) (hc2 : cap ≤ vs.length) (hw : w'.heap[n]? = some (.cells vs.toArray el (0, 0))) (hk : ∀ x ∈ xs, kindOk k x = true)
    (hv : ∀ (i : Nat) x c, xs[i]? = some x → vs[i]? = some c → x.cells = [x] ∧ VR w' M x c) :
    ResL T w' M β h fi.cfg.rets fi.fn.resultTypes.toList [.fresh false [k] xs] [.slice (some ⟨n, 0, none⟩) xs.length cap] [some (n, 0)] := by
  rw [hr, ht]
  have e1 : (shapeT T e).1 = false := by rw [hsh]
  have e2 : (shapeT T e).2 = [k] := by rw [hsh]
  have hopen : Open vs.toArray (0, 0) := .inl rfl
  refine .cons _ _ _ _ _ _ _ _ _ ?_ (.nil _) (fun b o o' _ h => by cases h)
  have key := ResR.fresh (T := T) (w := w') (M := M) (β := β) (h := h) t e xs (.slice (some ⟨n, 0, none⟩) xs.length cap) (some (n, 0)) hu
  rw [e1, e2] at key
  refine key ?_ ?_
  · by_cases h0 : xs = []
    · subst h0; exact .arrE _ _
    refine .arr false [k] xs n 0 vs.toArray el (0, 0) rfl hw (by simp; omega) hopen (fun x hx => by simpa [shapeOk] using hk x hx) fun i x j c hx hc => ?_
    have hi := (List.getElem?_eq_some_iff.1 hx).1
    have hi' : i < vs.length := by omega
    obtain ⟨h1, h2⟩ := hv i x vs[i] hx (List.getElem?_eq_getElem hi')
    rw [h1] at hc
    have hj : j = 0 := by
      have := (List.getElem?_eq_some_iff.1 hc).1
      simpa using this
    subst hj
    simp only [List.getElem?_cons_zero, Option.some.injEq] at hc
    subst hc
    have : vs.toArray.getD (0 + i * [k].length + 0) undef = vs[i] := by simp [Array.getD, hi']
    rw [this]; exact h2
  · have key2 := AR.slice (w := w') (M := M) (β := fun _ => some (n, 0)) (h := fun _ => some (.arr false [k] xs)) 0 0 xs.length false [k] xs n 0 cap rfl (by simp) rfl hcap ⟨vs.toArray, el, (0, 0), hw, by simp; omega, hopen⟩
    simpa using key2
end
end Go.Skm
namespace Go.Skm
def splitC (c : UInt8) : List UInt8 → List (List UInt8)
  | [] => [[]]
  | b :: r => if b = c then [] :: splitC c r else (match splitC c r with
    | p :: ps => (b :: p) :: ps
    | [] => [[b]])
def joinC (c : UInt8) : List (List UInt8) → List UInt8
  | [] => []
  | [p] => p
  | p :: q :: r => p ++ c :: joinC c (q :: r)
theorem splitC_ne (c : UInt8) : ∀ l, splitC c l ≠ []
  | [] => by simp [splitC]
  | b :: r => by
    unfold splitC
    split
    · simp
    · split <;> simp
theorem splitC_none {c : UInt8} : ∀ {l : List UInt8}, c ∉ l → splitC c l = [l]
  | [], _ => rfl
  | b :: r, h => by
    have h1 : b ≠ c := fun e => h (by simp [e])
    have h2 := splitC_none (c := c) (l := r) (fun e => h (List.mem_cons_of_mem _ e))
    rw [splitC, if_neg h1, h2]
theorem splitC_app {c : UInt8} (y : List UInt8) : ∀ {x : List UInt8}, c ∉ x → splitC c (x ++ c :: y) = x :: splitC c y
  | [], _ => by simp [splitC]
  | b :: r, h => by
    have h1 : b ≠ c := fun e => h (by simp [e])
    have h2 := splitC_app (c := c) y (x := r) (fun e => h (List.mem_cons_of_mem _ e))
    rw [List.cons_append]
    rw [splitC, if_neg h1, h2]
theorem joinC_splitC (c : UInt8) : ∀ l, joinC c (splitC c l) = l
  | [] => rfl
  | b :: r => by
    have ih := joinC_splitC c r
    unfold splitC
    split
    · next hb =>
      subst hb
      generalize hs : splitC b r = s at ih
      cases s with
      | nil => exact absurd hs (splitC_ne b r)
      | cons q qs => rw [joinC, ih]; rfl
    · split
      · next q qs hq =>
        rw [hq] at ih
        cases qs with
        | nil => simp only [joinC] at ih ⊢; rw [ih]
        | cons u us => simp only [joinC] at ih ⊢; rw [List.cons_append, ih]
      · next hq => exact absurd hq (splitC_ne c r)
theorem splitC_piece {c : UInt8} : ∀ {l p : List UInt8}, p ∈ splitC c l → p.length ≤ l.length
  | [], p, h => by
    simp only [splitC, List.mem_singleton] at h
    subst h; simp
  | b :: r, p, h => by
    have ih := fun q => splitC_piece (c := c) (l := r) (p := q)
    unfold splitC at h
    split at h
    · rcases List.mem_cons.1 h with rfl | h
      · simp
      · have := ih p h; simp only [List.length_cons]; omega
    · split at h
      · next q qs hq =>
        rw [hq] at ih
        rcases List.mem_cons.1 h with rfl | h
        · have := ih q (by simp); simp only [List.length_cons]; omega
        · have := ih p (by simp [h]); simp only [List.length_cons]; omega
      · next hq => exact absurd hq (splitC_ne c r)
theorem index_none {s : List UInt8} {c : UInt8} (h : Lib.index s [c] = -1) : c ∉ s := by
  rw [Lib.index_one] at h
  intro hc
  obtain ⟨i, hi⟩ := List.mem_iff_getElem?.1 hc
  exact Lib.indexByte_none h i hi
theorem index_some {s : List UInt8} {c : UInt8} {i : Nat} (h : Lib.index s [c] = i) : s = s.take i ++ c :: s.drop (i + 1) ∧ c ∉ s.take i := by
  rw [Lib.index_one] at h
  obtain ⟨h1, h2⟩ := Lib.indexByte_some h
  obtain ⟨hi, h3⟩ := List.getElem?_eq_some_iff.1 h1
  refine ⟨?_, fun hc => ?_⟩
  · have h4 := List.drop_eq_getElem_cons hi
    rw [h3] at h4
    rw [← h4, List.take_append_drop]
  · obtain ⟨j, hj⟩ := List.mem_iff_getElem?.1 hc
    rw [List.getElem?_take] at hj
    split at hj
    · next hlt => exact h2 j hlt hj
    · cases hj
theorem split_eq (c : UInt8) : ∀ (n : Nat) (s : List UInt8), s.length ≤ n → Lib.splitK [c] 0 (Lib.count s [c]) s = splitC c s := by
  intro n
  induction n with
  | zero =>
    intro s h
    have : s = [] := List.eq_nil_of_length_eq_zero (by omega)
    subst this
    have : Lib.index [] [c] = -1 := rfl
    rw [Lib.count_miss this]; rfl
  | succ n ih =>
    intro s h
    by_cases hm : Lib.index s [c] = -1
    · rw [Lib.count_miss hm, splitC_none (index_none hm)]; rfl
    · have hge := Lib.index_ge s [c]
      obtain ⟨i, hi⟩ := Int.eq_ofNat_of_zero_le (show 0 ≤ Lib.index s [c] by omega)
      obtain ⟨h1, h2⟩ := index_some hi
      have hlen : i < s.length := by
        have := congrArg List.length h1
        simp only [List.length_append, List.length_take, List.length_cons, List.length_drop] at this
        omega
      rw [Lib.count_hit (by simp) hi, Nat.add_comm, Lib.splitK]
      have hne : ¬ ((Lib.index s [c] == -1) = true) := by simpa using hm
      have e : (Lib.index s [c]).toNat = i := by omega
      rw [if_neg hne, e, Nat.add_zero]
      have hd : (s.drop (i + [c].length)).length ≤ n := by simp; omega
      rw [ih _ hd]
      conv => rhs; rw [h1]
      rw [splitC_app _ h2]; rfl
theorem splitB_eq (c : UInt8) (s : ByteArray) : Lib.splitB ⟨#[c]⟩ 0 (Lib.countB s ⟨#[c]⟩) s = (splitC c s.data.toList).map fun l => ⟨l.toArray⟩ := by
  have h := Lib.splitB_data ⟨#[c]⟩ 0 (Lib.countB s ⟨#[c]⟩) s
  have h2 := split_eq c _ s.data.toList (Nat.le_refl _)
  have e : (ByteArray.mk #[c]).data.toList = [c] := rfl
  rw [e] at h
  unfold Lib.countB at h ⊢
  rw [e] at h ⊢
  rw [h2] at h
  rw [← h, List.map_map]
  have : ∀ l : List ByteArray, l = l.map ((fun l => ByteArray.mk l.toArray) ∘ fun b => b.data.toList) := by
    intro l
    induction l with
    | nil => rfl
    | cons b l ih => rw [List.map_cons, ← ih]; rfl
  exact this _
theorem digit_toNat {k : Nat} (h : k < 10) : (UInt8.ofNat (48 + k)).toNat = 48 + k := by
  rw [UInt8.toNat_ofNat']; omega
theorem decDigits_digit {u : Nat} : ∀ b ∈ Lib.decDigits u, 48 ≤ b.toNat ∧ b.toNat ≤ 57 := by
  induction u using Nat.strongRecOn with
  | ind u ih =>
    intro b hb
    rw [Lib.decDigits] at hb
    split at hb
    · next h =>
      simp only [List.mem_singleton] at hb
      subst hb
      rw [digit_toNat h]; omega
    · next h =>
      rcases List.mem_append.1 hb with hb | hb
      · exact ih (u / 10) (by omega) b hb
      · simp only [List.mem_singleton] at hb
        subst hb
        rw [digit_toNat (by omega)]; omega
theorem decDigits_ne (u : Nat) : Lib.decDigits u ≠ [] := by
  rw [Lib.decDigits]
  split <;> simp
theorem decDigits_len (u : Nat) : (Lib.decDigits u).length ≤ u + 1 := by
  induction u using Nat.strongRecOn with
  | ind u ih =>
    rw [Lib.decDigits]
    split
    · simp
    · have := ih (u / 10) (by omega)
      simp only [List.length_append, List.length_cons, List.length_nil]; omega
theorem decDigits_split {u : Nat} (h : 10 ≤ u) : Lib.decDigits u = Lib.decDigits (u / 10) ++ Lib.decDigits (u % 10) := by
  conv => lhs; rw [Lib.decDigits]
  rw [dif_neg (by omega)]
  congr 1
  rw [Lib.decDigits, dif_pos (by omega)]
theorem parseUint_app : ∀ (xs ys : List UInt8) (acc a : Nat), Lib.parseUint10 acc xs = .ok a → Lib.parseUint10 acc (xs ++ ys) = Lib.parseUint10 a ys
  | [], ys, acc, a, h => by
    simp only [Lib.parseUint10] at h
    injection h with h
    subst h; rfl
  | c :: r, ys, acc, a, h => by
    simp only [Lib.parseUint10, List.cons_append] at h ⊢
    split at h
    · next h1 =>
      rw [if_pos h1]
      split at h
      · cases h
      · next h2 =>
        rw [if_neg h2]
        split at h
        · cases h
        · next h3 => rw [if_neg h3]; exact parseUint_app r ys _ a h
    · cases h
theorem parseUint_dec {u : Nat} : u < 18446744073709551616 → Lib.parseUint10 0 (Lib.decDigits u) = .ok u := by
  induction u using Nat.strongRecOn with
  | ind u ih =>
    intro hu
    rw [Lib.decDigits]
    split
    · next h =>
      simp only [Lib.parseUint10, digit_toNat h]
      rw [if_pos (by omega), if_neg (by omega), if_neg (by omega)]
      congr 1; omega
    · next h =>
      rw [parseUint_app _ _ _ _ (ih (u / 10) (by omega) (by omega))]
      simp only [Lib.parseUint10, digit_toNat (show u % 10 < 10 by omega)]
      rw [if_pos (by omega), if_neg (by omega), if_neg (by omega)]
      congr 1; omega
theorem parseMag_dec {u : Nat} (hu : u < 18446744073709551616) : Lib.parseMag (Lib.decDigits u) = .ok u := by
  unfold Lib.parseMag
  rw [if_neg (decDigits_ne u), parseUint_dec hu]
theorem atoi_itoa {n : Int} (h0 : -9223372036854775808 ≤ n) (h1 : n ≤ 9223372036854775807) : Lib.atoiAll (Lib.itoa n) = .ok n := by
  unfold Lib.itoa
  split
  · next h =>
    unfold Lib.atoiAll
    simp only
    have e : (45 : UInt8).toNat = 45 := rfl
    rw [if_pos (Or.inr e), parseMag_dec (by omega)]
    simp only [e, not_true, false_and, if_false, true_and, if_true]
    rw [if_neg (by omega)]
    congr 1; omega
  · next h =>
    have hd := decDigits_digit (u := n.toNat)
    have hp := parseMag_dec (u := n.toNat) (by omega)
    generalize hl : Lib.decDigits n.toNat = l at hd hp
    cases l with
    | nil => exact absurd hl (decDigits_ne _)
    | cons c r =>
      have hc := hd c (by simp)
      have e1 : ¬ (c.toNat = 43 ∨ c.toNat = 45) := by omega
      have e2 : ¬ c.toNat = 45 := by omega
      unfold Lib.atoiAll
      simp only
      rw [if_neg e1, hp]
      simp only [e2, not_false_eq_true, true_and, false_and, if_false]
      rw [if_neg (by omega)]
      congr 1; omega
def numOf (w : List UInt8) : Option Int := match Lib.atoiAll w with
  | .ok v => if Lib.itoa v = w then some v else none
  | _ => none
theorem numOf_itoa {n : Int} (h0 : -9223372036854775808 ≤ n) (h1 : n ≤ 9223372036854775807) : numOf (Lib.itoa n) = some n := by
  unfold numOf
  rw [atoi_itoa h0 h1]
  simp
theorem itoa_inj {a b : Int} (ha0 : -9223372036854775808 ≤ a) (ha1 : a ≤ 9223372036854775807) (hb0 : -9223372036854775808 ≤ b) (hb1 : b ≤ 9223372036854775807) (h : Lib.itoa a = Lib.itoa b) : a = b := by
  have h1 := numOf_itoa ha0 ha1
  rw [h, numOf_itoa hb0 hb1] at h1
  exact (Option.some.inj h1).symm
theorem itoa_byte {n : Int} : ∀ b ∈ Lib.itoa n, b.toNat = 45 ∨ (48 ≤ b.toNat ∧ b.toNat ≤ 57) := by
  intro b hb
  unfold Lib.itoa at hb
  split at hb
  · rcases List.mem_cons.1 hb with rfl | hb
    · exact .inl rfl
    · exact .inr (decDigits_digit b hb)
  · exact .inr (decDigits_digit b hb)
theorem itoa_nat {n : Int} (h : 0 ≤ n) : Lib.itoa n = Lib.decDigits n.toNat := by
  unfold Lib.itoa
  rw [if_neg (by omega)]
theorem ba_eq {a b : ByteArray} : a = b ↔ a.data.toList = b.data.toList := by
  constructor
  · rintro rfl; rfl
  · intro h
    cases a with | mk a => cases b with | mk b =>
      simp only at h
      rw [show a = b from by rw [← Array.toArray_toList (xs := a), h, Array.toArray_toList]]
theorem ba_beq (a b : ByteArray) : (a.toList == b.toList) = decide (a = b) := by
  rw [ByteArray.toList_eq, ByteArray.toList_eq]
  by_cases h : a = b
  · subst h; simp
  · have : a.data.toList ≠ b.data.toList := fun e => h (ba_eq.2 e)
    rw [show (a.data.toList == b.data.toList) = false from by simpa using this, show decide (a = b) = false from by simpa using h]
def ba (l : List UInt8) : ByteArray := ⟨l.toArray⟩
@[simp] theorem ba_data (l : List UInt8) : (ba l).data.toList = l := rfl
theorem ba_of (s : ByteArray) : ba s.data.toList = s := ba_eq.2 rfl
theorem ba_size (l : List UInt8) : (ba l).size = l.length := rfl
theorem ba_inj {x y : List UInt8} : ba x = ba y ↔ x = y := by rw [ba_eq]; simp
def atoiR (l : List UInt8) : List AV := match Lib.atoiAll l with
  | .ok v => [.p (.int .i64 v), .p .nilif]
  | .range => [.p (.int .i64 (Lib.atoiSat l)), .p .ifc]
  | _ => [.p (.int .i64 0), .p .ifc]
section
variable {α β γ : Type}
theorem bindS {o : Option β} {r : β} {f : β → Option γ} {x : Option γ} (h : o = some r) (h2 : f r = x) : o.bind f = x := by rw [h]; exact h2
theorem condT {c : Bool} {a b x : α} (h : c = true) (h2 : a = x) : cond c a b = x := by rw [h]; exact h2
theorem condF {c : Bool} {a b x : α} (h : c = false) (h2 : b = x) : cond c a b = x := by rw [h]; exact h2
theorem condP {p : Prop} {i : Decidable p} {a b x : α} (h : p) (h2 : a = x) : cond (@decide p i) a b = x := by rw [decide_eq_true h]; exact h2
theorem iteP {p : Prop} {i : Decidable p} {a b x : α} (h : p) (h2 : a = x) : @ite α p i a b = x := by rw [if_pos h]; exact h2
theorem iteN {p : Prop} {i : Decidable p} {a b x : α} (h : ¬ p) (h2 : b = x) : @ite α p i a b = x := by rw [if_neg h]; exact h2
theorem condNP {p : Prop} {i : Decidable p} {a b x : α} (h : ¬ p) (h2 : b = x) : cond (@decide p i) a b = x := by rw [decide_eq_false h]; exact h2
end
end Go.Skm
namespace Go.Skm
open Go.ChangeShapes Go.WideShapes
mutual
def PV.wf : PV → Prop
  | .int k n => (Lit.int k n).wf = true
  | .str s => s.size ≤ maxLen
  | .list _ _ xs => xs.length ≤ maxLen ∧ PV.wfs xs
  | .agg cs => PV.wfs cs
  | .nil => False
  | _ => True
def PV.wfs : List PV → Prop
  | [] => True
  | v :: r => PV.wf v ∧ PV.wfs r
end
theorem wfs_mem : ∀ {l : List PV}, PV.wfs l ↔ ∀ v ∈ l, v.wf
  | [] => by simp [PV.wfs]
  | v :: r => by simp [PV.wfs, wfs_mem]
section
variable (P : Program)
def argT : Nat → TypeId → Bool
  | 0, _ => false
  | n + 1, t =>
    match P.underlying t with
    | some (.int _) => Nat.beq (P.cellsOf t) 1
    | some .bool => Nat.beq (P.cellsOf t) 1
    | some .string => Nat.beq (P.cellsOf t) 1
    | some (.slice e) => argT n e && (Nat.blt 0 (P.cellsOf e) && Nat.beq (P.cellsOf t) 1)
    | some (.struct fs) => go n 0 fs.toList && Nat.beq (P.cellsOf t) (sum fs.toList)
    | some (.array m e) => argT n e && Nat.beq (P.cellsOf t) (m * P.cellsOf e)
    | _ => false
where
  go (n : Nat) : Nat → List Field → Bool
  | _, [] => true
  | o, f :: r => f.offset == o && (argT n f.type && go n (o + P.cellsOf f.type) r)
  sum : List Field → Nat
  | [] => 0
  | f :: r => P.cellsOf f.type + sum r
end
section
variable {H : Type} {enc : TypeId × Value → H} {P : Program} {w : World} {base : Nat} {sp : Nat → Bool} {held : Bool} {M : Nat → Prop}
theorem argT_len : ∀ {n : Nat} {t : TypeId}, argT P n t = true → (shapeP P n t).2.length = P.cellsOf t
  | 0, t, h => by simp [argT] at h
  | n + 1, t, h => by
    unfold argT at h
    unfold shapeP
    split at h
    · rename_i k hu; rw [hu]; simpa using (Nat.eq_of_beq_eq_true h).symm
    · rename_i hu; rw [hu]; simpa using (Nat.eq_of_beq_eq_true h).symm
    · rename_i hu; rw [hu]; simpa using (Nat.eq_of_beq_eq_true h).symm
    · rename_i e hu
      rw [hu]
      simp only [Bool.and_eq_true] at h
      simpa using (Nat.eq_of_beq_eq_true h.2.2).symm
    · rename_i fs hu
      rw [hu]
      simp only [Bool.and_eq_true] at h
      rw [Nat.eq_of_beq_eq_true h.2]
      have : ∀ (l : List Field) (o : Nat), argT.go P n o l = true → (l.flatMap fun f => (shapeP P n f.type).2).length = argT.sum P l := by
        intro l
        induction l with
        | nil => intro o _; rfl
        | cons f r ih =>
          intro o h
          simp only [argT.go, Bool.and_eq_true] at h
          simp only [List.flatMap_cons, List.length_append, argT.sum, argT_len h.2.1, ih _ h.2.2]
      exact this _ _ h.1
    · rename_i m e hu
      rw [hu]
      simp only [Bool.and_eq_true] at h
      simp only [List.length_flatten, List.map_replicate, List.sum_replicate_nat, argT_len h.1]
      exact (Nat.eq_of_beq_eq_true h.2).symm
    · cases h
def ArgR (w : World) (M : Nat → Prop) (ks : List Kd) (cs : List Value) (ps : List PV) : Prop :=
  kindsOk ks ps = true ∧ ps.length = cs.length ∧ (∀ (i : Nat) (p : PV), ps[i]? = some p → VR w M p (cs.getD i undef)) ∧ PV.wfs ps
theorem kindsOk_append : ∀ {k1 k2 : List Kd} {p1 p2 : List PV}, kindsOk k1 p1 = true → kindsOk k2 p2 = true → kindsOk (k1 ++ k2) (p1 ++ p2) = true
  | [], k2, [], p2, _, h => h
  | k :: k1, k2, v :: p1, p2, h1, h2 => by
    simp only [kindsOk, Bool.and_eq_true] at h1
    simp only [List.cons_append, kindsOk, Bool.and_eq_true]
    exact ⟨h1.1, kindsOk_append h1.2 h2⟩
  | [], _, _ :: _, _, h, _ => by simp [kindsOk] at h
  | _ :: _, _, [], _, h, _ => by simp [kindsOk] at h
theorem ArgR.append {k1 k2 : List Kd} {c1 c2 : List Value} {p1 p2 : List PV} (h1 : ArgR w M k1 c1 p1) (h2 : ArgR w M k2 c2 p2) : ArgR w M (k1 ++ k2) (c1 ++ c2) (p1 ++ p2) := by
  refine ⟨kindsOk_append h1.1 h2.1, by simp [h1.2.1, h2.2.1], fun i p hp => ?_, ?_⟩
  · by_cases hi : i < p1.length
    · rw [List.getElem?_append_left hi] at hp
      have := h1.2.2.1 i p hp
      rw [List.getD_eq_getElem?_getD] at this ⊢
      rwa [List.getElem?_append_left (by rw [← h1.2.1]; exact hi)]
    · rw [List.getElem?_append_right (by omega)] at hp
      have := h2.2.2.1 _ p hp
      rw [List.getD_eq_getElem?_getD] at this ⊢
      rwa [List.getElem?_append_right (by rw [← h1.2.1]; omega), ← h1.2.1]
  · rw [wfs_mem] at *
    have a := wfs_mem.1 h1.2.2.2
    have b := wfs_mem.1 h2.2.2.2
    intro v hv
    rcases List.mem_append.1 hv with hv | hv
    · exact a v hv
    · exact b v hv
def elemPV (a : Bool) (ps : List PV) : PV := match a with | true => .agg ps | false => ps.headD .nil
theorem shapeP_one {n : Nat} {t : TypeId} (h : argT P n t = true) (ha : (shapeP P n t).1 = false) : (shapeP P n t).2.length = 1 := by
  cases n with
  | zero => simp [argT] at h
  | succ n =>
    unfold argT at h
    unfold shapeP at ha ⊢
    split at h <;> rename_i hu <;> first | (simp only [hu] at ha ⊢; done) | skip
    all_goals (try (simp only [hu] at ha ⊢; rfl))
    all_goals (simp only [hu] at ha)
    all_goals (cases ha)
theorem arg_elem_ok {n : Nat} {t : TypeId} {cs : List Value} {ps : List PV} (h : argT P n t = true) (hc : ArgR w M (shapeP P n t).2 cs ps) :
    shapeOk (shapeP P n t).1 (shapeP P n t).2 (elemPV (shapeP P n t).1 ps) = true ∧ (elemPV (shapeP P n t).1 ps).cells = ps ∧ (elemPV (shapeP P n t).1 ps).wf := by
  cases ha : (shapeP P n t).1 with
  | true => exact ⟨hc.1, rfl, by simp only [elemPV, PV.wf]; exact hc.2.2.2⟩
  | false =>
    have h1 := shapeP_one h ha
    have hk := hc.1
    match hks : (shapeP P n t).2, h1, hk with
    | [k], _, hk =>
      match ps, hk, hc with
      | [p], hk, hc =>
        simp only [kindsOk, Bool.and_true] at hk
        have hl := kindOk_leaf hk
        refine ⟨hk, ?_, ?_⟩
        · simp only [elemPV, List.headD_cons]
          cases p <;> first | rfl | simp [PV.leaf] at hl
        · exact (wfs_mem.1 hc.2.2.2) p (by simp)
      | [], hk, _ => simp [kindsOk] at hk
      | _ :: _ :: _, hk, _ => simp [kindsOk] at hk
theorem spot_of_cells {a : Addr} {n i : Nat} {v : Value} (h : w.cell? (a.add i) = some v) (hi : i < n) (h0 : i = 0) : a.spot = none := by
  subst h0
  simp only [Addr.add, if_true] at h
  unfold World.cell? at h
  split at h
  · cases hs : a.spot with
    | none => rfl
    | some s => rw [hs] at h; simp at h
  · cases h
theorem cells?_get {a : Addr} {n : Nat} {cs : List Value} (h : w.cells? base a n = some cs) : cs.length = n ∧ ∀ i, i < n → ∃ v, cs[i]? = some v ∧ w.cell? (a.add i) = some v := by
  unfold World.cells? at h
  split at h
  · have hl := mapM_some_length h
    simp at hl
    refine ⟨hl, fun i hi => ?_⟩
    have := mapM_some_get h i i (by simp [hi])
    have hlt : i < cs.length := by omega
    rw [List.getElem?_eq_getElem hlt] at this
    exact ⟨cs[i], by simp, this⟩
  · cases h
theorem trod_pure (hM : ∀ b, b < w.heap.size → M b) : ∀ (fuel n : Nat) (t : TypeId) (cs : List Value) (x : DataW H × List MemPlace), DataW.trod enc P w base sp held fuel t cs = some x → argT P n t = true → ∃ ps, ArgR w M (shapeP P n t).2 cs ps := by
  intro fuel
  induction fuel with
  | zero => intro n t cs x h; simp [DataW.trod] at h
  | succ fuel ih =>
    intro n t cs x h ha
    cases n with
    | zero => simp [argT] at ha
    | succ n =>
      unfold argT at ha
      have one : ∀ (k : Kd) (p : PV) (v : Value), kindOk k p = true → VR w M p v → p.wf → ArgR w M [k] [v] [p] := by
        intro k p v h1 h2 h3
        refine ⟨by simp [kindsOk, h1], rfl, fun i q hq => ?_, by simp [PV.wfs, h3]⟩
        cases i with
        | zero => simp at hq; subst hq; simpa using h2
        | succ i => simp at hq
      split at ha
      · rename_i k hu
        obtain ⟨m, rfl, _, hw⟩ := DataW.trod_int hu h
        have e : (shapeP P (n + 1) t).2 = [.int k] := by (conv => lhs; unfold shapeP); rw [hu]
        rw [e]
        exact ⟨_, one _ (.int k m) _ (by simp [kindOk]) (.int k m) hw⟩
      · rename_i hu
        obtain ⟨b, rfl, _⟩ := DataW.trod_bool hu h
        have e : (shapeP P (n + 1) t).2 = [.bool] := by (conv => lhs; unfold shapeP); rw [hu]
        rw [e]
        exact ⟨_, one _ (.bool b) _ rfl (.bool b) trivial⟩
      · rename_i hu
        obtain ⟨s, rfl, _, hw⟩ := DataW.trod_string hu h
        have e : (shapeP P (n + 1) t).2 = [.str] := by (conv => lhs; unfold shapeP); rw [hu]
        rw [e]
        exact ⟨_, one _ (.str s) _ rfl (.str s) hw⟩
      · -- a slice
        rename_i e hu
        simp only [Bool.and_eq_true] at ha
        have es : (shapeP P (n + 1) t).2 = [.slice (shapeP P n e).1 (shapeP P n e).2] := by (conv => lhs; unfold shapeP); rw [hu]
        rw [es]
        have hpos : 0 < P.cellsOf e := Nat.le_of_ble_eq_true ha.2.1
        have hlen := argT_len ha.1
        rcases DataW.trod_slice hu h with ⟨rfl, _⟩ | ⟨a, len, cap, elems, rest, m, hm, rfl, _, hb, hlc, hcm, hel, hget, _, _⟩
        · exact ⟨_, one _ (.list (shapeP P n e).1 (shapeP P n e).2 []) _ (by simp [kindOk, Kd.beqs_refl]) (.listE _ _ none 0) (by simp [PV.wf, PV.wfs])⟩
        · cases hm
          have good : ∀ i, i < len → ∃ (ps : List PV) (csi : List Value), w.cells? base (a.add (i * P.cellsOf e)) (P.cellsOf e) = some csi ∧ ArgR w M (shapeP P n e).2 csi ps := by
            intro i hi
            have h1 := hget i hi
            rw [List.getElem?_eq_getElem (by omega)] at h1
            simp only [Option.bind_eq_some_iff] at h1
            obtain ⟨csi, h2, h3⟩ := h1
            obtain ⟨ps, h4⟩ := ih n e csi _ h3 ha.1
            exact ⟨ps, csi, h2, h4⟩
          by_cases h0 : len = 0
          · subst h0
            exact ⟨_, one _ (.list (shapeP P n e).1 (shapeP P n e).2 []) _ (by simp [kindOk, Kd.beqs_refl]) (.listE _ _ (some a) cap) (by simp [PV.wf, PV.wfs])⟩
          · have hspot : a.spot = none := by
              obtain ⟨ps, csi, h2, _⟩ := good 0 (by omega)
              obtain ⟨_, h3⟩ := cells?_get h2
              obtain ⟨v, _, h4⟩ := h3 0 hpos
              simp only [Nat.zero_mul] at h4
              have e0 : a.add 0 = a := by simp [Addr.add]
              rw [e0] at h4
              exact spot_of_cells h4 hpos rfl
            have addr : ∀ i j, (a.add (i * P.cellsOf e)).add j = ⟨a.block, a.off + i * P.cellsOf e + j, none⟩ := by
              intro i j
              obtain ⟨ab, ao, as⟩ := a
              simp only at hspot
              subst hspot
              unfold Addr.add
              by_cases h1 : i * P.cellsOf e = 0 <;> by_cases h2 : j = 0 <;> simp [h1, h2]
            have hex : ∃ (f : Nat → List PV) (g : Nat → List Value), ∀ i, i < len → w.cells? base (a.add (i * P.cellsOf e)) (P.cellsOf e) = some (g i) ∧ ArgR w M (shapeP P n e).2 (g i) (f i) :=
              ⟨fun i => if h : i < len then (good i h).choose else [], fun i => if h : i < len then (good i h).choose_spec.choose else [], fun i hi => by
                simp only [dif_pos hi]; exact (good i hi).choose_spec.choose_spec⟩
            obtain ⟨f, g, hfg⟩ := hex
            have hblk : a.block < w.heap.size := by
              obtain ⟨h2, _⟩ := hfg 0 (by omega)
              obtain ⟨_, h3⟩ := cells?_get h2
              obtain ⟨v, _, h4⟩ := h3 0 hpos
              rw [addr] at h4
              unfold World.cell? at h4
              simp only at h4
              rcases Nat.lt_or_ge a.block w.heap.size with h' | h'
              · exact h'
              · rw [Array.getElem?_eq_none h'] at h4; cases h4
            have hxs : ∀ (i : Nat) (x : PV), ((List.range len).map fun i => elemPV (shapeP P n e).1 (f i))[i]? = some x → i < len ∧ x = elemPV (shapeP P n e).1 (f i) := by
              intro i x hx
              simp only [List.getElem?_map, Option.map_eq_some_iff] at hx
              obtain ⟨j, hj, rfl⟩ := hx
              have hi : i < len := by simpa using (List.getElem?_eq_some_iff.1 hj).1
              rw [List.getElem?_range hi] at hj
              cases hj
              exact ⟨hi, rfl⟩
            refine ⟨[.list (shapeP P n e).1 (shapeP P n e).2 ((List.range len).map fun i => elemPV (shapeP P n e).1 (f i))], one _ _ _ (by simp [kindOk, Kd.beqs_refl]) ?_ ?_⟩
            · have := VR.list (w := w) (M := M) (shapeP P n e).1 (shapeP P n e).2 ((List.range len).map fun i => elemPV (shapeP P n e).1 (f i)) a.block a.off cap (fun i j => (g i).getD j undef) (hM _ hblk) (by simpa using hlc)
                (fun i x j c hx hj => by
                  obtain ⟨hi, rfl⟩ := hxs i x hx
                  obtain ⟨h2, h3⟩ := hfg i hi
                  rw [(arg_elem_ok ha.1 h3).2.1] at hj
                  obtain ⟨hl, h4⟩ := cells?_get h2
                  have hjl : j < P.cellsOf e := by
                    have := (List.getElem?_eq_some_iff.1 hj).1
                    rw [h3.2.1, hl] at this; exact this
                  obtain ⟨v, h5, h6⟩ := h4 j hjl
                  rw [addr] at h6
                  rw [hlen, h6, List.getD_eq_getElem?_getD, h5]; rfl)
                (fun i x j c hx hj => by
                  obtain ⟨hi, rfl⟩ := hxs i x hx
                  obtain ⟨h2, h3⟩ := hfg i hi
                  rw [(arg_elem_ok ha.1 h3).2.1] at hj
                  exact h3.2.2.1 j c hj)
                (fun x hx => by
                  obtain ⟨i, hi⟩ := List.mem_iff_getElem?.1 hx
                  obtain ⟨hi', rfl⟩ := hxs i x hi
                  exact (arg_elem_ok ha.1 (hfg i hi').2).1)
              have ea : a = ⟨a.block, a.off, none⟩ := by cases a; simp at hspot; simp [hspot]
              rw [List.length_map, List.length_range] at this
              rw [ea]; exact this
            · refine ⟨by simpa using Nat.le_trans hlc hcm, wfs_mem.2 fun x hx => ?_⟩
              obtain ⟨i, hi⟩ := List.mem_iff_getElem?.1 hx
              obtain ⟨hi', rfl⟩ := hxs i x hi
              exact (arg_elem_ok ha.1 (hfg i hi').2).2.2
      · -- a struct
        rename_i fs hu
        simp only [Bool.and_eq_true] at ha
        have es : (shapeP P (n + 1) t).2 = fs.toList.flatMap fun f => (shapeP P n f.type).2 := by (conv => lhs; unfold shapeP); rw [hu]
        rw [es]
        obtain ⟨xs, m, hm, _, hl, hxl, hget⟩ := DataW.trod_struct hu h
        cases hm
        have htot := Nat.eq_of_beq_eq_true ha.2
        have key : ∀ (l : List Field) (o : Nat), argT.go P n o l = true → (∀ f ∈ l, ∃ y, DataW.trod enc P w base sp held fuel f.type ((cs.drop f.offset).take (P.cellsOf f.type)) = some y) → o + argT.sum P l = cs.length →
            ∃ ps, ArgR w M (l.flatMap fun f => (shapeP P n f.type).2) (cs.drop o) ps := by
          intro l
          induction l with
          | nil =>
            intro o _ _ ho
            simp only [argT.sum, Nat.add_zero] at ho
            refine ⟨[], rfl, ?_, fun i p h => by simp at h, trivial⟩
            simp [ho]
          | cons f r ihl =>
            intro o hg hm ho
            simp only [argT.go, Bool.and_eq_true, beq_iff_eq] at hg
            obtain ⟨hoff, hf, hr⟩ := hg
            obtain ⟨y, hy⟩ := hm f (by simp)
            rw [hoff] at hy
            obtain ⟨p1, h1⟩ := ih n f.type _ y hy hf
            simp only [argT.sum] at ho
            obtain ⟨p2, h2⟩ := ihl (o + P.cellsOf f.type) hr (fun g hg => hm g (by simp [hg])) (by omega)
            refine ⟨p1 ++ p2, ?_⟩
            have := h1.append h2
            rw [← List.drop_drop] at this
            rwa [List.take_append_drop] at this
        obtain ⟨ps, hps⟩ := key fs.toList 0 ha.1 (fun f hf => by
          obtain ⟨i, hi⟩ := List.mem_iff_getElem?.1 hf
          have hi' : fs[i]? = some f := by simpa using hi
          have hlt : i < xs.length := by rw [hxl]; exact (Array.getElem?_eq_some_iff.1 hi').1
          exact ⟨xs[i], by rw [hget i f hi', List.getElem?_eq_getElem hlt]⟩) (by rw [Nat.zero_add, hl, htot])
        exact ⟨ps, by simpa using hps⟩
      · -- an array
        rename_i m e hu
        simp only [Bool.and_eq_true] at ha
        have es : (shapeP P (n + 1) t).2 = (List.replicate m (shapeP P n e).2).flatten := by (conv => lhs; unfold shapeP); rw [hu]
        rw [es]
        have h' : (if cs.length = P.cellsOf t then ((List.range m).mapM fun i => DataW.trod enc P w base sp held fuel e ((cs.drop (i * P.cellsOf e)).take (P.cellsOf e))).map fun xs => ((.agg (xs.map (·.1)) : DataW H), xs.flatMap (·.2)) else none) = some x := by
          rw [← h, DataW.trod_step]
          unfold DataW.trodStep
          rw [hu]
        clear h
        split at h'
        · rename_i hl
          simp only [Option.map_eq_some_iff] at h'
          obtain ⟨xs, hxs, rfl⟩ := h'
          have htot := Nat.eq_of_beq_eq_true ha.2
          have hel : ∀ i, i < m → ∃ ps, ArgR w M (shapeP P n e).2 ((cs.drop (i * P.cellsOf e)).take (P.cellsOf e)) ps := by
            intro i hi
            have h1 := mapM_some_get hxs i i (by simp [hi])
            have hl := mapM_some_length hxs
            simp at hl
            rw [List.getElem?_eq_getElem (by omega)] at h1
            exact ih n e _ _ h1 ha.1
          have key : ∀ (k : Nat), k ≤ m → ∃ ps, ArgR w M (List.replicate k (shapeP P n e).2).flatten (cs.drop ((m - k) * P.cellsOf e)) ps := by
            intro k
            induction k with
            | zero =>
              intro _
              refine ⟨[], rfl, ?_, fun i p h => by simp at h, trivial⟩
              simp [hl, htot]
            | succ k ihk =>
              intro hk
              obtain ⟨p2, h2⟩ := ihk (by omega)
              obtain ⟨p1, h1⟩ := hel (m - (k + 1)) (by omega)
              refine ⟨p1 ++ p2, ?_⟩
              have := h1.append h2
              rw [List.replicate_succ, List.flatten_cons]
              have e1 : m - k = m - (k + 1) + 1 := by omega
              rw [e1, Nat.add_mul, Nat.one_mul, ← List.drop_drop, List.take_append_drop] at this
              exact this
          obtain ⟨ps, hps⟩ := key m (Nat.le_refl m)
          exact ⟨ps, by simpa using hps⟩
        · cases h'
      · cases ha
theorem sameAt_of {w w' : World} (hb : ∀ b, b < w.heap.size → w'.heap[b]? = w.heap[b]?) {p : MemPlace} (hp : p.block < w.heap.size) : w.sameAt w' p := by
  cases p with
  | cell b off => simp only [World.sameAt, World.cell?]; rw [hb b hp]
  | map b => exact hb b hp
theorem trod_spare : ∀ (fuel n : Nat) (t : TypeId) (cs : List Value) (x : DataW H × List MemPlace), DataW.trod enc P w base (fun _ => true) held fuel t cs = some x → argT P n t = true → (∀ p ∈ x.2, sp p.block = true) → DataW.trod enc P w base sp held fuel t cs = some x := by
  intro fuel
  induction fuel with
  | zero => intro n t cs x h; simp [DataW.trod] at h
  | succ fuel ih =>
    intro n t cs x h ha hs
    cases n with
    | zero => simp [argT] at ha
    | succ n =>
      unfold argT at ha
      split at ha
      · rename_i k hu
        obtain ⟨m, rfl, rfl, hw⟩ := DataW.trod_int hu h
        rw [DataW.trod_step]; simp [DataW.trodStep, hu, hw]
      · rename_i hu
        obtain ⟨b, rfl, rfl⟩ := DataW.trod_bool hu h
        rw [DataW.trod_step]; simp [DataW.trodStep, hu]
      · rename_i hu
        obtain ⟨s, rfl, rfl, hw⟩ := DataW.trod_string hu h
        rw [DataW.trod_step]; simp [DataW.trodStep, hu, hw]
      · rename_i e hu
        simp only [Bool.and_eq_true] at ha
        have hpos : 0 < P.cellsOf e := Nat.le_of_ble_eq_true ha.2.1
        rcases DataW.trod_slice hu h with ⟨rfl, rfl⟩ | ⟨a, len, cap, elems, rest, m, hm, rfl, rfl, hb, hlc, hcm, hel, hget, hrest, _⟩
        · rw [DataW.trod_step]; simp [DataW.trodStep, hu]
        · cases hm
          obtain ⟨hrl, hrg⟩ := hrest rfl
          rw [DataW.trod_step] at h ⊢
          unfold DataW.trodStep at h ⊢
          rw [hu] at h ⊢
          simp only [hb, hlc, hcm, and_self, if_true, Option.bind_eq_some_iff, Option.map_eq_some_iff] at h ⊢
          obtain ⟨el, he, rs, hr, hd⟩ := h
          have hall : ∀ y ∈ el ++ rs, ∀ p ∈ y.2, sp p.block = true := by
            intro y hy p hp
            refine hs p ?_
            rw [← (Prod.mk.inj hd).2]
            exact List.mem_append.2 (.inr (List.mem_flatMap.2 ⟨y, hy, hp⟩))
          refine ⟨el, mapM_carry he fun i y hi hy hf => ?_, rs, ?_, hd⟩
          · simp only [Option.bind_eq_some_iff] at hf ⊢
            obtain ⟨cs', h1, h2⟩ := hf
            exact ⟨cs', h1, ih n e cs' y h2 ha.1 (hall y (by simp [hy]))⟩
          · split
            · refine mapM_carry hr fun i y hi hy hf => ?_
              simp only [Option.bind_eq_some_iff] at hf ⊢
              obtain ⟨cs', h1, h2⟩ := hf
              exact ⟨cs', h1, ih n e cs' y h2 ha.1 (hall y (by simp [hy]))⟩
            · rename_i hsp
              by_cases hz : rs = []
              · rw [hz]
              · exfalso
                refine hsp (hs (.cell a.block a.off) ?_)
                rw [← (Prod.mk.inj hd).2]
                refine List.mem_append.2 (.inl (MemPlace.mem_row.2 ⟨0, ?_, by simp⟩))
                have : 0 < rs.length := List.length_pos_iff.2 hz
                exact Nat.mul_pos (by omega) hpos
      · rename_i fs hu
        simp only [Bool.and_eq_true] at ha
        obtain ⟨xs, m, hm, rfl, hl, hxl, hget⟩ := DataW.trod_struct hu h
        cases hm
        have h' : (if cs.length = P.cellsOf t then (fs.toList.mapM fun f => DataW.trod enc P w base (fun _ => true) held fuel f.type ((cs.drop f.offset).take (P.cellsOf f.type))).map fun xs => ((.agg (xs.map (·.1)) : DataW H), xs.flatMap (·.2)) else none) = some (.agg (xs.map (·.1)), xs.flatMap (·.2)) := by
          rw [← h, DataW.trod_step]
          unfold DataW.trodStep
          rw [hu]
        rw [DataW.trod_step]
        unfold DataW.trodStep
        rw [hu]
        show (if cs.length = P.cellsOf t then (fs.toList.mapM fun f => DataW.trod enc P w base sp held fuel f.type ((cs.drop f.offset).take (P.cellsOf f.type))).map fun xs => ((.agg (xs.map (·.1)) : DataW H), xs.flatMap (·.2)) else none) = _
        rw [if_pos hl] at h' ⊢
        simp only [Option.map_eq_some_iff] at h' ⊢
        obtain ⟨ys, hy, hd⟩ := h'
        have hfs : ∀ (l : List Field) (o : Nat), argT.go P n o l = true → ∀ f ∈ l, argT P n f.type = true := by
          intro l
          induction l with
          | nil => intro o _ f hf; simp at hf
          | cons g r ihl =>
            intro o hg f hf
            simp only [argT.go, Bool.and_eq_true] at hg
            rcases List.mem_cons.1 hf with rfl | hf
            · exact hg.2.1
            · exact ihl _ hg.2.2 f hf
        refine ⟨ys, mapM_carry hy fun f y hf hy' h1 => ih n f.type _ y h1 (hfs _ _ ha.1 f hf) fun p hp => hs p ?_, hd⟩
        rw [← (Prod.mk.inj hd).2]
        exact List.mem_flatMap.2 ⟨y, hy', hp⟩
      · rename_i m e hu
        simp only [Bool.and_eq_true] at ha
        have h' : (if cs.length = P.cellsOf t then ((List.range m).mapM fun i => DataW.trod enc P w base (fun _ => true) held fuel e ((cs.drop (i * P.cellsOf e)).take (P.cellsOf e))).map fun xs => ((.agg (xs.map (·.1)) : DataW H), xs.flatMap (·.2)) else none) = some x := by
          rw [← h, DataW.trod_step]
          unfold DataW.trodStep
          rw [hu]
        rw [DataW.trod_step]
        unfold DataW.trodStep
        rw [hu]
        show (if cs.length = P.cellsOf t then ((List.range m).mapM fun i => DataW.trod enc P w base sp held fuel e ((cs.drop (i * P.cellsOf e)).take (P.cellsOf e))).map fun xs => ((.agg (xs.map (·.1)) : DataW H), xs.flatMap (·.2)) else none) = _
        split at h'
        · rename_i hl
          rw [if_pos hl]
          simp only [Option.map_eq_some_iff] at h' ⊢
          obtain ⟨ys, hy, hd⟩ := h'
          refine ⟨ys, mapM_carry hy fun i y hi hy' h1 => ih n e _ y h1 ha.1 fun p hp => hs p ?_, hd⟩
          rw [← hd]
          exact List.mem_flatMap.2 ⟨y, hy', hp⟩
        · cases h'
      · cases ha
inductive ArgsR (P : Program) (w : World) (M : Nat → Prop) : List TypeId → List Value → List PV → Prop
  | nil : ArgsR P w M [] [] []
  | cons (t : TypeId) (ts : List TypeId) (v : Value) (vs : List Value) (x : PV) (xs : List PV) (h1 : VR w M x v) (h2 : shapeOk (shapeP P 8 t).1 (shapeP P 8 t).2 x = true) (h3 : x.wf) (h : ArgsR P w M ts vs xs) : ArgsR P w M (t :: ts) (v :: vs) (x :: xs)
theorem arg_read {b0 : Nat} (hM : ∀ b, b < w.heap.size → M b) {t : TypeId} {v : Value} {d : DataW H} {ps : List MemPlace} (ha : argT P 8 t = true) (hok : Value.okWide P w .any b0 t v) (h : DataW.Trod enc P w base sp held t v d ps) :
    ∃ x, VR w M x v ∧ shapeOk (shapeP P 8 t).1 (shapeP P 8 t).2 x = true ∧ x.wf := by
  obtain ⟨fuel, h⟩ := h
  obtain ⟨qs, hq⟩ := trod_pure hM fuel 8 t _ _ h ha
  obtain ⟨e1, e2, e3⟩ := arg_elem_ok ha hq
  refine ⟨_, ?_, e1, e3⟩
  cases hs : (shapeP P 8 t).1 with
  | true =>
    have hagg : (∃ fs, P.underlying t = some (.struct fs)) ∨ ∃ m e, P.underlying t = some (.array m e) := by
      unfold shapeP at hs
      split at hs <;> first | (cases hs; done) | skip
      · exact .inl ⟨_, ‹_›⟩
      · exact .inr ⟨_, _, ‹_›⟩
    have hv : ∃ cs, v = .agg cs := by
      unfold Value.okWide at hok
      rcases hagg with ⟨fs, hu⟩ | ⟨m, e, hu⟩
      · rw [hu] at hok; obtain ⟨cs, rfl, _⟩ := hok; exact ⟨cs, rfl⟩
      · rw [hu] at hok; obtain ⟨cs, rfl, _⟩ := hok; exact ⟨cs, rfl⟩
    obtain ⟨cs, rfl⟩ := hv
    have hc : (Value.agg cs).cells.toList = cs.toList := rfl
    rw [hc] at hq
    refine .agg qs cs (by simpa using hq.2.1.symm) (fun c hc => ?_) fun i c hi => ?_
    · obtain ⟨j, hj⟩ := List.mem_iff_getElem?.1 hc
      have hk := kindsOk_get hq.1
      have hjl : j < (shapeP P 8 t).2.length := by rw [hk.1]; exact (List.getElem?_eq_some_iff.1 hj).1
      exact kindOk_leaf (hk.2 j _ c (List.getElem?_eq_getElem hjl) hj)
    · have := hq.2.2.1 i c hi
      rwa [List.getD_eq_getElem?_getD, Array.getElem?_toList, ← Array.getD_eq_getD_getElem?] at this
  | false =>
    have h1 := shapeP_one ha hs
    have hk := kindsOk_get hq.1
    match qs, hq, hk with
    | [q], hq, hk =>
      have hl : q.leaf = true := by
        refine kindOk_leaf (hk.2 0 ((shapeP P 8 t).2[0]'(by omega)) q (by simp) rfl)
      have hv : v.cells.toList = [v] := by
        have hl1 := hq.2.1
        cases v <;> first | rfl | skip
        rename_i cs
        exfalso
        unfold Value.okWide at hok
        split at hok
        · rename_i fs hu
          unfold shapeP at hs
          rw [hu] at hs
          cases hs
        · rename_i m e hu
          unfold shapeP at hs
          rw [hu] at hs
          cases hs
        · rename_i hns hna
          unfold argT at ha
          split at ha <;> rename_i hu <;> first | (cases ha; done) | skip
          · obtain ⟨m, hc, _⟩ := DataW.trod_int hu h
            simp [Value.cells] at hc
            unfold Cell.okWide Cell.ok at hok
            rw [hu] at hok
            simp at hok
          · unfold Cell.okWide Cell.ok at hok
            rw [hu] at hok
            simp at hok
          · unfold Cell.okWide Cell.ok at hok
            rw [hu] at hok
            simp at hok
          · unfold Cell.okWide Cell.ok at hok
            rw [hu] at hok
            simp at hok
          · exact hns _ hu
          · exact hna _ _ hu
      rw [hv] at hq
      simpa [elemPV] using hq.2.2.1 0 q rfl
    | [], hq, hk => have := hk.1; rw [h1] at this; simp at this
    | _ :: _ :: _, hq, hk => have := hk.1; rw [h1] at this; simp at this
theorem trodAll_later {w' : World} (hb : ∀ b, b < w.heap.size → w'.heap[b]? = w.heap[b]?) : ∀ {ts : List TypeId} {vs : List Value} {ds : List (DataW H)} {ps : List MemPlace}, DataW.TrodAll enc P w base (fun _ => true) held ts vs ds ps → (∀ t ∈ ts, argT P 8 t = true) →
    DataW.TrodAll enc P w' base (fun b => decide (b < w.heap.size)) held ts vs ds ps
  | [], [], [], ps, h, _ => h
  | t :: ts, v :: vs, d :: ds, ps, ⟨p, q, h1, h2, e⟩, ha => by
    refine ⟨p, q, ?_, trodAll_later hb h2 (fun u hu => ha u (by simp [hu])), e⟩
    obtain ⟨fuel, h1⟩ := h1
    have hlt := DataW.trod_lt _ _ _ _ h1
    exact ⟨fuel, trod_spare fuel 8 t _ _ (DataW.trod_carry fuel t _ _ h1 fun p hp => sameAt_of hb (hlt p hp)) (ha t (by simp)) fun p hp => by simpa using hlt p hp⟩
theorem args_read {b0 : Nat} (hM : ∀ b, b < w.heap.size → M b) : ∀ {ts : List TypeId} {vs : List Value} {ds : List (DataW H)} {ps : List MemPlace}, DataW.TrodAll enc P w base sp held ts vs ds ps → (∀ t ∈ ts, argT P 8 t = true) → (∀ (j : Nat) t v, ts[j]? = some t → vs[j]? = some v → Value.okWide P w .any b0 t v) →
    ∃ xs, ArgsR P w M ts vs xs
  | [], [], [], ps, _, _, _ => ⟨[], .nil⟩
  | t :: ts, v :: vs, d :: ds, ps, ⟨p, q, h1, h2, e⟩, ha, hv => by
    obtain ⟨xs, hxs⟩ := args_read hM h2 (fun u hu => ha u (by simp [hu])) fun j t v h1 h2 => hv (j + 1) t v (by simpa using h1) (by simpa using h2)
    obtain ⟨x, e1, e2, e3⟩ := arg_read hM (ha t (by simp)) (hv 0 t v rfl rfl) h1
    exact ⟨x :: xs, .cons t ts v vs x xs e1 e2 e3 hxs⟩
theorem ArgsR.length {ts : List TypeId} {vs : List Value} {xs : List PV} (h : ArgsR P w M ts vs xs) : xs.length = vs.length := by
  induction h with
  | nil => rfl
  | cons _ _ _ _ _ _ _ _ _ _ ih => simp [ih]
theorem ArgsR.get {ts : List TypeId} {vs : List Value} {xs : List PV} (h : ArgsR P w M ts vs xs) : ∀ (i : Nat) (x : PV), xs[i]? = some x → ∃ v, vs[i]? = some v ∧ VR w M x v := by
  induction h with
  | nil => intro i x h; simp at h
  | cons t ts v vs x xs h1 h2 h3 h ih =>
    intro i y hy
    cases i with
    | zero => simp at hy; subst hy; exact ⟨v, rfl, h1⟩
    | succ i => simp at hy; simpa using ih i y hy
theorem law_calls {T : Tab} (ok : TabOk P T) {X : Ext} {gl : List (Nat × Obj)} (hX : ExtOk P T gl X) {f : Nat} {fi : FI} (hf : tlook T.funcs f = some fi) {fn : Func} (hfn : fi.fn = fn) {tb : TypeId} (hres : fn.resultTypes = #[tb]) (hrets : fi.cfg.rets = [])
    (hub : P.underlying tb = some .bool) {s : ChangeSpec} (hvars : s.vars = []) {W : World} {args : Array Value} {ds gs : List (DataW H)} {before : List MemPlace} {b0 : Nat}
    (hval : ∀ (j : Nat) t v, fn.params[j]? = some t → args[j]? = some v → Value.okWide P W .any b0 t v) (hW : DataW.Whole enc P fn.params.toList s.vars false W args.toList ds gs before)
    (hpar : fn.params.toList.all (argT P 8) = true) (hs : s.fn H ds = { results := [.lit (.bool true)], args := ds })
    (hgl : ∀ p ∈ gl, p.1 < W.heap.size ∧ W.heap[p.1]? = some p.2) (hrun : ∀ xs, ArgsR P W (fun b => b < W.heap.size) fn.params.toList args.toList xs → run T X f (xs.map .p) [] = some ([.p (.bool true)], [])) :
    Calls P f args W fun e W' => ∃ v, e = .returned v ∧ s.post enc P fn false true false false W args v W' := by
  subst hfn
  have hW0 := hW
  obtain ⟨p, q, hA, hV, hbef, hz, hn⟩ := hW
  have hall : ∀ t ∈ fi.fn.params.toList, argT P 8 t = true := fun t ht => List.all_eq_true.1 hpar t ht
  rw [hvars] at hV
  cases gs with
  | cons g gr => exact hV.elim
  | nil =>
    obtain ⟨xs, hxs⟩ := args_read (M := fun b => b < W.heap.size) (fun _ h => h) hA hall (base := 0) (fun j t v h1 h2 => by
      exact hval j t v (by simpa using h1) (by simpa using h2))
    have hsnd := run_sound ok hX f fi (xs.map .p) [] _ [] hf (by simp) (hrun xs hxs)
    have hpre : CallPre W (fun b => b < W.heap.size) (fun _ => none) (xs.map .p) [] args := by
      refine ⟨by simp [hxs.length], fun i v hi => ?_, fun i b0 hi => by simp at hi, fun i b o hi => by simp at hi, fun i j b o o' hi => by simp at hi, fun b hb => hb⟩
      simp only [List.getElem?_map, Option.map_eq_some_iff] at hi
      obtain ⟨x, hx, rfl⟩ := hi
      obtain ⟨v, h1, h2⟩ := hxs.get i x hx
      rw [Array.getD_eq_getD_getElem?, ← Array.getElem?_toList, h1]
      exact .p _ _ h2
    refine Calls.mono (hsnd.2 W _ _ args hgl hpre) fun e W' hpost => ?_
    obtain ⟨cs, ps, M', rfl, post⟩ := hpost
    have hkeep : ∀ b, b < W.heap.size → W'.heap[b]? = W.heap[b]? := fun b hb => post.keep b hb fun i o hi => by simp at hi
    have hr := post.res
    rw [hres, hrets] at hr
    have hcs : cs = [.bool true] := by
      cases hr with
      | cons _ _ _ _ _ c cs' p ps' h1 h2 _ =>
        cases h2
        cases h1 with
        | deep _ x _ _ hv => cases hv; rfl
    subst hcs
    refine ⟨.bool true, rfl, ds, [], before, [], p, [], hW0, ?_, ?_, ?_, ?_, fun h => by cases h⟩
    · rw [List.append_nil, hs, hres]
      exact ⟨[], [], ⟨1, by simp [DataW.trod, Value.cells, hub]⟩, rfl, rfl⟩
    · rw [List.append_nil, hs]
      exact trodAll_later hkeep hA hall
    · rw [List.append_nil, hs, hvars]; rfl
    · refine ⟨post.os, post.output, fun i hi => ?_⟩
      rw [hkeep i hi]
      cases hh : W.heap[i]? with
      | none => simp
      | some o => cases o <;> simp
end
def TypesOk (P : Program) : List (Nat × TI) → Prop
  | [] => True
  | (t, i) :: r => mkTI P t = some i ∧ TypesOk P r
structure FuncOk (P : Program) (T : Tab) (f : Nat) (fi : FI) : Prop where
  fn : P.funcs[f]? = some fi.fn
  name : (fi.fn.name == "runtime.NumGoroutine") = false
  draws : (match fi.fn.body with | some c => drawsOk T fi.hides c | none => true) = true
  flat : (fi.cfg.byRef || (fi.cfg.shares || retsFlat T fi.cfg.rets fi.fn.resultTypes.toList)) = true
  nvars : Nat.ble fi.cfg.nvars 100000 = true
def FuncsOk (P : Program) (T : Tab) : List (Nat × FI) → Prop
  | [] => True
  | (f, i) :: r => FuncOk P T f i ∧ FuncsOk P T r
theorem typesOk_get {P : Program} : ∀ {l : List (Nat × TI)} {t : Nat} {i : TI}, TypesOk P l → tlook l t = some i → mkTI P t = some i
  | [], t, i, _, h => by simp [tlook] at h
  | (k, x) :: r, t, i, hk, h => by
    simp only [tlook] at h
    cases he : k == t with
    | true =>
      rw [he] at h
      have e : k = t := by simpa using he
      subst e
      cases h
      exact hk.1
    | false => rw [he] at h; exact typesOk_get hk.2 h
theorem funcsOk_get {P : Program} {T : Tab} : ∀ {l : List (Nat × FI)} {f : Nat} {i : FI}, FuncsOk P T l → tlook l f = some i → FuncOk P T f i
  | [], f, i, _, h => by simp [tlook] at h
  | (k, x) :: r, f, i, hk, h => by
    simp only [tlook] at h
    cases he : k == f with
    | true =>
      rw [he] at h
      have e : k = f := by simpa using he
      subst e
      cases h
      exact hk.1
    | false => rw [he] at h; exact funcsOk_get hk.2 h
theorem tabOk_of {P : Program} {T : Tab} (h1 : TypesOk P T.types) (h2 : FuncsOk P T T.funcs) (h3 : P.follows .mixedOrders = true) : TabOk P T := by
  refine ⟨fun t i h => typesOk_get h1 h, fun f fi h => ?_, h3, fun f fi h => Nat.le_of_ble_eq_true (funcsOk_get h2 h).nvars⟩
  have g := funcsOk_get h2 h
  refine ⟨g.fn, g.name, fun c hc => ?_, fun hb hs => ?_⟩
  · have := g.draws
    rw [hc] at this
    exact this
  · have := g.flat
    rw [hb, hs] at this
    exact this
end Go.Skm
