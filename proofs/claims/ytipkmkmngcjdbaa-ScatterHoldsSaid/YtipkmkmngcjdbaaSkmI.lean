/-
  A machine that runs this program's functions on pure values, and the proof that what it returns is true of the program; no condition beside the hypotheses of each.
-/
import Derived.Test.YtipkmkmngcjdbaaSkmH
import Derived.Test.YtipkmkmngcjdbaaSkmG
import Derived.Shelf.LaysM
import Derived.Shelf.LaysC
import Derived.Shelf.Strconv.Itoa3
import Derived.Shelf.Strconv.AtoiAll
import Derived.Shelf.Strings.Split
import Derived.Shelf.SlSortCmp.NoneTotal
import Derived.Shelf.SlicesE.Clone
namespace Go.Skm
open Go Go.Proofs Go.Shelf Go.RowKit Go.Sort
section
variable {P : Program} {T : Tab} {gl : Option (List (Nat × Obj))} {ρ : Ren} {fi : FI} {c : Code}
end
end Go.Skm
namespace Go.Skm
open Go Go.Proofs Go.Shelf Go.RowKit Go.Sort
def PV.val : PV → Value
  | .int k n => .int k n
  | .bool b => .bool b
  | .str s => .string s
  | _ => undef
def PV.flatC : PV → Bool
  | .int _ _ => true
  | .bool _ => true
  | .str _ => true
  | _ => false
theorem vr_val {w : World} {M : Nat → Prop} {p : PV} (h : p.flatC = true) : VR w M p p.val := by
  cases p <;> simp only [PV.flatC, Bool.false_eq_true] at h
  · exact .bool _
  · exact .int _ _
  · exact .str _
theorem vr_eq_val {w : World} {M : Nat → Prop} {p : PV} {c : Value} (h : p.flatC = true) (hv : VR w M p c) : c = p.val := by
  cases hv <;> simp only [PV.flatC, Bool.false_eq_true] at h <;> rfl
theorem flatC_leaf {p : PV} (h : p.flatC = true) : p.leaf = true := by
  cases p <;> simp only [PV.flatC, Bool.false_eq_true] at h <;> rfl
theorem flatC_one {p : PV} (h : p.flatC = true) : p.val.oneCell' = true := by
  cases p <;> simp only [PV.flatC, Bool.false_eq_true] at h <;> rfl
structure SortEnc (α : Type) where
  ks : List Kd
  pc : α → List PV
  dec : PV → Option α
  len : ∀ x, (pc x).length = ks.length
  flat : ∀ x, ∀ c ∈ pc x, c.flatC = true
  kinds : ∀ x, shapeOk true ks (.agg (pc x)) = true
  enc_dec : ∀ x, dec (.agg (pc x)) = some x
  dec_enc : ∀ p x, dec p = some x → p = .agg (pc x)
namespace SortEnc
variable {α : Type} (E : SortEnc α)
def encs (l : List α) : List PV := l.map fun x => .agg (E.pc x)
def decs : List PV → Option (List α)
  | [] => some []
  | p :: r => match E.dec p, decs r with
    | some v, some l => some (v :: l)
    | _, _ => none
theorem decs_encs (l : List α) : E.decs (E.encs l) = some l := by
  induction l with
  | nil => rfl
  | cons v l ih =>
    unfold encs at ih
    simp only [encs, List.map_cons, decs, E.enc_dec, ih]
theorem decs_some {xs : List PV} : ∀ {l : List α}, E.decs xs = some l → xs = E.encs l := by
  induction xs with
  | nil => intro l h; cases h; rfl
  | cons p r ih =>
    intro l h
    unfold decs at h
    split at h
    · next v l' h1 h2 =>
      cases h
      rw [E.dec_enc _ _ h1, ih h2]; rfl
    · cases h
theorem encs_length (l : List α) : (E.encs l).length = l.length := by simp [encs]
theorem encs_get (l : List α) (i : Nat) : (E.encs l)[i]? = (l[i]?).map fun x => PV.agg (E.pc x) := by simp [encs]
def vals (x : α) : List Value := (E.pc x).map PV.val
theorem vals_length (x : α) : (E.vals x).length = E.ks.length := by simp [vals, E.len]
theorem vals_get (x : α) (j : Nat) : (E.vals x)[j]? = ((E.pc x)[j]?).map PV.val := by simp [vals]
theorem vals_one (x : α) : ∀ v ∈ E.vals x, v.oneCell' = true := by
  intro v hv
  obtain ⟨p, hp, rfl⟩ := List.mem_map.1 hv
  exact flatC_one (E.flat x p hp)
theorem vr (w : World) (M : Nat → Prop) (x : α) : VR w M (.agg (E.pc x)) (.agg (E.vals x).toArray) := by
  refine .agg _ _ (by simp [vals]) (fun c hc => flatC_leaf (E.flat x c hc)) fun i c hc => ?_
  have e : (E.vals x).toArray.getD i undef = c.val := by
    rw [Array.getD_eq_getD_getElem?, List.getElem?_toArray, E.vals_get, hc]; rfl
  rw [e]
  exact vr_val (E.flat x c (List.mem_of_getElem? hc))
end SortEnc
section
variable {α : Type} {P : Program} {T : Tab}
theorem cmp_calls (ok : TabOk P T) {X : Ext} (hX : ExtOk P T none X) {g : Nat} {fi : FI} (hfi : tlook T.funcs g = some fi) (hr : fi.cfg.rets = []) {t : TypeId} (ht : fi.fn.resultTypes = #[t]) (E : SortEnc α) {x y : α} {n : Int}
    (h : run T X g [.p (.agg (E.pc x)), .p (.agg (E.pc y))] [] = some ([.p (.int .i64 n)], [])) (w : World) :
    Calls P g #[.agg (E.vals x).toArray, .agg (E.vals y).toArray] w fun e w' => e = .returned (.int .i64 n) ∧ ∃ q os', w' = grow (w.drewN q) os' := by
  have hs := (run_sound ok hX).plain g fi _ [] _ [] hfi (by simp) h
  have hpre : CallPre w (fun _ => False) (fun _ => none) [.p (.agg (E.pc x)), .p (.agg (E.pc y))] [] #[.agg (E.vals x).toArray, .agg (E.vals y).toArray] := by
    refine ⟨rfl, fun i v hi => ?_, fun i b0 hi => by simp at hi, fun i b o hi => by simp at hi, fun i j b o o' hi => by simp at hi, fun b hb => hb.elim⟩
    match i, hi with
    | 0, hi => cases hi; exact .p _ _ (E.vr w _ x)
    | 1, hi => cases hi; exact .p _ _ (E.vr w _ y)
    | i + 2, hi => simp at hi
  refine Calls.mono (hs.2 w _ _ _ (by simp) hpre) fun e w' hpost => ?_
  obtain ⟨cs, ps, M', rfl, post⟩ := hpost
  have hcs : cs = [.int .i64 n] := by
    have hr' := post.res
    rw [hr, ht] at hr'
    cases hr' with
    | cons _ _ _ _ _ c cs' p ps' h1 h2 _ =>
      cases h2
      cases h1 with
      | deep _ x _ _ hv => cases hv; rfl
  subst hcs
  refine ⟨rfl, w'.drawn - w.drawn, w'.heap.extract w.heap.size w'.heap.size, ?_⟩
  have hkeep : ∀ b, b < w.heap.size → w'.heap[b]? = w.heap[b]? := fun b hb => post.keep b hb fun i o hi => by simp at hi
  have hh : w'.heap = w.heap ++ w'.heap.extract w.heap.size w'.heap.size := by
    apply Array.ext_getElem?
    intro k
    have hsz := post.size
    rw [Array.getElem?_append]
    split
    · next hk => exact hkeep k hk
    · next hk =>
      rw [Array.getElem?_extract]
      by_cases hk2 : k < w'.heap.size
      · rw [if_pos (by omega)]
        congr 1; omega
      · rw [if_neg (by omega), Array.getElem?_eq_none (by omega)]
  have hd := post.drawn rfl
  cases w' with
  | mk heap tape drawn os output =>
    have h1 : os = w.os := post.os
    have h2 : tape = w.tape := post.tape
    have h3 : output = w.output := post.output
    subst h1 h2 h3
    simp only at hh hd ⊢
    unfold grow World.drewN
    simp only
    rw [← hh, show w.drawn + (drawn - w.drawn) = drawn from by omega]
end
variable {α : Type} [Inhabited α]
def pdqL (cf : α → α → Int) (l : List α) : List α := (pdq (ltOf cf) l.toArray 0 l.toArray.size (Lib.bitLen l.toArray.size) true true).toList
theorem pdqL_spec {cf : α → α → Int} (hO : SWO (ltOf cf)) (l : List α) : (pdqL cf l).Perm l ∧ (pdqL cf l).Pairwise fun a b => ltOf cf b a = false := by
  obtain ⟨⟨h1, -, h2⟩, h3⟩ := pdq_sorts (ltOf cf) hO l.toArray 0 l.toArray.size (Lib.bitLen l.toArray.size) true true (Nat.zero_le _) (Nat.le_refl _) (Or.inl rfl)
  unfold pdqL
  generalize pdq (ltOf cf) l.toArray 0 l.toArray.size (Lib.bitLen l.toArray.size) true true = d' at *
  have e1 : d'.extract 0 l.toArray.size = d' := by rw [← h1]; simp
  have e2 : l.toArray.extract 0 l.toArray.size = l.toArray := by simp
  rw [e1, e2] at h2
  refine ⟨by simpa using h2, ?_⟩
  rw [List.pairwise_iff_getElem]
  intro i j hi hj hij
  have := h3 i j (Nat.zero_le _) hij (by rw [← h1]; simpa using hj)
  have hi' : i < d'.size := by simpa using hi
  have hj' : j < d'.size := by simpa using hj
  rw [getElem!_pos d' j hj', getElem!_pos d' i hi'] at this
  simpa using this
theorem pdqL_len {cf : α → α → Int} (hO : SWO (ltOf cf)) (l : List α) : (pdqL cf l).length = l.length := (pdqL_spec hO l).1.length_eq
def sortFF (E : SortEnc α) (cf : α → α → Int) (g : Nat) : ExtFn := fun args bl => match args, bl with
  | [.slice s z off n, .p (.fn g' [])], [.arr true ks xs] => match E.decs xs with
    | some l => if (s == argSite && (z == E.ks.length && (off == 0 && (n == l.length && (g' == g && (decide (l.length ≤ 100000) && Kd.beqs ks E.ks)))))) = true then some ([], [.arr true E.ks (E.encs (pdqL cf l))]) else none
    | none => none
  | _, _ => none
theorem sortFF_eq (E : SortEnc α) (cf : α → α → Int) (g : Nat) (l : List α) (hl : l.length ≤ 100000) (hk : Kd.beqs E.ks E.ks = true) : sortFF E cf g [.slice argSite E.ks.length 0 l.length, .p (.fn g [])] [.arr true E.ks (E.encs l)] = some ([], [.arr true E.ks (E.encs (pdqL cf l))]) := by
  unfold sortFF
  simp only [E.decs_encs]
  rw [if_pos (by simp [hl, hk])]
section
variable {P : Program} {T : Tab} {gl : Option (List (Nat × Obj))} {ρ : Ren}
theorem flatE_get (E : SortEnc α) (l : List α) (i j : Nat) (v : α) (p : PV) (hv : l[i]? = some v) (hj : (E.pc v)[j]? = some p) : (flatK E.vals E.ks.length l.toArray)[i * E.ks.length + j]! = p.val := by
  have hi : i < l.length := (List.getElem?_eq_some_iff.1 hv).1
  have hjl : j < E.ks.length := by rw [← E.len v]; exact (List.getElem?_eq_some_iff.1 hj).1
  have hs : i * E.ks.length + j < l.toArray.size * E.ks.length := by
    have : (i + 1) * E.ks.length ≤ l.length * E.ks.length := Nat.mul_le_mul_right _ hi
    rw [Nat.succ_mul] at this
    simp; omega
  rw [get_flatK _ _ _ _ hs]
  have e1 : (i * E.ks.length + j) / E.ks.length = i := by
    rw [Nat.mul_comm, Nat.mul_add_div (by omega), Nat.div_eq_of_lt hjl, Nat.add_zero]
  have e2 : (i * E.ks.length + j) % E.ks.length = j := by
    rw [Nat.mul_comm, Nat.mul_add_mod, Nat.mod_eq_of_lt hjl]
  rw [e1, e2]
  have e3 : l.toArray[i]! = v := by
    rw [getElem!_pos _ i (by simpa using hi)]
    simpa using (List.getElem?_eq_some_iff.1 hv).2
  rw [e3]
  have := E.vals_get v j
  rw [hj] at this
  rw [List.getElem!_eq_getElem?_getD, this]; rfl
theorem ext1_sortFunc (hne : gl ≠ none) (L : SlLaysF0.n6 P ρ) (E : SortEnc α) (hk0 : 0 < E.ks.length) (aE : ∀ w, (isAgg (ρ.t 24)).run P w = .ok true w) (zE : ∀ w, (Go.sizeOf (ρ.t 24)).run P w = .ok E.ks.length w) {cf : α → α → Int} (hO : SWO (ltOf cf)) {g : Nat}
    (eg : ∀ args w, (callFunc g args).run P w = .ok (.enter g args) w) (hcmp : ∀ (w : World) x y, Calls P g #[.agg (E.vals x).toArray, .agg (E.vals y).toArray] w fun e w' => e = .returned (.int .i64 (cf x y)) ∧ ∃ q os', w' = grow (w.drewN q) os')
    {f : Nat} (hf : ρ.f 6 = f) {fi : FI} {c : Code} (hfi : tlook T.funcs f = some fi) (hb : fi.fn.body = some c) (hby : fi.cfg.byRef = true) (ht : fi.fn.resultTypes = #[]) : ExtOk1 P T gl f (sortFF E cf g) := by
  intro fi' args bl rs bl' hfi' h
  have : fi' = fi := by rw [hfi] at hfi'; exact (Option.some.inj hfi').symm
  subst this
  unfold sortFF at h
  split at h
  · next s z off n g' ks xs =>
    split at h
    · next l hd =>
      split at h
      · next hc =>
        simp only [Bool.and_eq_true, beq_iff_eq, decide_eq_true_eq] at hc
        obtain ⟨rfl, rfl, rfl, rfl, rfl, hn, hk⟩ := hc
        have hk := Kd.beqs_eq _ _ hk
        subst hk
        have hxs := E.decs_some hd
        subst hxs
        cases h
        refine ⟨⟨_, hb⟩, by simp [pureBlk], fun w M β cargs hgl hpre => ?_⟩
        have a0 := hpre.args 0 _ rfl
        have a1 := hpre.args 1 _ rfl
        have hb0 := hpre.blk 0 _ rfl
        have hlen : (E.encs l).length = l.length := E.encs_length l
        have hsz2 : cargs.size = 2 := hpre.num
        have c1 : cargs.getD 1 undef = .func (.func g') #[] #[] := by
          generalize cargs.getD 1 undef = u at a1
          cases a1 with
          | p _ _ hv =>
            cases hv with
            | fn _ _ vs hn _ =>
              have : vs = #[] := Array.eq_empty_of_size_eq_zero (by simpa using hn)
              rw [this]
        have hcg : cargs = #[cargs.getD 0 undef, .func (.func g') #[] #[]] := by
          apply Array.ext
          · simpa using hsz2
          · intro i h1 h2
            have : i = 0 ∨ i = 1 := by omega
            rcases this with rfl | rfl
            · simp [Array.getD, hsz2]
            · have : cargs.getD 1 undef = cargs[1] := by simp [Array.getD, hsz2]
              rw [← this, c1]; rfl
        by_cases h0 : l = []
        · subst h0
          obtain ⟨p, cap, hv⟩ : ∃ p cap, cargs.getD 0 undef = .slice p 0 cap := by
            generalize hz : E.ks.length = z at a0
            generalize hc0 : cargs.getD 0 undef = cv at a0
            generalize hnn : ([] : List α).length = nn at a0
            cases a0 with
            | slice s off len a ks xs b o cap p1 p2 p3 p4 p5 => exact ⟨_, cap, by rw [← hnn]; rfl⟩
            | sliceE => exact ⟨_, _, rfl⟩
          rw [hv] at hcg
          subst hcg
          have call := AnyF.slices_SortFunc_none L p cap (.func (.func g') #[] #[]) w
          rw [hf] at call
          refine call.mono fun e w' ⟨he, hw⟩ => ⟨[], [], M, he, ?_⟩
          subst hw
          refine ⟨by rw [ht]; exact .nil _, fun b o h => by simp at h, (fun h _ => by rw [hby] at h; cases h), fun b h => h, fun b h => .inl h, fun b h => hpre.msub b h, fun _ _ _ => rfl, fun _ _ _ h => h, Nat.le_refl _, rfl, rfl, rfl, .refl _ _, rfl, ?_⟩
          intro i b0 b1 h1 h2
          match i, h1, h2 with
          | 0, h1, h2 =>
            cases h1; cases h2
            have e : pdqL cf ([] : List α) = [] := List.length_eq_zero_iff.1 (pdqL_len hO [])
            rw [e]
            exact ⟨.arrE _ _, ⟨rfl, rfl, Nat.le_refl _⟩, by simp [backOk, Kd.beqs_refl], rfl⟩
          | i + 1, h1, h2 => simp at h1
        · have hpos : 0 < l.length := List.length_pos_iff.2 h0
          obtain ⟨b, o, cap, hβ, c0, hcap⟩ : ∃ b o cap, β argSite = some (b, o) ∧ cargs.getD 0 undef = .slice (some ⟨b, o, none⟩) l.length cap ∧ l.length ≤ cap := by
            generalize hc0 : cargs.getD 0 undef = cv at a0
            generalize hnn : l.length = nn at a0 hpos
            generalize hz : E.ks.length = z at a0
            cases a0 with
            | slice s off len a ks xs b o cap p1 p2 p3 p4 p5 => exact ⟨b, o, cap, p3, by simp, p4⟩
            | sliceE => exact absurd hpos (Nat.lt_irrefl 0)
          rw [c0] at hcg
          subst hcg
          have hown := hpre.own 0 b o (by simp) hβ
          have blkInv : ∃ C e fr, w.heap[b]? = some (.cells C e fr) ∧ o + l.length * E.ks.length ≤ C.size ∧ Open C fr ∧ ∀ (i : Nat) (x : α) (j : Nat) (p : PV), l[i]? = some x → (E.pc x)[j]? = some p → C.getD (o + i * E.ks.length + j) undef = p.val := by
            generalize hx : Blk.arr true E.ks (E.encs l) = x at hb0
            cases hb0 with
            | box => cases hx
            | log => cases hx
            | tb => cases hx
            | mp => cases hx
            | brE => cases hx
            | br => cases hx
            | arrE a ks =>
              injection hx with _ _ h3
              have := congrArg List.length h3
              simp [SortEnc.encs] at this
              exact absurd this h0
            | arr a ks xs b' o' C e fr hb hw hn ho hs hc =>
              injection hx with h1 h2 h3
              subst h1 h2 h3
              have : (b', o') = (b, o) := by
                rw [show argSite + 0 = argSite from rfl, hβ] at hb
                exact (Option.some.inj hb).symm
              cases this
              refine ⟨C, e, fr, hw, by simpa [SortEnc.encs] using hn, ho, fun i x j p hx hp => ?_⟩
              exact vr_eq_val (E.flat x p (List.mem_of_getElem? hp)) (hc i (.agg (E.pc x)) j p (by rw [E.encs_get, hx]; rfl) hp)
          obtain ⟨C, e, fr, hw, hCn, hopen, hcell⟩ := blkInv
          have hH : HoldsK E.vals E.ks.length w b o l.toArray := by
            intro t ht
            rw [size_flatK] at ht
            have ht' : t < l.length * E.ks.length := by simpa using ht
            have hi : t / E.ks.length < l.length := Nat.div_lt_of_lt_mul (by rwa [Nat.mul_comm] at ht')
            have hj : t % E.ks.length < E.ks.length := Nat.mod_lt _ hk0
            have et : t = t / E.ks.length * E.ks.length + t % E.ks.length := by rw [Nat.mul_comm]; exact (Nat.div_add_mod _ _).symm
            obtain ⟨v, hv⟩ : ∃ v, l[t / E.ks.length]? = some v := ⟨_, List.getElem?_eq_getElem hi⟩
            obtain ⟨p, hp⟩ : ∃ p, (E.pc v)[t % E.ks.length]? = some p := ⟨_, List.getElem?_eq_getElem (by rw [E.len v]; exact hj)⟩
            have h1 := hcell _ _ _ _ hv hp
            have h2 := flatE_get E l _ _ v p hv hp
            rw [← et] at h2
            rw [Nat.add_assoc, ← et] at h1
            have hin : o + t < C.size := by omega
            constructor
            · simp only [World.cell?, hw, Option.isSome_none, Bool.false_eq_true, if_false]
              rw [Array.getElem?_eq_getElem hin]
              have : C.getD (o + t) undef = C[o + t] := by simp [Array.getD, hin]
              rw [← this, h1, h2]; rfl
            · have := hopen.at (o + t) hin
              obtain ⟨lo, hi⟩ := fr
              simp only [World.frozen?, hw]
              simp only [Bool.and_eq_false_iff, decide_eq_false_iff_not]
              simp only [not_and, Nat.not_lt] at this
              by_cases hlo : lo ≤ o + t
              · right; have := this hlo; omega
              · left; exact hlo
          have call := AnyQ.slices_SortFunc_eq L E.ks.length aE zE E.vals E.vals_length E.vals_one cf hO g' #[] b o cap l.toArray w eg (fun _m _os _dk _ x y => hcmp _ x y) hH hown.2 (by simp; omega)
          rw [hf] at call
          refine Calls.mono call fun ee w' hpost => ?_
          obtain ⟨he, m, os, hw'⟩ := hpost
          have hsl : pdq (ltOf cf) l.toArray 0 l.toArray.size (Lib.bitLen l.toArray.size) true true = (pdqL cf l).toArray := by simp [pdqL]
          rw [hsl] at hw'
          have hpl := pdqL_len hO l
          generalize pdqL cf l = sl at *
          refine ⟨[], [], M, he, ?_⟩
          have hheap : w'.heap = (w.heap.modify b (onCells (putCells id o (flatK E.vals E.ks.length sl.toArray)))) ++ os := by rw [hw']; rfl
          have hsz : w.heap.size ≤ w'.heap.size := by rw [hheap]; simp
          have hold : ∀ k, k < w.heap.size → w'.heap[k]? = (w.heap.modify b (onCells (putCells id o (flatK E.vals E.ks.length sl.toArray))))[k]? := fun k hk => by
            rw [hheap, Array.getElem?_append_left (by simpa using hk)]
          have hoth : ∀ k, k < w.heap.size → k ≠ b → w'.heap[k]? = w.heap[k]? := fun k hk hne => by
            rw [hold k hk, Array.getElem?_modify, if_neg (fun e => hne e.symm)]
          have hthis : w'.heap[b]? = some (.cells (putCells id o (flatK E.vals E.ks.length sl.toArray) C) e fr) := by
            rw [hold b hown.2, Array.getElem?_modify, if_pos rfl, hw]; rfl
          have hCs : (putCells id o (flatK E.vals E.ks.length sl.toArray) C).size = C.size := by unfold putCells; simp
          refine ⟨by rw [ht]; exact .nil _, fun b o h => by simp at h, (fun h _ => by rw [hby] at h; cases h), fun b hb => hb, fun b hb => Or.inl hb, fun k hk => Nat.lt_of_lt_of_le (hpre.msub k hk) hsz, ?_, ?_, hsz, ?_, ?_, ?_, fun e => absurd e hne, rfl, ?_⟩
          · intro k hk hnn
            refine hoth k hk fun e => ?_
            subst e
            exact hnn 0 o (by simp) hβ
          · intro k m hk hroom
            by_cases hkb : k = b
            · subst hkb
              obtain ⟨C', e', fr', h1, h2, h3⟩ := hroom
              rw [hw] at h1
              cases h1
              exact ⟨_, e, fr, hthis, by rw [hCs]; exact h2, fun hm => (h3 hm).size hCs⟩
            · obtain ⟨C', e', fr', h1, h2, h3⟩ := hroom
              exact ⟨C', e', fr', by rw [hoth k hk hkb]; exact h1, h2, h3⟩
          · rw [hw']; rfl
          · rw [hw']; rfl
          · rw [hw']; rfl
          · intro i x0 x1 h1 h2
            match i, h1, h2 with
            | 0, h1, h2 =>
              cases h1; cases h2
              refine ⟨?_, ⟨rfl, rfl, by simp [SortEnc.encs, hpl]⟩, by simp [backOk, Kd.beqs_refl], rfl⟩
              refine .arr true E.ks _ b o _ e fr hβ hthis ?_ (hopen.size hCs) ?_ ?_
              · rw [hCs, E.encs_length, hpl]; exact hCn
              · intro x hx
                simp only [SortEnc.encs, List.mem_map] at hx
                obtain ⟨v, _, rfl⟩ := hx
                exact E.kinds v
              · intro i x j c hx hc
                rw [E.encs_get] at hx
                obtain ⟨v, hv, rfl⟩ := Option.map_eq_some_iff.1 hx
                have hc : (E.pc v)[j]? = some c := hc
                have hg := flatE_get E sl i j v c hv hc
                have hi : i < sl.length := (List.getElem?_eq_some_iff.1 hv).1
                have hjl : j < E.ks.length := by rw [← E.len v]; exact (List.getElem?_eq_some_iff.1 hc).1
                have hin' : i * E.ks.length + j < l.length * E.ks.length := by
                  have : (i + 1) * E.ks.length ≤ l.length * E.ks.length := Nat.mul_le_mul_right _ (by omega)
                  rw [Nat.succ_mul] at this
                  omega
                have hin : o + i * E.ks.length + j < C.size := by omega
                have hval : (putCells id o (flatK E.vals E.ks.length sl.toArray) C).getD (o + i * E.ks.length + j) undef = c.val := by
                  rw [Array.getD_eq_getD_getElem?]
                  unfold putCells
                  rw [Array.getElem?_mapIdx, Array.getElem?_eq_getElem hin]
                  simp only [Option.map_some, Option.getD_some, size_flatK]
                  rw [if_pos ⟨by omega, by simp [hpl]; omega⟩]
                  have : o + i * E.ks.length + j - o = i * E.ks.length + j := by omega
                  rw [this, hg]; rfl
                show VR w' M c ((putCells id o (flatK E.vals E.ks.length sl.toArray) C).getD (o + i * E.ks.length + j) undef)
                rw [hval]
                exact vr_val (E.flat v c (List.mem_of_getElem? hc))
            | i + 1, h1, h2 => simp at h1
      · cases h
    · cases h
  · cases h
end
end Go.Skm
namespace Go.Skm
open Go Go.Proofs Go.Shelf Go.RowKit Go.Lib
variable {P : Program} {ρ : Ren}
set_option maxHeartbeats 2000000 in
set_option maxRecDepth 100000 in
theorem clone_zero (L : SlLaysE0.n41 P ρ) (i0 : TypeInfo) (z : Value) (size bytes : Nat) (hi : P.info? (ρ.t 23) = some i0) (hz0 : i0.zero = some z) (hz1 : i0.size = size) (hz2 : i0.bytes = bytes) (hzs : z.cells.size = size) (hsz : 0 < size)
    (z23 : ∀ w, (Go.sizeOf (ρ.t 23)).run P w = .ok size w) (a : Addr) (c : Nat) (w : World) :
    Calls P (ρ.f 41) #[.slice (some a) 0 c] w fun e w' => ∃ v', e = .returned v' ∧ w'.ownsRow w.heap.size (ρ.t 23) size v' 0 [] ∧ Below w.heap.size w w' := by
  have mixed := L.mixed; have t4 := L.t4; have a4 := L.a4; have z4 := L.z4; have v4 := L.v4; have t22 := L.t22; have a22 := L.a22; have z22 := L.z22; have v22 := L.v22
  have q22 : ∀ (w : World) (a : Option Addr) (n c n' c' : Nat), (binOp .eql (ρ.t 22) (.slice a n c) (.slice none n' c')).run P w = .ok (.bool a.isNone) w := fun w a n c n' c' => Lib.run_eql_slice_nil w _ _ a n c n' c' L.t22
  have u22 : ∀ w, Sem.run P (underlying (ρ.t 22)) w = .ok (TypeDesc.slice (ρ.t 23)) w := run_underlying t22
  obtain ⟨_, _, FG⟩ := L.f41
  go_enter FG, SlBodyN.n41_ntmps ρ
  go_wp2_with (at_builtin; refine wpList_append_own _ rfl _ _ (ρ.t 22) rfl w.heap.size (ρ.t 23) i0 z size bytes t22 hi hz0 hz1 hz2 hzs hsz _ _ _ rfl (World.ownsRow_made w #[] 0 (Nat.le_refl _) (Nat.zero_le _) (by simp)) a 0 c [] rfl ?qc1 ?qc2 ?qc3 ?qc4 ?qc5 ?qc6 ?_)
  case qc1 => simp
  case qc2 =>
    intro j u hj
    simp at hj
  case qc3 => intro u hu; simp at hu
  case qc4 => simp
  case qc5 => simp
  case qc6 => simp
  intro v' w1 hown hgrow hnil
  go_wp2
  go_ret
  refine ⟨v', rfl, by simpa using hown, ?_⟩
  exact ((Below.refl _ w).alloc (Nat.le_refl _) _).grown hgrow (by simp) (by intro k hk; simp [Value.ownBlock] at hk; omega)
section
variable {T : Tab} {fi : FI} {β : Nat → Option (Nat × Nat)}
theorem resL_none {t e el : TypeId} {a : Bool} {ks : List Kd} {w' : World} {v' : Value} {base : Nat} {h : Nat → Option Blk} (hr : fi.cfg.rets = [.fresh]) (ht : fi.fn.resultTypes = #[t]) (hu : und T t = some (.slice e)) (hsh : shapeT T e = (a, ks))
    (ho : w'.ownsRow base el ks.length v' 0 []) : ∃ ps, (∀ M : Nat → Prop, ResL T w' M β h fi.cfg.rets fi.fn.resultTypes.toList [.fresh a ks []] [v'] ps) ∧ ∀ b o, some (b, o) ∈ ps → b < w'.heap.size ∧ base ≤ b := by
  have e1 : (shapeT T e).1 = a := by rw [hsh]
  have e2 : (shapeT T e).2 = ks := by rw [hsh]
  obtain ⟨-, ⟨rfl, -⟩ | ⟨g, cap, cur, rfl, hb, hg, -, -, hsz, -⟩⟩ := ho
  · refine ⟨[none], fun M => ?_, fun b o h => by simp at h⟩
    rw [hr, ht]
    refine .cons _ _ _ _ _ _ _ _ _ ?_ (.nil _) (fun b o o' _ h => by cases h)
    have key := ResR.fresh (T := T) (w := w') (M := M) (β := β) (h := h) t e [] (.slice none 0 0) none hu
    rw [e1, e2] at key
    exact key (.arrE _ _) (.sliceE 0 0 a ks [] none rfl (Nat.le_refl _))
  · refine ⟨[some (g, 0)], fun M => ?_, fun b o h => ?_⟩
    · rw [hr, ht]
      refine .cons _ _ _ _ _ _ _ _ _ ?_ (.nil _) (fun b o o' _ h => by cases h)
      have key := ResR.fresh (T := T) (w := w') (M := M) (β := β) (h := h) t e [] (.slice (some ⟨g, 0, none⟩) 0 cap) (some (g, 0)) hu
      rw [e1, e2] at key
      refine key (.arrE _ _) ?_
      have k2 := AR.slice (w := w') (M := M) (β := fun _ => some (g, 0)) (h := fun _ => some (.arr a ks [])) 0 0 0 a ks [] g 0 cap rfl (by simp) rfl (Nat.zero_le _) ⟨cur, el, (0, 0), hg, by simp; omega, fun _ => .inl rfl⟩
      simpa using k2
    · simp only [List.mem_singleton, Option.some.injEq, Prod.mk.injEq] at h
      obtain ⟨rfl, rfl⟩ := h
      exact ⟨(Array.getElem?_eq_some_iff.1 hg).1, hb⟩
end
end Go.Skm
