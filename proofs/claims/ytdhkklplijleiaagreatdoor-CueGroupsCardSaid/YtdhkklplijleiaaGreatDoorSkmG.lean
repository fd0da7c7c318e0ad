/-
  A machine that runs this program's functions on pure values, and the proof that what it returns is true of the program; no condition beside the hypotheses of each.
-/
import Derived.Test.YtdhkklplijleiaaGreatDoorSkmE
import Derived.Shelf.LaysM
import Derived.Shelf.LaysC
import Derived.Shelf.Strconv.Itoa3
import Derived.Shelf.Strconv.AtoiAll
import Derived.Shelf.Strings.Split
import Derived.Test.YtdhkklplijleiaaGreatDoorSkmF
import Derived.Handed
import Derived.Lib.LaidTab
import Derived.Stop.LaidErr
import Derived.Shelf.Small.Strs
import Derived.Room.Shelf.Join48
import Derived.Shelf.Sort.Plain
import Derived.Shelf.Slices.In.SortNone
import Derived.Shelf.SlicesE.Clone
import Derived.Shelf.SlSortCmp.NoneTotal
namespace Go.Skm
open Go Go.Proofs Go.Shelf Go.RowKit Go.Sort
theorem below_grow {w : World} {k : Nat} {os : Array Obj} : Below w.heap.size w (grow (w.drewN k) os) :=
  ⟨rfl, rfl, rfl, by simp [grow, World.drewN], fun j hj => by
    show (w.heap ++ os)[j]? = _
    rw [Array.getElem?_append_left hj]⟩
def itoaF : ExtFn := fun args bl => match args, bl with
  | [.p (.int .i64 n)], [] => if -9223372036854775808 ≤ n ∧ n ≤ 9223372036854775807 then some ([.p (.str (ba (Lib.itoa n)))], []) else none
  | _, _ => none
def atoiF : ExtFn := fun args bl => match args, bl with
  | [.p (.str s)], [] => if s.size ≤ 281474976710656 then some (atoiR s.data.toList, []) else none
  | _, _ => none
def splitF : ExtFn := fun args bl => match args, bl with
  | [.p (.str s), .p (.str sep)], [] => match sep.data.toList with
    | [c] => if s.size < 4294967281 then some ([.fresh false [.str] ((splitC c s.data.toList).map fun p => .str (ba p))], []) else none
    | _ => none
  | _, _ => none
section
variable {P : Program} {T : Tab} {gl : List (Nat × Obj)} {ρ : Ren} {fi : FI} {c : Code}
theorem ext1_itoa (hne : gl ≠ []) (L : LaysM.n171 P ρ) {f : Nat} (hf : ρ.f 171 = f) (hfi : tlook T.funcs f = some fi) (hb : fi.fn.body = some c) (hr : fi.cfg.rets = []) {t : TypeId} (ht : fi.fn.resultTypes = #[t]) (hs : shapeT T t = (false, [.str]))
    (hg : ∀ w : World, (∀ p ∈ gl, w.heap[p.1]? = some p.2) → Lib.TabIs P w "internal/strconv.uint64pow10" .u64 Lib.pow10Tab) : ExtOk1 P T gl f itoaF := by
  intro fi' args bl rs bl' hfi' h
  have : fi' = fi := by rw [hfi] at hfi'; exact (Option.some.inj hfi').symm
  subst this
  unfold itoaF at h
  split at h
  · next n =>
    split at h
    · next hn =>
      cases h
      refine ⟨⟨_, hb⟩, by simp, fun w M β cargs hgl hpre => ?_⟩
      obtain ⟨v, rfl, hv⟩ := cargs_one hpre
      have hv' := vr_int' hv
      subst hv'
      have call := Any.strconv_Itoa L n hn.1 hn.2 w (hg w fun p hp => (hgl p hp).2)
      rw [hf] at call
      refine call.mono fun e w' ⟨he, k, os, hw⟩ => ⟨[.string (ba (Lib.itoa n))], [none], M, he, ?_⟩
      subst hw
      exact post_grow hpre below_grow (fun e => absurd e hne) (fun M => resL_one hr ht (by rw [hs]; rfl) (.str _)) (fun b o h => by simp at h)
    · cases h
  · cases h
theorem ext1_atoi (hne : gl ≠ []) (L : LaysC.n172 P ρ) {f : Nat} (hf : ρ.f 172 = f) (hfi : tlook T.funcs f = some fi) (hb : fi.fn.body = some c) (hr : fi.cfg.rets = []) {t u : TypeId} (ht : fi.fn.resultTypes = #[t, u]) (hs : shapeT T t = (false, [.int .i64])) (hs' : shapeT T u = (false, [.other]))
    (hg : ∀ w : World, (∀ p ∈ gl, w.heap[p.1]? = some p.2) → ∃ ev, w.cell? ⟨ρ.g 15, 0, none⟩ = some ev ∧ (ev = .nilIface ∨ ∃ te pe, ev = .iface te pe))
    (hg' : ∀ w : World, (∀ p ∈ gl, w.heap[p.1]? = some p.2) → ∃ ev, w.cell? ⟨ρ.g 16, 0, none⟩ = some ev ∧ (ev = .nilIface ∨ ∃ te pe, ev = .iface te pe)) : ExtOk1 P T gl f atoiF := by
  intro fi' args bl rs bl' hfi' h
  have : fi' = fi := by rw [hfi] at hfi'; exact (Option.some.inj hfi').symm
  subst this
  unfold atoiF at h
  split at h
  · next s =>
    split at h
    · next hn =>
      cases h
      refine ⟨⟨_, hb⟩, by simp, fun w M β cargs hgl hpre => ?_⟩
      obtain ⟨v, rfl, hv⟩ := cargs_one hpre
      have hv' := vr_str' hv
      subst hv'
      obtain ⟨ev, he1, he2⟩ := hg w fun p hp => (hgl p hp).2
      obtain ⟨er, hr1, hr2⟩ := hg' w fun p hp => (hgl p hp).2
      unfold atoiR
      rcases hA : Lib.atoiAll s.data.toList with v | _ | _
      · have call := Any.strconv_Atoi_ok L s (by omega) v hA w
        rw [hf] at call
        refine call.mono fun e w' ⟨he, hw⟩ => ⟨[.int .i64 v, .nilIface], [none, none], M, he, ?_⟩
        have hbel : Below w.heap.size w w' := by
          rcases hw with rfl | ⟨t, rfl⟩
          · exact Below.refl _ _
          · refine ⟨?_, ?_, ?_, ?_, fun k hk => ?_⟩
            · unfold Lib.bytesWorld World.freeze; split <;> rfl
            · unfold Lib.bytesWorld World.freeze; split <;> rfl
            · unfold Lib.bytesWorld World.freeze; split <;> rfl
            · unfold Lib.bytesWorld World.freeze; split <;> simp
            · have h0 : (w.drew.alloc (.cells (Lib.bytesCells w (ρ.t 5) t) (ρ.t 5))).heap[k]? = w.heap[k]? := Below.heap_alloc w.drew _ k hk
              unfold Lib.bytesWorld World.freeze
              split
              · exact h0
              · show (Array.modify _ _ _)[k]? = _
                rw [Array.getElem?_modify, if_neg (by show ¬ w.heap.size = k; omega)]
                exact h0
        exact post_grow hpre hbel (fun e => absurd e hne) (fun M => resL_two hr ht (by rw [hs]; rfl) (.int _ _) (by rw [hs']; rfl) .nilif) (fun b o h => by simp at h)
      · have call := Any.strconv_Atoi_syntax L s hn hA ev w he1 he2
        rw [hf] at call
        refine call.mono fun e w' ⟨N, he, _, _, hw⟩ => ⟨[.int .i64 0, .iface (ρ.t 168) (.pointer (some ⟨N, 0, none⟩))], [none, none], M, he, ?_⟩
        exact post_grow hpre hw (fun e => absurd e hne) (fun M => resL_two hr ht (by rw [hs]; rfl) (.int _ _) (by rw [hs']; rfl) (.ifc _ _)) (fun b o h => by simp at h)
      · have call := Any.strconv_Atoi_range L s hn hA er w hr1 hr2
        rw [hf] at call
        refine call.mono fun e w' ⟨N, he, _, _, hw⟩ => ⟨[.int .i64 (Lib.atoiSat s.data.toList), .iface (ρ.t 168) (.pointer (some ⟨N, 0, none⟩))], [none, none], M, he, ?_⟩
        exact post_grow hpre hw (fun e => absurd e hne) (fun M => resL_two hr ht (by rw [hs]; rfl) (.int _ _) (by rw [hs']; rfl) (.ifc _ _)) (fun b o h => by simp at h)
    · cases h
  · cases h
theorem ext1_split (hne : gl ≠ []) (L : LaysM.n146 P ρ) {f : Nat} (hf : ρ.f 146 = f) (hfi : tlook T.funcs f = some fi) (hb : fi.fn.body = some c) (hr : fi.cfg.rets = [.fresh]) {t e : TypeId} (ht : fi.fn.resultTypes = #[t]) (hu : und T t = some (.slice e)) (hs : shapeT T e = (false, [.str]))
    (hg : ∀ w : World, (∀ p ∈ gl, w.heap[p.1]? = some p.2) → ∃ m, w.cell? ⟨ρ.g 1, 0, none⟩ = some (.int .i64 m)) : ExtOk1 P T gl f splitF := by
  intro fi' args bl rs bl' hfi' h
  have : fi' = fi := by rw [hfi] at hfi'; exact (Option.some.inj hfi').symm
  subst this
  unfold splitF at h
  split at h
  · next s sep =>
    split at h
    · next b hsep =>
      split at h
      · next hn =>
        cases h
        have hsep' : sep = ⟨#[b]⟩ := ba_eq.2 hsep
        subst hsep'
        refine ⟨⟨_, hb⟩, by simp, fun w M β cargs hgl hpre => ?_⟩
        obtain ⟨v, u, rfl, hv, hu'⟩ := cargs_two hpre
        have hv' := vr_str' hv
        subst hv'
        have hu'' := vr_str' hu'
        subst hu''
        obtain ⟨m, hm⟩ := hg w fun p hp => (hgl p hp).2
        have call := Any.strings_Split { L with } L.i9 s ⟨#[b]⟩ m w hn hm (Nat.le_refl 1)
        rw [hf, splitB_eq] at call
        have hlen : Lib.countB s ⟨#[b]⟩ + 1 = (splitC b s.data.toList).length := by
          have h1 := Lib.splitB_all ⟨#[b]⟩ (Nat.le_refl 1) 0 _ s rfl
          rw [splitB_eq, List.length_map] at h1
          exact h1.symm
        rw [hlen] at call
        refine call.mono fun e' w' ⟨he, hw⟩ => ⟨[.slice (some ⟨w.heap.size, 0, none⟩) (splitC b s.data.toList).length (splitC b s.data.toList).length], [some (w.heap.size, 0)], M, he, ?_⟩
        subst hw
        refine post_grow hpre (below_alloc _) (fun e => absurd e hne) (fun M => ?_) (fun b o h => ?_)
        · have key := resL_fresh (T := T) (w' := w.alloc (.cells (((splitC b s.data.toList).map fun l => (⟨l.toArray⟩ : ByteArray)).map Value.string).toArray (ρ.t 9))) (M := M) (β := β) (h := look (initHeap 0 [])) (k := .str)
            (xs := (splitC b s.data.toList).map fun p => PV.str (ba p)) (vs := ((splitC b s.data.toList).map fun l => (⟨l.toArray⟩ : ByteArray)).map Value.string) (el := ρ.t 9) (n := w.heap.size) (cap := (splitC b s.data.toList).length)
            hr ht hu hs (by simp) (by simp) (by simp) ?_ ?_ ?_
          · simpa using key
          · show (w.heap.push _)[w.heap.size]? = _
            simp
          · intro x hx
            obtain ⟨p, -, rfl⟩ := List.mem_map.1 hx
            rfl
          · intro i x c hx hc
            simp only [List.getElem?_map, Option.map_eq_some_iff] at hx hc
            obtain ⟨p, hp, rfl⟩ := hx
            obtain ⟨q, ⟨p', hp', rfl⟩, rfl⟩ := hc
            rw [hp] at hp'
            cases hp'
            exact ⟨rfl, .str _⟩
        · simp only [List.mem_singleton, Option.some.injEq, Prod.mk.injEq] at h
          obtain ⟨rfl, rfl⟩ := h
          exact ⟨by simp, Nat.le_refl _⟩
      · cases h
    · cases h
  · cases h
end
end Go.Skm
namespace Go
variable {H : Type} {enc : TypeId × Value → H}
theorem returnsInHanded_laid {a : Assume} {C : Checked} {os : Os} {f : FuncId} {fn : Func} {s : ChangeSpec} {conds : List PathCond} {apart fresh handsOn again : Bool} {X : World → Array Value → Prop}
    (hX : ∀ (w w' : World) (args : Array Value), w.heap = w'.heap → X w args → X w' args)
    (own : ownKnob C.prog.godebug = none) (started : os.Started) (noInit : C.prog.inits.idxOf? f = none) (hfn : C.prog.funcs[f]? = some fn)
    (witness : ∃ (w : World) (tape : Tape) (i : Input), w.os = os ∧ (w.forCall tape i).Shaped C.prog ∧ i.vars = [] ∧ Input.okWide C.prog (w.forCall tape i) .any w.heap.size f i ∧
      ((s.pre enc C.prog fn conds apart (w.forCall tape i).memory i.args ∧ X (w.forCall tape i).memory i.args) ∧ sizedMet enc C.prog fn (OpenSpec.ofChange s) apart (w.forCall tape i).memory i.args) ∧ a.holds C.prog (lone (Frame.enter C.prog f i.args .normal) [] (w.forCall tape i)))
    (contract : ∀ (W : World) (base : Nat) (args : Array Value) (ds gs : List (DataW H)) (before : List MemPlace),
      (∀ (j : Nat) t v, fn.params[j]? = some t → args[j]? = some v → Value.okWide C.prog W .any base t v) →
      DataW.Whole enc C.prog fn.params.toList s.vars apart W args.toList ds gs before → X W args → W.ShapedOpen C.prog →
      Calls C.prog f args W fun e W' => ∃ v, e = .returned v ∧ s.post enc C.prog fn apart fresh handsOn again W args v W') :
    ReturnsInHanded a C os f .any (fun w args => (s.pre enc C.prog fn conds apart w args ∧ X w args) ∧ sizedMet enc C.prog fn (OpenSpec.ofChange s) apart w args) (s.post enc C.prog fn apart fresh handsOn again) := by
  refine returnsInHanded_of_calls own started noInit witness ?_
  intro w tape i _ hsh _ hok hpre _
  obtain ⟨_, _, _, fn', hfn', _, _, _, _, hval⟩ := hok
  have e : fn' = fn := Option.some.inj (hfn'.symm.trans hfn)
  subst e
  obtain ⟨⟨⟨ds, gs, before, hw, _⟩, hx⟩, _⟩ := hpre
  have hw' := DataW.Whole.of_heap (w' := w.forCall tape i) (by rfl) hw
  refine (contract (w.forCall tape i) w.heap.size i.args ds gs before hval hw' (hX _ _ _ (by rfl) hx) hsh).mono fun e W' ⟨v, he, hp⟩ => ?_
  subst he
  exact ChangeSpec.post_blind hp
end Go
namespace Go.Skm
open Go.ChangeShapes Go.WideShapes
def glOf (W : World) (gs : List Nat) : List (Nat × Obj) := gs.filterMap fun g => (W.heap[g]?).map fun o => (g, o)
theorem glOf_ok {W : World} {gs : List Nat} : ∀ p ∈ glOf W gs, p.1 < W.heap.size ∧ W.heap[p.1]? = some p.2 := by
  intro p hp
  obtain ⟨g, _, hg⟩ := List.mem_filterMap.1 hp
  obtain ⟨o, ho, rfl⟩ := Option.map_eq_some_iff.1 hg
  exact ⟨(Array.getElem?_eq_some_iff.1 ho).1, ho⟩
theorem glOf_same {W w : World} {gs : List Nat} (h : ∀ p ∈ glOf W gs, w.heap[p.1]? = some p.2) {g : Nat} (hg : g ∈ gs) {o : Obj} (ho : W.heap[g]? = some o) : w.heap[g]? = W.heap[g]? := by
  rw [ho]
  exact h (g, o) (List.mem_filterMap.2 ⟨g, hg, by rw [ho]; rfl⟩)
theorem glOf_cell {W w : World} {gs : List Nat} (h : ∀ p ∈ glOf W gs, w.heap[p.1]? = some p.2) {g i : Nat} (hg : g ∈ gs) {v : Value} (hv : W.cell? ⟨g, i, none⟩ = some v) : w.cell? ⟨g, i, none⟩ = some v := by
  cases ho : W.heap[g]? with
  | none => simp [World.cell?, ho] at hv
  | some o =>
    have e := glOf_same h hg ho
    rw [← hv]
    simp only [World.cell?, e]
theorem glOf_var {P : Program} {W w : World} {gs : List Nat} (h : ∀ p ∈ glOf W gs, w.heap[p.1]? = some p.2) {g : Nat} (hg : g ∈ gs) {name : String} (hn : P.globalNamed name = some g) {cs : Array Value} (hv : W.var? P name = some cs) : w.var? P name = some cs := by
  unfold World.var? at hv ⊢
  rw [hn, Option.bind_some] at hv ⊢
  cases ho : W.heap[g]? with
  | none => simp [ho] at hv
  | some o =>
    rw [glOf_same h hg ho]
    exact hv
theorem cell_of_var {P : Program} {W : World} {g : Nat} {name : String} (hn : P.globalNamed name = some g) {v : Value} (hv : W.var? P name = some #[v]) : W.cell? ⟨g, 0, none⟩ = some v := by
  simpa using World.var?_cell hn hv 0
section
variable {P : Program} {w : World} {M : Nat → Prop}
theorem args_nil {vs : List Value} {xs : List PV} (h : ArgsR P w M [] vs xs) : xs = [] := by cases h; rfl
theorem args_cons {t : TypeId} {ts : List TypeId} {vs : List Value} {xs : List PV} (h : ArgsR P w M (t :: ts) vs xs) :
    ∃ x xs' v vs', xs = x :: xs' ∧ VR w M x v ∧ shapeOk (shapeP P 8 t).1 (shapeP P 8 t).2 x = true ∧ x.wf ∧ ArgsR P w M ts vs' xs' := by
  cases h with
  | cons _ _ v vs' x xs' h1 h2 h3 h4 => exact ⟨x, xs', v, vs', rfl, h1, h2, h3, h4⟩
theorem arg_int {k : IntKind} {t : TypeId} (ht : shapeP P 8 t = (false, [.int k])) {x : PV} (h : shapeOk (shapeP P 8 t).1 (shapeP P 8 t).2 x = true) (hw : x.wf) : ∃ n, x = .int k n ∧ (PV.int k n).wf := by
  rw [ht] at h
  cases x <;> simp [shapeOk, kindOk] at h
  subst h
  exact ⟨_, rfl, hw⟩
theorem arg_str {t : TypeId} (ht : shapeP P 8 t = (false, [.str])) {x : PV} (h : shapeOk (shapeP P 8 t).1 (shapeP P 8 t).2 x = true) : ∃ s, x = .str s := by
  rw [ht] at h
  cases x <;> simp [shapeOk, kindOk] at h
  exact ⟨_, rfl⟩
end
section
variable {H : Type} {enc : TypeId × Value → H} {P : Program}
theorem trodAll_len {w : World} {base : Nat} {sp : Nat → Bool} {held : Bool} : ∀ {ts : List TypeId} {vs : List Value} {ds : List (DataW H)} {ps : List MemPlace}, DataW.TrodAll enc P w base sp held ts vs ds ps → ds.length = ts.length
  | [], _, _, _, h => by obtain ⟨_, rfl, _⟩ := trodAll_nil h; rfl
  | t :: ts, _, _, _, h => by
    obtain ⟨v, vs', d, ds', p, q, _, rfl, _, _, h2⟩ := trodAll_cons h
    rw [List.length_cons, List.length_cons, trodAll_len h2]
theorem whole_len {ts : List TypeId} {vars : List String} {ap : Bool} {W : World} {vs : List Value} {ds gs : List (DataW H)} {before : List MemPlace} (h : DataW.Whole enc P ts vars ap W vs ds gs before) : ds.length = ts.length := by
  obtain ⟨p, q, hA, _⟩ := h
  exact trodAll_len hA
end
end Go.Skm
namespace Go.Skm
theorem laid_drop {P : Program} {W : World} : ∀ (k : Nat) {l : List (String × DataW Unit)}, laidMet P l W → laidMet P (l.drop k) W
  | 0, _, h => h
  | _k + 1, [], h => h
  | k + 1, _x :: _l, h => laid_drop k (laidMet.tail h)
theorem laid_iface {P : Program} {W : World} {n nm : String} {d : DataW Unit} {r : List (String × DataW Unit)} (h : laidMet P ((n, .iface nm d) :: r) W) {g : Nat} {ti : TypeId} {ms : Array (String × TypeId)}
    (hg : P.globalNamed n = some g) (ht : (P.globals[g]?).map (·.type) = some ti) (hi : P.underlying ti = some (.interface ms)) : ∃ u v, W.cell? ⟨g, 0, none⟩ = some (.iface u v) := by
  obtain ⟨ps, ⟨g', t', cs, fuel, p, q, hg', ht', hvar, hd, _, _⟩, _⟩ := h
  obtain rfl := Option.some.inj (hg.symm.trans hg')
  obtain rfl := Option.some.inj (ht.symm.trans ht')
  obtain ⟨_, u, v, hcs, _, _⟩ := iface_of_trod hi hd
  refine ⟨u, v, ?_⟩
  have e : cs = #[.iface u v] := by
    rw [← Array.toArray_toList (xs := cs), hcs]
  rw [e] at hvar
  exact cell_of_var hg hvar
end Go.Skm
namespace Go.Skm
open Go Go.Proofs Go.Shelf Go.RowKit
def cmpF : ExtFn := fun args bl => match args, bl with
  | [.p (.str a), .p (.str b)], [] => some ([.p (.int .i64 (Lib.compareBytes a.data.toList b.data.toList))], [])
  | _, _ => none
def joinF : ExtFn := fun args bl => match args, bl with
  | [.p (.list false [.str] [.str a, .str b, .str c, .str d, .str e]), .p (.str sep)], [] =>
    if (Lib.join ([a, b, c, d, e].map (·.data.toList)) sep.data.toList).length ≤ 281474976710656 then some ([.p (.str (ba (Lib.join ([a, b, c, d, e].map (·.data.toList)) sep.data.toList)))], []) else none
  | _, _ => none
section
variable {P : Program} {T : Tab} {gl : List (Nat × Obj)} {ρ : Ren} {fi : FI} {c : Code}
theorem ext1_cmp (L : Lays.n106 P ρ) {f : Nat} (hf : ρ.f 106 = f) (hfi : tlook T.funcs f = some fi) (hb : fi.fn.body = some c) (hr : fi.cfg.rets = []) {t : TypeId} (ht : fi.fn.resultTypes = #[t]) (hs : shapeT T t = (false, [.int .i64])) : ExtOk1 P T gl f cmpF := by
  intro fi' args bl rs bl' hfi' h
  have : fi' = fi := by rw [hfi] at hfi'; exact (Option.some.inj hfi').symm
  subst this
  unfold cmpF at h
  split at h
  · next a b =>
    cases h
    refine ⟨⟨_, hb⟩, by simp, fun w M β cargs hgl hpre => ?_⟩
    obtain ⟨v, u, rfl, hv, hu⟩ := cargs_two hpre
    have hv' := vr_str' hv
    subst hv'
    have hu' := vr_str' hu
    subst hu'
    have call := Any.strings_Compare L a b w
    rw [hf] at call
    refine call.mono fun e w' ⟨he, hw⟩ => ⟨[.int .i64 (Lib.compareBytes a.data.toList b.data.toList)], [none], M, he, ?_⟩
    subst hw
    exact post_grow hpre (Below.refl _ _) (.refl _ _) (fun M => resL_one hr ht (by rw [hs]; rfl) (.int _ _)) (fun b o h => by simp at h)
  · cases h
theorem ext1_join (hne : gl ≠ []) (L : Lays.n156 P ρ) (B : Builder.Extra P ρ) {f : Nat} (hf : ρ.f 156 = f) (hfi : tlook T.funcs f = some fi) (hb : fi.fn.body = some c) (hr : fi.cfg.rets = []) {t : TypeId} (ht : fi.fn.resultTypes = #[t]) (hs : shapeT T t = (false, [.str])) : ExtOk1 P T gl f joinF := by
  intro fi' args bl rs bl' hfi' h
  have : fi' = fi := by rw [hfi] at hfi'; exact (Option.some.inj hfi').symm
  subst this
  unfold joinF at h
  split at h
  · next x0 x1 x2 x3 x4 sep =>
    split at h
    · next hn =>
      cases h
      refine ⟨⟨_, hb⟩, by simp, fun w M β cargs hgl hpre => ?_⟩
      obtain ⟨v, u, rfl, hv, hu⟩ := cargs_two hpre
      have hu' := vr_str' hu
      subst hu'
      cases hv with
      | list _ _ _ b o cap g hM hcap hc hvr hsh =>
        have cells : ∀ (j : Nat) x, [x0, x1, x2, x3, x4][j]? = some x → w.cell? ⟨b, o + j, none⟩ = some (.string x) := by
          intro j x hx
          have hx' : ([.str x0, .str x1, .str x2, .str x3, .str x4] : List PV)[j]? = some (.str x) := by
            have : ([.str x0, .str x1, .str x2, .str x3, .str x4] : List PV) = [x0, x1, x2, x3, x4].map PV.str := rfl
            rw [this, List.getElem?_map, hx]; rfl
          have h1 := hc j _ 0 (.str x) hx' rfl
          have h2 := vr_str' (hvr j _ 0 (.str x) hx' rfl)
          rw [h2] at h1
          simpa using h1
        have call := Any.strings_Join_48 L B b o cap [x0, x1, x2, x3, x4] sep w cells (hpre.msub b hM) (by simp) hcap hn
        rw [hf] at call
        refine call.mono fun e w' ⟨he, hw⟩ => ⟨[.string (ba (Lib.join ([x0, x1, x2, x3, x4].map fun x : ByteArray => x.data.toList) sep.data.toList))], [none], M, he, ?_⟩
        exact post_grow hpre hw (fun e => absurd e hne) (fun M => resL_one hr ht (by rw [hs]; rfl) (.str _)) (fun b o h => by simp at h)
    · cases h
  · cases h
end
end Go.Skm
namespace Go.Skm
open Go Go.Proofs Go.Shelf Go.RowKit Go.Sort
def decS : List PV → Option (List (List UInt8))
  | [] => some []
  | .str s :: r => (decS r).map fun l => s.data.toList :: l
  | _ => none
def encSt (l : List (List UInt8)) : List PV := l.map fun p => .str (ba p)
theorem decS_enc : ∀ l : List (List UInt8), decS (encSt l) = some l
  | [] => rfl
  | p :: r => by
    show (decS (encSt r)).map _ = _
    rw [decS_enc r]; rfl
theorem decS_some : ∀ {xs : List PV} {l : List (List UInt8)}, decS xs = some l → xs = encSt l
  | [], l, h => by cases h; rfl
  | .str s :: r, l, h => by
    simp only [decS, Option.map_eq_some_iff] at h
    obtain ⟨l', h1, rfl⟩ := h
    rw [decS_some h1]
    simp [encSt, ba_of]
  | .int _ _ :: _, _, h | .bool _ :: _, _, h | .agg _ :: _, _, h | .list _ _ _ :: _, _, h | .full _ _ _ :: _, _, h | .nil :: _, _, h | .fn _ _ :: _, _, h | .ref _ :: _, _, h | .nilp :: _, _, h | .nilfn :: _, _, h | .ifc :: _, _, h | .nilif :: _, _, h => by simp [decS] at h
def sortedS (l : List (List UInt8)) : List (List UInt8) := l.mergeSort fun x y => decide (x ≤ y)
theorem sortedS_len (l : List (List UInt8)) : (sortedS l).length = l.length := (List.mergeSort_perm _ _).length_eq
def sortSF : ExtFn := fun args bl => match args, bl with
  | [.slice s z off n], [.arr false ks xs] => match decS xs with
    | some l => if (s == argSite && (z == 1 && (off == 0 && (n == l.length && (decide (l.length ≤ 100000) && Kd.beqs ks [.str]))))) = true then some ([], [.arr false [.str] (encSt (sortedS l))]) else none
    | none => none
  | _, _ => none
section
variable {P : Program} {T : Tab} {gl : List (Nat × Obj)} {ρ : Ren} {fi : FI} {c : Code}
theorem ext1_sortS (hne : gl ≠ []) (L : Lays.n190 P ρ) {f : Nat} (hf : ρ.f 190 = f) (hfi : tlook T.funcs f = some fi) (hb : fi.fn.body = some c) (hby : fi.cfg.byRef = true) (ht : fi.fn.resultTypes = #[]) : ExtOk1 P T gl f sortSF := by
  intro fi' args bl rs bl' hfi' h
  have : fi' = fi := by rw [hfi] at hfi'; exact (Option.some.inj hfi').symm
  subst this
  unfold sortSF at h
  split at h
  · next s z off n ks xs =>
    split at h
    · next l hd =>
      split at h
      · next hc =>
        simp only [Bool.and_eq_true, beq_iff_eq, decide_eq_true_eq] at hc
        obtain ⟨rfl, rfl, rfl, rfl, hn, hk⟩ := hc
        have hk := Kd.beqs_eq _ _ hk
        subst hk
        have hxs := decS_some hd
        subst hxs
        cases h
        refine ⟨⟨_, hb⟩, by simp [pureBlk], fun w M β cargs hgl hpre => ?_⟩
        have a0 := hpre.args 0 _ rfl
        have hb0 := hpre.blk 0 _ rfl
        have hlen : (encSt l).length = l.length := by simp [encSt]
        have hsz1 : cargs.size = 1 := hpre.num
        have hcg : cargs = #[cargs.getD 0 undef] := by
          apply Array.ext
          · simpa using hsz1
          · intro i h1 h2
            have : i = 0 := by simp at h2; exact h2
            subst this
            simp [Array.getD, hsz1]
        have hlk : look (initHeap 0 [Blk.arr false [.str] (encSt l)]) argSite = some (.arr false [.str] (encSt l)) := by
          have := look_init (bl := [Blk.arr false [.str] (encSt l)]) 0 0
          simpa using this
        by_cases h0 : l = []
        · subst h0
          obtain ⟨p, cap, hv⟩ : ∃ p cap, cargs.getD 0 undef = .slice p 0 cap := by
            generalize hz : (1 : Nat) = z at a0
            generalize hc0 : cargs.getD 0 undef = cv at a0
            generalize hnn : ([] : List (List UInt8)).length = nn at a0
            cases a0 with
            | slice s off len a ks xs b o cap p1 p2 p3 p4 p5 => exact ⟨_, cap, by rw [← hnn]; rfl⟩
            | sliceE => exact ⟨_, _, rfl⟩
          rw [hv] at hcg
          subst hcg
          have call := Any.slices_Sort_string_none L p cap w
          rw [hf] at call
          refine call.mono fun e w' ⟨he, hw⟩ => ⟨[], [], M, he, ?_⟩
          subst hw
          refine ⟨by rw [ht]; exact .nil _, fun b o h => by simp at h, (fun h _ => by rw [hby] at h; cases h), fun b h => h, fun b h => .inl h, fun b h => hpre.msub b h, fun _ _ _ => rfl, fun _ _ _ h => h, Nat.le_refl _, rfl, rfl, rfl, .refl _ _, rfl, ?_⟩
          intro i b0 b1 h1 h2
          match i, h1, h2 with
          | 0, h1, h2 =>
            cases h1; cases h2
            have e : sortedS [] = [] := List.length_eq_zero_iff.1 (sortedS_len [])
            rw [e]
            exact ⟨.arrE _ _, ⟨rfl, rfl, Nat.le_refl _⟩, rfl, rfl⟩
          | i + 1, h1, h2 => simp at h1
        · have hpos : 0 < l.length := List.length_pos_iff.2 h0
          have get : ∀ (m : List (List UInt8)) (i : Nat), (encSt m)[i]? = (m[i]?).map fun p => PV.str (ba p) := fun m i => by simp [encSt]
          obtain ⟨b, o, cap, hβ, c0, hcap⟩ : ∃ b o cap, β argSite = some (b, o) ∧ cargs.getD 0 undef = .slice (some ⟨b, o, none⟩) l.length cap ∧ l.length ≤ cap := by
            generalize hc0 : cargs.getD 0 undef = cv at a0
            generalize hnn : l.length = nn at a0 hpos
            generalize hz : (1 : Nat) = z at a0
            cases a0 with
            | slice s off len a ks xs b o cap p1 p2 p3 p4 p5 => exact ⟨b, o, cap, p3, by simp, p4⟩
            | sliceE => exact absurd hpos (Nat.lt_irrefl 0)
          rw [c0] at hcg
          subst hcg
          have hown := hpre.own 0 b o (by simp) hβ
          have blkInv : ∃ C e fr, w.heap[b]? = some (.cells C e fr) ∧ o + l.length ≤ C.size ∧ Open C fr ∧ ∀ (i : Nat) (p : List UInt8), l[i]? = some p → C.getD (o + i) undef = .string (ba p) := by
            generalize hx : Blk.arr false [Kd.str] (encSt l) = x at hb0
            cases hb0 with
            | box => cases hx
            | log => cases hx
            | arrE a ks =>
              injection hx with _ _ h3
              have := congrArg List.length h3
              simp [encSt] at this
              exact absurd this h0
            | arr a ks xs b' o' C e fr hb hw hn ho hs hc =>
              injection hx with h1 h2 h3
              subst h1 h2 h3
              have : (b', o') = (b, o) := by
                rw [show argSite + 0 = argSite from rfl, hβ] at hb
                exact (Option.some.inj hb).symm
              cases this
              refine ⟨C, e, fr, hw, by simpa [encSt] using hn, ho, fun i p hp => ?_⟩
              have := hc i _ 0 (.str (ba p)) (by rw [get, hp]; rfl) rfl
              have := vr_str' this
              simpa using this
          obtain ⟨C, e, fr, hw, hCn, hopen, hcell⟩ := blkInv
          have hH : Holds encStr w b o l.toArray := by
            intro t ht
            have ht' : t < l.length := by simpa using ht
            have hin : o + t < C.size := by omega
            have hv := hcell t l[t] (List.getElem?_eq_getElem ht')
            have he : l.toArray[t]! = l[t] := by simp [ht']
            constructor
            · simp only [World.cell?, hw, Option.isSome_none, Bool.false_eq_true, if_false]
              rw [Array.getElem?_eq_getElem hin]
              have : C.getD (o + t) undef = C[o + t] := by simp [Array.getD, hin]
              rw [← this, hv, he]; rfl
            · have := hopen.at (o + t) hin
              obtain ⟨lo, hi⟩ := fr
              simp only [World.frozen?, hw]
              simp only [Bool.and_eq_false_iff, decide_eq_false_iff_not]
              simp only [not_and, Nat.not_lt] at this
              by_cases hlo : lo ≤ o + t
              · right; have := this hlo; omega
              · left; exact hlo
          have call := Any.slices_Sort_string L b o cap l w hH hown.2 (by omega)
          rw [hf] at call
          refine call.mono fun ee w' ⟨he, k, os, hw'⟩ => ⟨[], [], M, he, ?_⟩
          have hheap : w'.heap = (w.heap.modify b (onCells (putCells encStr o (sortedS l).toArray))) ++ os := by rw [hw']; rfl
          have hsz : w.heap.size ≤ w'.heap.size := by rw [hheap]; simp
          have hold : ∀ k, k < w.heap.size → w'.heap[k]? = (w.heap.modify b (onCells (putCells encStr o (sortedS l).toArray)))[k]? := fun k hk => by
            rw [hheap, Array.getElem?_append_left (by simpa using hk)]
          have hoth : ∀ k, k < w.heap.size → k ≠ b → w'.heap[k]? = w.heap[k]? := fun k hk hne => by
            rw [hold k hk, Array.getElem?_modify, if_neg (fun e => hne e.symm)]
          have hthis : w'.heap[b]? = some (.cells (putCells encStr o (sortedS l).toArray C) e fr) := by
            rw [hold b hown.2, Array.getElem?_modify, if_pos rfl, hw]; rfl
          have hCs : (putCells encStr o (sortedS l).toArray C).size = C.size := by unfold putCells; simp
          refine ⟨by rw [ht]; exact .nil _, fun b o h => by simp at h, (fun h _ => by rw [hby] at h; cases h), fun b hb => hb, fun b hb => Or.inl hb, fun k hk => Nat.lt_of_lt_of_le (hpre.msub k hk) hsz, ?_, ?_, hsz, ?_, ?_, ?_, fun e => absurd e hne, rfl, ?_⟩
          · intro k hk hne
            refine hoth k hk fun e => ?_
            subst e
            exact hne 0 o (by simp) hβ
          · intro k m hk hroom
            by_cases hkb : k = b
            · subst hkb
              obtain ⟨C', e', fr', h1, h2, h3⟩ := hroom
              rw [hw] at h1
              cases h1
              exact ⟨_, e, fr, hthis, by rw [hCs]; exact h2, h3.size hCs⟩
            · obtain ⟨C', e', fr', h1, h2, h3⟩ := hroom
              exact ⟨C', e', fr', by rw [hoth k hk hkb]; exact h1, h2, h3⟩
          · rw [hw']; rfl
          · rw [hw']; rfl
          · rw [hw']; rfl
          · intro i x0 x1 h1 h2
            match i, h1, h2 with
            | 0, h1, h2 =>
              cases h1; cases h2
              refine ⟨?_, ⟨rfl, rfl, by simp [encSt, sortedS_len]⟩, rfl, rfl⟩
              refine .arr false [.str] _ b o _ e fr hβ hthis ?_ (hopen.size hCs) ?_ ?_
              · rw [hCs]; simp [encSt, sortedS_len]; exact hCn
              · intro x hx
                simp only [encSt, List.mem_map] at hx
                obtain ⟨v, _, rfl⟩ := hx
                rfl
              · intro i x j c hx hc
                rw [get] at hx
                obtain ⟨p, hp, rfl⟩ := Option.map_eq_some_iff.1 hx
                have hj : j = 0 ∧ c = .str (ba p) := by
                  match j, hc with
                  | 0, hc => cases hc; exact ⟨rfl, rfl⟩
                  | j + 1, hc => simp [PV.cells] at hc
                obtain ⟨rfl, rfl⟩ := hj
                have hi : i < (sortedS l).length := (List.getElem?_eq_some_iff.1 hp).1
                have hil : i < l.length := by rwa [sortedS_len] at hi
                have hin : o + i < C.size := by omega
                have hval : (putCells encStr o (sortedS l).toArray C).getD (o + i * [Kd.str].length + 0) undef = .string (ba p) := by
                  rw [Array.getD_eq_getD_getElem?]
                  unfold putCells
                  simp only [List.length_cons, List.length_nil, Nat.zero_add, Nat.mul_one, Nat.add_zero]
                  rw [Array.getElem?_mapIdx, Array.getElem?_eq_getElem hin]
                  simp only [Option.map_some, Option.getD_some]
                  rw [if_pos ⟨by omega, by simp; omega⟩]
                  have : o + i - o = i := by omega
                  rw [this]
                  have hpi : (sortedS l)[i] = p := (List.getElem?_eq_some_iff.1 hp).2
                  simp [hi, hpi, encStr, ba]
                rw [hval]
                exact .str _
            | i + 1, h1, h2 => simp at h1
      · cases h
    · cases h
  · cases h
end
end Go.Skm
namespace Go.Skm
open Go Go.Proofs Go.Shelf Go.RowKit Go.Lib
variable {P : Program} {ρ : Ren}
set_option maxHeartbeats 2000000 in
set_option maxRecDepth 100000 in
theorem clone_zero (L : SlLaysE0.n41 P ρ) (i0 : TypeInfo) (z : Value) (size bytes : Nat) (hi : P.info? (ρ.t 23) = some i0) (hz0 : i0.zero = some z) (hz1 : i0.size = size) (hz2 : i0.bytes = bytes) (hzs : z.cells.size = size) (hsz : 0 < size)
    (z23 : ∀ w, (Go.sizeOf (ρ.t 23)).run P w = .ok size w) (a : Addr) (c : Nat) (w : World) :
    Calls P (ρ.f 41) #[.slice (some a) 0 c] w fun e w' => ∃ v', e = .returned v' ∧ w'.ownsRow w.heap.size (ρ.t 23) size v' 0 [] ∧ Below w.heap.size w w' := by
  have mixed := L.mixed; have t4 := L.t4; have a4 := L.a4; have z4 := L.z4; have v4 := L.v4; have t22 := L.t22; have a22 := L.a22; have z22 := L.z22; have v22 := L.v22
  have q22 : ∀ (w : World) (a : Option Addr) (n c n' c' : Nat), (binOp .eql (ρ.t 22) (.slice a n c) (.slice none n' c')).run P w = .ok (.bool a.isNone) w := fun w a n c n' c' => Lib.run_eql_slice_nil w _ _ a n c n' c' L.t22
  have u22 : ∀ w, Sem.run P (underlying (ρ.t 22)) w = .ok (TypeDesc.slice (ρ.t 23)) w := run_underlying t22
  obtain ⟨_, _, FG⟩ := L.f41
  go_enter FG, SlBodyN.n41_ntmps ρ
  go_wp2_with (at_builtin; refine wpList_append_own _ rfl _ _ (ρ.t 22) rfl w.heap.size (ρ.t 23) i0 z size bytes t22 hi hz0 hz1 hz2 hzs hsz _ _ _ rfl (World.ownsRow_made w #[] 0 (Nat.le_refl _) (Nat.zero_le _) (by simp)) a 0 c [] rfl ?qc1 ?qc2 ?qc3 ?qc4 ?qc5 ?qc6 ?_)
  case qc1 => simp
  case qc2 =>
    intro j u hj
    simp at hj
  case qc3 => intro u hu; simp at hu
  case qc4 => simp
  case qc5 => simp
  case qc6 => simp
  intro v' w1 hown hgrow hnil
  go_wp2
  go_ret
  refine ⟨v', rfl, by simpa using hown, ?_⟩
  exact ((Below.refl _ w).alloc (Nat.le_refl _) _).grown hgrow (by simp) (by intro k hk; simp [Value.ownBlock] at hk; omega)
section
variable {T : Tab} {fi : FI} {β : Nat → Option (Nat × Nat)}
theorem resL_none {t e el : TypeId} {a : Bool} {ks : List Kd} {w' : World} {v' : Value} {base : Nat} {h : Nat → Option Blk} (hr : fi.cfg.rets = [.fresh]) (ht : fi.fn.resultTypes = #[t]) (hu : und T t = some (.slice e)) (hsh : shapeT T e = (a, ks))
    (ho : w'.ownsRow base el ks.length v' 0 []) : ∃ ps, (∀ M : Nat → Prop, ResL T w' M β h fi.cfg.rets fi.fn.resultTypes.toList [.fresh a ks []] [v'] ps) ∧ ∀ b o, some (b, o) ∈ ps → b < w'.heap.size ∧ base ≤ b := by
  have e1 : (shapeT T e).1 = a := by rw [hsh]
  have e2 : (shapeT T e).2 = ks := by rw [hsh]
  obtain ⟨-, ⟨rfl, -⟩ | ⟨g, cap, cur, rfl, hb, hg, -, -, hsz, -⟩⟩ := ho
  · refine ⟨[none], fun M => ?_, fun b o h => by simp at h⟩
    rw [hr, ht]
    refine .cons _ _ _ _ _ _ _ _ _ ?_ (.nil _) (fun b o o' _ h => by cases h)
    have key := ResR.fresh (T := T) (w := w') (M := M) (β := β) (h := h) t e [] (.slice none 0 0) none hu
    rw [e1, e2] at key
    exact key (.arrE _ _) (.sliceE 0 0 a ks [] none rfl (Nat.le_refl _))
  · refine ⟨[some (g, 0)], fun M => ?_, fun b o h => ?_⟩
    · rw [hr, ht]
      refine .cons _ _ _ _ _ _ _ _ _ ?_ (.nil _) (fun b o o' _ h => by cases h)
      have key := ResR.fresh (T := T) (w := w') (M := M) (β := β) (h := h) t e [] (.slice (some ⟨g, 0, none⟩) 0 cap) (some (g, 0)) hu
      rw [e1, e2] at key
      refine key (.arrE _ _) ?_
      have k2 := AR.slice (w := w') (M := M) (β := fun _ => some (g, 0)) (h := fun _ => some (.arr a ks [])) 0 0 0 a ks [] g 0 cap rfl (by simp) rfl (Nat.zero_le _) ⟨cur, el, (0, 0), hg, by simp; omega, .inl rfl⟩
      simpa using k2
    · simp only [List.mem_singleton, Option.some.injEq, Prod.mk.injEq] at h
      obtain ⟨rfl, rfl⟩ := h
      exact ⟨(Array.getElem?_eq_some_iff.1 hg).1, hb⟩
end
end Go.Skm
namespace Go.Skm
open Go Go.Proofs Go.Shelf Go.RowKit Go.Sort
def PV.val : PV → Value
  | .int k n => .int k n
  | .bool b => .bool b
  | .str s => .string s
  | _ => undef
def PV.flatC : PV → Bool
  | .int _ _ => true
  | .bool _ => true
  | .str _ => true
  | _ => false
theorem vr_val {w : World} {M : Nat → Prop} {p : PV} (h : p.flatC = true) : VR w M p p.val := by
  cases p <;> simp only [PV.flatC, Bool.false_eq_true] at h
  · exact .bool _
  · exact .int _ _
  · exact .str _
theorem vr_eq_val {w : World} {M : Nat → Prop} {p : PV} {c : Value} (h : p.flatC = true) (hv : VR w M p c) : c = p.val := by
  cases hv <;> simp only [PV.flatC, Bool.false_eq_true] at h <;> rfl
theorem flatC_leaf {p : PV} (h : p.flatC = true) : p.leaf = true := by
  cases p <;> simp only [PV.flatC, Bool.false_eq_true] at h <;> rfl
theorem flatC_one {p : PV} (h : p.flatC = true) : p.val.oneCell' = true := by
  cases p <;> simp only [PV.flatC, Bool.false_eq_true] at h <;> rfl
structure SortEnc (α : Type) where
  ks : List Kd
  pc : α → List PV
  dec : PV → Option α
  len : ∀ x, (pc x).length = ks.length
  flat : ∀ x, ∀ c ∈ pc x, c.flatC = true
  kinds : ∀ x, shapeOk true ks (.agg (pc x)) = true
  enc_dec : ∀ x, dec (.agg (pc x)) = some x
  dec_enc : ∀ p x, dec p = some x → p = .agg (pc x)
namespace SortEnc
variable {α : Type} (E : SortEnc α)
def encs (l : List α) : List PV := l.map fun x => .agg (E.pc x)
def decs : List PV → Option (List α)
  | [] => some []
  | p :: r => match E.dec p, decs r with
    | some v, some l => some (v :: l)
    | _, _ => none
theorem decs_encs (l : List α) : E.decs (E.encs l) = some l := by
  induction l with
  | nil => rfl
  | cons v l ih =>
    unfold encs at ih
    simp only [encs, List.map_cons, decs, E.enc_dec, ih]
theorem decs_some {xs : List PV} : ∀ {l : List α}, E.decs xs = some l → xs = E.encs l := by
  induction xs with
  | nil => intro l h; cases h; rfl
  | cons p r ih =>
    intro l h
    unfold decs at h
    split at h
    · next v l' h1 h2 =>
      cases h
      rw [E.dec_enc _ _ h1, ih h2]; rfl
    · cases h
theorem encs_length (l : List α) : (E.encs l).length = l.length := by simp [encs]
theorem encs_get (l : List α) (i : Nat) : (E.encs l)[i]? = (l[i]?).map fun x => PV.agg (E.pc x) := by simp [encs]
def vals (x : α) : List Value := (E.pc x).map PV.val
theorem vals_length (x : α) : (E.vals x).length = E.ks.length := by simp [vals, E.len]
theorem vals_get (x : α) (j : Nat) : (E.vals x)[j]? = ((E.pc x)[j]?).map PV.val := by simp [vals]
theorem vals_one (x : α) : ∀ v ∈ E.vals x, v.oneCell' = true := by
  intro v hv
  obtain ⟨p, hp, rfl⟩ := List.mem_map.1 hv
  exact flatC_one (E.flat x p hp)
theorem vr (w : World) (M : Nat → Prop) (x : α) : VR w M (.agg (E.pc x)) (.agg (E.vals x).toArray) := by
  refine .agg _ _ (by simp [vals]) (fun c hc => flatC_leaf (E.flat x c hc)) fun i c hc => ?_
  have e : (E.vals x).toArray.getD i undef = c.val := by
    rw [Array.getD_eq_getD_getElem?, List.getElem?_toArray, E.vals_get, hc]; rfl
  rw [e]
  exact vr_val (E.flat x c (List.mem_of_getElem? hc))
end SortEnc
section
variable {α : Type} {P : Program} {T : Tab}
theorem cmp_calls (ok : TabOk P T) {X : Ext} (hX : ExtOk P T [] X) {g : Nat} {fi : FI} (hfi : tlook T.funcs g = some fi) (hr : fi.cfg.rets = []) {t : TypeId} (ht : fi.fn.resultTypes = #[t]) (E : SortEnc α) {x y : α} {n : Int}
    (h : run T X g [.p (.agg (E.pc x)), .p (.agg (E.pc y))] [] = some ([.p (.int .i64 n)], [])) (w : World) :
    Calls P g #[.agg (E.vals x).toArray, .agg (E.vals y).toArray] w fun e w' => e = .returned (.int .i64 n) ∧ ∃ q os', w' = grow (w.drewN q) os' := by
  have hs := run_sound ok hX g fi _ [] _ [] hfi (by simp) h
  have hpre : CallPre w (fun _ => False) (fun _ => none) [.p (.agg (E.pc x)), .p (.agg (E.pc y))] [] #[.agg (E.vals x).toArray, .agg (E.vals y).toArray] := by
    refine ⟨rfl, fun i v hi => ?_, fun i b0 hi => by simp at hi, fun i b o hi => by simp at hi, fun i j b o o' hi => by simp at hi, fun b hb => hb.elim⟩
    match i, hi with
    | 0, hi => cases hi; exact .p _ _ (E.vr w _ x)
    | 1, hi => cases hi; exact .p _ _ (E.vr w _ y)
    | i + 2, hi => simp at hi
  refine Calls.mono (hs.2 w _ _ _ (by simp) hpre) fun e w' hpost => ?_
  obtain ⟨cs, ps, M', rfl, post⟩ := hpost
  have hcs : cs = [.int .i64 n] := by
    have hr' := post.res
    rw [hr, ht] at hr'
    cases hr' with
    | cons _ _ _ _ _ c cs' p ps' h1 h2 _ =>
      cases h2
      cases h1 with
      | deep _ x _ _ hv => cases hv; rfl
  subst hcs
  refine ⟨rfl, w'.drawn - w.drawn, w'.heap.extract w.heap.size w'.heap.size, ?_⟩
  have hkeep : ∀ b, b < w.heap.size → w'.heap[b]? = w.heap[b]? := fun b hb => post.keep b hb fun i o hi => by simp at hi
  have hh : w'.heap = w.heap ++ w'.heap.extract w.heap.size w'.heap.size := by
    apply Array.ext_getElem?
    intro k
    have hsz := post.size
    rw [Array.getElem?_append]
    split
    · next hk => exact hkeep k hk
    · next hk =>
      rw [Array.getElem?_extract]
      by_cases hk2 : k < w'.heap.size
      · rw [if_pos (by omega)]
        congr 1; omega
      · rw [if_neg (by omega), Array.getElem?_eq_none (by omega)]
  have hd := post.drawn rfl
  cases w' with
  | mk heap tape drawn os output =>
    have h1 : os = w.os := post.os
    have h2 : tape = w.tape := post.tape
    have h3 : output = w.output := post.output
    subst h1 h2 h3
    simp only at hh hd ⊢
    unfold grow World.drewN
    simp only
    rw [← hh, show w.drawn + (drawn - w.drawn) = drawn from by omega]
end
variable {α : Type} [Inhabited α]
def pdqL (cf : α → α → Int) (l : List α) : List α := (pdq (ltOf cf) l.toArray 0 l.toArray.size (Lib.bitLen l.toArray.size) true true).toList
theorem pdqL_spec {cf : α → α → Int} (hO : SWO (ltOf cf)) (l : List α) : (pdqL cf l).Perm l ∧ (pdqL cf l).Pairwise fun a b => ltOf cf b a = false := by
  obtain ⟨⟨h1, -, h2⟩, h3⟩ := pdq_sorts (ltOf cf) hO l.toArray 0 l.toArray.size (Lib.bitLen l.toArray.size) true true (Nat.zero_le _) (Nat.le_refl _) (Or.inl rfl)
  unfold pdqL
  generalize pdq (ltOf cf) l.toArray 0 l.toArray.size (Lib.bitLen l.toArray.size) true true = d' at *
  have e1 : d'.extract 0 l.toArray.size = d' := by rw [← h1]; simp
  have e2 : l.toArray.extract 0 l.toArray.size = l.toArray := by simp
  rw [e1, e2] at h2
  refine ⟨by simpa using h2, ?_⟩
  rw [List.pairwise_iff_getElem]
  intro i j hi hj hij
  have := h3 i j (Nat.zero_le _) hij (by rw [← h1]; simpa using hj)
  have hi' : i < d'.size := by simpa using hi
  have hj' : j < d'.size := by simpa using hj
  rw [getElem!_pos d' j hj', getElem!_pos d' i hi'] at this
  simpa using this
theorem pdqL_len {cf : α → α → Int} (hO : SWO (ltOf cf)) (l : List α) : (pdqL cf l).length = l.length := (pdqL_spec hO l).1.length_eq
def sortFF (E : SortEnc α) (cf : α → α → Int) (g : Nat) : ExtFn := fun args bl => match args, bl with
  | [.slice s z off n, .p (.fn g' [])], [.arr true ks xs] => match E.decs xs with
    | some l => if (s == argSite && (z == E.ks.length && (off == 0 && (n == l.length && (g' == g && (decide (l.length ≤ 100000) && Kd.beqs ks E.ks)))))) = true then some ([], [.arr true E.ks (E.encs (pdqL cf l))]) else none
    | none => none
  | _, _ => none
theorem sortFF_eq (E : SortEnc α) (cf : α → α → Int) (g : Nat) (l : List α) (hl : l.length ≤ 100000) (hk : Kd.beqs E.ks E.ks = true) : sortFF E cf g [.slice argSite E.ks.length 0 l.length, .p (.fn g [])] [.arr true E.ks (E.encs l)] = some ([], [.arr true E.ks (E.encs (pdqL cf l))]) := by
  unfold sortFF
  simp only [E.decs_encs]
  rw [if_pos (by simp [hl, hk])]
section
variable {P : Program} {T : Tab} {gl : List (Nat × Obj)} {ρ : Ren}
theorem flatE_get (E : SortEnc α) (l : List α) (i j : Nat) (v : α) (p : PV) (hv : l[i]? = some v) (hj : (E.pc v)[j]? = some p) : (flatK E.vals E.ks.length l.toArray)[i * E.ks.length + j]! = p.val := by
  have hi : i < l.length := (List.getElem?_eq_some_iff.1 hv).1
  have hjl : j < E.ks.length := by rw [← E.len v]; exact (List.getElem?_eq_some_iff.1 hj).1
  have hs : i * E.ks.length + j < l.toArray.size * E.ks.length := by
    have : (i + 1) * E.ks.length ≤ l.length * E.ks.length := Nat.mul_le_mul_right _ hi
    rw [Nat.succ_mul] at this
    simp; omega
  rw [get_flatK _ _ _ _ hs]
  have e1 : (i * E.ks.length + j) / E.ks.length = i := by
    rw [Nat.mul_comm, Nat.mul_add_div (by omega), Nat.div_eq_of_lt hjl, Nat.add_zero]
  have e2 : (i * E.ks.length + j) % E.ks.length = j := by
    rw [Nat.mul_comm, Nat.mul_add_mod, Nat.mod_eq_of_lt hjl]
  rw [e1, e2]
  have e3 : l.toArray[i]! = v := by
    rw [getElem!_pos _ i (by simpa using hi)]
    simpa using (List.getElem?_eq_some_iff.1 hv).2
  rw [e3]
  have := E.vals_get v j
  rw [hj] at this
  rw [List.getElem!_eq_getElem?_getD, this]; rfl
theorem ext1_sortFunc (hne : gl ≠ []) (L : SlLaysF0.n6 P ρ) (E : SortEnc α) (hk0 : 0 < E.ks.length) (aE : ∀ w, (isAgg (ρ.t 24)).run P w = .ok true w) (zE : ∀ w, (Go.sizeOf (ρ.t 24)).run P w = .ok E.ks.length w) {cf : α → α → Int} (hO : SWO (ltOf cf)) {g : Nat}
    (eg : ∀ args w, (callFunc g args).run P w = .ok (.enter g args) w) (hcmp : ∀ (w : World) x y, Calls P g #[.agg (E.vals x).toArray, .agg (E.vals y).toArray] w fun e w' => e = .returned (.int .i64 (cf x y)) ∧ ∃ q os', w' = grow (w.drewN q) os')
    {f : Nat} (hf : ρ.f 6 = f) {fi : FI} {c : Code} (hfi : tlook T.funcs f = some fi) (hb : fi.fn.body = some c) (hby : fi.cfg.byRef = true) (ht : fi.fn.resultTypes = #[]) : ExtOk1 P T gl f (sortFF E cf g) := by
  intro fi' args bl rs bl' hfi' h
  have : fi' = fi := by rw [hfi] at hfi'; exact (Option.some.inj hfi').symm
  subst this
  unfold sortFF at h
  split at h
  · next s z off n g' ks xs =>
    split at h
    · next l hd =>
      split at h
      · next hc =>
        simp only [Bool.and_eq_true, beq_iff_eq, decide_eq_true_eq] at hc
        obtain ⟨rfl, rfl, rfl, rfl, rfl, hn, hk⟩ := hc
        have hk := Kd.beqs_eq _ _ hk
        subst hk
        have hxs := E.decs_some hd
        subst hxs
        cases h
        refine ⟨⟨_, hb⟩, by simp [pureBlk], fun w M β cargs hgl hpre => ?_⟩
        have a0 := hpre.args 0 _ rfl
        have a1 := hpre.args 1 _ rfl
        have hb0 := hpre.blk 0 _ rfl
        have hlen : (E.encs l).length = l.length := E.encs_length l
        have hsz2 : cargs.size = 2 := hpre.num
        have c1 : cargs.getD 1 undef = .func (.func g') #[] #[] := by
          generalize cargs.getD 1 undef = u at a1
          cases a1 with
          | p _ _ hv =>
            cases hv with
            | fn _ _ vs hn _ =>
              have : vs = #[] := Array.eq_empty_of_size_eq_zero (by simpa using hn)
              rw [this]
        have hcg : cargs = #[cargs.getD 0 undef, .func (.func g') #[] #[]] := by
          apply Array.ext
          · simpa using hsz2
          · intro i h1 h2
            have : i = 0 ∨ i = 1 := by omega
            rcases this with rfl | rfl
            · simp [Array.getD, hsz2]
            · have : cargs.getD 1 undef = cargs[1] := by simp [Array.getD, hsz2]
              rw [← this, c1]; rfl
        by_cases h0 : l = []
        · subst h0
          obtain ⟨p, cap, hv⟩ : ∃ p cap, cargs.getD 0 undef = .slice p 0 cap := by
            generalize hz : E.ks.length = z at a0
            generalize hc0 : cargs.getD 0 undef = cv at a0
            generalize hnn : ([] : List α).length = nn at a0
            cases a0 with
            | slice s off len a ks xs b o cap p1 p2 p3 p4 p5 => exact ⟨_, cap, by rw [← hnn]; rfl⟩
            | sliceE => exact ⟨_, _, rfl⟩
          rw [hv] at hcg
          subst hcg
          have call := AnyF.slices_SortFunc_none L p cap (.func (.func g') #[] #[]) w
          rw [hf] at call
          refine call.mono fun e w' ⟨he, hw⟩ => ⟨[], [], M, he, ?_⟩
          subst hw
          refine ⟨by rw [ht]; exact .nil _, fun b o h => by simp at h, (fun h _ => by rw [hby] at h; cases h), fun b h => h, fun b h => .inl h, fun b h => hpre.msub b h, fun _ _ _ => rfl, fun _ _ _ h => h, Nat.le_refl _, rfl, rfl, rfl, .refl _ _, rfl, ?_⟩
          intro i b0 b1 h1 h2
          match i, h1, h2 with
          | 0, h1, h2 =>
            cases h1; cases h2
            have e : pdqL cf ([] : List α) = [] := List.length_eq_zero_iff.1 (pdqL_len hO [])
            rw [e]
            exact ⟨.arrE _ _, ⟨rfl, rfl, Nat.le_refl _⟩, by simp [backOk, Kd.beqs_refl], rfl⟩
          | i + 1, h1, h2 => simp at h1
        · have hpos : 0 < l.length := List.length_pos_iff.2 h0
          obtain ⟨b, o, cap, hβ, c0, hcap⟩ : ∃ b o cap, β argSite = some (b, o) ∧ cargs.getD 0 undef = .slice (some ⟨b, o, none⟩) l.length cap ∧ l.length ≤ cap := by
            generalize hc0 : cargs.getD 0 undef = cv at a0
            generalize hnn : l.length = nn at a0 hpos
            generalize hz : E.ks.length = z at a0
            cases a0 with
            | slice s off len a ks xs b o cap p1 p2 p3 p4 p5 => exact ⟨b, o, cap, p3, by simp, p4⟩
            | sliceE => exact absurd hpos (Nat.lt_irrefl 0)
          rw [c0] at hcg
          subst hcg
          have hown := hpre.own 0 b o (by simp) hβ
          have blkInv : ∃ C e fr, w.heap[b]? = some (.cells C e fr) ∧ o + l.length * E.ks.length ≤ C.size ∧ Open C fr ∧ ∀ (i : Nat) (x : α) (j : Nat) (p : PV), l[i]? = some x → (E.pc x)[j]? = some p → C.getD (o + i * E.ks.length + j) undef = p.val := by
            generalize hx : Blk.arr true E.ks (E.encs l) = x at hb0
            cases hb0 with
            | box => cases hx
            | log => cases hx
            | arrE a ks =>
              injection hx with _ _ h3
              have := congrArg List.length h3
              simp [SortEnc.encs] at this
              exact absurd this h0
            | arr a ks xs b' o' C e fr hb hw hn ho hs hc =>
              injection hx with h1 h2 h3
              subst h1 h2 h3
              have : (b', o') = (b, o) := by
                rw [show argSite + 0 = argSite from rfl, hβ] at hb
                exact (Option.some.inj hb).symm
              cases this
              refine ⟨C, e, fr, hw, by simpa [SortEnc.encs] using hn, ho, fun i x j p hx hp => ?_⟩
              exact vr_eq_val (E.flat x p (List.mem_of_getElem? hp)) (hc i (.agg (E.pc x)) j p (by rw [E.encs_get, hx]; rfl) hp)
          obtain ⟨C, e, fr, hw, hCn, hopen, hcell⟩ := blkInv
          have hH : HoldsK E.vals E.ks.length w b o l.toArray := by
            intro t ht
            rw [size_flatK] at ht
            have ht' : t < l.length * E.ks.length := by simpa using ht
            have hi : t / E.ks.length < l.length := Nat.div_lt_of_lt_mul (by rwa [Nat.mul_comm] at ht')
            have hj : t % E.ks.length < E.ks.length := Nat.mod_lt _ hk0
            have et : t = t / E.ks.length * E.ks.length + t % E.ks.length := by rw [Nat.mul_comm]; exact (Nat.div_add_mod _ _).symm
            obtain ⟨v, hv⟩ : ∃ v, l[t / E.ks.length]? = some v := ⟨_, List.getElem?_eq_getElem hi⟩
            obtain ⟨p, hp⟩ : ∃ p, (E.pc v)[t % E.ks.length]? = some p := ⟨_, List.getElem?_eq_getElem (by rw [E.len v]; exact hj)⟩
            have h1 := hcell _ _ _ _ hv hp
            have h2 := flatE_get E l _ _ v p hv hp
            rw [← et] at h2
            rw [Nat.add_assoc, ← et] at h1
            have hin : o + t < C.size := by omega
            constructor
            · simp only [World.cell?, hw, Option.isSome_none, Bool.false_eq_true, if_false]
              rw [Array.getElem?_eq_getElem hin]
              have : C.getD (o + t) undef = C[o + t] := by simp [Array.getD, hin]
              rw [← this, h1, h2]; rfl
            · have := hopen.at (o + t) hin
              obtain ⟨lo, hi⟩ := fr
              simp only [World.frozen?, hw]
              simp only [Bool.and_eq_false_iff, decide_eq_false_iff_not]
              simp only [not_and, Nat.not_lt] at this
              by_cases hlo : lo ≤ o + t
              · right; have := this hlo; omega
              · left; exact hlo
          have call := AnyQ.slices_SortFunc_eq L E.ks.length aE zE E.vals E.vals_length E.vals_one cf hO g' #[] b o cap l.toArray w eg (fun _m _os _dk _ x y => hcmp _ x y) hH hown.2 (by simp; omega)
          rw [hf] at call
          refine Calls.mono call fun ee w' hpost => ?_
          obtain ⟨he, m, os, hw'⟩ := hpost
          have hsl : pdq (ltOf cf) l.toArray 0 l.toArray.size (Lib.bitLen l.toArray.size) true true = (pdqL cf l).toArray := by simp [pdqL]
          rw [hsl] at hw'
          have hpl := pdqL_len hO l
          generalize pdqL cf l = sl at *
          refine ⟨[], [], M, he, ?_⟩
          have hheap : w'.heap = (w.heap.modify b (onCells (putCells id o (flatK E.vals E.ks.length sl.toArray)))) ++ os := by rw [hw']; rfl
          have hsz : w.heap.size ≤ w'.heap.size := by rw [hheap]; simp
          have hold : ∀ k, k < w.heap.size → w'.heap[k]? = (w.heap.modify b (onCells (putCells id o (flatK E.vals E.ks.length sl.toArray))))[k]? := fun k hk => by
            rw [hheap, Array.getElem?_append_left (by simpa using hk)]
          have hoth : ∀ k, k < w.heap.size → k ≠ b → w'.heap[k]? = w.heap[k]? := fun k hk hne => by
            rw [hold k hk, Array.getElem?_modify, if_neg (fun e => hne e.symm)]
          have hthis : w'.heap[b]? = some (.cells (putCells id o (flatK E.vals E.ks.length sl.toArray) C) e fr) := by
            rw [hold b hown.2, Array.getElem?_modify, if_pos rfl, hw]; rfl
          have hCs : (putCells id o (flatK E.vals E.ks.length sl.toArray) C).size = C.size := by unfold putCells; simp
          refine ⟨by rw [ht]; exact .nil _, fun b o h => by simp at h, (fun h _ => by rw [hby] at h; cases h), fun b hb => hb, fun b hb => Or.inl hb, fun k hk => Nat.lt_of_lt_of_le (hpre.msub k hk) hsz, ?_, ?_, hsz, ?_, ?_, ?_, fun e => absurd e hne, rfl, ?_⟩
          · intro k hk hnn
            refine hoth k hk fun e => ?_
            subst e
            exact hnn 0 o (by simp) hβ
          · intro k m hk hroom
            by_cases hkb : k = b
            · subst hkb
              obtain ⟨C', e', fr', h1, h2, h3⟩ := hroom
              rw [hw] at h1
              cases h1
              exact ⟨_, e, fr, hthis, by rw [hCs]; exact h2, h3.size hCs⟩
            · obtain ⟨C', e', fr', h1, h2, h3⟩ := hroom
              exact ⟨C', e', fr', by rw [hoth k hk hkb]; exact h1, h2, h3⟩
          · rw [hw']; rfl
          · rw [hw']; rfl
          · rw [hw']; rfl
          · intro i x0 x1 h1 h2
            match i, h1, h2 with
            | 0, h1, h2 =>
              cases h1; cases h2
              refine ⟨?_, ⟨rfl, rfl, by simp [SortEnc.encs, hpl]⟩, by simp [backOk, Kd.beqs_refl], rfl⟩
              refine .arr true E.ks _ b o _ e fr hβ hthis ?_ (hopen.size hCs) ?_ ?_
              · rw [hCs, E.encs_length, hpl]; exact hCn
              · intro x hx
                simp only [SortEnc.encs, List.mem_map] at hx
                obtain ⟨v, _, rfl⟩ := hx
                exact E.kinds v
              · intro i x j c hx hc
                rw [E.encs_get] at hx
                obtain ⟨v, hv, rfl⟩ := Option.map_eq_some_iff.1 hx
                have hc : (E.pc v)[j]? = some c := hc
                have hg := flatE_get E sl i j v c hv hc
                have hi : i < sl.length := (List.getElem?_eq_some_iff.1 hv).1
                have hjl : j < E.ks.length := by rw [← E.len v]; exact (List.getElem?_eq_some_iff.1 hc).1
                have hin' : i * E.ks.length + j < l.length * E.ks.length := by
                  have : (i + 1) * E.ks.length ≤ l.length * E.ks.length := Nat.mul_le_mul_right _ (by omega)
                  rw [Nat.succ_mul] at this
                  omega
                have hin : o + i * E.ks.length + j < C.size := by omega
                have hval : (putCells id o (flatK E.vals E.ks.length sl.toArray) C).getD (o + i * E.ks.length + j) undef = c.val := by
                  rw [Array.getD_eq_getD_getElem?]
                  unfold putCells
                  rw [Array.getElem?_mapIdx, Array.getElem?_eq_getElem hin]
                  simp only [Option.map_some, Option.getD_some, size_flatK]
                  rw [if_pos ⟨by omega, by simp [hpl]; omega⟩]
                  have : o + i * E.ks.length + j - o = i * E.ks.length + j := by omega
                  rw [this, hg]; rfl
                show VR w' M c ((putCells id o (flatK E.vals E.ks.length sl.toArray) C).getD (o + i * E.ks.length + j) undef)
                rw [hval]
                exact vr_val (E.flat v c (List.mem_of_getElem? hc))
            | i + 1, h1, h2 => simp at h1
      · cases h
    · cases h
  · cases h
end
end Go.Skm
