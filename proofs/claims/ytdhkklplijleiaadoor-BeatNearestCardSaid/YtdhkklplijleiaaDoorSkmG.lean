/-
  A machine that runs this program's functions on pure values, and the proof that what it returns is true of the program; no condition beside the hypotheses of each.
-/
import Derived.Test.YtdhkklplijleiaaDoorSkmE
import Derived.Shelf.LaysM
import Derived.Shelf.LaysC
import Derived.Shelf.Strconv.Itoa3
import Derived.Shelf.Strconv.AtoiAll
import Derived.Shelf.Strings.Split
import Derived.Test.YtdhkklplijleiaaDoorSkmF
import Derived.Handed
import Derived.Lib.LaidTab
import Derived.Stop.LaidErr
/-
  The library's strconv.Itoa, strconv.Atoi and strings.Split, answered as the kit's proofs of them say; condition: the program has them as the kit wants it, and their variables hold what they should.
-/
namespace Go.Skm
open Go Go.Proofs Go.Shelf Go.RowKit Go.Sort

theorem below_grow {w : World} {k : Nat} {os : Array Obj} : Below w.heap.size w (grow (w.drewN k) os) :=
  ⟨rfl, rfl, rfl, by simp [grow, World.drewN], fun j hj => by
    show (w.heap ++ os)[j]? = _
    rw [Array.getElem?_append_left hj]⟩
/-- strconv.Itoa. -/
def itoaF : ExtFn := fun args bl => match args, bl with
  | [.p (.int .i64 n)], [] => if -9223372036854775808 ≤ n ∧ n ≤ 9223372036854775807 then some ([.p (.str (ba (Lib.itoa n)))], []) else none
  | _, _ => none
def atoiF : ExtFn := fun args bl => match args, bl with
  | [.p (.str s)], [] => if s.size ≤ 281474976710656 then some (atoiR s.data.toList, []) else none
  | _, _ => none
/-- strings.Split at one byte. -/
def splitF : ExtFn := fun args bl => match args, bl with
  | [.p (.str s), .p (.str sep)], [] => match sep.data.toList with
    | [c] => if s.size < 4294967281 then some ([.fresh false [.str] ((splitC c s.data.toList).map fun p => .str (ba p))], []) else none
    | _ => none
  | _, _ => none

section
variable {P : Program} {T : Tab} {gl : List (Nat × Obj)} {ρ : Ren} {fi : FI} {c : Code}
theorem ext1_itoa (L : LaysM.n171 P ρ) {f : Nat} (hf : ρ.f 171 = f) (hfi : tlook T.funcs f = some fi) (hb : fi.fn.body = some c) (hr : fi.cfg.rets = []) {t : TypeId} (ht : fi.fn.resultTypes = #[t]) (hs : shapeT T t = (false, [.str]))
    (hg : ∀ w : World, (∀ p ∈ gl, w.heap[p.1]? = some p.2) → Lib.TabIs P w "internal/strconv.uint64pow10" .u64 Lib.pow10Tab) : ExtOk1 P T gl f itoaF := by
  intro fi' args bl rs bl' hfi' h
  have : fi' = fi := by rw [hfi] at hfi'; exact (Option.some.inj hfi').symm
  subst this
  unfold itoaF at h
  split at h
  · next n =>
    split at h
    · next hn =>
      cases h
      refine ⟨⟨_, hb⟩, by simp, fun w M β cargs hgl hpre => ?_⟩
      obtain ⟨v, rfl, hv⟩ := cargs_one hpre
      have hv' := vr_int' hv
      subst hv'
      have call := Any.strconv_Itoa L n hn.1 hn.2 w (hg w fun p hp => (hgl p hp).2)
      rw [hf] at call
      refine call.mono fun e w' ⟨he, k, os, hw⟩ => ⟨[.string (ba (Lib.itoa n))], [none], M, he, ?_⟩
      subst hw
      exact post_grow hpre below_grow (fun M => resL_one hr ht (by rw [hs]; rfl) (.str _)) (fun b o h => by simp at h)
    · cases h
  · cases h
theorem ext1_atoi (L : LaysC.n172 P ρ) {f : Nat} (hf : ρ.f 172 = f) (hfi : tlook T.funcs f = some fi) (hb : fi.fn.body = some c) (hr : fi.cfg.rets = []) {t u : TypeId} (ht : fi.fn.resultTypes = #[t, u]) (hs : shapeT T t = (false, [.int .i64])) (hs' : shapeT T u = (false, [.other]))
    (hg : ∀ w : World, (∀ p ∈ gl, w.heap[p.1]? = some p.2) → ∃ ev, w.cell? ⟨ρ.g 15, 0, none⟩ = some ev ∧ (ev = .nilIface ∨ ∃ te pe, ev = .iface te pe))
    (hg' : ∀ w : World, (∀ p ∈ gl, w.heap[p.1]? = some p.2) → ∃ ev, w.cell? ⟨ρ.g 16, 0, none⟩ = some ev ∧ (ev = .nilIface ∨ ∃ te pe, ev = .iface te pe)) : ExtOk1 P T gl f atoiF := by
  intro fi' args bl rs bl' hfi' h
  have : fi' = fi := by rw [hfi] at hfi'; exact (Option.some.inj hfi').symm
  subst this
  unfold atoiF at h
  split at h
  · next s =>
    split at h
    · next hn =>
      cases h
      refine ⟨⟨_, hb⟩, by simp, fun w M β cargs hgl hpre => ?_⟩
      obtain ⟨v, rfl, hv⟩ := cargs_one hpre
      have hv' := vr_str' hv
      subst hv'
      obtain ⟨ev, he1, he2⟩ := hg w fun p hp => (hgl p hp).2
      obtain ⟨er, hr1, hr2⟩ := hg' w fun p hp => (hgl p hp).2
      unfold atoiR
      rcases hA : Lib.atoiAll s.data.toList with v | _ | _
      · have call := Any.strconv_Atoi_ok L s (by omega) v hA w
        rw [hf] at call
        refine call.mono fun e w' ⟨he, hw⟩ => ⟨[.int .i64 v, .nilIface], [none, none], M, he, ?_⟩
        have hbel : Below w.heap.size w w' := by
          rcases hw with rfl | ⟨t, rfl⟩
          · exact Below.refl _ _
          · refine ⟨?_, ?_, ?_, ?_, fun k hk => ?_⟩
            · unfold Lib.bytesWorld World.freeze; split <;> rfl
            · unfold Lib.bytesWorld World.freeze; split <;> rfl
            · unfold Lib.bytesWorld World.freeze; split <;> rfl
            · unfold Lib.bytesWorld World.freeze; split <;> simp
            · have h0 : (w.drew.alloc (.cells (Lib.bytesCells w (ρ.t 5) t) (ρ.t 5))).heap[k]? = w.heap[k]? := Below.heap_alloc w.drew _ k hk
              unfold Lib.bytesWorld World.freeze
              split
              · exact h0
              · show (Array.modify _ _ _)[k]? = _
                rw [Array.getElem?_modify, if_neg (by show ¬ w.heap.size = k; omega)]
                exact h0
        exact post_grow hpre hbel (fun M => resL_two hr ht (by rw [hs]; rfl) (.int _ _) (by rw [hs']; rfl) .nilif) (fun b o h => by simp at h)
      · have call := Any.strconv_Atoi_syntax L s hn hA ev w he1 he2
        rw [hf] at call
        refine call.mono fun e w' ⟨N, he, _, _, hw⟩ => ⟨[.int .i64 0, .iface (ρ.t 168) (.pointer (some ⟨N, 0, none⟩))], [none, none], M, he, ?_⟩
        exact post_grow hpre hw (fun M => resL_two hr ht (by rw [hs]; rfl) (.int _ _) (by rw [hs']; rfl) (.ifc _ _)) (fun b o h => by simp at h)
      · have call := Any.strconv_Atoi_range L s hn hA er w hr1 hr2
        rw [hf] at call
        refine call.mono fun e w' ⟨N, he, _, _, hw⟩ => ⟨[.int .i64 (Lib.atoiSat s.data.toList), .iface (ρ.t 168) (.pointer (some ⟨N, 0, none⟩))], [none, none], M, he, ?_⟩
        exact post_grow hpre hw (fun M => resL_two hr ht (by rw [hs]; rfl) (.int _ _) (by rw [hs']; rfl) (.ifc _ _)) (fun b o h => by simp at h)
    · cases h
  · cases h
theorem ext1_split (L : LaysM.n146 P ρ) {f : Nat} (hf : ρ.f 146 = f) (hfi : tlook T.funcs f = some fi) (hb : fi.fn.body = some c) (hr : fi.cfg.rets = [.fresh]) {t e : TypeId} (ht : fi.fn.resultTypes = #[t]) (hu : und T t = some (.slice e)) (hs : shapeT T e = (false, [.str]))
    (hg : ∀ w : World, (∀ p ∈ gl, w.heap[p.1]? = some p.2) → ∃ m, w.cell? ⟨ρ.g 1, 0, none⟩ = some (.int .i64 m)) : ExtOk1 P T gl f splitF := by
  intro fi' args bl rs bl' hfi' h
  have : fi' = fi := by rw [hfi] at hfi'; exact (Option.some.inj hfi').symm
  subst this
  unfold splitF at h
  split at h
  · next s sep =>
    split at h
    · next b hsep =>
      split at h
      · next hn =>
        cases h
        have hsep' : sep = ⟨#[b]⟩ := ba_eq.2 hsep
        subst hsep'
        refine ⟨⟨_, hb⟩, by simp, fun w M β cargs hgl hpre => ?_⟩
        obtain ⟨v, u, rfl, hv, hu'⟩ := cargs_two hpre
        have hv' := vr_str' hv
        subst hv'
        have hu'' := vr_str' hu'
        subst hu''
        obtain ⟨m, hm⟩ := hg w fun p hp => (hgl p hp).2
        have call := Any.strings_Split { L with } L.i9 s ⟨#[b]⟩ m w hn hm (Nat.le_refl 1)
        rw [hf, splitB_eq] at call
        have hlen : Lib.countB s ⟨#[b]⟩ + 1 = (splitC b s.data.toList).length := by
          have h1 := Lib.splitB_all ⟨#[b]⟩ (Nat.le_refl 1) 0 _ s rfl
          rw [splitB_eq, List.length_map] at h1
          exact h1.symm
        rw [hlen] at call
        refine call.mono fun e' w' ⟨he, hw⟩ => ⟨[.slice (some ⟨w.heap.size, 0, none⟩) (splitC b s.data.toList).length (splitC b s.data.toList).length], [some (w.heap.size, 0)], M, he, ?_⟩
        subst hw
        refine post_grow hpre (below_alloc _) (fun M => ?_) (fun b o h => ?_)
        · have key := resL_fresh (T := T) (w' := w.alloc (.cells (((splitC b s.data.toList).map fun l => (⟨l.toArray⟩ : ByteArray)).map Value.string).toArray (ρ.t 9))) (M := M) (β := β) (h := look (initHeap 0 [])) (k := .str)
            (xs := (splitC b s.data.toList).map fun p => PV.str (ba p)) (vs := ((splitC b s.data.toList).map fun l => (⟨l.toArray⟩ : ByteArray)).map Value.string) (el := ρ.t 9) (n := w.heap.size) (cap := (splitC b s.data.toList).length)
            hr ht hu hs (by simp) (by simp) (by simp) ?_ ?_ ?_
          · simpa using key
          · show (w.heap.push _)[w.heap.size]? = _
            simp
          · intro x hx
            obtain ⟨p, -, rfl⟩ := List.mem_map.1 hx
            rfl
          · intro i x c hx hc
            simp only [List.getElem?_map, Option.map_eq_some_iff] at hx hc
            obtain ⟨p, hp, rfl⟩ := hx
            obtain ⟨q, ⟨p', hp', rfl⟩, rfl⟩ := hc
            rw [hp] at hp'
            cases hp'
            exact ⟨rfl, .str _⟩
        · simp only [List.mem_singleton, Option.some.injEq, Prod.mk.injEq] at h
          obtain ⟨rfl, rfl⟩ := h
          exact ⟨by simp, Nat.le_refl _⟩
      · cases h
    · cases h
  · cases h
end
end Go.Skm
/-
  A law over a row that lists variables: the wrap that keeps the world's shape, the variables' blocks, and the arguments one by one; no condition beside the hypotheses of each.
-/
namespace Go
variable {H : Type} {enc : TypeId × Value → H}
/-- A condition on the world beside the arguments, and the world's shape. -/
theorem returnsInHanded_laid {a : Assume} {C : Checked} {os : Os} {f : FuncId} {fn : Func} {s : ChangeSpec} {conds : List PathCond} {apart fresh handsOn again : Bool} {X : World → Array Value → Prop}
    (hX : ∀ (w w' : World) (args : Array Value), w.heap = w'.heap → X w args → X w' args)
    (own : ownKnob C.prog.godebug = none) (started : os.Started) (noInit : C.prog.inits.idxOf? f = none) (hfn : C.prog.funcs[f]? = some fn)
    (witness : ∃ (w : World) (tape : Tape) (i : Input), w.os = os ∧ (w.forCall tape i).Shaped C.prog ∧ i.vars = [] ∧ Input.okWide C.prog (w.forCall tape i) .any w.heap.size f i ∧
      ((s.pre enc C.prog fn conds apart (w.forCall tape i).memory i.args ∧ X (w.forCall tape i).memory i.args) ∧ sizedMet enc C.prog fn (OpenSpec.ofChange s) apart (w.forCall tape i).memory i.args) ∧ a.holds C.prog (lone (Frame.enter C.prog f i.args .normal) [] (w.forCall tape i)))
    (contract : ∀ (W : World) (base : Nat) (args : Array Value) (ds gs : List (DataW H)) (before : List MemPlace),
      (∀ (j : Nat) t v, fn.params[j]? = some t → args[j]? = some v → Value.okWide C.prog W .any base t v) →
      DataW.Whole enc C.prog fn.params.toList s.vars apart W args.toList ds gs before → X W args → W.ShapedOpen C.prog →
      Calls C.prog f args W fun e W' => ∃ v, e = .returned v ∧ s.post enc C.prog fn apart fresh handsOn again W args v W') :
    ReturnsInHanded a C os f .any (fun w args => (s.pre enc C.prog fn conds apart w args ∧ X w args) ∧ sizedMet enc C.prog fn (OpenSpec.ofChange s) apart w args) (s.post enc C.prog fn apart fresh handsOn again) := by
  refine returnsInHanded_of_calls own started noInit witness ?_
  intro w tape i _ hsh _ hok hpre _
  obtain ⟨_, _, _, fn', hfn', _, _, _, _, hval⟩ := hok
  have e : fn' = fn := Option.some.inj (hfn'.symm.trans hfn)
  subst e
  obtain ⟨⟨⟨ds, gs, before, hw, _⟩, hx⟩, _⟩ := hpre
  have hw' := DataW.Whole.of_heap (w' := w.forCall tape i) (by rfl) hw
  refine (contract (w.forCall tape i) w.heap.size i.args ds gs before hval hw' (hX _ _ _ (by rfl) hx) hsh).mono fun e W' ⟨v, he, hp⟩ => ?_
  subst he
  exact ChangeSpec.post_blind hp
end Go
namespace Go.Skm
open Go.ChangeShapes Go.WideShapes

/-- The blocks of these variables, as they are. -/
def glOf (W : World) (gs : List Nat) : List (Nat × Obj) := gs.filterMap fun g => (W.heap[g]?).map fun o => (g, o)
theorem glOf_ok {W : World} {gs : List Nat} : ∀ p ∈ glOf W gs, p.1 < W.heap.size ∧ W.heap[p.1]? = some p.2 := by
  intro p hp
  obtain ⟨g, _, hg⟩ := List.mem_filterMap.1 hp
  obtain ⟨o, ho, rfl⟩ := Option.map_eq_some_iff.1 hg
  exact ⟨(Array.getElem?_eq_some_iff.1 ho).1, ho⟩
theorem glOf_same {W w : World} {gs : List Nat} (h : ∀ p ∈ glOf W gs, w.heap[p.1]? = some p.2) {g : Nat} (hg : g ∈ gs) {o : Obj} (ho : W.heap[g]? = some o) : w.heap[g]? = W.heap[g]? := by
  rw [ho]
  exact h (g, o) (List.mem_filterMap.2 ⟨g, hg, by rw [ho]; rfl⟩)
theorem glOf_cell {W w : World} {gs : List Nat} (h : ∀ p ∈ glOf W gs, w.heap[p.1]? = some p.2) {g i : Nat} (hg : g ∈ gs) {v : Value} (hv : W.cell? ⟨g, i, none⟩ = some v) : w.cell? ⟨g, i, none⟩ = some v := by
  cases ho : W.heap[g]? with
  | none => simp [World.cell?, ho] at hv
  | some o =>
    have e := glOf_same h hg ho
    rw [← hv]
    simp only [World.cell?, e]
theorem glOf_var {P : Program} {W w : World} {gs : List Nat} (h : ∀ p ∈ glOf W gs, w.heap[p.1]? = some p.2) {g : Nat} (hg : g ∈ gs) {name : String} (hn : P.globalNamed name = some g) {cs : Array Value} (hv : W.var? P name = some cs) : w.var? P name = some cs := by
  unfold World.var? at hv ⊢
  rw [hn, Option.bind_some] at hv ⊢
  cases ho : W.heap[g]? with
  | none => simp [ho] at hv
  | some o =>
    rw [glOf_same h hg ho]
    exact hv
theorem cell_of_var {P : Program} {W : World} {g : Nat} {name : String} (hn : P.globalNamed name = some g) {v : Value} (hv : W.var? P name = some #[v]) : W.cell? ⟨g, 0, none⟩ = some v := by
  simpa using World.var?_cell hn hv 0

/- THE ARGUMENTS. -/
section
variable {P : Program} {w : World} {M : Nat → Prop}
theorem args_nil {vs : List Value} {xs : List PV} (h : ArgsR P w M [] vs xs) : xs = [] := by cases h; rfl
theorem args_cons {t : TypeId} {ts : List TypeId} {vs : List Value} {xs : List PV} (h : ArgsR P w M (t :: ts) vs xs) :
    ∃ x xs' v vs', xs = x :: xs' ∧ VR w M x v ∧ shapeOk (shapeP P 8 t).1 (shapeP P 8 t).2 x = true ∧ x.wf ∧ ArgsR P w M ts vs' xs' := by
  cases h with
  | cons _ _ v vs' x xs' h1 h2 h3 h4 => exact ⟨x, xs', v, vs', rfl, h1, h2, h3, h4⟩
theorem arg_int {k : IntKind} {t : TypeId} (ht : shapeP P 8 t = (false, [.int k])) {x : PV} (h : shapeOk (shapeP P 8 t).1 (shapeP P 8 t).2 x = true) (hw : x.wf) : ∃ n, x = .int k n ∧ (PV.int k n).wf := by
  rw [ht] at h
  cases x <;> simp [shapeOk, kindOk] at h
  subst h
  exact ⟨_, rfl, hw⟩
theorem arg_str {t : TypeId} (ht : shapeP P 8 t = (false, [.str])) {x : PV} (h : shapeOk (shapeP P 8 t).1 (shapeP P 8 t).2 x = true) : ∃ s, x = .str s := by
  rw [ht] at h
  cases x <;> simp [shapeOk, kindOk] at h
  exact ⟨_, rfl⟩
end
section
variable {H : Type} {enc : TypeId × Value → H} {P : Program}
theorem trodAll_len {w : World} {base : Nat} {sp : Nat → Bool} {held : Bool} : ∀ {ts : List TypeId} {vs : List Value} {ds : List (DataW H)} {ps : List MemPlace}, DataW.TrodAll enc P w base sp held ts vs ds ps → ds.length = ts.length
  | [], _, _, _, h => by obtain ⟨_, rfl, _⟩ := trodAll_nil h; rfl
  | t :: ts, _, _, _, h => by
    obtain ⟨v, vs', d, ds', p, q, _, rfl, _, _, h2⟩ := trodAll_cons h
    rw [List.length_cons, List.length_cons, trodAll_len h2]
theorem whole_len {ts : List TypeId} {vars : List String} {ap : Bool} {W : World} {vs : List Value} {ds gs : List (DataW H)} {before : List MemPlace} (h : DataW.Whole enc P ts vars ap W vs ds gs before) : ds.length = ts.length := by
  obtain ⟨p, q, hA, _⟩ := h
  exact trodAll_len hA
end
end Go.Skm
namespace Go.Skm
theorem laid_drop {P : Program} {W : World} : ∀ (k : Nat) {l : List (String × DataW Unit)}, laidMet P l W → laidMet P (l.drop k) W
  | 0, _, h => h
  | _k + 1, [], h => h
  | k + 1, _x :: _l, h => laid_drop k (laidMet.tail h)
theorem laid_iface {P : Program} {W : World} {n nm : String} {d : DataW Unit} {r : List (String × DataW Unit)} (h : laidMet P ((n, .iface nm d) :: r) W) {g : Nat} {ti : TypeId} {ms : Array (String × TypeId)}
    (hg : P.globalNamed n = some g) (ht : (P.globals[g]?).map (·.type) = some ti) (hi : P.underlying ti = some (.interface ms)) : ∃ u v, W.cell? ⟨g, 0, none⟩ = some (.iface u v) := by
  obtain ⟨ps, ⟨g', t', cs, fuel, p, q, hg', ht', hvar, hd, _, _⟩, _⟩ := h
  obtain rfl := Option.some.inj (hg.symm.trans hg')
  obtain rfl := Option.some.inj (ht.symm.trans ht')
  obtain ⟨_, u, v, hcs, _, _⟩ := iface_of_trod hi hd
  refine ⟨u, v, ?_⟩
  have e : cs = #[.iface u v] := by
    rw [← Array.toArray_toList (xs := cs), hcs]
  rw [e] at hvar
  exact cell_of_var hg hvar
end Go.Skm
