/-
  The library's answers are true: a list copied, a list of vectors sorted, a set's keys in order; condition: none.
-/
import Derived.Test.YtipkmkmngcjdbaaS13
import Derived.Test.YtipkmkmngcjdbaaTabOk
import Derived.Test.YtipkmkmngcjdbaaIter4
import Derived.Test.YtipkmkmngcjdbaaSkmI
set_option maxRecDepth 100000
namespace Go.Skm.Sct
open Go Go.Skm Go.Proofs Go.Shelf Go.RowKit Go.Lib Go.Sort
def noPrimB : List (Nat × FI) → Bool
  | [] => true
  | (_, fi) :: r => !fi.cfg.prim.is && noPrimB r
theorem noPrim_get : ∀ {l : List (Nat × FI)} {f : Nat} {fi : FI}, noPrimB l = true → tlook l f = some fi → fi.cfg.prim.is = false
  | [], _, _, _, h => by cases h
  | (g, gi) :: r, f, fi, h, h2 => by
    unfold noPrimB at h
    simp only [Bool.and_eq_true, Bool.not_eq_true'] at h
    rw [tlook] at h2
    by_cases e : (g == f) = true
    · rw [e] at h2; cases h2; exact h.1
    · have e' : (g == f) = false := by simpa using e
      rw [e'] at h2; exact noPrim_get h.2 h2
theorem primsOk : PrimsOk Try.prog tab := fun f fi h hp => by
  rw [noPrim_get (by kernel_rfl) h] at hp; cases hp
theorem tabTrue : TabOk Try.prog tab := tabOk primsOk
theorem extNone {gl : Option (List (Nat × Obj))} : ExtOk Try.prog tab gl fun _ => none := fun f fi s args bl rs bl' _ h => by cases h
def infoB (P : Program) (t : TypeId) (n : Nat) : Bool := match P.info? t with
  | some i => (match i.zero with
    | some z => Nat.beq z.cells.size n && Nat.beq i.size n
    | none => false)
  | none => false
theorem infoB_ok {P : Program} {t : TypeId} {n : Nat} (h : infoB P t n = true) : ∃ i z, P.info? t = some i ∧ i.zero = some z ∧ i.size = n ∧ z.cells.size = n := by
  unfold infoB at h
  cases h1 : P.info? t with
  | none => rw [h1] at h; cases h
  | some i =>
    rw [h1] at h
    simp only at h
    cases h2 : i.zero with
    | none => rw [h2] at h; cases h
    | some z =>
      rw [h2] at h
      simp only [Bool.and_eq_true] at h
      exact ⟨i, z, rfl, h2, Nat.eq_of_beq_eq_true h.2, Nat.eq_of_beq_eq_true h.1⟩
abbrev kI : List Kd := [.int .i64]
def cloneF : ExtFn := fun args bl => match args, bl with
  | [.p (.list false ks xs)], [] => if (Kd.beqs ks kI && decide (xs.length ≤ 100000)) = true then some ([.fresh false kI xs], []) else none
  | _, _ => none
theorem ext1_clone {gl : Option (List (Nat × Obj))} (hne : gl ≠ none) : ExtOk1 Try.prog tab gl 26 cloneF := by
  intro fi args bl rs bl' hfi h
  have hfi' : tlook tab.funcs 26 = some fi26 := by kernel_rfl
  have : fi = fi26 := by rw [hfi'] at hfi; exact (Option.some.inj hfi).symm
  subst this
  unfold cloneF at h
  split at h
  · next ks xs =>
    split at h
    · next hc =>
      simp only [Bool.and_eq_true, decide_eq_true_eq] at hc
      obtain ⟨hk, hn⟩ := hc
      have hk := Kd.beqs_eq _ _ hk
      subst hk
      cases h
      by_cases h0 : xs = []
      · subst h0
        refine ⟨⟨_, rfl⟩, by simp, fun w M β cargs hgl hpre => ?_⟩
        obtain ⟨v, rfl, hv⟩ := cargs_one hpre
        obtain ⟨base, cap, rfl⟩ : ∃ base cap, v = .slice base 0 cap := by
          cases hv with
          | list => exact ⟨_, _, rfl⟩
          | listE => exact ⟨_, _, rfl⟩
        obtain ⟨ts, hts⟩ : ∃ ts, ts = Try.laysClone_ren.t 22 := ⟨_, rfl⟩
        obtain ⟨te, hte⟩ : ∃ te, te = Try.laysClone_ren.t 23 := ⟨_, rfl⟩
        have hu : und tab (Try.laysClone_ren.t 22) = some (.slice (Try.laysClone_ren.t 23)) := by kernel_rfl
        have hsh : shapeT tab (Try.laysClone_ren.t 23) = (false, kI) := by kernel_rfl
        have ht : fi26.fn.resultTypes = #[Try.laysClone_ren.t 22] := by kernel_rfl
        have fin : ∀ (v' : Value) (w' : World), w'.ownsRow w.heap.size (Try.laysClone_ren.t 23) 1 v' 0 [] → Below w.heap.size w w' → ∃ cs ps M', Ending.returned v' = .returned (wrapV cs) ∧ CallPost gl tab fi26 w M β [] [.fresh false kI []] [] w' M' cs ps := by
          intro v' w' ho hb
          obtain ⟨ps, p1, p2⟩ := resL_none (T := tab) (fi := fi26) (β := β) (h := look (initHeap 0 [])) rfl ht hu hsh ho
          exact ⟨[v'], ps, M, rfl, post_grow hpre hb (fun e => absurd e hne) p1 p2⟩
        cases base with
        | none =>
          refine (AnyE.slices_Clone_nil Try.laysClone 0 cap w).mono fun e w' ⟨he, hw⟩ => ?_
          subst hw
          subst he
          exact fin _ _ ⟨rfl, .inl ⟨rfl, rfl⟩⟩ (Below.refl _ _)
        | some a =>
          obtain ⟨i0, z, k1, k2, k3, k4⟩ := infoB_ok (P := Try.prog) (t := Try.laysClone_ren.t 23) (n := 1) (by kernel_rfl)
          refine (clone_zero Try.laysClone i0 z 1 i0.bytes k1 k2 k3 rfl k4 (by decide) (fun w => Try.sizeOf3 w) a cap w).mono fun e w' ⟨v', he, ho, hb⟩ => ?_
          subst he
          exact fin _ _ ho hb
      · have hr : run tab (fun _ => none) 26 [.p (.list false kI xs)] [] = some ([.fresh false kI xs], []) := run_of rfl (by
          rw [e26]
          refine condT (by rw [Nat.blt_eq]; exact List.length_pos_iff.2 h0) ?_
          refine condP (show 0 + xs.length ≤ 2147483648 by omega) ?_
          rw [List.nil_append, List.drop_zero, List.take_of_length_le (by omega)])
        have key := (run_sound tabTrue (extNone (gl := gl))).plain 26 fi26 _ [] _ [] hfi' (by simp) hr
        exact ⟨key.1, by simp, key.2⟩
    · cases h
  · cases h
def vecDec : PV → Option V3
  | .agg [.int .i64 x, .int .i64 y, .int .i64 z] => some ⟨x, y, z⟩
  | _ => none
def vecEnc : SortEnc V3 where
  ks := kV
  pc v := [.int .i64 v.x, .int .i64 v.y, .int .i64 v.z]
  dec := vecDec
  len _ := rfl
  flat x c hc := by
    simp only [List.mem_cons, List.not_mem_nil, or_false] at hc
    rcases hc with rfl | rfl | rfl <;> rfl
  kinds _ := rfl
  enc_dec _ := rfl
  dec_enc p x h := by
    unfold vecDec at h
    split at h
    · cases h; rfl
    · cases h
theorem encs_eq (l : List V3) : vecEnc.encs l = encL l := rfl
theorem lt_iff {a b : V3} : ltOf cmpV a b = true ↔ cmpV a b = -1 := by
  unfold ltOf
  rw [decide_eq_true_eq]
  rcases cmp_or a b with h | h | h <;> omega
theorem swoV : SWO (ltOf cmpV) where
  irrefl x := by
    cases h : ltOf cmpV x x
    · rfl
    · rw [lt_iff, cmp_self] at h; omega
  trans x y z h1 h2 := by rw [lt_iff] at *; exact lt_trans h1 h2
  ntrans x y z h1 h2 := by
    cases h : ltOf cmpV x z
    · rfl
    · rw [lt_iff] at h
      have a1 : ¬ cmpV x y = -1 := fun e => by rw [lt_iff.2 e] at h1; cases h1
      have a2 : ¬ cmpV y z = -1 := fun e => by rw [lt_iff.2 e] at h2; cases h2
      rcases cmp_or x y with e | e | e
      · exact absurd e a1
      · rw [cmp_eq.1 e] at h; exact absurd h a2
      · exact absurd (lt_trans (cmp_gt.1 e) h) a2
theorem cmp35 : Cmp35 cmpV := by
  intro w x y
  have hr : run tab (fun _ => none) 35 [.p (.agg (vecEnc.pc x)), .p (.agg (vecEnc.pc y))] [] = some ([.p (.int .i64 (cmpV x y))], []) := u35 (fun _ => none) (fun _ _ => rfl) x y
  exact cmp_calls tabTrue (X := fun _ => none) extNone (g := 35) (fi := fi35) (by kernel_rfl) rfl (t := 3) rfl vecEnc hr w
def sortF : ExtFn := sortFF vecEnc cmpV 35
theorem ext1_sort {gl : Option (List (Nat × Obj))} (hne : gl ≠ none) : ExtOk1 Try.prog tab gl 34 sortF :=
  ext1_sortFunc hne Try.laysSort vecEnc (by decide) agg31 size31 swoV (g := 35) (enters_of Try.func35 rfl rfl) cmp35 (f := 34) rfl (fi := fi34) (by kernel_rfl) rfl rfl rfl
def keysF : ExtFn := fun args bl => match args, bl with
  | [.p (.fn k [.ref [.mapv ks _]]), .p (.fn g [])], [] => match vecEnc.decs ks with
    | some l => if (k == 77 && (g == 35 && (decide (l.length ≤ 100000) && decide l.Nodup))) = true then some ([.fresh true kV (encL (sdL l))], []) else none
    | none => none
  | _, _ => none
theorem resL_vecs {fi : FI} {β : Nat → Option (Nat × Nat)} {t e el : TypeId} {w' : World} {v' : Value} {base : Nat} {h : Nat → Option Blk} {l : List V3} (hr : fi.cfg.rets = [.fresh]) (ht : fi.fn.resultTypes = #[t]) (hu : und tab t = some (.slice e)) (hsh : shapeT tab e = (true, kV))
    (ho : w'.ownsRow base el 3 v' l.length (cells l)) : ∃ ps, (∀ M : Nat → Prop, ResL tab w' M β h fi.cfg.rets fi.fn.resultTypes.toList [.fresh true kV (encL l)] [v'] ps) ∧ ∀ b o, some (b, o) ∈ ps → b < w'.heap.size ∧ base ≤ b := by
  by_cases h0 : l = []
  · subst h0
    exact resL_none hr ht hu hsh ho
  have e1 : (shapeT tab e).1 = true := by rw [hsh]
  have e2 : (shapeT tab e).2 = kV := by rw [hsh]
  obtain ⟨-, ⟨-, hz⟩ | ⟨g, cap, cur, rfl, hb, hg, hcap, -, hsz, htk⟩⟩ := ho
  · exact absurd (List.length_eq_zero_iff.1 hz) h0
  · refine ⟨[some (g, 0)], fun M => ?_, fun b o h => ?_⟩
    · rw [hr, ht]
      refine .cons _ _ _ _ _ _ _ _ _ ?_ (.nil _) (fun b o o' _ h => by cases h)
      have hopen : Open cur (0, 0) := .inl rfl
      have key := ResR.fresh (T := tab) (w := w') (M := M) (β := β) (h := h) t e (encL l) (.slice (some ⟨g, 0, none⟩) l.length cap) (some (g, 0)) hu
      rw [e1, e2] at key
      refine key ?_ ?_
      · refine .arr true kV (encL l) g 0 cur el (0, 0) rfl hg (by rw [encL_length, hsz]; show 0 + l.length * 3 ≤ cap * 3; omega) hopen (fun x hx => ?_) fun i x j c hx hc => ?_
        · obtain ⟨v, _, rfl⟩ := List.mem_map.1 hx
          rfl
        · rw [encL_get] at hx
          obtain ⟨v, hv, rfl⟩ := Option.map_eq_some_iff.1 hx
          have hi : i < l.length := (List.getElem?_eq_some_iff.1 hv).1
          have hvi : l[i] = v := (List.getElem?_eq_some_iff.1 hv).2
          have hj : j < 3 := (List.getElem?_eq_some_iff.1 hc).1
          have hcc := cells_at l i j hj hi
          rw [← htk, List.getElem?_take_of_lt (by omega), Array.getElem?_toList, hvi] at hcc
          have hd : cur.getD (0 + i * kV.length + j) undef = ((cVal v)[j]?).getD undef := by
            rw [Array.getD_eq_getD_getElem?, show 0 + i * kV.length + j = i * 3 + j by show 0 + i * 3 + j = _; omega, hcc]
          rw [hd]
          match j, hj, hc with
          | 0, _, hc => cases hc; exact .int _ _
          | 1, _, hc => cases hc; exact .int _ _
          | 2, _, hc => cases hc; exact .int _ _
      · have key2 := AR.slice (w := w') (M := M) (β := fun _ => some (g, 0)) (h := fun _ => some (.arr true kV (encL l))) 0 0 l.length true kV (encL l) g 0 cap rfl (by simp) rfl hcap (.mk hg (by rw [hsz]; show 0 + (0 + cap) * 3 ≤ _; omega) hopen)
        simpa using key2
    · simp only [List.mem_singleton, Option.some.injEq, Prod.mk.injEq] at h
      obtain ⟨rfl, rfl⟩ := h
      exact ⟨(Array.getElem?_eq_some_iff.1 hg).1, hb⟩
theorem vr_vec {w : World} {M : Nat → Prop} {v : V3} {c : Value} (h : VR w M (eV v) c) : c = eVal v := by
  cases h with
  | agg _ vs hn hl h =>
    have h0 := h 0 _ rfl
    have h1 := h 1 _ rfl
    have h2 := h 2 _ rfl
    have hs : vs.size = 3 := hn
    have e0 := vr_int' h0
    have e1 := vr_int' h1
    have e2 := vr_int' h2
    unfold eVal
    congr 1
    apply Array.ext
    · simpa using hs
    · intro i hi hi'
      have : i = 0 ∨ i = 1 ∨ i = 2 := by omega
      rcases this with rfl | rfl | rfl
      · have : vs.getD 0 undef = vs[0] := by simp [Array.getD, hs]
        rw [← this, e0]; rfl
      · have : vs.getD 1 undef = vs[1] := by simp [Array.getD, hs]
        rw [← this, e1]; rfl
      · have : vs.getD 2 undef = vs[2] := by simp [Array.getD, hs]
        rw [← this, e2]; rfl
theorem ext1_keys {gl : Option (List (Nat × Obj))} (hne : gl ≠ none) : ExtOk1 Try.prog tab gl 49 keysF := by
  intro fi args bl rs bl' hfi h
  have hfi' : tlook tab.funcs 49 = some fi49 := by kernel_rfl
  have : fi = fi49 := by rw [hfi'] at hfi; exact (Option.some.inj hfi).symm
  subst this
  unfold keysF at h
  split at h
  · next k ks vs g =>
    split at h
    · next l hd =>
      split at h
      · next hc =>
        simp only [Bool.and_eq_true, beq_iff_eq, decide_eq_true_eq] at hc
        obtain ⟨rfl, rfl, hn, hnd⟩ := hc
        have hks := vecEnc.decs_some hd
        subst hks
        cases h
        refine ⟨⟨_, rfl⟩, by simp, fun w M β cargs hgl hpre => ?_⟩
        obtain ⟨v, u, rfl, hv, hu⟩ := cargs_two hpre
        have c1 : u = .func (.func 35) #[] #[] := by
          cases hu with
          | fn _ _ vs hn _ =>
            have : vs = #[] := Array.eq_empty_of_size_eq_zero (by simpa using hn)
            rw [this]
        subst c1
        obtain ⟨Bm, bo, b, hv', hM, hcell, hown⟩ : ∃ Bm bo b, v = .func (.func 77) #[] #[.pointer (some ⟨Bm, bo, none⟩)] ∧ M Bm ∧ w.cell? ⟨Bm, bo, none⟩ = some (.map (some b)) ∧ MapKeys w b l := by
          cases hv with
          | fn _ _ xs hn h =>
            have h0 := h 0 _ rfl
            have hs : xs.size = 1 := hn
            generalize hx : xs.getD 0 undef = x at h0
            have hxs : xs = #[x] := by
              apply Array.ext
              · simpa using hs
              · intro i hi hi'
                have : i = 0 := by simp at hi'; exact hi'
                subst this
                have : xs.getD 0 undef = xs[0] := by simp [Array.getD, hs]
                rw [← this, hx]; rfl
            cases h0 with
            | ref _ Bm bo f hM hl hc hv2 =>
              have q1 := hc 0 _ rfl
              have q2 := hv2 0 _ rfl
              generalize f 0 = y at q1 q2
              cases q2 with
              | mapv _ _ b E k hMb hw hwf hlen hk hvv =>
                refine ⟨Bm, bo, b, by rw [hxs], hM, q1, E, k, hw, ?_, hwf.2.1, hwf.2.2⟩
                have hsz : E.size = l.length := by rw [hwf.1]; exact vecEnc.encs_length l
                apply List.ext_getElem
                · simp [hsz]
                · intro i h1 h2
                  have hi : i < l.length := by simpa using h2
                  have hiE : i < E.size := by omega
                  have hkk := hk i (eV l[i]) E[i] (by rw [encs_eq, encL_get, List.getElem?_eq_getElem hi]; rfl) (Array.getElem?_eq_getElem hiE)
                  have := vr_vec hkk
                  simp only [List.getElem_map, Array.getElem_toList]
                  exact this
        subst hv'
        refine Calls.mono (sorted49 swoV cmp35 Bm bo b l hn w (hpre.msub Bm hM) hcell hown) fun e w' hp => ?_
        obtain ⟨v, m, rfl, hperm, hsort, hrow, hb⟩ := hp
        have hm : m = sdL l := sort_up hnd hperm (hsort.imp fun {a b} h e => by rw [lt_iff.2 e] at h; cases h)
        subst hm
        obtain ⟨ps, p1, p2⟩ := resL_vecs (fi := fi49) (β := β) (h := look (initHeap 0 [])) (t := 22) (e := 31) rfl (by kernel_rfl) (by kernel_rfl) (by kernel_rfl) hrow
        exact ⟨[v], ps, M, rfl, post_grow hpre hb (fun e => absurd e hne) p1 p2⟩
      · cases h
    · cases h
  · cases h
def libX : Ext := extL [(26, cloneF), (34, sortF), (49, keysF)]
theorem libMine : Mine libX := by
  intro f hf
  unfold extB at hf
  simp only [Bool.or_eq_false_iff, beq_eq_false_iff_ne, ne_eq] at hf
  obtain ⟨h1, h2, h3⟩ := hf
  show tlook [(26, cloneF), (34, sortF), (49, keysF)] f = none
  have e1 : (26 == f) = false := by rw [beq_eq_false_iff_ne]; exact Ne.symm h1
  have e2 : (34 == f) = false := by rw [beq_eq_false_iff_ne]; exact Ne.symm h2
  have e3 : (49 == f) = false := by rw [beq_eq_false_iff_ne]; exact Ne.symm h3
  simp only [tlook, e1, e2, e3, cond_false]
theorem libExt : ExtOk Try.prog tab (some []) libX :=
  extOk_cons (ext1_clone (by simp)) (extOk_cons (ext1_sort (by simp)) (extOk_cons (ext1_keys (by simp)) extOk_nil))
theorem libClones : Clones libX := fun xs hx => run_ext (fi := fi26) (s := cloneF) (by kernel_rfl) rfl (by
  unfold cloneF
  simp only
  rw [if_pos (by simp [hx]; rfl)])
theorem libSort : Sort34 libX := fun l hl => by
  obtain ⟨p1, p2⟩ := pdqL_spec swoV l
  refine ⟨pdqL cmpV l, run_ext (fi := fi34) (s := sortF) (by kernel_rfl) rfl (sortFF_eq vecEnc cmpV 35 l hl rfl), p1, p2.imp fun {a b} h e => by rw [lt_iff.2 e] at h; cases h⟩
theorem libKeys : Keys49 libX := fun l hl hn => by
  refine ⟨sdL l, run_ext (fi := fi49) (s := keysF) (by kernel_rfl) rfl ?_, sdL_up l, fun v => sdL_mem v l⟩
  unfold keysF
  simp only
  rw [show vecEnc.decs (encL l) = some l from vecEnc.decs_encs l]
  simp only
  rw [if_pos (by simp [hn]; omega)]
theorem libKnown : Known libX := known libX libMine libClones libKeys libSort
end Go.Skm.Sct
