/-
  A machine that runs this program's functions on pure values, and the proof that what it returns is true of the program; no condition beside the hypotheses of each.
-/
import Derived.Test.YthdegeidcjdkeaaSkmB
/-
  A call by reference is a true call; condition: the tables tell the truth (TabOk), and the machine's calls are true calls (CallOk).
-/
namespace Go.Skm
section
variable {P : Program} {T : Tab} {w0 : World} {Pr M0 M : Nat → Prop} {β : Nat → Option (Nat × Nat)} {st : St} {a : Act} {w : World} {o : Oper}

theorem addN_nodup {ss : List Nat} (h : ss.Nodup) (s : Nat) : (addN ss s).Nodup := by
  unfold addN
  cases hm : memN s ss with
  | true => exact h
  | false =>
    simp only [cond_false]
    have := memN_false.1 hm
    rw [List.nodup_append]
    exact ⟨h, by simp, fun x hx y hy => by simp at hy; subst hy; rintro rfl; exact this hx⟩
mutual
theorem sites_nodup : ∀ (v : AV) (acc : List Nat), acc.Nodup → (AV.sites acc v).Nodup
  | .slice s _ _ _, _acc, h | .bslice s _ _, _acc, h | .ptr s _ _, _acc, h => addN_nodup h s
  | .fn _ cs, acc, h | .agg cs, acc, h | .tup cs, acc, h => sitesAll_nodup cs acc h
  | .undef, _acc, h | .p _, _acc, h | .lptr _ _ _ _, _acc, h | .fresh _ _ _, _acc, h => h
theorem sitesAll_nodup : ∀ (l : List AV) (acc : List Nat), acc.Nodup → (AV.sitesAll acc l).Nodup
  | [], _acc, h => h
  | v :: r, acc, h => sitesAll_nodup r _ (sites_nodup v acc h)
end

theorem idxOf_ok {s : Nat} : ∀ {l : List Nat} {i j : Nat}, idxOf s l i = some j → ∃ n, j = i + n ∧ l[n]? = some s
  | [], i, j, h => by simp [idxOf] at h
  | x :: r, i, j, h => by
    simp only [idxOf] at h
    cases he : x == s with
    | true =>
      rw [he] at h; simp at h
      exact ⟨0, h.symm, by simpa using he⟩
    | false =>
      rw [he] at h
      obtain ⟨n, h1, h2⟩ := idxOf_ok h
      exact ⟨n + 1, by omega, by simpa using h2⟩
theorem argBlks_ok {h : Nat → Option Blk} : ∀ {ss : List Nat} {bl : List Blk}, argBlks h ss = some bl → bl.length = ss.length ∧ ∀ (i s : Nat), ss[i]? = some s → ∃ b, bl[i]? = some b ∧ h s = some b ∧ pureBlk b = true
  | [], bl, hb => by
    simp [argBlks] at hb; subst hb
    exact ⟨rfl, fun i s hi => by simp at hi⟩
  | x :: r, bl, hb => by
    simp only [argBlks] at hb
    split at hb
    · rename_i b bs h1 h2
      cases hp : pureBlk b with
      | false => rw [hp] at hb; cases hb
      | true =>
        rw [hp] at hb; simp at hb; subst hb
        obtain ⟨g1, g2⟩ := argBlks_ok h2
        refine ⟨by simp [g1], fun i s hi => ?_⟩
        cases i with
        | zero => simp at hi; subst hi; exact ⟨b, rfl, h1, hp⟩
        | succ i => simp at hi; simpa using g2 i s hi
    · cases hb
theorem toArgs_ok {ss : List Nat} : ∀ {args as_ : List AV}, toArgs ss args = some as_ → as_.length = args.length ∧ ∀ (i : Nat) (v : AV), as_[i]? = some v → ∃ u, args[i]? = some u ∧ toArg ss u = some v
  | [], as_, h => by
    simp [toArgs] at h; subst h
    exact ⟨rfl, fun i v hi => by simp at hi⟩
  | u :: r, as_, h => by
    simp only [toArgs] at h
    split at h
    · rename_i x xs h1 h2
      cases h
      obtain ⟨g1, g2⟩ := toArgs_ok h2
      refine ⟨by simp [g1], fun i v hi => ?_⟩
      cases i with
      | zero => simp at hi; subst hi; exact ⟨u, rfl, h1⟩
      | succ i => simp at hi; simpa using g2 i v hi
    · cases h

/-- Where the argument blocks lie, as the callee names them. -/
def argPlace (β : Nat → Option (Nat × Nat)) (ss : List Nat) (x : Nat) : Option (Nat × Nat) := if argSite ≤ x then (ss[x - argSite]?).bind β else none
theorem argPlace_at {ss : List Nat} (i : Nat) : argPlace β ss (argSite + i) = (ss[i]?).bind β := by
  simp [argPlace]

theorem AR.ptr_move {M' : Nat → Prop} {β' : Nat → Option (Nat × Nat)} {h h' : Nat → Option Blk} {s s' i off : Nat} {c : Value} {blk : Blk} (hv : AR w M β h (.ptr s i off) c) (e1 : h s = some blk) (e2 : h' s' = some blk) (e3 : β' s' = β s) : AR w M' β' h' (.ptr s' i off) c := by
  cases hv with
  | ptrB _ _ cs b o hs hb => rw [hs] at e1; cases e1; exact .ptrB s' off cs b o e2 (e3.trans hb)
  | ptrA _ _ _ a ks xs b o hs hi hb => rw [hs] at e1; cases e1; exact .ptrA s' i off a ks xs b o e2 hi (e3.trans hb)
theorem BR.pure_move {β' : Nat → Option (Nat × Nat)} {h h' : Nat → Option Blk} {s s' : Nat} {blk : Blk} (hb : BR w M β h s blk) (hp : pureBlk blk = true) (e : β' s' = β s) : BR w M β' h' s' blk := by
  cases hb with
  | arrE => exact .arrE _ _
  | arr _ _ _ b o C e' fr g1 g2 g3 g4 g5 g6 => exact .arr _ _ _ b o C e' fr (e.trans g1) g2 g3 g4 g5 g6
  | box cs b o C e' fr g1 g2 g3 g4 g5 g6 =>
    refine .box cs b o C e' fr (e.trans g1) g2 g3 g4 g5 fun j c hc => ?_
    simp only [pureBlk, Option.isSome_iff_exists] at hp
    obtain ⟨vs, hp⟩ := hp
    have hcs := pures_ok hp
    subst hcs
    have hc' := g6 j c hc
    simp only [List.getElem?_map, Option.map_eq_some_iff] at hc
    obtain ⟨x, _, rfl⟩ := hc
    generalize C.getD (o + j) undef = u at hc'
    cases hc' with
    | p _ _ hv => exact .p _ _ hv

theorem backCells_eq : ∀ (cs ds ds0 : List AV) (n : Nat), backCellsOk cs ds = true → (∀ (i : Nat) (d : AV), ds[i]? = some d → ds0.getD (n + i) .undef = d) → backBlk.backCells cs ds0 n = ds
  | [], [], _, _, _, _ => rfl
  | [], _ :: _, _, _, h, _ => by simp [backCellsOk] at h
  | _ :: _, [], _, _, h, _ => by simp [backCellsOk] at h
  | c :: cs, d :: ds, ds0, n, h, hg => by
    simp only [backCellsOk, Bool.and_eq_true] at h
    have h0 : ds0.getD n .undef = d := by simpa using hg 0 d rfl
    have hr := backCells_eq cs ds ds0 (n + 1) h.2 fun i x hx => by
      have := hg (i + 1) x (by simpa using hx)
      rwa [show n + (i + 1) = n + 1 + i from by omega] at this
    have h1 := h.1
    unfold backBlk.backCells
    split <;> rename_i hh <;> first | (cases hh; done) | skip
    all_goals (try (simp only [List.cons.injEq] at hh; obtain ⟨rfl, rfl⟩ := hh))
    all_goals rw [hr, h0]
    all_goals (try (cases d <;> simp [backCell] at h1))
    all_goals (try (rename_i v; cases v <;> simp at h1))
    all_goals (try subst h1)
    all_goals simp [AV.pv, PV.toInt, PV.toBool, PV.toStr]
theorem backBlk_eq {b0 b1 : Blk} (h : backOk b0 b1 = true) : backBlk b0 b1 = b1 := by
  cases b0 with
  | arr a ks xs =>
    cases b1 with
    | box => simp [backOk] at h
    | arr b ls ys =>
      simp only [backOk, Bool.and_eq_true, beq_iff_eq] at h
      obtain ⟨rfl, h2⟩ := h
      have := Kd.beqs_eq _ _ h2
      subst this
      rfl
  | box cs =>
    cases b1 with
    | arr => simp [backOk] at h
    | box ds =>
      simp only [backBlk, Blk.cs, Blk.box.injEq]
      exact backCells_eq cs ds ds 0 h fun i d hi => by simp [List.getD, hi]
end
section
variable {P : Program} {T : Tab} {w0 : World} {Pr M0 M : Nat → Prop} {β : Nat → Option (Nat × Nat)} {st : St} {a : Act} {w : World} {o : Oper}

theorem nodup_get : ∀ {ss : List Nat} {i j s : Nat}, ss.Nodup → ss[i]? = some s → ss[j]? = some s → i = j
  | [], i, j, s, _, h, _ => by simp at h
  | x :: r, 0, 0, s, _, _, _ => rfl
  | x :: r, 0, j + 1, s, h, hi, hj => by
    simp at hi hj; subst hi
    exact absurd (List.mem_of_getElem? hj) (List.nodup_cons.1 h).1
  | x :: r, i + 1, 0, s, h, hi, hj => by
    simp at hi hj; subst hj
    exact absurd (List.mem_of_getElem? hi) (List.nodup_cons.1 h).1
  | x :: r, i + 1, j + 1, s, h, hi, hj => by
    simp at hi hj
    rw [nodup_get (List.nodup_cons.1 h).2 hi hj]

theorem noneApart_mem {ss : List Nat} : ∀ {l : List Nat}, noneApart ss l = true → ∀ x ∈ l, x ∉ ss
  | [], _, x, hx => by simp at hx
  | y :: r, h, x, hx => by
    simp only [noneApart, Bool.and_eq_true, Bool.not_eq_true'] at h
    rcases List.mem_cons.1 hx with rfl | hx
    · exact memN_false.1 h.1
    · exact noneApart_mem h.2 x hx
theorem putAll_append : ∀ (l1 l2 : List (Nat × Blk)) (hp : Heap), putAll hp (l1 ++ l2) = putAll (putAll hp l1) l2
  | [], _l2, _hp => rfl
  | (s, b) :: r, l2, hp => putAll_append r l2 (put hp s b)

/-- The argument blocks as they come back. -/
theorem back_look : ∀ {ss : List Nat} {bl bl' : List Blk} {hp : Heap}, ss.Nodup → bl.length = ss.length → bl'.length = bl.length →
    (∀ s, s ∉ ss → look (putAll hp (backBlks ss bl bl')) s = look hp s) ∧ (∀ (i s : Nat) (b0 b1 : Blk), ss[i]? = some s → bl[i]? = some b0 → bl'[i]? = some b1 → look (putAll hp (backBlks ss bl bl')) s = some (backBlk b0 b1))
  | [], bl, bl', hp, _, _, _ => by
    refine ⟨fun s _ => ?_, fun i s b0 b1 h => by simp at h⟩
    simp [backBlks, putAll]
  | x :: r, [], bl', hp, _, h, _ => by simp at h
  | x :: r, b :: bl, [], hp, _, _, h => by simp at h
  | x :: r, b :: bl, c :: bl', hp, hd, h1, h2 => by
    rw [List.nodup_cons] at hd
    have ih := back_look (ss := r) (bl := bl) (bl' := bl') (hp := put hp x (backBlk b c)) hd.2 (by simpa using h1) (by simpa using h2)
    have e : backBlks (x :: r) (b :: bl) (c :: bl') = (x, backBlk b c) :: backBlks r bl bl' := rfl
    rw [e]
    refine ⟨fun s hs => ?_, fun i s b0 b1 hi h3 h4 => ?_⟩
    · simp only [List.mem_cons, not_or] at hs
      show look (putAll (put hp x (backBlk b c)) (backBlks r bl bl')) s = _
      rw [ih.1 s hs.2, look_put, if_neg hs.1]
    · cases i with
      | zero =>
        simp at hi h3 h4; subst hi h3 h4
        show look (putAll (put hp x (backBlk b c)) (backBlks r bl bl')) x = _
        rw [ih.1 x hd.1, look_put, if_pos rfl]
      | succ i => simp at hi h3 h4; exact ih.2 i s b0 b1 hi h3 h4
theorem backBlks_mem : ∀ {ss : List Nat} {bl bl' : List Blk} {k : Nat} {b : Blk}, bl.length = ss.length → bl'.length = bl.length → (k, b) ∈ backBlks ss bl bl' → ∃ (i : Nat) (b0 b1 : Blk), ss[i]? = some k ∧ bl[i]? = some b0 ∧ bl'[i]? = some b1 ∧ b = backBlk b0 b1
  | [], bl, bl', k, b, _, _, h => by simp [backBlks] at h
  | x :: r, [], bl', k, b, h, _, _ => by simp at h
  | x :: r, c :: bl, [], k, b, _, h, _ => by simp at h
  | x :: r, c :: bl, d :: bl', k, b, h1, h2, h => by
    have e : backBlks (x :: r) (c :: bl) (d :: bl') = (x, backBlk c d) :: backBlks r bl bl' := rfl
    rw [e] at h
    rcases List.mem_cons.1 h with h | h
    · cases h; exact ⟨0, c, d, rfl, rfl, rfl, rfl⟩
    · obtain ⟨i, b0, b1, g1, g2, g3, g4⟩ := backBlks_mem (by simpa using h1) (by simpa using h2) h
      exact ⟨i + 1, b0, b1, by simpa using g1, by simpa using g2, by simpa using g3, g4⟩

/-- A call by reference. -/
theorem sim_callR (ok : TabOk P T) {C : CallF} (hC : CallOk P T C) (r : Rel w0 Pr M0 M β st a w) {h' : Nat → Option Blk} (hsub : ∀ s b, h' s = some b → look st.heap s = some b) {d f : Nat} {fi : FI} {args : List AV} {cargs : Array Value}
    (hd : o.dst = some d) (hf : tlook T.funcs f = some fi) (hm : fi.cfg.byRef = true) (hargs : ListR w M β (look st.heap) args cargs.toList) (he : (execOp a.eval o).run P w = (callFunc f cargs).run P w) :
    OpSim P w0 Pr M0 β st a w o (stepCall T C h' o.dst f args) := by
  rw [hd]
  simp only [stepCall, hf, hm]
  have hnd : (AV.sitesAll [] args).Nodup := sitesAll_nodup args [] List.nodup_nil
  generalize AV.sitesAll [] args = ss at hnd
  cases hta : toArgs ss args with
  | none => exact ⟨fun _ _ _ hk => by simp [DT.run] at hk⟩
  | some as_ =>
    cases hab : argBlks h' ss with
    | none => exact ⟨fun _ _ _ hk => by simp [DT.run] at hk⟩
    | some bl =>
      refine ⟨fun α k res hk Q => ?_⟩
      obtain ⟨⟨rs, bl'⟩, hcall, hk⟩ := run_callD hk
      obtain ⟨hbody, hcalls⟩ := hC f fi _ bl rs bl' hf hcall
      obtain ⟨t1, t2⟩ := toArgs_ok hta
      obtain ⟨b1, b2⟩ := argBlks_ok hab
      cases hres : resVals T d ss 0 fi.cfg.rets fi.fn.resultTypes.toList rs with
      | none => rw [hres] at hk; simp [DT.run] at hk
      | some xb =>
        obtain ⟨xs, bs⟩ := xb
        rw [hres] at hk
        obtain ⟨hna, hk⟩ := run_chk hk
        simp only [DT.run] at hk
        unfold Oper.wp
        rw [he, enter_run ok hf hbody, Oper.upon_enter]
        have blk_at : ∀ (i : Nat) (b0 : Blk), bl[i]? = some b0 → ∃ s, ss[i]? = some s ∧ look st.heap s = some b0 ∧ pureBlk b0 = true := by
          intro i b0 hi
          have hlt : i < ss.length := by rw [← b1]; exact (List.getElem?_eq_some_iff.1 hi).1
          obtain ⟨b, g1, g2, g3⟩ := b2 i ss[i] (by simp)
          rw [g1] at hi; cases hi
          exact ⟨ss[i], by simp, hsub _ _ g2, g3⟩
        have site_at : ∀ (i s : Nat), ss[i]? = some s → ∃ b0, bl[i]? = some b0 ∧ look st.heap s = some b0 ∧ pureBlk b0 = true := by
          intro i s hi
          obtain ⟨b, g1, g2, g3⟩ := b2 i s hi
          exact ⟨b, g1, hsub _ _ g2, g3⟩
        have place : ∀ (i s : Nat), ss[i]? = some s → argPlace β ss (argSite + i) = β s := by
          intro i s hi
          rw [argPlace_at, hi]; rfl
        have arg1 : ∀ (u v : AV) (c : Value), toArg ss u = some v → AR w M β (look st.heap) u c → AR w M (argPlace β ss) (look (initHeap 0 bl)) v c := by
          intro u v c hu hc
          unfold toArg at hu
          split at hu
          · cases hu
            cases hc with
            | p _ _ hv => exact .p _ _ hv
          · rename_i s z off len
            cases hi : idxOf s ss 0 with
            | none => rw [hi] at hu; cases hu
            | some i =>
              rw [hi] at hu; simp at hu; subst hu
              obtain ⟨n, hn, hs⟩ := idxOf_ok hi
              obtain rfl : i = n := by omega
              obtain ⟨b0, g1, g2, g3⟩ := site_at i s hs
              exact hc.slice_move g2 (by rw [look_init0]; exact g1) (place i s hs)
          · rename_i s idx off
            cases hi : idxOf s ss 0 with
            | none => rw [hi] at hu; cases hu
            | some i =>
              rw [hi] at hu; simp at hu; subst hu
              obtain ⟨n, hn, hs⟩ := idxOf_ok hi
              obtain rfl : i = n := by omega
              obtain ⟨b0, g1, g2, g3⟩ := site_at i s hs
              exact hc.ptr_move g2 (by rw [look_init0]; exact g1) (place i s hs)
          · cases hu
        have hpre : CallPre w M (argPlace β ss) as_ bl cargs := by
          refine ⟨?_, fun i v hi => ?_, fun i b0 hi => ?_, fun i b o hi h => ?_, fun i j b o o' hi hj h1 h2 => ?_, r.msub⟩
          · have := hargs.1
            simp only [Array.length_toList] at this
            omega
          · obtain ⟨u, g1, g2⟩ := t2 i v hi
            have hlt : i < cargs.toList.length := by rw [← hargs.1]; exact (List.getElem?_eq_some_iff.1 g1).1
            have hc : cargs.toList[i]? = some (cargs.getD i undef) := by
              rw [List.getElem?_eq_getElem hlt]
              simp only [Array.length_toList] at hlt
              simp [hlt]
            exact arg1 u v _ g2 (hargs.2 i u _ g1 hc)
          · obtain ⟨s, g1, g2, g3⟩ := blk_at i b0 hi
            exact (r.heap s b0 g2).pure_move g3 (place i s g1)
          · have hlt : i < ss.length := by omega
            rw [place i ss[i] (by simp)] at h
            obtain ⟨b0, g1, g2, g3⟩ := site_at i ss[i] (by simp)
            have := r.own ss[i] b o (by rw [g2]; rfl) h
            exact ⟨this.1, this.2.1⟩
          · have hli : i < ss.length := by omega
            have hlj : j < ss.length := by omega
            rw [place i ss[i] (by simp)] at h1
            rw [place j ss[j] (by simp)] at h2
            obtain ⟨b0, g1, g2, g3⟩ := site_at i ss[i] (by simp)
            obtain ⟨b0', g1', g2', g3'⟩ := site_at j ss[j] (by simp)
            have := r.inj ss[i] ss[j] b o o' (by rw [g2]; rfl) (by rw [g2']; rfl) h1 h2
            exact nodup_get (s := ss[j]) hnd (by rw [← this]; simp) (by simp)
        refine Calls.mono (hcalls w _ _ cargs hpre) fun e w' hpost => ?_
        obtain ⟨cs, ps, M', rfl, post⟩ := hpost
        show ∃ e M' β', _
        refine ⟨{ val := wrapRes xs, chg := backBlks ss bl bl' ++ bs, new := keysOf bs }, M', ?_⟩
        by_cases hfz : frzOk (keysOf bs ++ []) = true
        · have hfz' : frzOk (keysOf bs) = true := (frzOk_append hfz).1
          have r1 : Rel w0 Pr M0 M β (st.strike (present st.heap (keysOf bs))) a w := r.strike _ (fun b h => h) fun b h => .inl h
          generalize hst1 : st.strike (present st.heap (keysOf bs)) = st1 at r1
          have hst1s : ∀ (i s : Nat) (b0 : Blk), ss[i]? = some s → bl[i]? = some b0 → look st1.heap s = some b0 := by
            intro i s b0 hi hb
            obtain ⟨b, g1, g2, g3⟩ := site_at i s hi
            rw [hb] at g1; cases g1
            rw [← hst1, look_strike, if_neg, g2]
            · show some (b0.kill _) = some b0
              congr 1
              cases b0 with
              | arr => rfl
              | box cs =>
                simp only [pureBlk, Option.isSome_iff_exists] at g3
                obtain ⟨vs, hp⟩ := g3
                have hcs := pures_ok hp
                subst hcs
                simp only [Blk.kill, Blk.box.injEq]
                apply List.ext_getElem?
                intro n
                rw [killEnv_get]
                cases hx : (vs.map AV.p)[n]? with
                | none => rfl
                | some v =>
                  simp only [List.getElem?_map, Option.map_eq_some_iff] at hx
                  obtain ⟨x, _, rfl⟩ := hx
                  rfl
            · intro hm
              exact noneApart_mem hna s (present_sub hm).1 (List.mem_of_getElem? hi)
          have hbk := back_look (ss := ss) (bl := bl) (bl' := bl') (hp := st1.heap) hnd b1 post.len
          have idx_of : ∀ s, s ∈ ss → ∃ (i : Nat) (b0 b1 : Blk), ss[i]? = some s ∧ bl[i]? = some b0 ∧ bl'[i]? = some b1 := by
            intro s hs
            obtain ⟨i, hi⟩ := List.mem_iff_getElem?.1 hs
            obtain ⟨b0, g1, _, _⟩ := site_at i s hi
            have hlt : i < bl'.length := by rw [post.len]; exact (List.getElem?_eq_some_iff.1 g1).1
            exact ⟨i, b0, bl'[i], hi, g1, by simp⟩
          have r2 : Rel w0 Pr M0 M' β { st1 with heap := putAll st1.heap (backBlks ss bl bl') } a w' := by
            refine r1.moved post.size post.os post.tape post.output (fun b hb hm => post.keep b hb fun i o hi h => ?_) post.room post.msub (fun b h => ?_) (fun s hs => ?_) (fun s blk hs => ?_)
            · have hlt : i < ss.length := by omega
              rw [place i ss[i] (by simp)] at h
              obtain ⟨b0, g1, g2, g3⟩ := site_at i ss[i] (by simp)
              obtain ⟨o1, o2, o3⟩ := r.own ss[i] b o (by rw [g2]; rfl) h
              rcases hm with hm | ⟨hm1, hm2⟩
              · exact o1 hm
              · rcases o3 with o3 | o3
                · omega
                · exact hm2 o3.2
            · rcases post.mnew b h with h1 | h1
              · exact .inl h1
              · exact .inr ⟨h1, post.mlt b h⟩
            · rw [hbk.1 s]
              · exact hs
              · intro hm
                obtain ⟨i, b0, b1, g1, g2, g3⟩ := idx_of s hm
                rw [hst1s i s b0 g1 g2] at hs; cases hs
            · by_cases hm : s ∈ ss
              · obtain ⟨i, b0, b1, g1, g2, g3⟩ := idx_of s hm
                have := hst1s i s b0 g1 g2
                rw [this] at hs; cases hs
                obtain ⟨k1, k2, k3, k4⟩ := post.blk i blk b1 g2 g3
                refine ⟨b1, by rw [hbk.2 i s blk b1 g1 g2 g3, backBlk_eq k3], .inr ⟨k2, k1.pure_move k4 (place i s g1).symm⟩⟩
              · refine ⟨blk, by rw [hbk.1 s hm]; exact hs, .inl ⟨rfl, fun b o h => ?_⟩⟩
                have hl : (look st1.heap s).isSome = true := by rw [hs]; rfl
                refine post.keep b (r1.own s b o hl h).2.1 fun i o' hi h' => ?_
                have hlt : i < ss.length := by omega
                rw [place i ss[i] (by simp)] at h'
                obtain ⟨b0, g1, g2, g3⟩ := site_at i ss[i] (by simp)
                have := r1.inj s ss[i] b o o' hl (by rw [hst1s i ss[i] b0 (by simp) g1]; rfl) h h'
                exact hm (by rw [this]; simp)
          obtain ⟨β', r3, hβ⟩ := r2.results (d := d) post.res hres (fun s hs => by
            show look (putAll st1.heap (backBlks ss bl bl')) s = none
            rw [hbk.1 s (noneApart_mem hna s hs), ← hst1]
            exact by simpa using struck_none (st := st) (fz := []) hs) (fun b o hb => by
            obtain ⟨g1, g2, g3⟩ := post.own b o hb
            refine ⟨g1, g2, by have := r.size; omega, fun s' o' hs' hβ => ?_⟩
            have hs'' : (look st1.heap s').isSome = true := by
              by_cases hm : s' ∈ ss
              · obtain ⟨i, b0, b1, k1, k2, k3⟩ := idx_of s' hm
                rw [hst1s i s' b0 k1 k2]; rfl
              · have h3 : (look (putAll st1.heap (backBlks ss bl bl')) s').isSome = true := hs'
                rw [hbk.1 s' hm] at h3; exact h3
            have := (r1.own s' b o' hs'' hβ).2.1
            omega) (fun j s blk hj hb => by
            rw [look_init0] at hb
            obtain ⟨b0, g1, g2, g3⟩ := site_at j s hj
            refine ⟨?_, (place j s hj).symm⟩
            show look (putAll st1.heap (backBlks ss bl bl')) s = _
            rw [hbk.2 j s b0 blk hj g1 hb, backBlk_eq (post.blk j b0 blk g1 hb).2.2.1])
          refine ⟨β', hk, post.drawn, fun _ => ⟨?_, fun s hs => hβ s fun hk => ?_, argsLike_apply fun k b hkb => ?_⟩⟩
          · rw [hd]
            have e : st.apply (some d) { val := wrapRes xs, chg := backBlks ss bl bl' ++ bs, new := keysOf bs } = { env := Skm.setEnv st1.env (some d) (wrapRes xs), heap := putAll (putAll st1.heap (backBlks ss bl bl')) bs } := by
              rw [← putAll_append, ← hst1]
              simp [St.apply, St.kill]
            rw [e]; exact r3
          · have := frzOk_lt hfz' s hk; omega
          · rcases List.mem_append.1 hkb with h | h
            · obtain ⟨i, b0, b1', k1, k2, k3, rfl⟩ := backBlks_mem b1 post.len h
              obtain ⟨b, g1, g2, g3⟩ := site_at i k k1
              rw [k2] at g1; cases g1
              obtain ⟨q1, q2, q3, q4⟩ := post.blk i b0 b1' k2 k3
              exact .inr ⟨b0, g2, by rw [backBlk_eq q3]; exact q2⟩
            · refine .inl (frzOk_lt hfz' k ?_)
              have : ∀ (l : List (Nat × Blk)), (k, b) ∈ l → k ∈ keysOf l := by
                intro l
                induction l with
                | nil => intro h; simp at h
                | cons x r ih =>
                  intro h
                  rcases List.mem_cons.1 h with rfl | h
                  · simp [keysOf]
                  · simp [keysOf, ih h]
              exact this _ h
        · exact ⟨β, hk, post.drawn, fun h => absurd h hfz⟩
end
end Go.Skm
/-
  One operation of the machine is one operation of the program; condition: the tables tell the truth (TabOk), and the machine's calls are true calls (CallOk).
-/
namespace Go.Skm
section
variable {P : Program} {T : Tab} {w0 : World} {Pr M0 M : Nat → Prop} {β : Nat → Option (Nat × Nat)} {st : St} {a : Act} {w : World} {o : Oper}

theorem Rel.evalOs (r : Rel w0 Pr M0 M β st a w) : ∀ (l : List Operand), ListR w M β (look st.heap) (Skm.evalOs st.env l) (l.map a.eval)
  | [] => ⟨rfl, fun i x c h => by simp [Skm.evalOs] at h⟩
  | x :: l => by
    obtain ⟨h1, h2⟩ := r.evalOs l
    refine ⟨by simp [Skm.evalOs, h1], fun i y c hy hc => ?_⟩
    cases i with
    | zero => simp [Skm.evalOs] at hy hc; subst hy hc; exact r.evalO x
    | succ i => simp only [Skm.evalOs, List.map_cons, List.getElem?_cons_succ] at hy hc; exact h2 i y c hy hc
theorem Rel.evalOs' (r : Rel w0 Pr M0 M β st a w) (l : Array Operand) : ListR w M β (look st.heap) (Skm.evalOs st.env l.toList) (l.map a.eval).toList := by
  rw [Array.toList_map]; exact r.evalOs l.toList
theorem Rel.partsEval (r : Rel w0 Pr M0 M β st a w) : ∀ (l : List (Nat × Operand)), PartsR w M β (look st.heap) (Skm.partsEval st.env l) (l.map fun (i, x) => (i, a.eval x))
  | [] => ⟨rfl, fun i x c h => by simp [Skm.partsEval] at h⟩
  | (n, x) :: l => by
    obtain ⟨h1, h2⟩ := r.partsEval l
    refine ⟨by simp [Skm.partsEval, h1], fun i y c hy hc => ?_⟩
    cases i with
    | zero => simp [Skm.partsEval] at hy hc; subst hy hc; exact ⟨rfl, r.evalO x⟩
    | succ i => simp only [Skm.partsEval, List.map_cons, List.getElem?_cons_succ] at hy hc; exact h2 i y c hy hc
theorem Rel.partsEval' (r : Rel w0 Pr M0 M β st a w) (l : Array (Nat × Operand)) : PartsR w M β (look st.heap) (Skm.partsEval st.env l.toList) (l.map fun (i, x) => (i, a.eval x)).toList := by
  rw [Array.toList_map]; exact r.partsEval l.toList
theorem Rel.optEval (r : Rel w0 Pr M0 M β st a w) (x : Option Operand) : OptR w M β (look st.heap) (Skm.optEval st.env x) (x.map a.eval) := by
  cases x with
  | none => exact True.intro
  | some x => exact r.evalO x

theorem OpSim.fail : OpSim P w0 Pr M0 β st a w o .fail := ⟨fun _ _ _ hk => by simp [DT.run] at hk⟩
theorem OpSim.val (r : Rel w0 Pr M0 M β st a w) {D : DT} {sem : Sem Value} (h : ValSim P w M β (look st.heap) D sem) (e : execOp a.eval o = (do pure (.value (← sem)))) : OpSim P w0 Pr M0 β st a w o D :=
  StSim.op (by rw [e]; exact StSim.of_val r h)
theorem StSim.run_congr {d : Option Nat} {D : DT} {s1 s2 : Sem Next} (h : StSim P w0 Pr M0 β st a w d D s1) (e : s2.run P w = s1.run P w) : StSim P w0 Pr M0 β st a w d D s2 :=
  ⟨fun α k q hk => by rw [e]; exact h.sim α k q hk⟩
theorem OpSim.of {D : DT} {sem : Sem Next} (h : StSim P w0 Pr M0 β st a w o.dst D sem) (e : execOp a.eval o = sem) : OpSim P w0 Pr M0 β st a w o D :=
  StSim.op (by rw [e]; exact h)

theorem sim_cap (ok : TabOk P T) {h : Nat → Option Blk} {t : TypeId} {x : AV} {c : Value} {ts : Array TypeId} {ty : TypeId} (ht : ts[0]? = some t) (hx : AR w M β h x c) :
    ValSim P w M β h (stepCap T t x) (Builtin.cap_ ts ty #[c]) := by
  unfold stepCap
  split
  · rename_i e hu
    have hu := ok.und hu
    have hc : c = .slice none 0 0 := by cases hx; rename_i hv; cases hv; rfl
    subst hc
    refine ValSim.ret (.int _ _) ?_
    simp [Builtin.cap_, ht, run_und hu, goInt]
  · exact ValSim.fail

/-- The slice nil that is assigned becomes an empty block of the frame. -/
theorem sim_nil (r : Rel w0 Pr M0 M β st a w) {d : Nat} {sa : Bool} {ks : List Kd} :
    StSim P w0 Pr M0 β st a w (some d) (.ret { val := .slice d ks.length 0 0, chg := [(d, .arr sa ks [])], new := [d] }) (pure (.value (.slice none 0 0))) := by
  refine StSim.ret (nv := .value (.slice none 0 0)) (c := .slice none 0 0) (w' := w) (M' := M) (β' := fun x => if x = d then none else β x) (by simp) (.inl rfl) (fun _ => ?_) (fun hf => new_arg (ss := []) hf)
  have r1 : Rel w0 Pr M0 M β (st.strike (present st.heap [d] ++ [])) a w := r.strike _ (fun b h => h) fun b h => .inl h
  have h0 : look (st.strike (present st.heap [d] ++ [])).heap d = none := struck_none (by simp)
  rw [strike_env_ok]
  generalize st.strike (present st.heap [d] ++ []) = st1 at r1 h0
  have r2 := r1.lay (s := d) (blk := .arr sa ks []) h0 (p := none) (fun b o h => by cases h) (.arrE _ _)
  refine r2.setEnv (some d) ?_
  exact .sliceE d 0 sa ks [] none (by simp [look_put]) (by simp)

theorem sim_opcall (ok : TabOk P T) {C : CallF} (hC : CallOk P T C) (r : Rel w0 Pr M0 M β st a w) {h' : Nat → Option Blk} (hsub : ∀ s b, h' s = some b → look st.heap s = some b) {f : Nat} {args : List AV} {cargs : Array Value}
    (hargs : ListR w M β (look st.heap) args cargs.toList) (he : (execOp a.eval o).run P w = (callFunc f cargs).run P w) : OpSim P w0 Pr M0 β st a w o (stepCall T C h' o.dst f args) := by
  cases hd : o.dst with
  | none => simp only [stepCall]; exact OpSim.fail
  | some d =>
    cases hf : tlook T.funcs f with
    | none => simp only [stepCall, hf]; exact OpSim.fail
    | some fi =>
      rw [← hd]
      cases hm : fi.cfg.byRef with
      | false => exact sim_callV ok hC r hsub hd hf hm hargs he
      | true => exact sim_callR ok hC r hsub hd hf hm hargs he

theorem exec_builtin {ρ : Operand → Value} {dst : Option Tmp} {b : Builtin} {args : Array Operand} {ts : Array TypeId} {type : TypeId} {pos : String} {after : Array Edge} {guard : Option (Nat × Bool)} :
    execOp ρ ⟨dst, .call ⟨.builtin b, args, ts⟩, type, pos, after, guard⟩ = builtin b ts type (args.map fun | .const _ => true | _ => false) (args.map ρ) := rfl
theorem exec_value {ρ : Operand → Value} {dst : Option Tmp} {fo : Operand} {args : Array Operand} {ts : Array TypeId} {type : TypeId} {pos : String} {after : Array Edge} {guard : Option (Nat × Bool)} {f : Nat} {vs : Array Value} (h : ρ fo = .func (.func f) #[] vs) :
    (execOp ρ ⟨dst, .call ⟨.value fo, args, ts⟩, type, pos, after, guard⟩) = callFunc f (args.map ρ ++ vs) := by
  simp only [execOp, resolve, h, Deferred.ofValue]
  simp [invoke]
theorem ListR.append {w : World} {M : Nat → Prop} {β : Nat → Option (Nat × Nat)} {h : Nat → Option Blk} : ∀ {xs ys : List AV} {cs ds : List Value}, ListR w M β h xs cs → ListR w M β h ys ds → ListR w M β h (xs ++ ys) (cs ++ ds)
  | [], ys, [], ds, _, h2 => h2
  | x :: xs, ys, c :: cs, ds, h1, h2 => by
    obtain ⟨g1, g2⟩ := h1.cons
    obtain ⟨k1, k2⟩ := g2.append h2
    refine ⟨by simp [k1], fun i y e hy he => ?_⟩
    cases i with
    | zero => simp at hy he; subst hy he; exact g1
    | succ i => simp at hy he; exact k2 i y e hy he
  | [], _, _ :: _, _, h1, _ => by have := h1.1; simp at this
  | _ :: _, _, [], _, h1, _ => by have := h1.1; simp at this

/-- One operation. -/
theorem sim_op (ok : TabOk P T) {C : CallF} (hC : CallOk P T C) (r : Rel w0 Pr M0 M β st a w) {h' : Nat → Option Blk} (hsub : ∀ s b, h' s = some b → look st.heap s = some b) :
    OpSim P w0 Pr M0 β st a w o (stepOp T C st.env h' o) := by
  have hh := r.heap
  obtain ⟨dst, op, type, pos, after, guard⟩ := o
  cases op with
  | move x => exact OpSim.of (sem := pure (.value (a.eval x))) (StSim.ret (nv := .value (a.eval x)) (by simp) (.inl rfl) (fun _ => r.setEnv dst (r.evalO x)) (fun _ _ _ => rfl) (fun _ => chg_nil)) rfl
  | assign x =>
    have plain : StSim P w0 Pr M0 β st a w dst (.ret { val := Skm.evalO st.env x }) (pure (.value (a.eval x))) :=
      StSim.ret (nv := .value (a.eval x)) (by simp) (.inl rfl) (fun _ => r.setEnv dst (r.evalO x)) (fun _ _ _ => rfl) (fun _ => chg_nil)
    simp only [stepOp]
    split
    · exact OpSim.of (sim_nil r) rfl
    · exact OpSim.of plain rfl
  | pick c x y => 
    refine OpSim.of ((StSim.of_val r (sim_pick (r.evalO c) (r.evalO x) (r.evalO y))).run_congr (s2 := do pure (.value (if ← asBool (a.eval c) then a.eval x else a.eval y))) ?_) rfl
    simp only [Sem.run_bind]
    cases (asBool (a.eval c)).run P w <;> simp
  | alloc t => exact OpSim.of (sim_alloc ok r) rfl
  | box t v => exact OpSim.of (sim_box r (r.evalO v)) rfl
  | build t ps => exact OpSim.val r (sim_build ok (r.partsEval' ps)) rfl
  | buildSlice t len ps => exact OpSim.of (sim_buildSlice ok r hsub (r.partsEval' ps)) rfl
  | load t x => exact OpSim.val r (sim_load ok hsub hh (r.evalO x)) rfl
  | store t x v => exact OpSim.of (sim_store ok r hsub (r.evalO x) (r.evalO v)) rfl
  | binOp op t x y _ => exact OpSim.val r (sim_bin ok x y (r.evalO x) (r.evalO y)) rfl
  | unOp op _ x => exact OpSim.val r (sim_un (r.evalO x)) rfl
  | convert s t x => exact OpSim.of (sim_convert ok r hsub (r.evalO x)) rfl
  | makeFunc fn first caps => exact OpSim.val r (sim_makeFunc (r.evalOs' first) (r.evalOs' caps)) rfl
  | makeSlice t l c => exact OpSim.of (sim_makeSlice ok r (r.evalO l) (r.evalO c)) rfl
  | slice t x lo hi mx =>
    simp only [stepOp]
    split
    · rename_i n e hu
      exact OpSim.val r (sim_sliceArr ok hsub hu (r.evalO x) (r.optEval lo) (r.optEval hi) (r.optEval mx)) rfl
    · split
      · exact OpSim.fail
      · rename_i hmh
        refine OpSim.val r (sim_slice ok (r.evalO x) (r.optEval lo) (r.optEval hi) (r.optEval mx) ?_) rfl
        intro h
        cases mx with
        | none => simp [Skm.optEval] at h
        | some m =>
          cases hi with
          | none => exact absurd rfl (hmh m rfl)
          | some _ => rfl
  | fieldAddr t x f => exact OpSim.val r (sim_fieldAddr ok (r.evalO x)) rfl
  | field t x f => exact OpSim.val r (sim_field ok (r.evalO x)) rfl
  | indexAddr t x i => exact OpSim.val r (sim_indexAddr ok (r.evalO x) (r.evalO i)) rfl
  | index t x i => exact OpSim.val r (sim_index ok (r.evalO x) (r.evalO i)) rfl
  | extract x i => exact OpSim.val r (sim_extract (r.evalO x)) rfl
  | nilCheck x =>
    have hx := r.evalO x
    refine OpSim.of (sem := execOp a.eval ⟨dst, .nilCheck x, type, pos, after, guard⟩) ?_ rfl
    simp only [stepOp]
    generalize hv : Skm.evalO st.env x = v at hx
    have key : (∃ s i o, v = .ptr s i o) ∨ (∃ sa ks y o, v = .lptr sa ks y o) ∨ (∃ cs, v = .p (.ref cs)) ∨ (∃ f cs, v = .p (.fn f cs)) ∨ (∃ f cs, v = .fn f cs) → StSim P w0 Pr M0 β st a w dst (.ret { val := v }) (execOp a.eval ⟨dst, .nilCheck x, type, pos, after, guard⟩) := by
      intro h
      refine StSim.ret (nv := .value (a.eval x)) (c := a.eval x) ?_ (.inl rfl) (fun _ => r.setEnv dst hx) (fun _ _ _ => rfl) (fun _ => chg_nil)
      simp only [execOp]
      generalize a.eval x = c at hx
      rcases h with ⟨s, i, o, rfl⟩ | ⟨sa, ks, y, o, rfl⟩ | ⟨cs, rfl⟩ | ⟨f, cs, rfl⟩ | ⟨f, cs, rfl⟩
      · cases hx <;> rfl
      · cases hx <;> rfl
      · cases hx; rename_i hv; cases hv; rfl
      · cases hx; rename_i hv; cases hv; rfl
      · cases hx; rfl
    unfold stepNilCheck
    split
    · exact key (.inl ⟨_, _, _, rfl⟩)
    · exact key (.inr (.inl ⟨_, _, _, _, rfl⟩))
    · exact key (.inr (.inr (.inl ⟨_, rfl⟩)))
    · exact key (.inr (.inr (.inr (.inl ⟨_, _, rfl⟩))))
    · exact key (.inr (.inr (.inr (.inr ⟨_, _, rfl⟩))))
    · exact StSim.fail
  | call c =>
    obtain ⟨callee, args, argTypes⟩ := c
    simp only [stepOp]
    split
    · -- len
      split
      · rename_i x t ts h1 h2
        have e1 : args = #[x] := by rw [← Array.toList_inj]; exact h1
        have e2 : argTypes[0]? = some t := by rw [← Array.getElem?_toList, h2]; rfl
        subst e1
        exact OpSim.val r (sim_len  ok e2 (ty := type) (r.evalO x)) (by rw [exec_builtin]; simp [builtin])
      · exact OpSim.fail
    · split
      · rename_i x t ts h1 h2
        have e1 : args = #[x] := by rw [← Array.toList_inj]; exact h1
        have e2 : argTypes[0]? = some t := by rw [← Array.getElem?_toList, h2]; rfl
        subst e1
        exact OpSim.val r (sim_cap ok e2 (r.evalO x) (ty := type)) (by rw [exec_builtin]; simp [builtin])
      · exact OpSim.fail
    · exact OpSim.val r (sim_minmax (g := Builtin.min2) (r.evalOs' args) (fun j x y => by simp [Builtin.min2, goMin])) exec_builtin
    · exact OpSim.val r (sim_minmax (g := Builtin.max2) (r.evalOs' args) (fun j x y => by simp [Builtin.max2, goMax])) exec_builtin
    · -- append
      split
      · rename_i x y t t2 h1 h2
        have e1 : args = #[x, y] := by rw [← Array.toList_inj]; exact h1
        have e2 : argTypes = #[t, t2] := by rw [← Array.toList_inj]; exact h2
        subst e1 e2
        exact OpSim.of (sim_append ok r hsub (ty := type) (ts := #[t, t2]) rfl rfl (r.evalO x) (r.evalO y)) (by rw [exec_builtin]; simp [builtin])
      · exact OpSim.fail
    · split
      · rename_i x y t ts h1 h2
        have e1 : args = #[x, y] := by rw [← Array.toList_inj]; exact h1
        have e2 : argTypes[0]? = some t := by rw [← Array.getElem?_toList, h2]; rfl
        subst e1
        exact OpSim.of (sim_copy ok r hsub e2 (ty := type) (r.evalO x) (r.evalO y)) (by rw [exec_builtin]; simp [builtin])
      · exact OpSim.fail
    · split
      · rename_i x t ts h1 h2
        have e1 : args = #[x] := by rw [← Array.toList_inj]; exact h1
        have e2 : argTypes[0]? = some t := by rw [← Array.getElem?_toList, h2]; rfl
        subst e1
        exact OpSim.of (sim_clear ok r hsub e2 (ty := type) (r.evalO x)) (by rw [exec_builtin]; simp [builtin])
      · exact OpSim.fail
    · rename_i fo
      have hfo := r.evalO fo
      split
      · rename_i f caps hv
        rw [hv] at hfo
        have : ∃ vs : Array Value, a.eval fo = .func (.func f) #[] vs ∧ ListR w M β (look st.heap) (caps.map .p) vs.toList := by
          generalize a.eval fo = c at hfo
          cases hfo with
          | p _ _ hv =>
            cases hv with
            | fn _ _ vs hn hc =>
              refine ⟨vs, rfl, by simp [hn], fun i x c hx hy => ?_⟩
              simp only [List.getElem?_map, Option.map_eq_some_iff] at hx
              obtain ⟨y, hx, rfl⟩ := hx
              have := hc i y hx
              rw [Array.getElem?_toList] at hy
              rw [Array.getD_eq_getD_getElem?, hy] at this
              exact .p _ _ this
        obtain ⟨vs, h1, h2⟩ := this
        refine sim_opcall (o := ⟨dst, .call ⟨.value fo, args, argTypes⟩, type, pos, after, guard⟩) ok hC r hsub (cargs := args.map a.eval ++ vs) ?_ (by rw [exec_value h1])
        rw [Array.toList_append]
        exact (r.evalOs' args).append h2
      · rename_i f caps hv
        rw [hv] at hfo
        have : ∃ vs : Array Value, a.eval fo = .func (.func f) #[] vs ∧ ListR w M β (look st.heap) caps vs.toList := by
          generalize a.eval fo = c at hfo
          cases hfo with
          | fn _ _ vs hn hc =>
            refine ⟨vs, rfl, by simp [hn], fun i x c hx hy => ?_⟩
            have := hc i x hx
            rw [Array.getElem?_toList] at hy
            rw [Array.getD_eq_getD_getElem?, hy] at this
            exact this
        obtain ⟨vs, h1, h2⟩ := this
        refine sim_opcall (o := ⟨dst, .call ⟨.value fo, args, argTypes⟩, type, pos, after, guard⟩) ok hC r hsub (cargs := args.map a.eval ++ vs) ?_ (by rw [exec_value h1])
        rw [Array.toList_append]
        exact (r.evalOs' args).append h2
      · exact OpSim.fail
    · exact OpSim.fail
  | _ => exact OpSim.fail
end
end Go.Skm
/-
  One step of a region: what the forcing functions do (nothing), and how a step stands to a true one; condition: TabOk, CallOk.
-/
namespace Go.Skm

/- FORCING IS THE IDENTITY. -/
section
variable {α : Type}
theorem forceNat_eq (m : Nat) (k : Nat → Option α) : forceNat m k = k m := by cases m <;> rfl
theorem forceInt_eq (n : Int) (k : Int → Option α) : forceInt n k = k n := by cases n <;> simp [forceInt, forceNat_eq]
mutual
theorem forcePV_eq (b : Bool) : ∀ (v : PV) (k : PV → Option α), forcePV b v k = k v
  | .bool c, k => by cases b <;> cases c <;> simp [forcePV]
  | .int j n, k => by cases b <;> simp [forcePV, forceInt_eq]
  | .str s, k => by simp [forcePV]
  | .agg cs, k => by simp [forcePV, forcePVs_eq b cs]
  | .list a ks xs, k => by cases b <;> simp [forcePV, forcePVs_eq _ xs]
  | .full a ks xs, k => by cases b <;> simp [forcePV, forcePVs_eq _ xs]
  | .nil, k => by simp [forcePV]
  | .fn f cs, k => by cases b <;> simp [forcePV, forcePVs_eq _ cs]
  | .ref cs, k => by simp [forcePV, forcePVs_eq b cs]
  | .nilp, k => by simp [forcePV]
  | .nilfn, k => by simp [forcePV]
theorem forcePVs_eq (b : Bool) : ∀ (v : List PV) (k : List PV → Option α), forcePVs b v k = k v
  | [], k => by simp [forcePVs]
  | v :: r, k => by simp [forcePVs, forcePV_eq b v, forcePVs_eq b r]
end
mutual
theorem forceAV_eq (b : Bool) : ∀ (v : AV) (k : AV → Option α), forceAV b v k = k v
  | .undef, k => by simp [forceAV]
  | .p v, k => by simp [forceAV, forcePV_eq]
  | .slice s z o l, k => by cases b <;> simp [forceAV, forceNat_eq]
  | .bslice s o l, k => by cases b <;> simp [forceAV, forceNat_eq]
  | .ptr s i o, k => by cases b <;> simp [forceAV, forceNat_eq]
  | .lptr a ks x o, k => by cases b <;> simp [forceAV, forceNat_eq, forcePV_eq]
  | .fn f cs, k => by simp [forceAV, forceAVs_eq b cs]
  | .agg cs, k => by simp [forceAV, forceAVs_eq b cs]
  | .tup cs, k => by simp [forceAV, forceAVs_eq b cs]
  | .fresh a ks xs, k => by cases b <;> simp [forceAV, forcePVs_eq]
theorem forceAVs_eq (b : Bool) : ∀ (v : List AV) (k : List AV → Option α), forceAVs b v k = k v
  | [], k => by simp [forceAVs]
  | v :: r, k => by simp [forceAVs, forceAV_eq b v, forceAVs_eq b r]
end
theorem spine_eq : ∀ (v : List AV) (k : List AV → Option α), spine v k = k v
  | [], k => rfl
  | v :: r, k => by simp [spine, spine_eq r]
theorem forceBlk_eq (b : Bool) : ∀ (v : Blk) (k : Blk → Option α), forceBlk b v k = k v
  | .box cs, k => by simp [forceBlk, forceAVs_eq]
  | .arr a ks xs, k => by cases b <;> simp [forceBlk, forcePVs_eq]
theorem forceBlks_eq (b : Bool) : ∀ (v : List Blk) (k : List Blk → Option α), forceBlks b v k = k v
  | [], k => rfl
  | v :: r, k => by simp [forceBlks, forceBlk_eq, forceBlks_eq b r]
theorem forceChg_eq (b : Bool) : ∀ (v : List (Nat × Blk)) (k : List (Nat × Blk) → Option α), forceChg b v k = k v
  | [], k => rfl
  | (s, x) :: r, k => by simp [forceChg, forceBlk_eq, forceChg_eq b r]
theorem spineH_eq : ∀ (v : Heap) (k : Heap → Option α), spineH v k = k v
  | [], k => rfl
  | (s, x) :: r, k => by simp [spineH, spineH_eq r]
theorem forceSt_eq (st : St) (k : St → Option α) : forceSt st k = k st := by simp [forceSt, spine_eq, spineH_eq]
theorem forceEff_eq (b : Bool) (st : St) (d : Option Nat) (e : Eff) (k : St → Option α) : forceEff b st d e k = k (st.apply d e) := by
  simp [forceEff, forceAV_eq, forceChg_eq, forceSt_eq]

theorem DT.run_bind : ∀ (D : DT) (k : Eff → Option α), D.run k = (D.run some).bind k
  | .fail, k => rfl
  | .ret e, k => rfl
  | .ite c x y, k => by cases c <;> simp [DT.run, DT.run_bind x k, DT.run_bind y k]
  | .call o f, k => by
    cases o with
    | none => rfl
    | some r => simp only [DT.run]; exact DT.run_bind (f r) k
end

section
variable (T : Tab) (C : CallF)
/-- What an operation would do: not at all (none), pass it over (some none), an effect. -/
def act1 (all : List Oper) (o : Oper) (env : List AV) (h : Nat → Option Blk) : Option (Option Eff) :=
  match o.guard with
  | none => ((stepOp T C env h o).run some).map some
  | some (g, want) =>
    match dstOf all g with
    | none => none
    | some t =>
      match env.getD t .undef with
      | .p (.bool b) => if b = want then ((stepOp T C env h o).run some).map some else some none
      | .tup [] => some none
      | _ => none
/-- One step of a region. -/
def step1 (draw : Bool) (hd : List Nat) (all : List Oper) (o : Oper) (st : St) : Option St :=
  match act1 T C all o st.env (hideH hd (look st.heap)) with
  | none => none
  | some none => some { st with env := setEnv st.env o.dst (.tup []) }
  | some (some e) => if (frzOk (e.new ++ e.frz) && quietEff draw (opClass T all o) o st.heap e) = true then some (st.apply o.dst e) else none

theorem set_self {env : List AV} {t : Nat} {v : AV} (h : env.getD t .undef = v) (hv : v ≠ .undef) : env.set t v = env := by
  apply List.ext_getElem?
  intro i
  by_cases hi : i = t
  · subst hi
    by_cases hl : i < env.length
    · have : env[i]? = some v := by
        rw [List.getD_eq_getElem?_getD, List.getElem?_eq_getElem hl] at h
        simp at h; simp [hl, h]
      rw [this]; simp [hl]
    · rw [List.getD_eq_getElem?_getD, List.getElem?_eq_none (by omega)] at h
      exact absurd h.symm hv
  · rw [List.getElem?_set_ne (Ne.symm hi)]

theorem runOps_cons {α : Type} {draw : Bool} {hd : List (List Nat)} {all : List Oper} {o : Oper} {rest : List Oper} {j : Nat} {st : St} {k : St → Option α} :
    runOps T C draw hd all (o :: rest) j st k = (step1 T C draw (hd.getD j []) all o st).bind fun st' => runOps T C draw hd all rest (j + 1) st' k := by
  have go : ∀ st : St, ((stepOp T C st.env (hideH (hd.getD j []) (look st.heap)) o).run fun e =>
        bif frzOk (e.new ++ e.frz) && quietEff draw (opClass T all o) o st.heap e then forceEff T.strict st o.dst e fun st => runOps T C draw hd all rest (j + 1) st k else none) =
      (match ((stepOp T C st.env (hideH (hd.getD j []) (look st.heap)) o).run some).map some with
        | none => none
        | some none => some { st with env := setEnv st.env o.dst (.tup []) }
        | some (some e) => if (frzOk (e.new ++ e.frz) && quietEff draw (opClass T all o) o st.heap e) = true then some (st.apply o.dst e) else none : Option St).bind fun st' => runOps T C draw hd all rest (j + 1) st' k := by
    intro st
    rw [DT.run_bind]
    cases (stepOp T C st.env (hideH (hd.getD j []) (look st.heap)) o).run some with
    | none => rfl
    | some e =>
      simp only [Option.bind_some, Option.map_some, forceEff_eq]
      cases frzOk (e.new ++ e.frz) && quietEff draw (opClass T all o) o st.heap e <;> simp
  unfold step1 act1
  rw [runOps]
  cases hg : o.guard with
  | none => exact go st
  | some gw =>
    obtain ⟨g, want⟩ := gw
    simp only
    cases hd' : dstOf all g with
    | none => rfl
    | some t =>
      simp only
      by_cases hx : ∃ b, st.env.getD t .undef = .p (.bool b)
      · obtain ⟨b, hb⟩ := hx
        have hs := set_self hb (by simp)
        rw [hb]
        cases b
        · simp only [cond_false]
          rw [hs]
          cases want
          · simp only [cond_false, if_true]; exact go st
          · simp only [cond_true, forceSt_eq, Bool.false_eq_true, if_false, Option.bind_some]
        · simp only [cond_true]
          rw [hs]
          cases want
          · simp only [cond_false, forceSt_eq, Bool.true_eq_false, if_false, Option.bind_some]
          · simp only [cond_true, if_true]; exact go st
      · by_cases hh : st.env.getD t .undef = .tup []
        · rw [hh]
          simp only [forceSt_eq, Option.bind_some]
        · split
          · rename_i b hb; exact absurd ⟨b, hb⟩ hx
          · rename_i hb; exact absurd hb hh
          · split
            · rename_i h1
              split at h1
              · rename_i b hb; exact absurd ⟨b, hb⟩ hx
              · rename_i hb; exact absurd hb hh
              · rfl
            · rename_i h1
              split at h1
              · rename_i b hb; exact absurd ⟨b, hb⟩ hx
              · rename_i hb; exact absurd hb hh
              · cases h1
            · rename_i h1
              split at h1
              · rename_i b hb; exact absurd ⟨b, hb⟩ hx
              · rename_i hb; exact absurd hb hh
              · cases h1
theorem runOps_nil {α : Type} {draw : Bool} {hd : List (List Nat)} {all : List Oper} {j : Nat} {st : St} {k : St → Option α} : runOps T C draw hd all [] j st k = k st := rfl
end

/-- The frame stands so. -/
def Inv (w0 : World) (Pr M0 : Nat → Prop) (β0 : Nat → Option (Nat × Nat)) (hp0 : Heap) (st : St) (a : Act) (w : World) : Prop :=
  ∃ M β, Rel w0 Pr M0 M β st a w ∧ (∀ s, argSite ≤ s → β s = β0 s) ∧ ArgsLike hp0 st.heap ∧ w0.drawn ≤ w.drawn

section
variable {P : Program} {T : Tab} {w0 : World} {Pr M0 : Nat → Prop} {β0 : Nat → Option (Nat × Nat)} {hp0 : Heap} {st st' : St} {a : Act} {w : World} {o : Oper}

theorem hide_sub {U : List Nat} {h : Nat → Option Blk} {s : Nat} {b : Blk} (hh : hideH U h s = some b) : h s = some b := by
  unfold hideH at hh
  split at hh
  · exact hh
  · simp only at hh
    cases hm : memN s U with
    | true => rw [hm] at hh; cases hh
    | false => rw [hm] at hh; exact hh

theorem yielded_of {all : List Oper} {ops : Array Oper} (he : ops.toList = all) {g t : Nat} (hd : dstOf all g = some t) (i : Inv w0 Pr M0 β0 hp0 st a w) {b : Bool} (hb : st.env.getD t .undef = .p (.bool b)) : yielded ops a.tmps g = some b := by
  obtain ⟨M, β, r, _, _⟩ := i
  subst he
  have h1 := r.slot t
  rw [hb] at h1
  have h2 := h1.p_bool
  unfold yielded
  unfold dstOf at hd
  rw [Array.getElem?_toList] at hd
  rw [hd]
  have hlt : t < a.tmps.size := by
    have : t < st.env.length := by
      by_cases h : t < st.env.length
      · exact h
      · rw [List.getD_eq_getElem?_getD, List.getElem?_eq_none (by omega)] at hb; cases hb
    have := r.tsize; omega
  have : a.tmps[t]? = some (.bool b) := by
    rw [Array.getD_eq_getD_getElem?, Array.getElem?_eq_getElem hlt] at h2
    rw [Array.getElem?_eq_getElem hlt]; simpa using h2
  simp [this]

theorem yielded_hole {all : List Oper} {ops : Array Oper} (he : ops.toList = all) {g t : Nat} (hd : dstOf all g = some t) (i : Inv w0 Pr M0 β0 hp0 st a w) (hb : st.env.getD t .undef = .tup []) : yielded ops a.tmps g = none := by
  obtain ⟨M, β, r, _, _⟩ := i
  subst he
  have h1 := r.slot t
  rw [hb] at h1
  unfold yielded
  unfold dstOf at hd
  rw [Array.getElem?_toList] at hd
  rw [hd]
  simp only [Option.bind_some]
  cases hx : a.tmps[t]? with
  | none => rfl
  | some c =>
    rw [Array.getD_eq_getD_getElem?, hx] at h1
    simp only [Option.getD_some] at h1
    cases h1 with
    | tup _ vs hn _ => rfl

/-- A step of the machine is a step of the region. -/
theorem sim1 (ok : TabOk P T) {C : CallF} (hC : CallOk P T C) {draw : Bool} {hd : List Nat} {all : List Oper} {ops : Array Oper} (he : ops.toList = all) (i : Inv w0 Pr M0 β0 hp0 st a w)
    (h : step1 T C draw hd all o st = some st') {K : Act → World → Prop} (hK : ∀ a' w', Inv w0 Pr M0 β0 hp0 st' a' w' → K a' w') {Q : Exit → Act → World → Prop} :
    if Region.wanted o (yielded ops a.tmps) then o.wp P a w K Q else K (a.put o.dst undef) w := by
  have key : ∀ e, ((stepOp T C st.env (hideH hd (look st.heap)) o).run some) = some e → frzOk (e.new ++ e.frz) = true → st' = st.apply o.dst e → o.wp P a w K Q := by
    intro e h1 h2 h3
    obtain ⟨M, β, r, i1, i2, i3⟩ := i
    have hs := (sim_op (o := o) ok hC r (h' := hideH hd (look st.heap)) fun s b => hide_sub).sim Eff some e h1 Q
    refine Oper.wp_mono (fun a' w' h4 => ?_) hs
    obtain ⟨e', M', β', h5, hdr, h6⟩ := h4
    cases h5
    obtain ⟨g1, g2, g3⟩ := h6 h2
    exact hK a' w' ⟨M', β', by rw [h3]; exact g1, fun s hs => (g2 s hs).trans (i1 s hs), by rw [h3]; exact i2.trans g3, Nat.le_trans i3 hdr⟩
  have skip : st' = { st with env := setEnv st.env o.dst (.tup []) } → K (a.put o.dst undef) w := by
    intro h3
    obtain ⟨M, β, r, i1, i2, i3⟩ := i
    exact hK _ _ ⟨M, β, by rw [h3]; exact r.setEnv o.dst (.tup [] #[] rfl fun i c h => by simp at h), i1, by rw [h3]; exact i2, i3⟩
  have go : ∀ x : Option Eff, x = ((stepOp T C st.env (hideH hd (look st.heap)) o).run some) → (match x.map some with
        | none => none
        | some none => some { st with env := setEnv st.env o.dst (.tup []) }
        | some (some e) => if (frzOk (e.new ++ e.frz) && quietEff draw (opClass T all o) o st.heap e) = true then some (st.apply o.dst e) else none : Option St) = some st' → o.wp P a w K Q := by
    intro x hx h
    cases x with
    | none => simp at h
    | some e =>
      simp only [Option.map_some] at h
      split at h
      · rename_i hc
        simp only [Bool.and_eq_true] at hc
        exact key e hx.symm hc.1 (by simpa using h.symm)
      · cases h
  unfold step1 act1 at h
  cases hg : o.guard with
  | none =>
    rw [hg] at h
    simp only [Region.wanted, hg, if_true]
    exact go _ rfl h
  | some gw =>
    obtain ⟨g, want⟩ := gw
    rw [hg] at h
    simp only at h
    cases hd' : dstOf all g with
    | none => rw [hd'] at h; simp at h
    | some t =>
      rw [hd'] at h
      simp only at h
      cases hv : st.env.getD t .undef with
      | p v =>
        cases v with
        | bool b =>
          rw [hv] at h
          simp only at h
          have hy := yielded_of he hd' i hv
          simp only [Region.wanted, hg, hy]
          by_cases hb : b = want
          · subst hb
            rw [if_pos rfl] at h
            simp only [beq_self_eq_true, if_true]
            exact go _ rfl h
          · rw [if_neg hb] at h
            simp only at h
            have : (some b == some want) = false := by simpa using hb
            rw [this]
            simp only [Bool.false_eq_true, if_false]
            exact skip (by simpa using h.symm)
        | _ => rw [hv] at h; simp at h
      | tup cs =>
        cases cs with
        | cons x r => rw [hv] at h; simp at h
        | nil =>
          rw [hv] at h
          simp only at h
          have hy := yielded_hole he hd' i hv
          simp only [Region.wanted, hg, hy]
          have : ((none : Option Bool) == some want) = false := rfl
          rw [this]
          simp only [Bool.false_eq_true, if_false]
          exact skip (by simpa using h.symm)
      | _ => rw [hv] at h; simp at h

/-- A region in the text's order. -/
theorem sim_text (ok : TabOk P T) {C : CallF} (hC : CallOk P T C) {α : Type} {draw : Bool} {hd : List (List Nat)} {ops : Array Oper} {Q : Exit → Act → World → Prop} {k : St → Option α} {x : α} (hQ : ∀ st' a' w', k st' = some x → Inv w0 Pr M0 β0 hp0 st' a' w' → Q .normal a' w') :
    ∀ (l : List Oper) (j : Nat) (st : St) (a : Act) (w : World), runOps T C draw hd ops.toList l j st k = some x → Inv w0 Pr M0 β0 hp0 st a w → wpList P ops Q l a w
  | [], j, st, a, w, h, i => hQ st a w h i
  | o :: rest, j, st, a, w, h, i => by
    rw [runOps_cons] at h
    cases h1 : step1 T C draw (hd.getD j []) ops.toList o st with
    | none => rw [h1] at h; cases h
    | some st1 =>
      rw [h1] at h
      have := sim1 ok hC rfl i h1 (K := wpList P ops Q rest) (fun a' w' i' => sim_text ok hC hQ rest (j + 1) st1 a' w' h i') (Q := Q)
      unfold wpList
      split
      · rename_i hw; rw [if_pos hw] at this; exact .inl this
      · rename_i hw; rw [if_neg hw] at this; exact this
end
end Go.Skm
/-
  Two steps of a region that do not meet may be taken in either order: what a step looks at; no condition beside the hypotheses of each.
-/
namespace Go.Skm
section
variable {T : Tab} {C : CallF}

theorem evalOs_congr {env env' : List AV} : ∀ {l : List Operand}, (∀ x ∈ l, evalO env x = evalO env' x) → evalOs env l = evalOs env' l
  | [], _ => rfl
  | x :: r, h => by
    have := evalOs_congr (l := r) fun y hy => h y (List.mem_cons_of_mem _ hy)
    simp [evalOs, h x (by simp), this]
theorem partsEval_congr {env env' : List AV} : ∀ {l : List (Nat × Operand)}, (∀ x ∈ l, evalO env x.2 = evalO env' x.2) → partsEval env l = partsEval env' l
  | [], _ => rfl
  | (i, x) :: r, h => by
    have := partsEval_congr (l := r) fun y hy => h y (List.mem_cons_of_mem _ hy)
    simp [partsEval, h (i, x) (by simp), this]
theorem optEval_congr {env env' : List AV} {x : Option Operand} (h : ∀ y, x = some y → evalO env y = evalO env' y) : optEval env x = optEval env' x := by
  cases x with
  | none => rfl
  | some y => simp [optEval, h y rfl]

/-- A step looks at its operands alone, and at the blocks. -/
theorem stepOp_congr {env env' : List AV} {h : Nat → Option Blk} {o : Oper} (he : ∀ x ∈ o.op.operands, evalO env x = evalO env' x) : stepOp T C env h o = stepOp T C env' h o := by
  obtain ⟨dst, op, type, pos, after, guard⟩ := o
  cases op with
  | call c =>
    obtain ⟨callee, args, ts⟩ := c
    simp only [Op.operands, Call.operands] at he
    have ha : ∀ x ∈ args.toList, evalO env x = evalO env' x := fun x hx => he x (by simp [Array.mem_toList_iff.1 hx])
    have hl := evalOs_congr ha
    simp only [stepOp]
    split
    · split
      · rename_i x t r h1 h2
        rw [ha x (by rw [h1]; simp)]
      · rfl
    · split
      · rename_i x t r h1 h2
        rw [ha x (by rw [h1]; simp)]
      · rfl
    · rw [hl]
    · rw [hl]
    · split
      · rename_i x y t t2 h1 h2
        rw [ha x (by rw [h1]; simp), ha y (by rw [h1]; simp)]
      · rfl
    · split
      · rename_i x y t ts h1 h2
        rw [ha x (by rw [h1]; simp), ha y (by rw [h1]; simp)]
      · rfl
    · split
      · rename_i x t ts h1 h2
        rw [ha x (by rw [h1]; simp)]
      · rfl
    · rename_i f
      rw [he f (by simp), hl]
    · rfl
  | build t ps =>
    simp only [Op.operands] at he
    simp only [stepOp]
    rw [partsEval_congr fun x hx => he x.2 (by simp; exact ⟨x.1, by simpa using hx⟩)]
  | buildSlice t n ps =>
    simp only [Op.operands] at he
    simp only [stepOp]
    rw [partsEval_congr fun x hx => he x.2 (by simp; exact ⟨x.1, by simpa using hx⟩)]
  | makeFunc fn first caps =>
    simp only [Op.operands] at he
    simp only [stepOp]
    rw [evalOs_congr fun x hx => he x (by simp [Array.mem_toList_iff.1 hx]), evalOs_congr (l := caps.toList) fun x hx => he x (by simp [Array.mem_toList_iff.1 hx])]
  | slice t x lo hi mx =>
    simp only [Op.operands] at he
    simp only [stepOp]
    rw [he x (by simp), optEval_congr (x := lo) fun y hy => he y (by simp [hy]), optEval_congr (x := hi) fun y hy => he y (by simp [hy]), optEval_congr (x := mx) fun y hy => he y (by simp [hy])]
  | assign x =>
    simp only [Op.operands] at he
    have hx := he x (by simp)
    simp only [stepOp]
    split
    · rfl
    · rw [hx]
  | _ =>
    simp only [Op.operands] at he
    simp only [stepOp]
    try simp at he
    try simp only [he]

theorem tmpsOf_mem {t : Nat} : ∀ {l : List Operand}, Operand.tmp t ∈ l → t ∈ tmpsOf l
  | [], h => by simp at h
  | x :: r, h => by
    rcases List.mem_cons.1 h with rfl | h
    · simp [tmpsOf]
    · have := tmpsOf_mem h
      cases x <;> simp [tmpsOf, this]

/-- What a step does, passing over told as an effect that does nothing. -/
def actE (T : Tab) (C : CallF) (all : List Oper) (o : Oper) (env : List AV) (h : Nat → Option Blk) : Option Eff := (act1 T C all o env h).map fun x => x.getD { val := .tup [] }

theorem act1_congr {all : List Oper} {o : Oper} {env env' : List AV} {h : Nat → Option Blk} (he : ∀ t ∈ looksOf all o, env.getD t .undef = env'.getD t .undef) : act1 T C all o env h = act1 T C all o env' h := by
  have hs : stepOp T C env h o = stepOp T C env' h o := stepOp_congr fun x hx => by
    cases x with
    | tmp t =>
      show env.getD t .undef = env'.getD t .undef
      exact he t (by unfold looksOf; exact List.mem_append_left _ (tmpsOf_mem (by simpa using hx)))
    | _ => rfl
  unfold act1
  rw [hs]
  cases hg : o.guard with
  | none => rfl
  | some gw =>
    obtain ⟨g, want⟩ := gw
    simp only
    cases hd : dstOf all g with
    | none => rfl
    | some t =>
      simp only
      rw [he t (by unfold looksOf; unfold dstOf at hd; rw [hg]; simp [hd])]
theorem actE_congr {all : List Oper} {o : Oper} {env env' : List AV} {h : Nat → Option Blk} (he : ∀ t ∈ looksOf all o, env.getD t .undef = env'.getD t .undef) : actE T C all o env h = actE T C all o env' h := by
  unfold actE; rw [act1_congr he]

/-- A pure step does not look at the blocks. -/
theorem stepOp_pure {all : List Oper} {o : Oper} {env : List AV} {h h' : Nat → Option Blk} (hc : opClass T all o = .pure) : stepOp T C env h o = stepOp T C env h' o := by
  obtain ⟨dst, op, type, pos, after, guard⟩ := o
  cases op with
  | call c =>
    obtain ⟨callee, args, ts⟩ := c
    cases callee with
    | builtin b => cases b <;> first | rfl | (simp [opClass] at hc)
    | value f =>
      cases f with
      | func f =>
        simp only [opClass] at hc
        cases hb : (cfgOf T f).byRef || (cfgOf T f).shares <;> rw [hb] at hc <;> simp at hc
      | _ => simp [opClass] at hc
    | invoke r n => simp [opClass] at hc
  | slice t x lo hi mx =>
    simp only [opClass] at hc
    simp only [stepOp]
    split
    · rename_i n e hu
      rw [hu] at hc; simp at hc
    · rfl
  | store t p v =>
    simp only [opClass] at hc
    split at hc <;> first | (rename_i t' _; cases hl : laidHere t' all <;> simp at hc; done) | simp_all
    all_goals (try (rename_i t' _ _; cases hl : laidHere t' all <;> simp_all))
  | assign x =>
    simp only [opClass] at hc
    rfl
  | _ => first | rfl | (simp [opClass] at hc)
theorem actE_pure {all : List Oper} {o : Oper} {env : List AV} {h h' : Nat → Option Blk} (hc : opClass T all o = .pure) : actE T C all o env h = actE T C all o env h' := by
  unfold actE act1; rw [stepOp_pure hc (h' := h')]

/-- A constant step. -/
theorem stepOp_const {all : List Oper} {o : Oper} (hc : opClass T all o = .const) : ∃ v, (v = .undef ∨ ∃ x, v = .p x) ∧ ∀ env h, stepOp T C env h o = .ret { val := v } := by
  have val : ∀ x, isConstO x = true → ∃ v, (v = .undef ∨ ∃ y, v = .p y) ∧ ∀ env, evalO env x = v := by
    intro x hx
    cases x with
    | tmp t => simp [isConstO] at hx
    | global g => simp [isConstO] at hx
    | func f => exact ⟨.p (.fn f []), .inr ⟨_, rfl⟩, fun _ => rfl⟩
    | const v =>
      cases hv : ofValue v with
      | none => exact ⟨.undef, .inl rfl, fun env => by simp [evalO, hv]⟩
      | some y => exact ⟨.p y, .inr ⟨_, rfl⟩, fun env => by simp [evalO, hv]⟩
  obtain ⟨dst, op, type, pos, after, guard⟩ := o
  cases op with
  | move x =>
    simp only [opClass] at hc
    cases hx : isConstO x with
    | false => rw [hx] at hc; simp at hc
    | true =>
      obtain ⟨v, h1, h2⟩ := val x hx
      exact ⟨v, h1, fun env h => by simp [stepOp, h2]⟩
  | assign x =>
    simp only [opClass] at hc
    split at hc
    · cases hc
    · rename_i y hy hne
      cases hne
      cases hx : isConstO x with
      | false => rw [hx] at hc; simp at hc
      | true =>
        obtain ⟨v, h1, h2⟩ := val x hx
        refine ⟨v, h1, fun env h => ?_⟩
        simp only [stepOp]
        split
        · exact (hy rfl).elim
        · rw [h2]
    all_goals (first | (rename_i h; cases h; done) | cases hc)
  | call c =>
    obtain ⟨callee, args, ts⟩ := c
    cases callee with
    | builtin b => cases b <;> simp [opClass] at hc
    | value f =>
      cases f with
      | func f =>
        simp only [opClass] at hc
        cases hb : (cfgOf T f).byRef || (cfgOf T f).shares <;> rw [hb] at hc <;> simp at hc
      | _ => simp [opClass] at hc
    | invoke r n => simp [opClass] at hc
  | slice t x lo hi mx =>
    simp only [opClass] at hc
    split at hc <;> cases hc
  | store t p v =>
    simp only [opClass] at hc
    split at hc <;> simp_all
    all_goals (rename_i t' _ _; cases hl : laidHere t' all <;> simp_all)
  | _ => simp [opClass] at hc
end
end Go.Skm
/-
  Two steps of a region that do not meet may be taken in either order: states that look alike, and the swap; no condition beside the hypotheses of each.
-/
namespace Go.Skm

/-- Two states that look alike. -/
def Same (s t : St) : Prop := s.env = t.env ∧ look s.heap = look t.heap
theorem Same.refl (s : St) : Same s s := ⟨rfl, rfl⟩
theorem Same.trans {s t u : St} (h1 : Same s t) (h2 : Same t u) : Same s u := ⟨h1.1.trans h2.1, h1.2.trans h2.2⟩
theorem Same.symm {s t : St} (h : Same s t) : Same t s := ⟨h.1.symm, h.2.symm⟩

mutual
theorem refers_nil : ∀ (v : AV), AV.refers [] v = false
  | .undef | .p _ | .lptr _ _ _ _ | .fresh _ _ _ => rfl
  | .slice _ _ _ _ | .bslice _ _ _ | .ptr _ _ _ => rfl
  | .fn _ cs | .agg cs | .tup cs => by simp only [AV.refers]; exact refersAny_nil cs
theorem refersAny_nil : ∀ (l : List AV), AV.refersAny [] l = false
  | [] => rfl
  | v :: r => by simp [AV.refersAny, refers_nil v, refersAny_nil r]
end
theorem killEnv_nil : ∀ (l : List AV), killEnv [] l = l
  | [] => rfl
  | v :: r => by simp [killEnv, AV.kill, refers_nil, killEnv_nil r]
def killH (ss : List Nat) (hp : Heap) : Heap := match ss with | [] => hp | ss => killHeap ss hp
def strikeH (ss : List Nat) (hp : Heap) : Heap := match ss with | [] => hp | ss => dropAll (killHeap ss hp) ss
theorem kill_eq (ss : List Nat) (st : St) : st.kill ss = ⟨killEnv ss st.env, killH ss st.heap⟩ := by
  cases ss with
  | nil => simp [St.kill, killH, killEnv_nil]
  | cons s r => rfl
theorem strike_eq (ss : List Nat) (st : St) : st.strike ss = ⟨killEnv ss st.env, strikeH ss st.heap⟩ := by
  cases ss with
  | nil => simp [St.strike, strikeH, killEnv_nil]
  | cons s r => rfl
theorem apply_eq (st : St) (d : Option Nat) (e : Eff) : st.apply d e =
    ⟨setEnv (killEnv e.cut (killEnv (present st.heap e.new ++ e.frz) st.env)) d e.val, putAll (killH e.cut (strikeH (present st.heap e.new ++ e.frz) st.heap)) e.chg⟩ := by
  simp only [St.apply, kill_eq, strike_eq]

theorem present_congr {h1 h2 : Heap} (h : look h1 = look h2) : ∀ (l : List Nat), present h1 l = present h2 l
  | [] => rfl
  | s :: r => by simp only [present, h, present_congr h r]
theorem killH_congr {h1 h2 : Heap} (h : look h1 = look h2) (ss : List Nat) : look (killH ss h1) = look (killH ss h2) := by
  cases ss with
  | nil => exact h
  | cons s r => funext x; simp only [killH, look_killHeap, h]
theorem strikeH_congr {h1 h2 : Heap} (h : look h1 = look h2) (ss : List Nat) : look (strikeH ss h1) = look (strikeH ss h2) := by
  cases ss with
  | nil => exact h
  | cons s r => funext x; simp only [strikeH, look_dropAll, look_killHeap, h]
theorem put_congr {h1 h2 : Heap} (h : look h1 = look h2) (s : Nat) (b : Blk) : look (put h1 s b) = look (put h2 s b) := by
  funext x; simp only [look_put, h]
theorem putAll_congr : ∀ {c : List (Nat × Blk)} {h1 h2 : Heap}, look h1 = look h2 → look (putAll h1 c) = look (putAll h2 c)
  | [], _, _, h => h
  | (s, b) :: r, _, _, h => putAll_congr (c := r) (put_congr h s b)
theorem apply_congr {s t : St} (h : Same s t) (d : Option Nat) (e : Eff) : Same (s.apply d e) (t.apply d e) := by
  rw [apply_eq, apply_eq, present_congr h.2, h.1]
  exact ⟨rfl, putAll_congr (killH_congr (strikeH_congr h.2 _) _)⟩

section
variable {T : Tab} {C : CallF}
theorem quiet_congr {draw : Bool} {cls : Cls} {o : Oper} {h1 h2 : Heap} (h : look h1 = look h2) (e : Eff) : quietEff draw cls o h1 e = quietEff draw cls o h2 e := by
  unfold quietEff; rw [present_congr h]

theorem step1_eq {draw : Bool} {hd : List Nat} {all : List Oper} {o : Oper} {st : St} :
    step1 T C draw hd all o st = (actE T C all o st.env (hideH hd (look st.heap))).bind fun e => if (frzOk (e.new ++ e.frz) && quietEff draw (opClass T all o) o st.heap e) = true then some (st.apply o.dst e) else none := by
  unfold step1 actE
  cases act1 T C all o st.env (hideH hd (look st.heap)) with
  | none => rfl
  | some x =>
    cases x with
    | none =>
      simp only [Option.map_some, Option.getD_none, Option.bind_some]
      have : quietEff draw (opClass T all o) o st.heap { val := .tup [] } = true := by
        cases draw with
        | false => rfl
        | true => cases opClass T all o <;> rfl
      rw [if_pos (by simp [frzOk, this]), apply_eq]
      simp [present, killEnv_nil, killH, strikeH, putAll]
    | some e => rfl
theorem step1_some {draw : Bool} {hd : List Nat} {all : List Oper} {o : Oper} {st st' : St} : step1 T C draw hd all o st = some st' ↔
    ∃ e, actE T C all o st.env (hideH hd (look st.heap)) = some e ∧ frzOk (e.new ++ e.frz) = true ∧ quietEff draw (opClass T all o) o st.heap e = true ∧ st' = st.apply o.dst e := by
  rw [step1_eq]
  cases h : actE T C all o st.env (hideH hd (look st.heap)) with
  | none => simp
  | some e =>
    simp only [Option.bind_some, Option.some.injEq, exists_eq_left']
    constructor
    · intro h
      split at h
      · rename_i hc
        simp only [Bool.and_eq_true] at hc
        exact ⟨hc.1, hc.2, by simpa using h.symm⟩
      · cases h
    · rintro ⟨h1, h2, rfl⟩
      rw [if_pos (by simp [h1, h2])]
theorem step1_congr {draw : Bool} {hd : List Nat} {all : List Oper} {o : Oper} {s t s' : St} (h : Same s t) (h1 : step1 T C draw hd all o s = some s') : ∃ t', step1 T C draw hd all o t = some t' ∧ Same s' t' := by
  obtain ⟨e, g1, g2, g3, rfl⟩ := step1_some.1 h1
  refine ⟨t.apply o.dst e, step1_some.2 ⟨e, ?_, g2, ?_, rfl⟩, apply_congr h _ _⟩
  · rw [← h.1, ← h.2]; exact g1
  · rw [← quiet_congr h.2]; exact g3

/- PUTTING. -/
def lastOf : List (Nat × Blk) → Nat → Option Blk
  | [], _ => none
  | (s, b) :: r, x => match lastOf r x with
    | some c => some c
    | none => if x = s then some b else none
theorem look_putAll_last : ∀ (c : List (Nat × Blk)) (hp : Heap) (x : Nat), look (putAll hp c) x = match lastOf c x with | some b => some b | none => look hp x
  | [], hp, x => rfl
  | (s, b) :: r, hp, x => by
    show look (putAll (put hp s b) r) x = _
    rw [look_putAll_last r]
    simp only [lastOf]
    cases lastOf r x with
    | some c => rfl
    | none =>
      simp only [look_put]
      by_cases h : x = s <;> simp [h]
theorem lastOf_none {x : Nat} : ∀ {c : List (Nat × Blk)}, x ∉ keysOf c → lastOf c x = none
  | [], _ => rfl
  | (s, b) :: r, h => by
    simp only [keysOf, List.mem_cons, not_or] at h
    simp [lastOf, lastOf_none h.2, h.1]
theorem putAll_swap {c1 c2 : List (Nat × Blk)} (h : ∀ x, x ∈ keysOf c1 → x ∉ keysOf c2) (hp : Heap) : look (putAll (putAll hp c1) c2) = look (putAll (putAll hp c2) c1) := by
  funext x
  simp only [look_putAll_last]
  by_cases h1 : x ∈ keysOf c1
  · rw [lastOf_none (h x h1)]
  · rw [lastOf_none h1]
theorem keysIn_mem {ss : List Nat} : ∀ {c : List (Nat × Blk)}, keysIn ss c = true → ∀ x ∈ keysOf c, x ∈ ss
  | [], _, x, h => by simp [keysOf] at h
  | (k, b) :: r, h, x, hx => by
    simp only [keysIn, Bool.and_eq_true] at h
    simp only [keysOf, List.mem_cons] at hx
    rcases hx with rfl | hx
    · exact memN_iff.1 h.1
    · exact keysIn_mem h.2 x hx
theorem subN_mem {ss : List Nat} : ∀ {l : List Nat}, subN ss l = true → ∀ x ∈ l, x ∈ ss
  | [], _, x, h => by simp at h
  | y :: r, h, x, hx => by
    simp only [subN, Bool.and_eq_true] at h
    rcases List.mem_cons.1 hx with rfl | hx
    · exact memN_iff.1 h.1
    · exact subN_mem h.2 x hx
theorem hide_put {U : List Nat} {c : List (Nat × Blk)} (h : ∀ x ∈ keysOf c, x ∈ U) (hp : Heap) : hideH U (look (putAll hp c)) = hideH U (look hp) := by
  cases U with
  | nil =>
    cases c with
    | nil => rfl
    | cons p r => obtain ⟨k, b⟩ := p; exact absurd (h k (by simp [keysOf])) (by simp)
  | cons s r =>
    funext x
    simp only [hideH]
    cases hm : memN x (s :: r) with
    | true => rfl
    | false =>
      simp only [cond_false]
      rw [look_putAll_last, lastOf_none fun hx => memN_false.1 hm (h x hx)]
theorem present_empty {hp : Heap} : ∀ {l : List Nat}, present hp l = [] ↔ ∀ s ∈ l, look hp s = none
  | [] => by simp [present]
  | s :: r => by
    simp only [present, List.mem_cons, forall_eq_or_imp]
    cases h : look hp s with
    | some b => simp
    | none => simp [present_empty]
theorem setEnv_comm {env : List AV} {d1 d2 : Option Nat} {v1 v2 : AV} (h : ∀ d, d1 = some d → d2 ≠ some d) : setEnv (setEnv env d1 v1) d2 v2 = setEnv (setEnv env d2 v2) d1 v1 := by
  cases d1 with
  | none => rfl
  | some a =>
    cases d2 with
    | none => rfl
    | some b => exact List.set_comm _ _ fun e => h a rfl (by rw [e])
theorem setEnv_getD {env : List AV} {d : Option Nat} {v : AV} {t : Nat} (h : d ≠ some t) : (setEnv env d v).getD t .undef = env.getD t .undef := by
  cases d with
  | none => rfl
  | some a =>
    have : a ≠ t := fun e => h (by rw [e])
    simp only [setEnv, List.getD_eq_getElem?_getD, List.getElem?_set_ne this]
theorem killEnv_set {ss : List Nat} {env : List AV} {d : Option Nat} {v : AV} (h : v = .undef ∨ v = .tup [] ∨ ∃ x, v = .p x) : killEnv ss (setEnv env d v) = setEnv (killEnv ss env) d v := by
  have hk : AV.kill ss v = v := by
    rcases h with rfl | rfl | ⟨x, rfl⟩ <;> rfl
  cases d with
  | none => rfl
  | some a =>
    apply List.ext_getElem?
    intro i
    simp only [setEnv, killEnv_get]
    by_cases hi : a = i
    · subst hi
      by_cases hl : a < env.length
      · simp [hl, killEnv_length, hk]
      · rw [List.getElem?_eq_none (by simp; omega), List.getElem?_eq_none (by simp [killEnv_length]; omega)]; rfl
    · rw [List.getElem?_set_ne hi, List.getElem?_set_ne hi, killEnv_get]
theorem killEnv_p {ss : List Nat} {env : List AV} {t : Nat} {v : PV} : (killEnv ss env).getD t .undef = .p v ↔ env.getD t .undef = .p v := by
  simp only [List.getD_eq_getElem?_getD, killEnv_get]
  cases env[t]? with
  | none => simp
  | some u =>
    simp only [Option.map_some, Option.getD_some]
    unfold AV.kill
    cases h : AV.refers ss u with
    | false => simp
    | true =>
      simp only [cond_true]
      constructor
      · intro h'; cases h'
      · rintro rfl; simp [AV.refers] at h
theorem killEnv_hole {ss : List Nat} {env : List AV} {t : Nat} : (killEnv ss env).getD t .undef = .tup [] ↔ env.getD t .undef = .tup [] := by
  simp only [List.getD_eq_getElem?_getD, killEnv_get]
  cases env[t]? with
  | none => simp
  | some u =>
    simp only [Option.map_some, Option.getD_some]
    unfold AV.kill
    cases h : AV.refers ss u with
    | false => simp
    | true =>
      simp only [cond_true]
      constructor
      · intro h'; cases h'
      · rintro rfl; simp [AV.refers, AV.refersAny] at h
/-- What a guard may hold. -/
def IsG (v : AV) : Prop := (∃ b, v = .p (.bool b)) ∨ v = .tup []
theorem killEnv_g {ss : List Nat} {env : List AV} {t : Nat} {v : AV} (hv : IsG v) : (killEnv ss env).getD t .undef = v ↔ env.getD t .undef = v := by
  rcases hv with ⟨b, rfl⟩ | rfl
  · exact killEnv_p
  · exact killEnv_hole
end
end Go.Skm
/-
  Two steps of a region that do not meet may be taken in either order: the swap, and a region that draws its order; condition: TabOk, CallOk.
-/
namespace Go.Skm
section
variable {T : Tab} {C : CallF}

theorem noneIn_mem {ss : List Nat} : ∀ {l : List Nat}, noneIn ss l = true → ∀ x ∈ l, x ∉ ss
  | [], _, x, h => by simp at h
  | y :: r, h, x, hx => by
    simp only [noneIn, Bool.and_eq_true, Bool.not_eq_true'] at h
    rcases List.mem_cons.1 hx with rfl | hx
    · exact memN_false.1 h.1
    · exact noneIn_mem h.2 x hx
theorem apartO_spec {all : List Oper} {x y : Oper} (h : apartO all x y = true) :
    (∀ d, x.dst = some d → d ∉ looksOf all y) ∧ (∀ d, x.dst = some d → y.dst ≠ some d) ∧ (∀ d, y.dst = some d → d ∉ looksOf all x) := by
  unfold apartO at h
  simp only [Bool.and_eq_true] at h
  refine ⟨fun d hd => ?_, fun d hd => ?_, fun d hd => ?_⟩
  · have := h.1; rw [hd] at this; simp only [Bool.and_eq_true, Bool.not_eq_true'] at this; exact memN_false.1 this.1
  · have := h.1; rw [hd] at this; simp only [Bool.and_eq_true, Bool.not_eq_true'] at this; simpa using this.2
  · have := h.2; rw [hd] at this; simp only [Bool.not_eq_true'] at this; exact memN_false.1 this

/-- An effect that only writes its slot and lays blocks. -/
theorem apply_simple {st : St} {d : Option Nat} {e : Eff} (h1 : e.cut = []) (h2 : e.frz = []) (h3 : present st.heap e.new = []) : st.apply d e = ⟨setEnv st.env d e.val, putAll st.heap e.chg⟩ := by
  rw [apply_eq, h1, h2, h3]
  simp [killEnv_nil, killH, strikeH]

/-- A constant step looks at its guard alone. -/
theorem actE_const {all : List Oper} {o : Oper} (hc : opClass T all o = .const) {env : List AV} {h : Nat → Option Blk} {e : Eff} (he : actE T C all o env h = some e) :
    (∃ v, e = { val := v } ∧ (v = .undef ∨ v = .tup [] ∨ ∃ x, v = .p x)) ∧
    ∀ env' h', (∀ g want t v, o.guard = some (g, want) → dstOf all g = some t → IsG v → env.getD t .undef = v → env'.getD t .undef = v) → actE T C all o env' h' = some e := by
  obtain ⟨v, hv, hs⟩ := stepOp_const (C := C) hc
  have hv' : v = .undef ∨ v = .tup [] ∨ ∃ x, v = .p x := hv.imp id .inr
  unfold actE act1 at he ⊢
  simp only [hs] at he ⊢
  cases hg : o.guard with
  | none =>
    rw [hg] at he
    simp only [DT.run, Option.map_some, Option.getD_some, Option.some.injEq] at he
    subst he
    exact ⟨⟨v, rfl, hv'⟩, fun env' h' _ => rfl⟩
  | some gw =>
    obtain ⟨g, want⟩ := gw
    rw [hg] at he
    simp only at he ⊢
    cases hd : dstOf all g with
    | none => rw [hd] at he; simp at he
    | some t =>
      rw [hd] at he
      simp only at he ⊢
      by_cases hx : ∃ b, env.getD t .undef = .p (.bool b)
      · obtain ⟨b, hb⟩ := hx
        rw [hb] at he
        simp only at he
        refine ⟨?_, fun env' h' hk => ?_⟩
        · split at he
          · simp [DT.run] at he; subst he; exact ⟨v, rfl, hv'⟩
          · simp at he; subst he; exact ⟨.tup [], rfl, .inr (.inl rfl)⟩
        · rw [hk g want t _ rfl hd (.inl ⟨b, rfl⟩) hb]
          exact he
      · by_cases hh : env.getD t .undef = .tup []
        · rw [hh] at he
          simp only [Option.map_some, Option.getD_none, Option.some.injEq] at he
          subst he
          refine ⟨⟨.tup [], rfl, .inr (.inl rfl)⟩, fun env' h' hk => ?_⟩
          rw [hk g want t _ rfl hd (.inr rfl) hh]
          rfl
        · split at he
          · rename_i b hb; exact absurd ⟨b, hb⟩ hx
          all_goals (first | exact absurd ⟨_, ‹_›⟩ hx | exact absurd ‹_› hh | simp at he)

theorem guard_looks {all : List Oper} {o : Oper} {g t : Nat} {want : Bool} (hg : o.guard = some (g, want)) (hd : dstOf all g = some t) : t ∈ looksOf all o := by
  unfold looksOf
  unfold dstOf at hd
  rw [hg]
  simp [hd]

def Facts (o : Oper) (e : Eff) : Cls → Prop
  | .read => (∀ x ∈ keysOf e.chg, x ∈ opSites o) ∧ (∀ x ∈ e.new, x ∈ opSites o)
  | .own t => (∀ x ∈ keysOf e.chg, x ∈ [t]) ∧ e.new = []
  | .store => e.new = []
  | _ => e.chg = [] ∧ e.new = []
def notHeavy : Cls → Bool
  | .heavy => false
  | _ => true
/-- What a step that is neither heavy nor constant may do. -/
theorem quiet_facts {cls : Cls} {o : Oper} {h : Heap} {e : Eff} (hq : quietEff true cls o h e = true) (hc : notHeavy cls = true) :
    e.cut = [] ∧ e.frz = [] ∧ present h e.new = [] ∧
    Facts o e cls := by
  cases cls with
  | heavy => cases hc
  | read =>
    simp only [quietEff, Bool.and_eq_true, List.isEmpty_iff] at hq
    exact ⟨hq.1, hq.2.1, hq.2.2.2.2, fun x hx => keysIn_mem hq.2.2.1 x hx, fun x hx => subN_mem hq.2.2.2.1 x hx⟩
  | own t =>
    simp only [quietEff, Bool.and_eq_true, List.isEmpty_iff] at hq
    exact ⟨hq.1, hq.2.1, by rw [hq.2.2.2]; rfl, fun x hx => keysIn_mem hq.2.2.1 x hx, hq.2.2.2⟩
  | store =>
    simp only [quietEff, Bool.and_eq_true, List.isEmpty_iff] at hq
    exact ⟨hq.1, hq.2.1, by rw [hq.2.2]; rfl, hq.2.2⟩
  | pure =>
    simp only [quietEff, Bool.and_eq_true, List.isEmpty_iff] at hq
    exact ⟨hq.1, hq.2.1, by rw [hq.2.2.2]; rfl, hq.2.2.1, hq.2.2.2⟩
  | const =>
    simp only [quietEff, Bool.and_eq_true, List.isEmpty_iff] at hq
    exact ⟨hq.1, hq.2.1, by rw [hq.2.2.2]; rfl, hq.2.2.1, hq.2.2.2⟩
theorem quiet_move {cls : Cls} {o : Oper} {h h' : Heap} {e : Eff} (hq : quietEff true cls o h e = true) (hp : present h' e.new = []) : quietEff true cls o h' e = true := by
  cases cls with
  | read =>
    simp only [quietEff, Bool.and_eq_true, List.isEmpty_iff] at hq ⊢
    exact ⟨hq.1, hq.2.1, hq.2.2.1, hq.2.2.2.1, hp⟩
  | _ => exact hq
theorem quiet_const {o : Oper} {h : Heap} {v : AV} : quietEff true .const o h { val := v } = true := rfl

/-- THE SWAP. -/
theorem swap {all : List Oper} {hx ho : List Nat} {x o : Oper} {st st1 st2 : St} (h1 : step1 T C true hx all x st = some st1) (h2 : step1 T C true ho all o st1 = some st2) (hcl : clashFree T all hx ho x o = true)
    (s1 : ∀ s ∈ opSites x, s ∈ ho) (s2 : ∀ s ∈ opSites o, s ∈ hx) : ∃ st1' st2', step1 T C true ho all o st = some st1' ∧ step1 T C true hx all x st1' = some st2' ∧ Same st2' st2 := by
  obtain ⟨ex, x1, x2, x3, rfl⟩ := step1_some.1 h1
  obtain ⟨eo, o1, o2, o3, rfl⟩ := step1_some.1 h2
  unfold clashFree at hcl
  simp only [Bool.and_eq_true] at hcl
  obtain ⟨hap, hno, hcls⟩ := hcl
  obtain ⟨a1, a2, a3⟩ := apartO_spec hap
  have hno := noneIn_mem hno
  by_cases hcx : opClass T all x = .const
  · -- the first one is constant
    obtain ⟨⟨v, rfl, hv⟩, hk⟩ := actE_const hcx x1
    have e1 : st.apply x.dst { val := v } = ⟨setEnv st.env x.dst v, st.heap⟩ := apply_simple rfl rfl rfl
    rw [e1] at o1 o3 ⊢
    have o1' : actE T C all o st.env (hideH ho (look st.heap)) = some eo := by
      rw [← o1]; exact actE_congr fun t ht => (setEnv_getD fun e => a1 t e ht).symm
    refine ⟨st.apply o.dst eo, _, step1_some.2 ⟨eo, o1', o2, o3, rfl⟩, step1_some.2 ⟨{ val := v }, hk _ _ fun g want t u hg hd hu hb => ?_, x2, by rw [hcx]; rfl, rfl⟩, ?_⟩
    · rw [apply_eq]
      simp only
      rw [setEnv_getD fun e => a3 t e (guard_looks hg hd), killEnv_g hu, killEnv_g hu]
      exact hb
    · rw [apply_simple rfl rfl rfl, apply_eq, apply_eq]
      refine ⟨?_, rfl⟩
      simp only
      rw [killEnv_set hv, killEnv_set hv]
      exact setEnv_comm fun d hd e => a2 d e hd
  · by_cases hco : opClass T all o = .const
    · -- the second one is constant
      obtain ⟨⟨v, rfl, hv⟩, hk⟩ := actE_const hco o1
      have o1' : actE T C all o st.env (hideH ho (look st.heap)) = some { val := v } := by
        refine hk _ _ fun g want t u hg hd hu hb => ?_
        rw [apply_eq] at hb
        simp only at hb
        rwa [setEnv_getD fun e => a1 t e (guard_looks hg hd), killEnv_g hu, killEnv_g hu] at hb
      have e1 : st.apply o.dst { val := v } = ⟨setEnv st.env o.dst v, st.heap⟩ := apply_simple rfl rfl rfl
      refine ⟨st.apply o.dst { val := v }, st.apply o.dst { val := v } |>.apply x.dst ex, step1_some.2 ⟨{ val := v }, o1', o2, by rw [hco]; rfl, rfl⟩, step1_some.2 ⟨ex, ?_, x2, by rw [e1]; exact x3, rfl⟩, ?_⟩
      · rw [e1, ← x1]; exact actE_congr fun t ht => setEnv_getD fun e => a3 t e ht
      · rw [e1, apply_simple (st := st.apply x.dst ex) rfl rfl rfl, apply_eq, apply_eq]
        refine ⟨?_, rfl⟩
        simp only
        rw [killEnv_set hv, killEnv_set hv]
        exact (setEnv_comm fun d hd e => a2 d hd e).symm
    · -- neither: both only write slots and lay blocks
      have cx : notHeavy (opClass T all x) = true := by
        cases hx' : opClass T all x <;> rw [hx'] at hcls <;> first | rfl | skip
        cases ho' : opClass T all o <;> rw [ho'] at hcls <;> simp at hcls
        exact absurd ho' hco
      have co : notHeavy (opClass T all o) = true := by
        cases ho' : opClass T all o <;> rw [ho'] at hcls <;> first | rfl | skip
        cases hx' : opClass T all x <;> rw [hx'] at hcls <;> simp at hcls
        exact absurd hx' hcx
      obtain ⟨p1, p2, p3, p4⟩ := quiet_facts x3 cx
      obtain ⟨q1, q2, q3, q4⟩ := quiet_facts o3 co
      have e1 := apply_simple (d := x.dst) p1 p2 p3
      rw [e1] at o1 o3 q3 ⊢
      rw [apply_simple q1 q2 q3]
      simp only at o1 o3 q3 ⊢
      -- what the pairs of classes give
      have facts : (opClass T all o = .pure ∨ ∀ s ∈ keysOf ex.chg, s ∈ ho) ∧ (opClass T all x = .pure ∨ ∀ s ∈ keysOf eo.chg, s ∈ hx) ∧ (∀ s ∈ keysOf ex.chg, s ∉ keysOf eo.chg) ∧ (∀ s ∈ ex.new, s ∉ keysOf eo.chg) := by
        cases hx' : opClass T all x with
        | const => exact absurd hx' hcx
        | heavy => rw [hx'] at cx; cases cx
        | pure =>
          rw [hx'] at p4
          simp only [Facts] at p4
          refine ⟨.inr ?_, .inl rfl, ?_, ?_⟩ <;> simp [p4.1, p4.2, keysOf]
        | read =>
          rw [hx'] at p4 hcls
          simp only [Facts] at p4
          cases ho' : opClass T all o with
          | const => exact absurd ho' hco
          | heavy => rw [ho'] at co; cases co
          | pure =>
            rw [ho'] at q4
            simp only [Facts] at q4
            refine ⟨.inl rfl, .inr ?_, ?_, ?_⟩ <;> simp [q4.1, keysOf]
          | read =>
            rw [ho'] at q4
            simp only [Facts] at q4
            exact ⟨.inr fun s hs => s1 s (p4.1 s hs), .inr fun s hs => s2 s (q4.1 s hs), fun s h1 h2 => hno s (q4.1 s h2) (p4.1 s h1), fun s h1 h2 => hno s (q4.1 s h2) (p4.2 s h1)⟩
          | own t =>
            rw [ho'] at q4 hcls
            simp only [Facts, Bool.and_eq_true, Bool.not_eq_true'] at q4 hcls
            have ht : ∀ s ∈ keysOf eo.chg, s ∈ hx ∧ s ∉ opSites x := fun s hs => by
              have := q4.1 s hs
              simp at this; subst this
              exact ⟨memN_iff.1 hcls.1, memN_false.1 hcls.2⟩
            exact ⟨.inr fun s hs => s1 s (p4.1 s hs), .inr fun s hs => (ht s hs).1, fun s h1 h2 => (ht s h2).2 (p4.1 s h1), fun s h1 h2 => (ht s h2).2 (p4.2 s h1)⟩
          | store => rw [ho'] at hcls; simp at hcls
        | own t =>
          rw [hx'] at p4 hcls
          simp only [Facts] at p4
          cases ho' : opClass T all o with
          | const => exact absurd ho' hco
          | heavy => rw [ho'] at co; cases co
          | pure =>
            rw [ho'] at q4
            simp only [Facts] at q4
            refine ⟨.inl rfl, .inr ?_, ?_, ?_⟩ <;> simp [q4.1, keysOf]
          | read =>
            rw [ho'] at q4 hcls
            simp only [Facts, Bool.and_eq_true, Bool.not_eq_true'] at q4 hcls
            have ht : ∀ s ∈ keysOf ex.chg, s ∈ ho ∧ s ∉ opSites o := fun s hs => by
              have := p4.1 s hs
              simp at this; subst this
              exact ⟨memN_iff.1 hcls.1, memN_false.1 hcls.2⟩
            exact ⟨.inr fun s hs => (ht s hs).1, .inr fun s hs => s2 s (q4.1 s hs), fun s h1 h2 => (ht s h1).2 (q4.1 s h2), fun s h1 => by rw [p4.2] at h1; simp at h1⟩
          | own t => rw [ho'] at hcls; simp at hcls
          | store => rw [ho'] at hcls; simp at hcls
        | store =>
          rw [hx'] at p4 hcls
          simp only [Facts] at p4
          cases ho' : opClass T all o with
          | const => exact absurd ho' hco
          | heavy => rw [ho'] at co; cases co
          | pure =>
            rw [ho'] at q4
            simp only [Facts] at q4
            refine ⟨.inl rfl, .inr ?_, ?_, ?_⟩ <;> simp [q4.1, keysOf]
          | read => rw [ho'] at hcls; simp at hcls
          | own t => rw [ho'] at hcls; simp at hcls
          | store => rw [ho'] at hcls; simp at hcls
      obtain ⟨f1, f2, f3, f4⟩ := facts
      have n1 : present st.heap eo.new = [] := by
        rw [present_empty] at q3 ⊢
        intro s hs
        have := q3 s hs
        rw [look_putAll_last] at this
        split at this
        · cases this
        · exact this
      have o1' : actE T C all o st.env (hideH ho (look st.heap)) = some eo := by
        rw [actE_congr fun t ht => setEnv_getD fun e => a1 t e ht] at o1
        rcases f1 with f1 | f1
        · rw [← o1]; exact actE_pure f1
        · rwa [hide_put f1] at o1
      have n2 : present (putAll st.heap eo.chg) ex.new = [] := by
        rw [present_empty] at p3 ⊢
        intro s hs
        rw [look_putAll_last, lastOf_none (f4 s hs)]
        exact p3 s hs
      refine ⟨⟨setEnv st.env o.dst eo.val, putAll st.heap eo.chg⟩, ⟨setEnv (setEnv st.env o.dst eo.val) x.dst ex.val, putAll (putAll st.heap eo.chg) ex.chg⟩, step1_some.2 ⟨eo, o1', o2, quiet_move o3 n1, (apply_simple q1 q2 n1).symm⟩, step1_some.2 ⟨ex, ?_, x2, quiet_move x3 n2, (apply_simple (st := ⟨setEnv st.env o.dst eo.val, putAll st.heap eo.chg⟩) p1 p2 n2).symm⟩, ?_⟩
      · simp only
        rw [actE_congr fun t ht => setEnv_getD fun e => a3 t e ht]
        rcases f2 with f2 | f2
        · rw [← x1]; exact actE_pure f2
        · rw [hide_put f2]; exact x1
      · exact ⟨(setEnv_comm fun d hd e => a2 d hd e).symm, (putAll_swap (fun s h1 => f3 s h1) st.heap).symm⟩
end
end Go.Skm
/-
  A region that draws its order may be run in the text's order, where its operations that are open to each other do not meet; condition: TabOk, CallOk.
-/
namespace Go.Skm
section
variable {T : Tab} {C : CallF} {hd : List (List Nat)} {all : List Oper}

def runsL (T : Tab) (C : CallF) (hd : List (List Nat)) (all : List Oper) : List (Nat × Oper) → St → St → Prop
  | [], st, fin => Same st fin
  | (j, o) :: r, st, fin => ∃ st1, step1 T C true (hd.getD j []) all o st = some st1 ∧ runsL T C hd all r st1 fin
def num : Nat → List Oper → List (Nat × Oper)
  | _, [] => []
  | k, o :: r => (k, o) :: num (k + 1) r

theorem runsL_congr : ∀ {l : List (Nat × Oper)} {s t fin : St}, Same s t → runsL T C hd all l s fin → runsL T C hd all l t fin
  | [], s, t, fin, h, h1 => h.symm.trans h1
  | (j, o) :: r, s, t, fin, h, h1 => by
    obtain ⟨s1, h2, h3⟩ := h1
    obtain ⟨t1, h4, h5⟩ := step1_congr h h2
    exact ⟨t1, h4, runsL_congr h5 h3⟩
theorem runsL_of {α : Type} {k : St → Option α} {x : α} : ∀ {l : List Oper} {j : Nat} {st : St}, runOps T C true hd all l j st k = some x → ∃ fin, runsL T C hd all (num j l) st fin ∧ k fin = some x
  | [], j, st, h => ⟨st, Same.refl st, h⟩
  | o :: r, j, st, h => by
    rw [runOps_cons] at h
    cases h1 : step1 T C true (hd.getD j []) all o st with
    | none => rw [h1] at h; cases h
    | some st1 =>
      rw [h1] at h
      obtain ⟨fin, h2, h3⟩ := runsL_of (l := r) (j := j + 1) (st := st1) h
      exact ⟨fin, ⟨st1, h1, h2⟩, h3⟩

/-- An operation that meets none before it may come first. -/
theorem front {i : Nat} {o : Oper} {R2 : List (Nat × Oper)} : ∀ {R1 : List (Nat × Oper)} {st fin : St}, runsL T C hd all (R1 ++ (i, o) :: R2) st fin →
    (∀ p ∈ R1, clashFree T all (hd.getD p.1 []) (hd.getD i []) p.2 o = true ∧ (∀ s ∈ opSites p.2, s ∈ hd.getD i []) ∧ (∀ s ∈ opSites o, s ∈ hd.getD p.1 [])) →
    ∃ st1, step1 T C true (hd.getD i []) all o st = some st1 ∧ runsL T C hd all (R1 ++ R2) st1 fin
  | [], st, fin, h, _ => h
  | (j, x) :: R1, st, fin, h, hp => by
    obtain ⟨s1, h1, h2⟩ := h
    obtain ⟨s2, h3, h4⟩ := front (R1 := R1) h2 fun p hp' => hp p (by simp [hp'])
    obtain ⟨c1, c2, c3⟩ := hp (j, x) (by simp)
    obtain ⟨t1, t2, h5, h6, h7⟩ := swap h1 h3 c1 c2 c3
    exact ⟨t1, h5, t2, h6, runsL_congr h7.symm h4⟩

def filt (listed : Array Bool) (l : List (Nat × Oper)) : List (Nat × Oper) := l.filter fun p => !listed.getD p.1 true
theorem filt_ne {listed : Array Bool} {i : Nat} : ∀ {l : List Oper} {k : Nat}, i < k → filt (listed.setIfInBounds i true) (num k l) = filt listed (num k l)
  | [], _, _ => rfl
  | o :: r, k, h => by
    have h1 := filt_ne (listed := listed) (l := r) (k := k + 1) (i := i) (by omega)
    unfold filt at h1 ⊢
    simp only [num, List.filter_cons, h1, getD_set_ne true (show i ≠ k by omega)]
theorem rest_split {listed : Array Bool} {i : Nat} {o : Oper} (hi : listed.getD i true = false) : ∀ {l : List Oper} {k : Nat}, k ≤ i → l[i - k]? = some o →
    ∃ R1 R2, filt listed (num k l) = R1 ++ (i, o) :: R2 ∧ filt (listed.setIfInBounds i true) (num k l) = R1 ++ R2 ∧ ∀ p ∈ R1, k ≤ p.1 ∧ p.1 < i ∧ l[p.1 - k]? = some p.2 ∧ listed.getD p.1 true = false
  | [], k, _, h => by simp at h
  | x :: r, k, hk, h => by
    by_cases he : k = i
    · subst he
      simp at h; subst h
      refine ⟨[], filt listed (num (k + 1) r), ?_, ?_, by simp⟩
      · simp only [filt, num, List.filter_cons, hi]; simp
      · have := filt_ne (listed := listed) (l := r) (k := k + 1) (i := k) (by omega)
        have h2 : (listed.setIfInBounds k true).getD k true = true := by
          have hlt : k < listed.size := by
            rcases Nat.lt_or_ge k listed.size with h' | h'
            · exact h'
            · simp [Array.getElem?_eq_none h'] at hi
          simp [hlt]
        unfold filt at this ⊢
        simp only [num, List.filter_cons, h2, this]; simp
    · have h' : r[i - (k + 1)]? = some o := by
        have : i - k = (i - (k + 1)) + 1 := by omega
        rw [this] at h; simpa using h
      obtain ⟨R1, R2, g1, g2, g3⟩ := rest_split hi (l := r) (k := k + 1) (by omega) h'
      have hne : (listed.setIfInBounds i true).getD k true = listed.getD k true := getD_set_ne true (Ne.symm he)
      have up : ∀ p ∈ R1, k ≤ p.1 ∧ p.1 < i ∧ (x :: r)[p.1 - k]? = some p.2 ∧ listed.getD p.1 true = false := fun p hp => by
        obtain ⟨q1, q2, q3, q4⟩ := g3 p hp
        refine ⟨by omega, q2, ?_, q4⟩
        have : p.1 - k = (p.1 - (k + 1)) + 1 := by omega
        rw [this]; simpa using q3
      cases hl : listed.getD k true with
      | true =>
        refine ⟨R1, R2, ?_, ?_, up⟩
        · rw [← g1]; simp only [filt, num, List.filter_cons, hl]; simp
        · rw [← g2]; simp only [filt, num, List.filter_cons, hne, hl]; simp
      | false =>
        refine ⟨(k, x) :: R1, R2, ?_, ?_, fun p hp => ?_⟩
        · rw [List.cons_append, ← g1]; simp only [filt, num, List.filter_cons, hl]; simp
        · rw [List.cons_append, ← g2]; simp only [filt, num, List.filter_cons, hne, hl]; simp
        · rcases List.mem_cons.1 hp with rfl | hp
          · exact ⟨Nat.le_refl _, by simp only; omega, by simp, hl⟩
          · exact up p hp

/- WHAT COMES SURELY FIRST. -/
theorem addAll_mem {x : Nat} : ∀ {l acc : List Nat}, x ∈ addAll acc l ↔ x ∈ acc ∨ x ∈ l
  | [], acc => by simp [addAll]
  | y :: r, acc => by
    simp only [addAll, addAll_mem (l := r), List.mem_cons]
    cases h : memN y acc with
    | true =>
      have := memN_iff.1 h
      simp only [cond_true]
      constructor
      · rintro (h | h) <;> simp [h]
      · rintro (h | rfl | h) <;> simp [*]
    | false =>
      simp only [cond_false, List.mem_cons]
      constructor
      · rintro ((h | h) | h) <;> simp [h]
      · rintro (h | h | h) <;> simp [h]
theorem preds_mem {done : List (List Nat)} {x : Nat} : ∀ {l : List Edge} {acc : List Nat}, x ∈ l.foldl (fun acc e => match e.ground with
    | .textOnly _ => acc
    | .gcOnly _ => acc
    | _ => addAll (addAll acc [e.on]) (done.getD e.on [])) acc → x ∈ acc ∨ ∃ e ∈ l, Region.binds .any e = true ∧ (x = e.on ∨ x ∈ done.getD e.on [])
  | [], acc, h => .inl h
  | e :: r, acc, h => by
    simp only [List.foldl_cons] at h
    rcases preds_mem h with h | ⟨e', h1, h2⟩
    · have hb : (∀ d, e.ground ≠ .textOnly d) → (∀ d, e.ground ≠ .gcOnly d) → Region.binds .any e = true := by
        intro g1 g2
        unfold Region.binds
        cases hg : e.ground <;> simp_all
      have sub : x ∈ addAll (addAll acc [e.on]) (done.getD e.on []) → x ∈ acc ∨ (x = e.on ∨ x ∈ done.getD e.on []) := by
        intro h
        rw [addAll_mem, addAll_mem] at h
        simp only [List.mem_singleton] at h
        rcases h with (h | h) | h
        · exact .inl h
        · exact .inr (.inl h)
        · exact .inr (.inr h)
      cases hg : e.ground with
      | textOnly d => rw [hg] at h; exact .inl h
      | gcOnly d => rw [hg] at h; exact .inl h
      | _ =>
        rw [hg] at h
        rcases sub h with h | h
        · exact .inl h
        · exact .inr ⟨e, by simp, hb (by simp [hg]) (by simp [hg]), h⟩
    · exact .inr ⟨e', by simp [h1], h2⟩
theorem predTable_get : ∀ {l : List Oper} {acc : List (List Nat)}, (∀ n, n < acc.length → (predTable l acc)[n]? = acc[n]?) ∧
    ∀ n o, l[n]? = some o → ∃ done, (predTable l acc)[acc.length + n]? = some (predsOf done o) ∧ ∀ m, done.getD m [] = [] ∨ done.getD m [] = (predTable l acc).getD m []
  | [], acc => ⟨fun n _ => rfl, fun n o h => by simp at h⟩
  | x :: r, acc => by
    obtain ⟨h1, h2⟩ := predTable_get (l := r) (acc := acc ++ [predsOf acc x])
    have e : predTable (x :: r) acc = predTable r (acc ++ [predsOf acc x]) := rfl
    rw [e]
    have pre : ∀ n, n < acc.length → (predTable r (acc ++ [predsOf acc x]))[n]? = acc[n]? := fun n hn => by
      rw [h1 n (by simp; omega), List.getElem?_append_left hn]
    refine ⟨pre, fun n o hn => ?_⟩
    cases n with
    | zero =>
      simp at hn; subst hn
      refine ⟨acc, ?_, fun m => ?_⟩
      · rw [Nat.add_zero, h1 acc.length (by simp)]; simp
      · by_cases hm : m < acc.length
        · right; rw [List.getD_eq_getElem?_getD, List.getD_eq_getElem?_getD, pre m hm]
        · left; rw [List.getD_eq_getElem?_getD, List.getElem?_eq_none (by omega)]; rfl
    | succ n =>
      simp at hn
      obtain ⟨done, h3, h4⟩ := h2 n o hn
      refine ⟨done, ?_, h4⟩
      rw [← h3]
      congr 1
      simp only [List.length_append, List.length_singleton]; omega
theorem pred_of {i x : Nat} {o : Oper} (ho : all[i]? = some o) (hx : x ∈ (predTable all []).getD i []) : ∃ e ∈ o.after, Region.binds .any e = true ∧ (x = e.on ∨ x ∈ (predTable all []).getD e.on []) := by
  obtain ⟨_, h⟩ := predTable_get (l := all) (acc := [])
  obtain ⟨done, h1, h2⟩ := h i o ho
  simp only [List.length_nil, Nat.zero_add] at h1
  rw [List.getD_eq_getElem?_getD, h1] at hx
  simp only [Option.getD_some] at hx
  unfold predsOf at hx
  rcases preds_mem hx with h3 | ⟨e, h3, h4, h5⟩
  · simp at h3
  · refine ⟨e, by simpa using h3, h4, h5.imp id fun h5 => ?_⟩
    rcases h2 e.on with h6 | h6
    · rw [h6] at h5; simp at h5
    · rw [h6] at h5; exact h5

theorem okDraw_get {tab : List (List Nat)} : ∀ {l : List Oper} {k : Nat}, okDraw T all tab hd k l = true → ∀ n o, l[n]? = some o → backEdges (k + n) o = true ∧ openOk T all hd (tab.getD (k + n) []) (k + n) o 0 all = true
  | [], k, _, n, o, h => by simp at h
  | x :: r, k, h, n, o, ho => by
    simp only [okDraw, Bool.and_eq_true] at h
    cases n with
    | zero => simp at ho; subst ho; exact ⟨h.1.1, h.1.2⟩
    | succ n =>
      simp at ho
      have := okDraw_get h.2 n o ho
      rw [show k + 1 + n = k + (n + 1) from by omega] at this
      exact this
theorem openOk_get {preds : List Nat} {j : Nat} {o : Oper} : ∀ {l : List Oper} {k : Nat}, openOk T all hd preds j o k l = true → ∀ n x, l[n]? = some x → k + n < j → k + n ∉ preds → clashFree T all (hd.getD (k + n) []) (hd.getD j []) x o = true
  | [], k, _, n, x, h => by simp at h
  | y :: r, k, h, n, x, hx => by
    intro hlt hp
    have hkj : Nat.ble j k = false := by
      cases hb : Nat.ble j k with
      | false => rfl
      | true => have := Nat.le_of_ble_eq_true hb; omega
    simp only [openOk, hkj, cond_false, Bool.and_eq_true] at h
    cases n with
    | zero =>
      simp at hx; subst hx
      have h1 := h.1
      rw [memN_false.2 (by simpa using hp)] at h1
      simpa using h1
    | succ n =>
      simp at hx
      have e : k + (n + 1) = k + 1 + n := by omega
      rw [e] at hlt hp ⊢
      exact openOk_get h.2 n x hx hlt hp
theorem back_lt {j : Nat} {o : Oper} (h : backEdges j o = true) {e : Edge} (he : e ∈ o.after) (hb : Region.binds .any e = true) : e.on < j := by
  unfold backEdges at h
  have := List.all_eq_true.1 h e (by simpa using he)
  unfold Region.binds at hb
  split at this
  · rename_i hg; rw [hg] at hb; simp at hb
  · rename_i hg; rw [hg] at hb; simp at hb
  · exact Nat.le_of_ble_eq_true this
theorem openSites_mem {tab : List (List Nat)} {j s : Nat} {x : Oper} : ∀ {l : List Oper} {k n : Nat}, l[n]? = some x → k + n ≠ j → k + n ∉ tab.getD j [] → j ∉ tab.getD (k + n) [] → s ∈ opSites x → s ∈ openSites tab j k l
  | [], k, n, h => by simp at h
  | y :: r, k, n, h => by
    intro h1 h2 h3 h4
    simp only [openSites]
    cases n with
    | zero =>
      simp at h; subst h
      have : (k == j || memN k (tab.getD j []) || memN j (tab.getD k [])) = false := by
        have e1 : (k == j) = false := by simpa using h1
        rw [e1, memN_false.2 (by simpa using h2), memN_false.2 (by simpa using h3)]; rfl
      rw [this]
      simp [h4]
    | succ n =>
      simp at h
      have e : k + (n + 1) = k + 1 + n := by omega
      rw [e] at h1 h2 h3
      have := openSites_mem (k := k + 1) h h1 h2 h3 h4
      cases (k == j || memN k (tab.getD j []) || memN j (tab.getD k [])) <;> simp [this]
theorem sameNats_eq : ∀ {a b : List (List Nat)}, sameNats a b = true → a = b
  | [], [], _ => rfl
  | x :: xs, y :: ys, h => by
    simp only [sameNats, Bool.and_eq_true, beq_iff_eq] at h
    rw [h.1, sameNats_eq h.2]
  | [], _ :: _, h => by simp [sameNats] at h
  | _ :: _, [], h => by simp [sameNats] at h

section
variable (hok : okDraw T all (predTable all []) hd 0 all = true)
include hok
theorem pred_lt : ∀ {i x : Nat} {o : Oper}, all[i]? = some o → x ∈ (predTable all []).getD i [] → x < i := by
  intro i
  induction i using Nat.strongRecOn with
  | _ i ih =>
    intro x o ho hx
    obtain ⟨e, h1, h2, h3⟩ := pred_of ho hx
    have hb := (okDraw_get hok i o ho).1
    rw [Nat.zero_add] at hb
    have hlt := back_lt hb h1 h2
    rcases h3 with rfl | h3
    · exact hlt
    · have hl : e.on < all.length := by
        have := (List.getElem?_eq_some_iff.1 ho).1
        omega
      have := ih e.on hlt (x := x) (o := all[e.on]) (by simp) h3
      omega
/-- Two operations that are open to each other. -/
theorem open_pair (hhd : sameNats hd (hidesOf all) = true) {i j : Nat} {o x : Oper} (hi : all[i]? = some o) (hj : all[j]? = some x) (hlt : j < i) (hp : j ∉ (predTable all []).getD i []) :
    clashFree T all (hd.getD j []) (hd.getD i []) x o = true ∧ (∀ s ∈ opSites x, s ∈ hd.getD i []) ∧ (∀ s ∈ opSites o, s ∈ hd.getD j []) := by
  have hh := sameNats_eq hhd
  have hget : ∀ n, n < all.length → hd.getD n [] = openSites (predTable all []) n 0 all := by
    intro n hn
    rw [hh]
    simp [hidesOf, hn]
  have hil := (List.getElem?_eq_some_iff.1 hi).1
  have hjl := (List.getElem?_eq_some_iff.1 hj).1
  have hij : i ∉ (predTable all []).getD j [] := fun h => by have := pred_lt hok hj h; omega
  refine ⟨?_, fun s hs => ?_, fun s hs => ?_⟩
  · have := openOk_get (okDraw_get hok i o hi).2 j x hj (by omega) (by simpa using hp)
    simpa using this
  · rw [hget i hil]
    exact openSites_mem (k := 0) (n := j) hj (by omega) (by simpa using hp) (by simpa using hij) hs
  · rw [hget j hjl]
    exact openSites_mem (k := 0) (n := i) hi (by omega) (by simpa using hij) (by simpa using hp) hs
end
end
end Go.Skm
/-
  A region of the machine is a region of the program, in the text's order and in a drawn one; condition: TabOk, CallOk.
-/
namespace Go.Skm
section
variable {P : Program} {T : Tab} {C : CallF} {w0 : World} {Pr M0 : Nat → Prop} {β0 : Nat → Option (Nat × Nat)} {hp0 : Heap} {st st' : St} {a : Act} {w : World}

theorem Inv.same (i : Inv w0 Pr M0 β0 hp0 st a w) (h : Same st st') : Inv w0 Pr M0 β0 hp0 st' a w := by
  obtain ⟨M, β, r, i1, i2, i3⟩ := i
  have r' := r.congr (hp := st'.heap) fun s => by rw [h.2]
  have e : ({ st with heap := st'.heap } : St) = st' := by
    cases st; cases st'; simp only [St.mk.injEq, and_true]; exact h.1
  rw [e] at r'
  refine ⟨M, β, r', i1, fun s hs b hb => i2 s hs b ?_, i3⟩
  rw [h.2]; exact hb
theorem Inv.drew (i : Inv w0 Pr M0 β0 hp0 st a w) : Inv w0 Pr M0 β0 hp0 st a { w with drawn := w.drawn + 1 } := by
  obtain ⟨M, β, r, i1, i2, i3⟩ := i
  exact ⟨M, β, r.world (w' := { w with drawn := w.drawn + 1 }) (Nat.le_refl _) rfl rfl rfl (fun _ _ _ => rfl) (fun b n _ _ _ h => h) (fun b h => h) (fun b h => .inl h), i1, i2, Nat.le_trans i3 (Nat.le_succ _)⟩
theorem Inv.strike (i : Inv w0 Pr M0 β0 hp0 st a w) (ss : List Nat) : Inv w0 Pr M0 β0 hp0 (st.strike ss) a w := by
  obtain ⟨M, β, r, i1, i2, i3⟩ := i
  exact ⟨M, β, r.strike ss (fun b h => h) fun b h => .inl h, i1, i2.trans (strike_like st ss), i3⟩

/-- A region that draws its order. -/
theorem sim_any (ok : TabOk P T) (hC : CallOk P T C) {ops : Array Oper} {hd : List (List Nat)} (hok : okDraw T ops.toList (predTable ops.toList []) hd 0 ops.toList = true) (hhd : sameNats hd (hidesOf ops.toList) = true)
    {Q : Exit → Act → World → Prop} {fin : St} (hQ : ∀ a w, Inv w0 Pr M0 β0 hp0 fin a w → Q .normal a w) :
    ∀ (fuel : Nat) (listed : Array Bool) (st : St) (a : Act) (w : World), fuel = (filt listed (num 0 ops.toList)).length →
      (∀ q, listed.getD q false = true → ∀ p ∈ (predTable ops.toList []).getD q [], listed.getD p false = true) → listed.size = ops.size →
      runsL T C hd ops.toList (filt listed (num 0 ops.toList)) st fin → Inv w0 Pr M0 β0 hp0 st a w → wpAny P .any ops Q fuel listed a w := by
  intro fuel
  induction fuel with
  | zero =>
    intro listed st a w hf hcl hsz hr i
    have h0 : filt listed (num 0 ops.toList) = [] := List.length_eq_zero_iff.1 hf.symm
    rw [h0] at hr
    refine ⟨?_, hQ a w (i.same hr)⟩
    rw [List.eq_nil_iff_forall_not_mem]
    intro j hj
    obtain ⟨h1, o, h2, _⟩ := mem_ready.1 hj
    obtain ⟨R1, R2, g1, _⟩ := rest_split h1 (l := ops.toList) (k := 0) (o := o) (by omega) (by simpa using h2)
    rw [h0] at g1
    simp at g1
  | succ fuel ih =>
    intro listed st a w hf hcl hsz hr i
    refine ⟨fun hnil => ?_, fun j hj => ?_⟩
    · -- the first that is not listed is ready
      exfalso
      cases hL : filt listed (num 0 ops.toList) with
      | nil => rw [hL] at hf; simp at hf
      | cons p r =>
        -- the least number that is not listed
        have hex : ∃ n, n < ops.size ∧ listed.getD n true = false := by
          have hp : p ∈ filt listed (num 0 ops.toList) := by rw [hL]; simp
          unfold filt at hp
          rw [List.mem_filter] at hp
          have h1 : listed.getD p.1 true = false := by simpa using hp.2
          refine ⟨p.1, ?_, h1⟩
          rcases Nat.lt_or_ge p.1 listed.size with h' | h'
          · omega
          · simp [Array.getElem?_eq_none h'] at h1
        have hmin : ∃ n, (n < ops.size ∧ listed.getD n true = false) ∧ ∀ m, m < n → ¬ (m < ops.size ∧ listed.getD m true = false) := by
          obtain ⟨n, hn⟩ := hex
          induction n using Nat.strongRecOn with
          | _ n ihn =>
            by_cases hm : ∃ m, m < n ∧ (m < ops.size ∧ listed.getD m true = false)
            · obtain ⟨m, h1, h2⟩ := hm; exact ihn m h1 h2
            · exact ⟨n, hn, fun m h1 h2 => hm ⟨m, h1, h2⟩⟩
        obtain ⟨n, ⟨h1, h2⟩, h3⟩ := hmin
        have : n ∈ Region.ready .any ops listed := by
          rw [mem_ready]
          refine ⟨h2, ops[n], by simp, fun e he hb => ?_⟩
          have hlt := back_lt (okDraw_get hok n ops[n] (by simp)).1 he hb
          rw [Nat.zero_add] at hlt
          have := h3 e.on hlt
          have hl : e.on < ops.size := by omega
          have hl' : e.on < listed.size := by omega
          cases hb' : listed.getD e.on true with
          | false => exact absurd ⟨hl, hb'⟩ this
          | true => simpa [hl'] using hb'
        rw [hnil] at this; simp at this
    · obtain ⟨h1, o, h2, h3⟩ := mem_ready.1 hj
      have h2' : ops.toList[j]? = some o := by simpa using h2
      obtain ⟨R1, R2, g1, g2, g3⟩ := rest_split h1 (l := ops.toList) (k := 0) (o := o) (by omega) (by simpa using h2)
      have hpre : ∀ p ∈ (predTable ops.toList []).getD j [], listed.getD p false = true := by
        intro p hp
        obtain ⟨e, q1, q2, q3⟩ := pred_of h2' hp
        rcases q3 with rfl | q3
        · exact h3 e q1 q2
        · exact hcl e.on (h3 e q1 q2) p q3
      rw [g1] at hr hf
      obtain ⟨st1, k1, k2⟩ := front hr fun p hp => by
        obtain ⟨q1, q2, q3, q4⟩ := g3 p hp
        refine open_pair hok hhd h2' (by simpa using q3) q2 fun hm => ?_
        have := hpre p.1 hm
        have hl : p.1 < listed.size := by
          have := (List.getElem?_eq_some_iff.1 q3).1
          simp at this; omega
        simp [hl] at q4 this
        rw [q4] at this; cases this
      have hs := sim1 ok hC rfl i k1 (K := wpAny P .any ops Q fuel (listed.setIfInBounds j true)) (fun a' w' i' => ih (listed.setIfInBounds j true) st1 a' w' (by
        rw [g2]; simp only [List.length_append, List.length_cons] at hf ⊢; omega) (fun q hq p hp => by
        by_cases hjq : j = q
        · subst hjq; exact getD_set_true (hpre p hp)
        · rw [getD_set_ne false hjq] at hq
          exact getD_set_true (hcl q hq p hp)) (by simpa using hsz) (by rw [g2]; exact k2) i') (Q := Q)
      unfold wpOp
      rw [h2]
      simp only
      split
      · rename_i hw; rw [if_pos hw] at hs; exact .inl hs
      · rename_i hw; rw [if_neg hw] at hs; exact hs

theorem num_length : ∀ (l : List Oper) (k : Nat), (num k l).length = l.length
  | [], _ => rfl
  | o :: r, k => by simp [num, num_length r]
theorem filt_none {n : Nat} : ∀ {l : List Oper} {k : Nat}, k + l.length ≤ n → filt (Array.replicate n false) (num k l) = num k l
  | [], _, _ => rfl
  | o :: r, k, h => by
    simp only [List.length_cons] at h
    have := filt_none (n := n) (l := r) (k := k + 1) (by omega)
    unfold filt at this ⊢
    have hk : (Array.replicate n false).getD k true = false := by
      have : k < n := by omega
      simp [this]
    simp only [num, List.filter_cons, hk, this]; simp

/-- A region. -/
theorem sim_draw (ok : TabOk P T) (hC : CallOk P T C) {α : Type} {id : Nat} {ops : Array Oper} {hd : List (List Nat)} (hok : okDraw T ops.toList (predTable ops.toList []) hd 0 ops.toList = true) (hhd : sameNats hd (hidesOf ops.toList) = true)
    {Q : Exit → Act → World → Prop} {k : St → Option α} {x : α} (hr : runOps T C true hd ops.toList ops.toList 0 st k = some x) (i : Inv w0 Pr M0 β0 hp0 st a w)
    (hQ : ∀ st' a' w', k st' = some x → Inv w0 Pr M0 β0 hp0 st' a' w' → Q .normal a' w') : (Code.region id ops true).wp P Q a w := by
  obtain ⟨fin, h1, h2⟩ := runsL_of hr
  have e : filt (Array.replicate ops.size false) (num 0 ops.toList) = num 0 ops.toList := filt_none (by simp)
  refine wp_region_any ok.mixed (sim_any ok hC hok hhd (fun a w i => hQ fin a w h2 i) ops.size (Array.replicate ops.size false) st a _ ?_ ?_ (by simp) (by rw [e]; exact h1) i.drew)
  · rw [e, num_length]; simp
  · intro q hq
    by_cases hl : q < ops.size <;> simp [hl] at hq
theorem sim_undrawn (ok : TabOk P T) (hC : CallOk P T C) {α : Type} {id : Nat} {ops : Array Oper} {hd : List (List Nat)} {Q : Exit → Act → World → Prop} {k : St → Option α} {x : α} (hr : runOps T C false hd ops.toList ops.toList 0 st k = some x) (i : Inv w0 Pr M0 β0 hp0 st a w)
    (hQ : ∀ st' a' w', k st' = some x → Inv w0 Pr M0 β0 hp0 st' a' w' → Q .normal a' w') : (Code.region id ops false).wp P Q a w :=
  wp_region_list (sim_text ok hC hQ ops.toList 0 st a w hr i)
end
end Go.Skm
/-
  The machine's code is the program's code: moving a block to another site, forgetting, blocks, loops; condition: TabOk, CallOk.
-/
namespace Go.Skm

theorem rens_get (s d : Nat) : ∀ (l : List AV) (i : Nat), (AV.rens s d l)[i]? = (l[i]?).map (AV.ren s d)
  | [], i => by simp [AV.rens]
  | v :: r, 0 => by simp [AV.rens]
  | v :: r, i + 1 => by simp [AV.rens, rens_get s d r i]
theorem rens_length (s d : Nat) : ∀ (l : List AV), (AV.rens s d l).length = l.length
  | [] => rfl
  | v :: r => by simp [AV.rens, rens_length s d r]
theorem ren_leaf (s d : Nat) (v : AV) : (AV.ren s d v).leaf = v.leaf := by
  cases v <;> simp [AV.ren, AV.leaf]
theorem renS_ne {s d x : Nat} (h : x ≠ s) : renS s d x = x := by
  have : (x == s) = false := by simpa using h
  simp [renS, this]
theorem look_renHeap {s d : Nat} (hne : s ≠ d) (x : Nat) : ∀ {hp : Heap}, look hp d = none → look (renHeap s d hp) x = if x = d then (look hp s).map (Blk.ren s d) else if x = s then none else (look hp x).map (Blk.ren s d)
  | [], _ => by simp [renHeap, look]
  | (k, b) :: r, h => by
    have hk : k ≠ d := by
      rintro rfl; simp [look] at h
    have hk' : (k == d) = false := by simpa using hk
    have hr : look r d = none := by simpa [look, hk'] using h
    have ih := look_renHeap hne x hr
    simp only [renHeap, look]
    by_cases hks : k = s
    · subst hks
      have e1 : renS k d k = d := by simp [renS]
      rw [e1]
      by_cases hx : x = d
      · subst hx; simp
      · have e2 : (d == x) = false := by simpa using fun e => hx e.symm
        rw [e2, if_neg hx]
        simp only [cond_false]
        rw [ih, if_neg hx]
        by_cases hxs : x = k
        · rw [if_pos hxs, if_pos hxs]
        · rw [if_neg hxs, if_neg hxs]
          have e3 : (k == x) = false := by simpa using fun e => hxs e.symm
          rw [e3]; rfl
    · have e1 : renS s d k = k := renS_ne hks
      rw [e1]
      by_cases hx : x = k
      · subst hx
        simp [hk, hks]
      · have e2 : (k == x) = false := by simpa using fun e => hx e.symm
        rw [e2]
        simp only [cond_false]
        rw [ih]
        have e3 : (k == s) = false := by simpa using hks
        rw [e3]; rfl

/-- A reference, renamed. -/
theorem AR.renamed {w : World} {M : Nat → Prop} {β β' : Nat → Option (Nat × Nat)} {h h' : Nat → Option Blk} {s d : Nat} (hh : ∀ x blk, h x = some blk → h' (renS s d x) = some (blk.ren s d) ∧ β' (renS s d x) = β x)
    {v : AV} {c : Value} (hv : AR w M β h v c) : AR w M β' h' (v.ren s d) c := by
  induction hv with
  | undef c => exact .undef c
  | p v c hv => exact .p v c hv
  | slice x off len a ks xs b o cap h1 hl hb hcap hr => exact .slice _ off len a ks xs b o cap (hh x _ h1).1 hl ((hh x _ h1).2.trans hb) hcap hr
  | sliceE x off a ks xs base h1 hl => exact .sliceE _ off a ks xs base (hh x _ h1).1 hl
  | bslice x off len cs b o cap h1 hl hb hcap => exact .bslice _ off len (AV.rens s d cs) b o cap (hh x _ h1).1 (by rw [rens_length]; exact hl) ((hh x _ h1).2.trans hb) hcap
  | bsliceE x off cs base h1 hl => exact .bsliceE _ off (AV.rens s d cs) base (hh x _ h1).1 (by rw [rens_length]; exact hl)
  | ptrB x off cs b o h1 hb => exact .ptrB _ off (AV.rens s d cs) b o (hh x _ h1).1 ((hh x _ h1).2.trans hb)
  | ptrA x idx off a ks xs b o h1 hi hb => exact .ptrA _ idx off a ks xs b o (hh x _ h1).1 hi ((hh x _ h1).2.trans hb)
  | lptr a ks x off b o f hM hx hc hv => exact .lptr a ks x off b o f hM hx hc hv
  | fn f cs vs hn _ ih =>
    refine .fn f _ vs (by rw [rens_length]; exact hn) fun i c hi => ?_
    rw [rens_get] at hi
    cases hx : cs[i]? with
    | none => rw [hx] at hi; cases hi
    | some x => rw [hx] at hi; cases hi; exact ih i x hx
  | agg cs vs hn hl _ ih =>
    refine .agg _ vs (by rw [rens_length]; exact hn) (fun c hc => ?_) fun i c hi => ?_
    · obtain ⟨i, hi⟩ := List.mem_iff_getElem?.1 hc
      rw [rens_get] at hi
      cases hx : cs[i]? with
      | none => rw [hx] at hi; cases hi
      | some x => rw [hx] at hi; cases hi; rw [ren_leaf]; exact hl x (List.mem_of_getElem? hx)
    · rw [rens_get] at hi
      cases hx : cs[i]? with
      | none => rw [hx] at hi; cases hi
      | some x => rw [hx] at hi; cases hi; exact ih i x hx
  | tup cs vs hn _ ih =>
    refine .tup _ vs (by rw [rens_length]; exact hn) fun i c hi => ?_
    rw [rens_get] at hi
    cases hx : cs[i]? with
    | none => rw [hx] at hi; cases hi
    | some x => rw [hx] at hi; cases hi; exact ih i x hx

section
variable {P : Program} {T : Tab} {w0 : World} {Pr M0 M : Nat → Prop} {β β0 : Nat → Option (Nat × Nat)} {hp0 : Heap} {st st' : St} {a : Act} {w : World}

/-- The block at site s moves to the free site d. -/
theorem Rel.rename (r : Rel w0 Pr M0 M β st a w) {s d : Nat} (hne : s ≠ d) (hd : look st.heap d = none) (hs : s < argSite) :
    Rel w0 Pr M0 M (fun x => if x = d then β s else β x) { env := AV.rens s d st.env, heap := renHeap s d st.heap } a w := by
  have hlk := fun x => look_renHeap (s := s) (d := d) hne x hd
  have hh : ∀ x blk, look st.heap x = some blk → look (renHeap s d st.heap) (renS s d x) = some (blk.ren s d) ∧ (if renS s d x = d then β s else β (renS s d x)) = β x := by
    intro x blk hx
    have hxd : x ≠ d := by rintro rfl; rw [hd] at hx; cases hx
    by_cases hxs : x = s
    · subst hxs
      have e : renS x d x = d := by simp [renS]
      rw [e, hlk, if_pos rfl, hx]
      exact ⟨rfl, by simp⟩
    · have e : renS s d x = x := renS_ne hxs
      rw [e, hlk, if_neg hxd, if_neg hxs, hx]
      exact ⟨rfl, by simp [hxd]⟩
  have key : ∀ {v : AV} {c : Value}, AR w M β (look st.heap) v c → AR w M (fun x => if x = d then β s else β x) (look (renHeap s d st.heap)) (v.ren s d) c := fun h => h.renamed hh
  -- which site a new one was
  have from_ : ∀ x blk', look (renHeap s d st.heap) x = some blk' → ∃ y blk, look st.heap y = some blk ∧ blk' = blk.ren s d ∧ x = renS s d y ∧ (if x = d then β s else β x) = β y := by
    intro x blk' hx
    rw [hlk] at hx
    by_cases hxd : x = d
    · rw [if_pos hxd] at hx
      cases hy : look st.heap s with
      | none => rw [hy] at hx; cases hx
      | some b => rw [hy] at hx; cases hx; exact ⟨s, b, hy, rfl, by simp [renS, hxd], by simp [hxd]⟩
    · rw [if_neg hxd] at hx
      by_cases hxs : x = s
      · rw [if_pos hxs] at hx; cases hx
      · rw [if_neg hxs] at hx
        cases hy : look st.heap x with
        | none => rw [hy] at hx; cases hx
        | some b => rw [hy] at hx; cases hx; exact ⟨x, b, hy, rfl, (renS_ne hxs).symm, by simp [hxd]⟩
  refine ⟨by simp only [rens_length]; exact r.tsize, fun t v hv => ?_, fun x blk' hx => ?_, fun x b o hx hb => ?_, fun x x' b o o' hx hx' hb hb' => ?_, r.msub, r.mnew, r.mold, r.keep, r.room, r.size, r.os, r.tape, r.output, r.defers⟩
  · simp only [rens_get] at hv
    cases he : st.env[t]? with
    | none => rw [he] at hv; cases hv
    | some u => rw [he] at hv; cases hv; exact key (r.env t u he)
  · obtain ⟨y, blk, g1, rfl, rfl, g4⟩ := from_ x blk' hx
    cases r.heap y blk g1 with
    | box cs b o C e fr k1 k2 k3 k4 k5 k6 =>
      refine .box _ b o C e fr (g4.trans k1) k2 (by rw [rens_length]; exact k3) k4 (fun c hc => ?_) fun j c hj => ?_
      · obtain ⟨i, hi⟩ := List.mem_iff_getElem?.1 hc
        rw [rens_get] at hi
        cases hx : cs[i]? with
        | none => rw [hx] at hi; cases hi
        | some x => rw [hx] at hi; cases hi; rw [ren_leaf]; exact k5 x (List.mem_of_getElem? hx)
      · rw [rens_get] at hj
        cases hx : cs[j]? with
        | none => rw [hx] at hj; cases hj
        | some x => rw [hx] at hj; cases hj; exact key (k6 j x hx)
    | arrE a ks => exact .arrE a ks
    | arr a ks xs b o C e fr k1 k2 k3 k4 k5 k6 => exact .arr a ks xs b o C e fr (g4.trans k1) k2 k3 k4 k5 k6
  · obtain ⟨blk', hx⟩ := Option.isSome_iff_exists.1 hx
    obtain ⟨y, blk, g1, _, g3, g4⟩ := from_ x blk' hx
    have hb : (if x = d then β s else β x) = some (b, o) := hb
    rw [g4] at hb
    obtain ⟨o1, o2, o3⟩ := r.own y b o (by rw [g1]; rfl) hb
    refine ⟨o1, o2, o3.imp id fun o3 => ⟨?_, o3.2⟩⟩
    have hys : y ≠ s := by have := o3.1; omega
    have : renS s d y = y := renS_ne hys
    rw [g3, this]; exact o3.1
  · obtain ⟨blk1, hx⟩ := Option.isSome_iff_exists.1 hx
    obtain ⟨blk2, hx'⟩ := Option.isSome_iff_exists.1 hx'
    obtain ⟨y, b1, g1, _, g3, g4⟩ := from_ x blk1 hx
    obtain ⟨y', b2, g1', _, g3', g4'⟩ := from_ x' blk2 hx'
    have hb : (if x = d then β s else β x) = some (b, o) := hb
    have hb' : (if x' = d then β s else β x') = some (b, o') := hb'
    rw [g4] at hb
    rw [g4'] at hb'
    rw [g3, g3', r.inj y y' b o o' (by rw [g1]; rfl) (by rw [g1']; rfl) hb hb']

theorem Blk.ren_like (s d : Nat) (b : Blk) : Like b (b.ren s d) := by
  cases b with
  | box cs => simp [Blk.ren, Like, rens_length]
  | arr => exact Like.refl _
theorem Inv.rehome (i : Inv w0 Pr M0 β0 hp0 st a w) {s d : Nat} (hne : s ≠ d) (hs : s < argSite) (hd : d < argSite) : Inv w0 Pr M0 β0 hp0 (st.rehome s d) a w := by
  have i1 := i.strike [d]
  have hn : look (st.strike [d]).heap d = none := by rw [look_strike]; simp
  unfold St.rehome
  generalize st.strike [d] = st1 at i1 hn
  obtain ⟨M, β, r, e1, e2, e3⟩ := i1
  refine ⟨M, _, r.rename hne hn hs, fun x hx => ?_, fun x hx blk' hb => ?_, e3⟩
  · have : x ≠ d := by omega
    simp only [if_neg this]; exact e1 x hx
  · have h1 : x ≠ d := by omega
    have h2 : x ≠ s := by omega
    have hb' : look (renHeap s d st1.heap) x = some blk' := hb
    rw [look_renHeap hne x hn, if_neg h1, if_neg h2] at hb'
    cases hy : look st1.heap x with
    | none => rw [hy] at hb'; cases hb'
    | some b =>
      rw [hy] at hb'; cases hb'
      obtain ⟨b0, g1, g2⟩ := e2 x hx b hy
      exact ⟨b0, g1, g2.trans (Blk.ren_like s d b)⟩
theorem Inv.rehomes (nv : Nat) (hnv : nv ≤ argSite) : ∀ (l : List Oper) {st : St}, Inv w0 Pr M0 β0 hp0 st a w → Inv w0 Pr M0 β0 hp0 (Skm.rehomes nv l st) a w
  | [], st, i => i
  | o :: r, st, i => by
    simp only [Skm.rehomes]
    split
    · rename_i d _ _
      split
      · rename_i s _ _ _ _
        cases hc : Nat.ble nv s && (Nat.blt d nv && Nat.blt s 100000) with
        | false => exact Inv.rehomes nv hnv r i
        | true =>
          simp only [Bool.and_eq_true] at hc
          have h1 := Nat.le_of_ble_eq_true hc.1
          have h2 : d < nv := Nat.le_of_ble_eq_true hc.2.1
          have h3 : s < 100000 := Nat.le_of_ble_eq_true hc.2.2
          have ea : argSite = 100000 := rfl
          exact Inv.rehomes nv hnv r (i.rehome (fun e => absurd h1 (Nat.not_le_of_lt (by rw [e]; exact h2))) h3 (Nat.lt_of_lt_of_le h2 hnv))
      · exact Inv.rehomes nv hnv r i
    · exact Inv.rehomes nv hnv r i

theorem keepEnv_get {live : List Nat} : ∀ (l : List AV) (k i : Nat) (v : AV), (keepEnv live k l)[i]? = some v → v = .undef ∨ l[i]? = some v
  | [], k, i, v, h => by simp [keepEnv] at h
  | u :: r, k, 0, v, h => by
    simp only [keepEnv, List.getElem?_cons_zero, Option.some.injEq] at h
    cases hm : memN k live with
    | true => rw [hm] at h; right; simpa using h
    | false => rw [hm] at h; left; simpa using h.symm
  | u :: r, k, i + 1, v, h => by
    simp only [keepEnv, List.getElem?_cons_succ] at h
    simpa using keepEnv_get r (k + 1) i v h
theorem keepEnv_length {live : List Nat} : ∀ (l : List AV) (k : Nat), (keepEnv live k l).length = l.length
  | [], _ => rfl
  | u :: r, k => by simp [keepEnv, keepEnv_length r]
theorem Inv.forget (i : Inv w0 Pr M0 β0 hp0 st a w) (live sites : List Nat) : Inv w0 Pr M0 β0 hp0 (st.forget live sites) a w := by
  obtain ⟨M, β, r, e1, e2, e3⟩ := i
  exact Inv.strike ⟨M, β, r.lessEnv (keepEnv_length _ _) (fun t v h => keepEnv_get _ _ _ _ h), e1, e2, e3⟩ _
theorem Inv.forgetAt (i : Inv w0 Pr M0 β0 hp0 st a w) (F : FCfg) (c : Code) : Inv w0 Pr M0 β0 hp0 (Skm.forgetAt F c st) a w := by
  unfold Skm.forgetAt
  split
  · exact i
  · split
    · exact i
    · exact i.forget _ _

def Ex.toExit : Ex → Exit
  | .normal => .normal
  | .exit id => .exit id
  | .ret => .ret

/-- The machine's code. -/
theorem sim_code (ok : TabOk P T) {C : CallF} (hC : CallOk P T C) {F : FI} {n : Nat} (hnv : F.cfg.nvars ≤ argSite) {α : Type} {x : α} : ∀ (c : Code) (st : St) (a : Act) (w : World) (k : Ex → St → Option α) (Q : Exit → Act → World → Prop),
    runCode T C F n c st k = some x → drawsOk T F.hides c = true → Inv w0 Pr M0 β0 hp0 st a w → (∀ ex st' a' w', k ex st' = some x → Inv w0 Pr M0 β0 hp0 st' a' w' → Q ex.toExit a' w') → c.wp P Q a w
  | .skip, st, a, w, k, Q, h, _, i, hQ => wp_skip (hQ .normal st a w h i)
  | .region id ops draw, st, a, w, k, Q, h, hd, i, hQ => by
    have fin : ∀ st' a' w', (forceSt (Skm.rehomes F.cfg.nvars ops.toList st') fun st' => k .normal st') = some x → Inv w0 Pr M0 β0 hp0 st' a' w' → Q .normal a' w' := by
      intro st' a' w' h1 i'
      rw [forceSt_eq] at h1
      exact hQ .normal _ a' w' h1 (i'.rehomes _ hnv _)
    cases draw with
    | false =>
      simp only [runCode] at h
      exact sim_undrawn ok hC h i fin
    | true =>
      simp only [runCode] at h
      simp only [drawsOk] at hd
      cases hh : tlook F.hides id with
      | none => rw [hh] at h; cases h
      | some hid =>
        rw [hh] at h hd
        simp only [Bool.and_eq_true] at hd
        simp only [forceSt_eq] at h
        exact sim_draw ok hC hd.1 hd.2 h (i.strike _) (fun st' a' w' h1 i' => fin st' a' w' (by rw [forceSt_eq]; exact h1) i')
  | .seq y z, st, a, w, k, Q, h, hd, i, hQ => by
    simp only [runCode] at h
    simp only [drawsOk, Bool.and_eq_true] at hd
    refine wp_seq (sim_code ok hC hnv y st a w _ _ h hd.1 i fun ex st' a' w' h1 i' => ?_)
    cases ex with
    | normal => exact sim_code ok hC hnv z _ a' w' k Q h1 hd.2 (i'.forgetAt _ _) hQ
    | exit id => exact hQ (.exit id) st' a' w' h1 i'
    | ret => exact hQ .ret st' a' w' h1 i'
  | .cond c y z, st, a, w, k, Q, h, hd, i, hQ => by
    simp only [runCode] at h
    simp only [drawsOk, Bool.and_eq_true] at hd
    obtain ⟨M, β, r, _, _⟩ := id i
    have hc := r.evalO c
    cases hv : Skm.evalO st.env c with
    | p v =>
      cases v with
      | bool b =>
        rw [hv] at h hc
        simp only at h
        refine wp_cond hc.p_bool ?_
        cases b with
        | true => exact sim_code ok hC hnv y st a w k Q h hd.1 i hQ
        | false => exact sim_code ok hC hnv z st a w k Q h hd.2 i hQ
      | _ => rw [hv] at h; simp at h
    | _ => rw [hv] at h; simp at h
  | .block id c, st, a, w, k, Q, h, hd, i, hQ => by
    simp only [runCode] at h
    simp only [drawsOk] at hd
    refine wp_block (sim_code ok hC hnv c st a w _ _ h hd i fun ex st' a' w' h1 i' => ?_)
    cases ex with
    | normal => exact hQ .normal st' a' w' h1 i'
    | exit j =>
      simp only [Ex.toExit, Exit.inBlock]
      by_cases hj : j = id
      · rw [if_pos hj]
        have : (j == id) = true := by simpa using hj
        simp only [this, cond_true] at h1
        exact hQ .normal st' a' w' h1 i'
      · rw [if_neg hj]
        have : (j == id) = false := by simpa using hj
        simp only [this, cond_false] at h1
        exact hQ (.exit j) st' a' w' h1 i'
    | ret => exact hQ .ret st' a' w' h1 i'
  | .loop c, st, a, w, k, Q, h, hd, i, hQ => by
    simp only [runCode] at h
    simp only [drawsOk] at hd
    refine wp_loop_rounds n ?_
    have key : ∀ (m : Nat) (st : St) (a : Act) (w : World), loopN (Skm.forgetAt F.cfg c) (fun st' k' => runCode T C F n c st' k') m st k = some x → Inv w0 Pr M0 β0 hp0 st a w → Code.rounds P c Q m a w := by
      intro m
      induction m with
      | zero => intro st a w h; simp [loopN] at h
      | succ m ih =>
        intro st a w h i
        simp only [loopN] at h
        rw [rounds_succ]
        refine sim_code ok hC hnv c st a w _ _ h hd i fun ex st' a' w' h1 i' => ?_
        cases ex with
        | normal =>
          simp only [forceSt_eq] at h1
          exact ih _ a' w' h1 (i'.forgetAt _ _)
        | exit id => exact hQ (.exit id) st' a' w' h1 i'
        | ret => exact hQ .ret st' a' w' h1 i'
    exact key n _ a w h (i.forgetAt _ _)
  | .exit id, st, a, w, k, Q, h, _, i, hQ => wp_exit (hQ (.exit id) st a w h i)
  | .ret, st, a, w, k, Q, h, _, i, hQ => wp_ret (hQ .ret st a w h i)
  | .label _, st, a, w, k, Q, h, _, i, hQ => wp_label (hQ .normal st a w h i)
  | .rangeFunc .., st, a, w, k, Q, h, _, i, hQ => by simp [runCode] at h
  | .scope .., st, a, w, k, Q, h, _, i, hQ => by simp [runCode] at h
  | .goto .., st, a, w, k, Q, h, _, i, hQ => by simp [runCode] at h
  | .refuse .., st, a, w, k, Q, h, _, i, hQ => by simp [runCode] at h
end
end Go.Skm
/-
  A call of the machine is a true call; condition: the tables tell the truth (TabOk).
-/
namespace Go.Skm
section
variable {P : Program} {T : Tab} {w0 : World} {Pr M0 M : Nat → Prop} {β β0 : Nat → Option (Nat × Nat)} {hp0 : Heap} {st st' : St} {a : Act} {w : World}

/- THE RESULT VARIABLES. -/
def resultOf (tmps : Array Value) : ResultVar → Sem Value
  | .tmp t => pure (tmps.getD t undef)
  | .cell a t => do loadVar t (← asAddr (tmps.getD a undef))
theorem resOf_ok (ok : TabOk P T) (r : Rel w0 Pr M0 M β st a w) {x : ResultVar} {v : AV} (h : resOf T st.env (look st.heap) x = some v) : ∃ c, (resultOf a.tmps x).run P w = .ok c w ∧ AR w M β (look st.heap) v c := by
  cases x with
  | tmp t =>
    simp only [resOf, Option.some.injEq] at h
    subst h
    exact ⟨_, by simp [resultOf], r.slot t⟩
  | cell t ty =>
    simp only [resOf] at h
    split at h
    · rename_i s n hs hn
      split at h
      · rename_i cs hl
        have hx := r.slot t
        rw [hs] at hx
        have hst : (stepLoad T (look st.heap) ty (.ptr s 0 0)).run some = some { val := v } := by
          simp only [stepLoad, hn, hl, h]; rfl
        obtain ⟨v', c, h1, h2, h3⟩ := (sim_load ok (h' := look st.heap) (fun _ _ h => h) r.heap hx).sim Eff some _ hst
        cases h1
        refine ⟨c, ?_, h2⟩
        generalize hc : a.tmps.getD t undef = p at hx h3
        cases hx with
        | ptrB _ _ cs' b o p1 p2 =>
          simp only [Instr.loadAt, Instr.sureAddr] at h3
          simp only [resultOf, hc, asAddr]
          simpa using h3
        | ptrA _ _ _ sa ks xs b o p1 p2 p3 => rw [hl] at p1; cases p1
      · cases h
    · cases h
theorem resAll_ok (ok : TabOk P T) (r : Rel w0 Pr M0 M β st a w) : ∀ {l : List ResultVar} {vs : List AV}, resAll T st.env (look st.heap) l = some vs → ∃ cs, (l.mapM (resultOf a.tmps)).run P w = .ok cs w ∧ ListR w M β (look st.heap) vs cs
  | [], vs, h => by
    simp [resAll] at h; subst h
    exact ⟨[], by simp, rfl, fun i x c h => by simp at h⟩
  | x :: l, vs, h => by
    simp only [resAll] at h
    split at h
    · rename_i v vs' h1 h2
      cases h
      obtain ⟨c, g1, g2⟩ := resOf_ok ok r h1
      obtain ⟨cs, g3, g4⟩ := resAll_ok ok r h2
      refine ⟨c :: cs, by simp [g1, g3], by simp [g4.1], fun i y d hy hd => ?_⟩
      cases i with
      | zero => simp at hy hd; subst hy hd; exact g2
      | succ i => simp at hy hd; exact g4.2 i y d hy hd
    · cases h
theorem run_results {fn : Func} {tmps : Array Value} {cs : List Value} (h : (fn.results.toList.mapM (resultOf tmps)).run P w = .ok cs w) : (results fn tmps).run P w = .ok (wrapV cs) w := by
  have e : results fn tmps = (do let vs ← fn.results.mapM (resultOf tmps); pure (if h : vs.size = 1 then vs[0] else .tuple vs)) := rfl
  rw [e, Array.mapM_eq_mapM_toList]
  simp only [map_eq_pure_bind, bind_assoc, pure_bind, Sem.run_bind, h, Result.andThen_ok, Sem.run_pure]
  congr 1
  match cs with
  | [] => rfl
  | [c] => rfl
  | _ :: _ :: _ => rfl

/- WHAT IS HANDED BACK. -/
theorem dropAll_sub {ss : List Nat} {hp : Heap} {s : Nat} {b : Blk} (h : look (dropAll hp ss) s = some b) : look hp s = some b ∧ s ∉ ss := by
  rw [look_dropAll] at h
  by_cases hm : s ∈ ss
  · rw [if_pos hm] at h; cases h
  · rw [if_neg hm] at h; exact ⟨h, hm⟩
theorem ResR.mono {M M' : Nat → Prop} {h : Nat → Option Blk} {m : RetMode} {t : TypeId} {v : AV} {c : Value} {p : Option (Nat × Nat)} (hM : ∀ b, M b → M' b) (hr : ResR T w M β h m t v c p) : ResR T w M' β h m t v c p := by
  have hM' : ∀ b, M b → M' b ∧ w.heap[b]? = w.heap[b]? := fun b h => ⟨hM b h, rfl⟩
  cases hr with
  | deep _ x _ hs hv => exact .deep t x c hs (hv.mono hM')
  | fresh _ e xs _ _ hu hb hv =>
    refine .fresh t e xs c p hu ?_ (hv.slice_move rfl rfl rfl)
    cases hb with
    | arrE => exact .arrE _ _
    | arr _ _ _ b o C e' fr g1 g2 g3 g4 g5 g6 => exact .arr _ _ _ b o C e' fr g1 g2 g3 g4 g5 fun i x j c h1 h2 => (g6 i x j c h1 h2).mono hM'
  | alias j _ e off len _ hu hv =>
    have : ∃ blk, h (argSite + j) = some blk := by
      generalize (shapeT T e).2.length = z at hv
      cases hv with
      | slice _ _ _ a ks xs b o cap hs hl hb hcap hr => exact ⟨_, hs⟩
      | sliceE _ _ a ks xs base hs hl => exact ⟨_, hs⟩
    obtain ⟨blk, hb⟩ := this
    exact .alias j t e off len c hu (hv.slice_move hb hb rfl)
theorem ResL.mono {M M' : Nat → Prop} {h : Nat → Option Blk} {ms : List RetMode} {ts : List TypeId} {vs : List AV} {cs : List Value} {ps : List (Option (Nat × Nat))} (hM : ∀ b, M b → M' b) (hr : ResL T w M β h ms ts vs cs ps) : ResL T w M' β h ms ts vs cs ps := by
  induction hr with
  | nil ms => exact .nil ms
  | cons ms t ts v vs c cs p ps h1 h2 h3 ih => exact .cons ms t ts v vs c cs p ps (h1.mono hM) ih h3
theorem shape_pair (x : Bool × List Kd) : x = (x.1, x.2) := rfl

theorem deep1_sites {h : Nat → Option Blk} {v : AV} {x : PV} {ss : List Nat} (hd : deep1 h v = some (x, ss)) : ∀ s ∈ ss, (h s).isSome = true := by
  unfold deep1 at hd
  split at hd
  · cases hd; simp
  · split at hd
    · rename_i hs; cases hd; simp [hs]
    · cases hd
  · split at hd
    · rename_i hs
      split at hd
      · cases hd; simp [hs]
      · cases hd
    · cases hd
  · cases hd
theorem deeps1_sites {h : Nat → Option Blk} : ∀ {vs : List AV} {xs : List PV} {ss : List Nat}, deeps1 h vs = some (xs, ss) → ∀ s ∈ ss, (h s).isSome = true
  | [], xs, ss, hd => by simp [deeps1] at hd; obtain ⟨_, rfl⟩ := hd; simp
  | v :: r, xs, ss, hd => by
    simp only [deeps1] at hd
    split at hd
    · rename_i h1 h2
      cases hd
      intro s hs
      rcases List.mem_append.1 hs with hs | hs
      · exact deep1_sites h1 s hs
      · exact deeps1_sites h2 s hs
    · cases hd
theorem deepC_sites {h : Nat → Option Blk} {v : AV} {x : PV} {ss : List Nat} (hd : deepC h v = some (x, ss)) : ∀ s ∈ ss, (h s).isSome = true := by
  unfold deepC at hd
  split at hd
  · split at hd
    · rename_i hs
      split at hd
      · rename_i h1
        cases hd
        intro s hs'
        rcases List.mem_cons.1 hs' with rfl | hs'
        · rw [hs]; rfl
        · exact deeps1_sites h1 s hs'
      · cases hd
    · cases hd
  · exact deep1_sites hd
theorem deepCs_sites {h : Nat → Option Blk} : ∀ {vs : List AV} {xs : List PV} {ss : List Nat}, deepCs h vs = some (xs, ss) → ∀ s ∈ ss, (h s).isSome = true
  | [], xs, ss, hd => by simp [deepCs] at hd; obtain ⟨_, rfl⟩ := hd; simp
  | v :: r, xs, ss, hd => by
    simp only [deepCs] at hd
    split at hd
    · rename_i h1 h2
      cases hd
      intro s hs
      rcases List.mem_append.1 hs with hs | hs
      · exact deepC_sites h1 s hs
      · exact deepCs_sites h2 s hs
    · cases hd
theorem deep_sites {h : Nat → Option Blk} {v : AV} {x : PV} {ss : List Nat} (hd : deep h v = some (x, ss)) : ∀ s ∈ ss, (h s).isSome = true := by
  unfold deep at hd
  split at hd
  · split at hd
    · rename_i h1; cases hd; exact deeps1_sites h1
    · cases hd
  · split at hd
    · rename_i h1; cases hd; exact deepCs_sites h1
    · cases hd
  · exact deepC_sites hd

theorem retVals_ok (r : Rel w0 Pr M0 M β st a w) {hA : Nat → Option Blk} {βA : Nat → Option (Nat × Nat)} (hend : ∀ j blk, look st.heap (argSite + j) = some blk → hA (argSite + j) = some blk ∧ βA (argSite + j) = β (argSite + j)) :
    ∀ {ts : List TypeId} {ms : List RetMode} {vs : List AV} {cs : List Value} {rs : List AV} {hp : Heap}, retVals T hp ms ts vs = some rs → (∀ s b, look hp s = some b → look st.heap s = some b) → ListR w M β (look st.heap) vs cs →
    ∃ (S : List Nat) (ps : List (Option (Nat × Nat))), ResL T w (Mplus M β S) βA hA ms ts rs cs ps ∧ (∀ s ∈ S, (look hp s).isSome = true ∧ s < argSite) ∧
      (∀ b o, some (b, o) ∈ ps → ∃ s o0, (look hp s).isSome = true ∧ s ∉ S ∧ s < argSite ∧ β s = some (b, o0))
  | [], ms, [], cs, rs, hp, h, _, hl => by
    simp [retVals] at h; subst h
    have : cs = [] := by have := hl.1; simpa using this.symm
    subst this
    exact ⟨[], [], .nil ms, by simp, by simp⟩
  | t :: ts, ms, v :: vs, [], rs, hp, h, _, hl => by have := hl.1; simp at this
  | t :: ts, ms, v :: vs, c :: cs, rs, hp, h, hsub, hl => by
    simp only [retVals] at h
    obtain ⟨hv, hls⟩ := hl.cons
    split at h
    · rename_i x ss hx
      split at h
      · rename_i xs hxs
        cases h
        have hsub' : ∀ s b, look (dropAll hp ss) s = some b → look st.heap s = some b := fun s b h => hsub s b (dropAll_sub h).1
        obtain ⟨S, ps, k1, k2, k3⟩ := retVals_ok r hend hxs hsub' hls
        have live : ∀ s, (look (dropAll hp ss) s).isSome = true → (look hp s).isSome = true ∧ s ∉ ss := fun s h => by
          obtain ⟨b, hb⟩ := Option.isSome_iff_exists.1 h
          obtain ⟨g1, g2⟩ := dropAll_sub hb
          exact ⟨by rw [g1]; rfl, g2⟩
        revert hx
        generalize hm : ms.headD .deep = m
        intro hx
        have plain : ∀ (x' : AV), x = x' → ResR T w (Mplus M β S) βA hA (ms.headD .deep) t x' c none → ∃ (S : List Nat) (ps : List (Option (Nat × Nat))), ResL T w (Mplus M β S) βA hA ms (t :: ts) (x :: xs) (c :: cs) ps ∧ (∀ s ∈ S, (look hp s).isSome = true ∧ s < argSite) ∧
            (∀ b o, some (b, o) ∈ ps → ∃ s o0, (look hp s).isSome = true ∧ s ∉ S ∧ s < argSite ∧ β s = some (b, o0)) := by
          intro x' e hr
          subst e
          refine ⟨S, none :: ps, .cons ms t ts x xs c cs none ps hr k1 (fun b o o' h => by cases h), fun s hs => ⟨(live s (k2 s hs).1).1, (k2 s hs).2⟩, fun b o hb => ?_⟩
          rcases List.mem_cons.1 hb with hb | hb
          · cases hb
          · obtain ⟨s, o0, q1, q2, q3, q4⟩ := k3 b o hb
            exact ⟨s, o0, (live s q1).1, q2, q3, q4⟩
        cases m with
        | deep =>
          simp only [retVal] at hx
          split at hx
          · rename_i y ss' hd
            cases hc : shapeOk (shapeT T t).1 (shapeT T t).2 y && ss'.all (fun s => Nat.blt s 100000) with
            | false => rw [hc] at hx; cases hx
            | true =>
              rw [hc] at hx
              simp only [cond_true, Option.some.injEq, Prod.mk.injEq] at hx
              obtain ⟨rfl, rfl⟩ := hx
              simp only [Bool.and_eq_true] at hc
              obtain ⟨d1, d2⟩ := deep_ok (M := M) (β := β) r.heap hsub hd hv
              have hlt : ∀ s ∈ ss', s < argSite := fun s hs => Nat.le_of_ble_eq_true (List.all_eq_true.1 hc.2 s hs)
              have hlive : ∀ s ∈ ss', (look hp s).isSome = true := deep_sites hd
              have up : ∀ b, Mplus M β S b → Mplus M β (ss' ++ S) b := fun b hb => hb.imp id fun ⟨s, o, h1, h2⟩ => ⟨s, o, by simp [h1], h2⟩
              refine ⟨ss' ++ S, none :: ps, .cons ms t ts _ xs c cs none ps ?_ (k1.mono up) (fun b o o' h => by cases h), fun s hs => ?_, fun b o hb => ?_⟩
              · rw [hm]
                exact .deep t y c hc.1 (d1.mono fun b hb => ⟨hb.imp id fun ⟨s, o, h1, h2⟩ => ⟨s, o, by simp [h1], h2⟩, rfl⟩)
              · rcases List.mem_append.1 hs with hs | hs
                · exact ⟨hlive s hs, hlt s hs⟩
                · exact ⟨(live s (k2 s hs).1).1, (k2 s hs).2⟩
              · rcases List.mem_cons.1 hb with hb | hb
                · cases hb
                · obtain ⟨s, o0, q1, q2, q3, q4⟩ := k3 b o hb
                  exact ⟨s, o0, (live s q1).1, by simp [(live s q1).2, q2], q3, q4⟩
          · cases hx
        | fresh =>
          simp only [retVal] at hx
          split at hx
          · rename_i e hu
            split at hx
            · rename_i s z off len
              split at hx
              · rename_i sa ks ys hs
                cases hc : sa == (shapeT T e).1 && Kd.beqs ks (shapeT T e).2 && Nat.blt s 100000 with
                | false => rw [hc] at hx; cases hx
                | true =>
                  rw [hc] at hx
                  simp only [cond_true, Option.some.injEq, Prod.mk.injEq] at hx
                  obtain ⟨rfl, rfl⟩ := hx
                  simp only [Bool.and_eq_true, beq_iff_eq] at hc
                  obtain ⟨⟨rfl, hks⟩, hlt⟩ := hc
                  have hks := Kd.beqs_eq _ _ hks
                  subst hks
                  have hlt : s < argSite := Nat.le_of_ble_eq_true hlt
                  have hs' := hsub _ _ hs
                  have hbr := r.heap s _ hs'
                  obtain ⟨p, hp1, hp2, hp3⟩ : ∃ p : Option (Nat × Nat), BR w (Mplus M β S) (fun _ => p) (fun _ => some (.arr (shapeT T e).1 (shapeT T e).2 ((ys.drop off).take len))) 0 (.arr (shapeT T e).1 (shapeT T e).2 ((ys.drop off).take len)) ∧
                      AR w (Mplus M β S) (fun _ => p) (fun _ => some (.arr (shapeT T e).1 (shapeT T e).2 ((ys.drop off).take len))) (.slice 0 (shapeT T e).2.length 0 ((ys.drop off).take len).length) c ∧ (∀ b o, p = some (b, o) → ∃ o0, β s = some (b, o0)) := by
                    cases hv with
                    | sliceE _ _ a' ks' xs' base h1 h2 =>
                      refine ⟨none, ?_, ?_, fun b o h => by cases h⟩
                      · simp only [List.take_zero]; exact .arrE _ _
                      · simp only [List.take_zero, List.length_nil]
                        exact .sliceE 0 0 _ _ [] base rfl (by simp)
                    | slice _ _ _ a' ks' xs' b o cap h1 h2 h3 h4 h5 =>
                      rw [hs'] at h1; cases h1
                      have hlen : ((ys.drop off).take len).length = len := by simp; omega
                      refine ⟨some (b, o + off * (shapeT T e).2.length), ?_, ?_, fun b' o' h => by cases h; exact ⟨o, h3⟩⟩
                      · cases hbr with
                        | arrE => simp only [List.drop_nil, List.take_nil]; exact .arrE _ _
                        | arr _ _ _ b' o' C e' fr g1 g2 g3 g4 g5 g6 =>
                          rw [h3] at g1; cases g1
                          refine .arr _ _ _ b _ C e' fr rfl g2 ?_ g4 (fun x hx => g5 x (List.mem_of_mem_drop (List.mem_of_mem_take hx))) fun i x j c hx hj => ?_
                          · rw [hlen, Nat.add_assoc, ← Nat.add_mul]
                            exact Nat.le_trans (Nat.add_le_add_left (Nat.mul_le_mul_right _ (by omega)) _) g3
                          · have hi : i < len := by
                              have := (List.getElem?_eq_some_iff.1 hx).1
                              omega
                            rw [List.getElem?_take, if_pos hi, List.getElem?_drop] at hx
                            have := (g6 (off + i) x j c hx hj).mono (M' := Mplus M β S) fun b hb => ⟨.inl hb, rfl⟩
                            rw [Nat.add_mul] at this
                            rwa [show o + off * (shapeT T e).2.length + i * (shapeT T e).2.length = o + (off * (shapeT T e).2.length + i * (shapeT T e).2.length) from by omega]
                      · rw [hlen]
                        have := AR.slice (M := Mplus M β S) (β := fun _ => some (b, o + off * (shapeT T e).2.length)) (h := fun _ => some (.arr (shapeT T e).1 (shapeT T e).2 ((ys.drop off).take len))) 0 0 len (shapeT T e).1 (shapeT T e).2 ((ys.drop off).take len) b (o + off * (shapeT T e).2.length) cap rfl (by rw [hlen]; omega) rfl h4 (by
                          refine h5.mono ?_
                          rw [Nat.zero_add, Nat.add_assoc, ← Nat.add_mul]; exact Nat.le_refl _)
                        rwa [Nat.zero_mul, Nat.add_zero] at this
                  have hsl : (look hp s).isSome = true := by rw [hs]; rfl
                  refine ⟨S, p :: ps, .cons ms t ts _ xs c cs p ps ?_ k1 (fun b o o' e1 e2 => ?_), fun s' hs' => ⟨(live s' (k2 s' hs').1).1, (k2 s' hs').2⟩, fun b o hb => ?_⟩
                  · rw [hm]; exact .fresh t e _ c p hu hp1 hp2
                  · obtain ⟨o0, q0⟩ := hp3 b o e1
                    obtain ⟨s', o0', q1, q2, q3, q4⟩ := k3 b o' e2
                    obtain ⟨g1, g2⟩ := live s' q1
                    obtain ⟨blk, hb⟩ := Option.isSome_iff_exists.1 g1
                    have := r.inj s' s b o0' o0 (by rw [hsub _ _ hb]; rfl) (by rw [hs']; rfl) q4 q0
                    exact g2 (by simp [this])
                  · rcases List.mem_cons.1 hb with hb | hb
                    · obtain ⟨o0, q0⟩ := hp3 b o hb.symm
                      exact ⟨s, o0, hsl, fun hS => (live s (k2 s hS).1).2 (by simp), hlt, q0⟩
                    · obtain ⟨s', o0, q1, q2, q3, q4⟩ := k3 b o hb
                      exact ⟨s', o0, (live s' q1).1, q2, q3, q4⟩
              · cases hx
            · simp only [Option.some.injEq, Prod.mk.injEq] at hx
              obtain ⟨rfl, rfl⟩ := hx
              refine plain _ rfl ?_
              rw [hm]
              have hc : c = .slice none 0 0 := by cases hv; rename_i hv; cases hv; rfl
              subst hc
              exact .fresh t e [] _ none hu (.arrE _ _) (.sliceE 0 0 _ _ [] none rfl (by simp))
            · cases hx
          · cases hx
        | alias j =>
          simp only [retVal] at hx
          split at hx
          · rename_i s z off len e hu
            cases hc : s == argSite + j && z == (shapeT T e).2.length with
            | false => rw [hc] at hx; cases hx
            | true =>
              rw [hc] at hx
              simp only [cond_true, Option.some.injEq, Prod.mk.injEq] at hx
              obtain ⟨rfl, rfl⟩ := hx
              simp only [Bool.and_eq_true, beq_iff_eq] at hc
              obtain ⟨rfl, rfl⟩ := hc
              refine plain _ rfl ?_
              rw [hm]
              have : ∃ blk, look st.heap (argSite + j) = some blk := by
                generalize (shapeT T e).2.length = z at hv
                cases hv with
                | slice _ _ _ a ks xs b o cap hs hl hb hcap hr => exact ⟨_, hs⟩
                | sliceE _ _ a ks xs base hs hl => exact ⟨_, hs⟩
              obtain ⟨blk, hb⟩ := this
              obtain ⟨g1, g2⟩ := hend j blk hb
              exact .alias j t e off len c hu (hv.slice_move hb g1 g2)
          · cases hx
      · cases h
    · cases h
  | [], ms, v :: vs, cs, rs, hp, h, _, _ => by simp [retVals] at h
  | t :: ts, ms, [], cs, rs, hp, h, _, _ => by simp [retVals] at h

theorem argsBack_ok {hp : Heap} : ∀ {bl bl' : List Blk} {k : Nat}, argsBack hp k bl = some bl' → bl'.length = bl.length ∧ ∀ (i : Nat) (b0 b1 : Blk), bl[i]? = some b0 → bl'[i]? = some b1 → look hp (argSite + (k + i)) = some b1 ∧ pureBlk b1 = true ∧ backOk b0 b1 = true
  | [], bl', k, h => by
    simp [argsBack] at h; subst h
    exact ⟨rfl, fun i b0 b1 h => by simp at h⟩
  | b0 :: r, bl', k, h => by
    simp only [argsBack] at h
    split at h
    · rename_i b bs h1 h2
      cases hc : pureBlk b && backOk b0 b with
      | false => rw [hc] at h; cases h
      | true =>
        rw [hc] at h
        simp only [cond_true, Option.some.injEq] at h
        subst h
        simp only [Bool.and_eq_true] at hc
        obtain ⟨g1, g2⟩ := argsBack_ok h2
        refine ⟨by simp [g1], fun i c0 c1 e1 e2 => ?_⟩
        cases i with
        | zero => simp at e1 e2; subst e1 e2; exact ⟨h1, hc⟩
        | succ i =>
          simp at e1 e2
          rw [show k + (i + 1) = k + 1 + i from by omega]
          exact g2 i c0 c1 e1 e2
    · cases h

theorem BR.pure_mono {M' : Nat → Prop} {β' : Nat → Option (Nat × Nat)} {h h' : Nat → Option Blk} {s s' : Nat} {blk : Blk} (hM : ∀ b, M b → M' b) (hb : BR w M β h s blk) (hp : pureBlk blk = true) (e : β' s' = β s) : BR w M' β' h' s' blk := by
  have hM' : ∀ b, M b → M' b ∧ w.heap[b]? = w.heap[b]? := fun b h => ⟨hM b h, rfl⟩
  have hb1 := hb.pure_move (β' := β') (h' := h') hp e
  cases hb1 with
  | arrE => exact .arrE _ _
  | arr _ _ _ b o C e' fr g1 g2 g3 g4 g5 g6 => exact .arr _ _ _ b o C e' fr g1 g2 g3 g4 g5 fun i x j c h1 h2 => (g6 i x j c h1 h2).mono hM'
  | box cs b o C e' fr g1 g2 g3 g4 g5 g6 =>
    refine .box cs b o C e' fr g1 g2 g3 g4 g5 fun j c hc => ?_
    simp only [pureBlk, Option.isSome_iff_exists] at hp
    obtain ⟨vs, hp⟩ := hp
    have hcs := pures_ok hp
    subst hcs
    have hc' := g6 j c hc
    simp only [List.getElem?_map, Option.map_eq_some_iff] at hc
    obtain ⟨x, _, rfl⟩ := hc
    generalize C.getD (o + j) undef = u at hc'
    cases hc' with
    | p _ _ hv => exact .p _ _ (hv.mono hM')

/-- A frame begins. -/
theorem Rel.start {args : List AV} {bl : List Blk} {cargs : Array Value} (hp : CallPre w M β args bl cargs) (fn : Func) :
    Rel w (fun b => ∃ i o, i < bl.length ∧ β (argSite + i) = some (b, o)) M M β (startSt fn args bl) { tmps := cargs ++ Array.replicate (fn.ntmps - cargs.size) undef, defers := [] } w := by
  have hn := hp.num
  refine ⟨?_, fun t v ht => ?_, fun s blk hs => ?_, fun s b o hs hb => ?_, fun s s' b o o' hs hs' hb hb' => ?_, hp.msub, fun b h => .inl h, fun b h => h, fun b _ _ => rfl, fun b n _ _ h => h, Nat.le_refl _, rfl, rfl, rfl, rfl⟩
  · simp [startSt, hn]
  · by_cases hlt : t < args.length
    · have ht' : args[t]? = some v := by
        simp only [startSt] at ht
        rwa [List.getElem?_append_left hlt] at ht
      have := hp.args t v ht'
      have e : (cargs ++ Array.replicate (fn.ntmps - cargs.size) undef).getD t undef = cargs.getD t undef := by
        rw [Array.getD_eq_getD_getElem?, Array.getD_eq_getD_getElem?, Array.getElem?_append_left (by omega)]
      rw [e]; exact this
    · have : v = .undef := by
        simp only [startSt] at ht
        rw [List.getElem?_append_right (by omega), List.getElem?_replicate] at ht
        split at ht
        · simpa using ht.symm
        · cases ht
      subst this
      exact .undef _
  · obtain ⟨i, h1, rfl, h2⟩ := init_key0 hs
    exact hp.blk i blk h2
  · obtain ⟨blk, hs⟩ := Option.isSome_iff_exists.1 hs
    obtain ⟨i, h1, rfl, h2⟩ := init_key0 hs
    obtain ⟨g1, g2⟩ := hp.own i b o h1 hb
    exact ⟨g1, g2, .inr ⟨by omega, i, o, h1, hb⟩⟩
  · obtain ⟨blk, hs⟩ := Option.isSome_iff_exists.1 hs
    obtain ⟨blk', hs'⟩ := Option.isSome_iff_exists.1 hs'
    obtain ⟨i, h1, rfl, h2⟩ := init_key0 hs
    obtain ⟨j, h1', rfl, h2'⟩ := init_key0 hs'
    rw [hp.inj i j b o o' h1 h1' hb hb']

/-- The functions that are answered, not run, are answered truly. -/
def ExtOk (P : Program) (T : Tab) (X : Ext) : Prop := ∀ f fi s args bl rs bl', tlook T.funcs f = some fi → X f = some s → s args bl = some (rs, bl') → (∃ c, fi.fn.body = some c) ∧
    ∀ (w : World) (M : Nat → Prop) (β : Nat → Option (Nat × Nat)) (cargs : Array Value), CallPre w M β args bl cargs →
      Calls P f cargs w fun e w' => ∃ cs ps M', e = .returned (wrapV cs) ∧ CallPost T fi w M β bl rs bl' w' M' cs ps

/-- A call, if the calls that it makes are true. -/
theorem call_step (ok : TabOk P T) {X : Ext} (hX : ExtOk P T X) {n : Nat} (hC : CallOk P T (acall T X n)) : CallOk P T (acall T X (n + 1)) := by
  intro f fi args bl rs bl' hf h
  simp only [acall, hf] at h
  cases hx : X f with
  | some s => rw [hx] at h; exact hX f fi s args bl rs bl' hf hx h
  | none =>
    rw [hx] at h
    simp only at h
    cases hb : fi.fn.body with
    | none => rw [hb] at h; cases h
    | some c =>
      rw [hb] at h
      simp only [forceAVs_eq, forceBlks_eq, forceSt_eq] at h
      refine ⟨⟨c, rfl⟩, fun w M β cargs hp => ?_⟩
      obtain ⟨hfn, hname, hdr, hret⟩ := ok.funcs f fi hf
      refine calls_of_wp hfn hb (sim_code (w0 := w) (Pr := fun b => ∃ i o, i < bl.length ∧ β (argSite + i) = some (b, o)) (M0 := M) (β0 := β) (hp0 := initHeap 0 bl) ok hC (ok.nvars f fi hf) c _ _ w _ _ h (hdr c hb) ⟨M, β, Rel.start hp fi.fn, fun _ _ => rfl, fun s _ b hb => ⟨b, hb, Like.refl b⟩, Nat.le_refl _⟩ fun ex st a w' hk i => ?_)
      have hk' : retK T fi.cfg fi.fn bl st = some (rs, bl') ∧ (ex = .normal ∨ ex = .ret) := by
        cases ex with
        | normal => exact ⟨hk, .inl rfl⟩
        | exit id => cases hk
        | ret => exact ⟨hk, .inr rfl⟩
      obtain ⟨hk, hex⟩ := hk'
      obtain ⟨M1, β1, r, e1, e2, e3⟩ := i
      have goal : a.defers = [] ∧ ∃ v, (results fi.fn a.tmps).run P w' = .ok v w' ∧ ∃ cs ps M', Ending.returned v = .returned (wrapV cs) ∧ CallPost T fi w M β bl rs bl' w' M' cs ps := by
        refine ⟨r.defers, ?_⟩
        unfold retK at hk
        split at hk
        · cases hk
        · rename_i vs hvs
          split at hk
          · rename_i rs' bl'' hrv hab
            simp only [forceAVs_eq, forceBlks_eq, Option.some.injEq, Prod.mk.injEq] at hk
            obtain ⟨rfl, rfl⟩ := hk
            obtain ⟨cs, g1, g2⟩ := resAll_ok ok r hvs
            obtain ⟨ab1, ab2⟩ := argsBack_ok hab
            have hold : ∀ j blk, look st.heap (argSite + j) = some blk → ∃ b0, bl[j]? = some b0 ∧ Like b0 blk := by
              intro j blk hj
              obtain ⟨b0, k1, k2⟩ := e2 (argSite + j) (by omega) blk hj
              rw [look_init0] at k1
              exact ⟨b0, k1, k2⟩
            have hend : ∀ j blk, look st.heap (argSite + j) = some blk → look (initHeap 0 bl'') (argSite + j) = some blk ∧ β (argSite + j) = β1 (argSite + j) := by
              intro j blk hj
              obtain ⟨b0, k1, k2⟩ := hold j blk hj
              refine ⟨?_, (e1 (argSite + j) (by omega)).symm⟩
              rw [look_init0]
              have hlt : j < bl''.length := by rw [ab1]; exact (List.getElem?_eq_some_iff.1 k1).1
              have := (ab2 j b0 bl''[j] k1 (by simp)).1
              rw [Nat.zero_add, hj] at this
              cases this
              simp
            obtain ⟨S, ps, q1, q2, q3⟩ := retVals_ok r hend hrv (fun _ _ h => h) g2
            have hup : ∀ b, M1 b → Mplus M1 β1 S b := fun b h => .inl h
            refine ⟨wrapV cs, run_results g1, cs, ps, Mplus M1 β1 S, rfl, ⟨q1, fun b o hb => ?_, fun b h => .inl (r.mold b h), fun b h => ?_, fun b h => ?_, fun b hb hn => ?_, fun b n hb hr => ?_, r.size, r.os, r.tape, r.output, e3, ab1, fun i b0 b1 h1 h2 => ?_⟩⟩
            · obtain ⟨s, o0, k1, k2, k3, k4⟩ := q3 b o hb
              obtain ⟨o1, o2, o3⟩ := r.own s b o0 k1 k4
              refine ⟨fun h => ?_, o2, ?_⟩
              · rcases h with h | ⟨s', o', hs', hb'⟩
                · exact o1 h
                · exact k2 (by rw [r.inj s s' b o0 o' k1 (q2 s' hs').1 k4 hb']; exact hs')
              · rcases o3 with o3 | o3
                · exact o3
                · omega
            · rcases h with h | ⟨s', o', hs', hb'⟩
              · exact r.mnew b h
              · obtain ⟨k1, k2⟩ := q2 s' hs'
                rcases (r.own s' b o' k1 hb').2.2 with o3 | o3
                · exact .inr o3
                · omega
            · rcases h with h | ⟨s', o', hs', hb'⟩
              · exact r.msub b h
              · exact (r.own s' b o' (q2 s' hs').1 hb').2.1
            · exact r.keep b hb fun ⟨i, o, hi, h⟩ => hn i o hi h
            · by_cases hpr : ∃ i o, i < bl.length ∧ β (argSite + i) = some (b, o)
              · exact r.room b n hb hpr hr
              · exact hr.of_block (r.keep b hb hpr)
            · obtain ⟨k1, k2, k3⟩ := ab2 i b0 b1 h1 h2
              rw [Nat.zero_add] at k1
              obtain ⟨b0', k4, k5⟩ := hold i b1 k1
              rw [h1] at k4; cases k4
              exact ⟨(r.heap _ _ k1).pure_mono hup k2 (e1 (argSite + i) (by omega)).symm, k5, k3, k2⟩
          · cases hk
      rcases hex with rfl | rfl
      · exact goal
      · exact goal

/-- THE MACHINE IS SOUND. -/
theorem acall_sound (ok : TabOk P T) {X : Ext} (hX : ExtOk P T X) : ∀ n, CallOk P T (acall T X n)
  | 0 => fun f fi args bl rs bl' _ h => by simp [acall] at h
  | n + 1 => call_step ok hX (acall_sound ok hX n)
end
end Go.Skm
/-
  The machine without fuel: a call that ends is one that ends with some fuel; condition: TabOk where soundness is claimed.
-/
namespace Go.Skm
section
variable {α β : Type}
open Classical in
/-- What some fuel gives. -/
noncomputable def lim (f : Nat → Option α) : Option α := if h : ∃ x n, f n = some x then some h.choose else none
def Mono (f : Nat → Option α) : Prop := ∀ n m x, n ≤ m → f n = some x → f m = some x
theorem lim_some {f : Nat → Option α} {x : α} (h : lim f = some x) : ∃ n, f n = some x := by
  unfold lim at h
  split at h
  · rename_i h'
    have := h'.choose_spec
    simp only [Option.some.injEq] at h
    rwa [h] at this
  · cases h
theorem lim_of {f : Nat → Option α} (hm : Mono f) {x : α} {n : Nat} (h : f n = some x) : lim f = some x := by
  have hex : ∃ x n, f n = some x := ⟨x, n, h⟩
  unfold lim
  rw [dif_pos hex]
  obtain ⟨m, hm'⟩ := hex.choose_spec
  have h1 := hm n (max n m) x (by omega) h
  have h2 := hm m (max n m) _ (by omega) hm'
  rw [h1] at h2
  exact h2.symm

noncomputable def loopI (fg : St → St) (body : St → (Ex → St → Option α) → Option α) (st : St) (k : Ex → St → Option α) : Option α := lim fun m => loopN fg body m st k
def LeK (k k' : Ex → St → Option α) : Prop := ∀ ex st x, k ex st = some x → k' ex st = some x
def LeB (b b' : St → (Ex → St → Option α) → Option α) : Prop := ∀ st k k' x, LeK k k' → b st k = some x → b' st k' = some x
def LeC (C C' : CallF) : Prop := ∀ f a b x, C f a b = some x → C' f a b = some x
theorem LeK.refl (k : Ex → St → Option α) : LeK k k := fun _ _ _ h => h
theorem LeC.refl (C : CallF) : LeC C C := fun _ _ _ _ h => h

/-- What a loop does behind a round. -/
def next (fg : St → St) (L : St → Option α) (k : Ex → St → Option α) : Ex → St → Option α
  | .normal, st => forceSt (fg st) L
  | .exit id, st => k (.exit id) st
  | .ret, st => k .ret st
theorem loopN_succ {fg : St → St} {body : St → (Ex → St → Option α) → Option α} {m : Nat} {st : St} {k : Ex → St → Option α} : loopN fg body (m + 1) st k = body st (next fg (fun st' => loopN fg body m st' k) k) := by
  simp only [loopN]
  congr 1
  funext ex st'
  cases ex <;> rfl
theorem next_le {fg : St → St} {L L' : St → Option α} {k k' : Ex → St → Option α} (hL : ∀ st x, L st = some x → L' st = some x) (hk : LeK k k') : LeK (next fg L k) (next fg L' k') := by
  intro ex st x h
  cases ex with
  | normal => simp only [next, forceSt_eq] at h ⊢; exact hL _ _ h
  | exit id => exact hk _ _ _ h
  | ret => exact hk _ _ _ h
theorem loopN_mono {fg : St → St} {b b' : St → (Ex → St → Option α) → Option α} (hb : LeB b b') : ∀ {m m' : Nat} {st : St} {k k' : Ex → St → Option α} {x : α}, m ≤ m' → LeK k k' → loopN fg b m st k = some x → loopN fg b' m' st k' = some x
  | 0, _, _, _, _, _, _, _, h => by simp [loopN] at h
  | m + 1, 0, _, _, _, _, hm, _, _ => by omega
  | m + 1, m' + 1, st, k, k', x, hm, hk, h => by
    rw [loopN_succ] at h ⊢
    exact hb _ _ _ _ (next_le (fun st x h => loopN_mono hb (by omega) hk h) hk) h
theorem loopI_mono {fg : St → St} {b b' : St → (Ex → St → Option α) → Option α} (hb : LeB b b') (hb' : LeB b' b') {st : St} {k k' : Ex → St → Option α} {x : α} (hk : LeK k k') (h : loopI fg b st k = some x) : loopI fg b' st k' = some x := by
  obtain ⟨m, hm⟩ := lim_some h
  exact lim_of (fun n m x hnm h => loopN_mono hb' hnm (LeK.refl _) h) (loopN_mono hb (Nat.le_refl m) hk hm)
end

section
variable {α : Type} (T : Tab)
/-- The machine's code without fuel. -/
noncomputable def runCodeI (C : CallF) (F : FI) : Code → St → (Ex → St → Option α) → Option α
  | .skip, st, k => k .normal st
  | .region id ops draw, st, k =>
    match draw with
    | false => runOps T C false [] ops.toList ops.toList 0 st fun st' => forceSt (rehomes F.cfg.nvars ops.toList st') fun st' => k .normal st'
    | true =>
      match tlook F.hides id with
      | some hd => forceSt (st.strike (present st.heap (allSites ops.toList))) fun st => runOps T C true hd ops.toList ops.toList 0 st fun st' => forceSt (rehomes F.cfg.nvars ops.toList st') fun st' => k .normal st'
      | none => none
  | .seq a b, st, k => runCodeI C F a st fun ex st' =>
    match ex with
    | .normal => runCodeI C F b (forgetAt F.cfg b st') k
    | .exit id => k (.exit id) st'
    | .ret => k .ret st'
  | .cond c x y, st, k =>
    match evalO st.env c with
    | .p (.bool b) => cond b (runCodeI C F x st k) (runCodeI C F y st k)
    | _ => none
  | .block id c, st, k => runCodeI C F c st fun ex st' =>
    match ex with
    | .normal => k .normal st'
    | .exit i => bif i == id then k .normal st' else k (.exit i) st'
    | .ret => k .ret st'
  | .loop c, st, k => loopI (forgetAt F.cfg c) (fun st' k' => runCodeI C F c st' k') (forgetAt F.cfg c st) k
  | .exit id, st, k => k (.exit id) st
  | .ret, st, k => k .ret st
  | .label _, st, k => k .normal st
  | _, _, _ => none
def retC (F : FI) (bl : List Blk) : Ex → St → Option (List AV × List Blk)
  | .exit _, _ => none
  | .normal, st => retK T F.cfg F.fn bl st
  | .ret, st => retK T F.cfg F.fn bl st
noncomputable def acallI (C : CallF) : CallF := fun f args bl =>
  match tlook T.funcs f with
  | none => none
  | some fi =>
    match fi.fn.body with
    | none => none
    | some c => forceAVs T.strict args fun args => forceBlks T.strict bl fun bl => forceSt (startSt fi.fn args bl) fun st => runCodeI T C fi c st (retC T fi bl)
/-- A call that ends. -/
noncomputable def run (X : Ext) : CallF := fun f args bl => lim fun n => acall T X n f args bl
end

section
variable {α : Type} {T : Tab} {C C' : CallF}

/-- A step calls once at most. -/
theorem stepOp_shape (env : List AV) (h : Nat → Option Blk) (o : Oper) : (∃ D, ∀ C, stepOp T C env h o = D) ∨ ∃ f as_ bl g, ∀ C, stepOp T C env h o = .call (C f as_ bl) g := by
  have call : ∀ (d : Option Nat) (f : Nat) (args : List AV), (∃ D, ∀ C, stepCall T C h d f args = D) ∨ ∃ f' as_ bl g, ∀ C, stepCall T C h d f args = .call (C f' as_ bl) g := by
    intro d f args
    unfold stepCall
    split
    · split
      · split
        · exact .inr ⟨_, _, _, _, fun C => rfl⟩
        · exact .inl ⟨_, fun C => rfl⟩
      · simp only
        split
        · exact .inr ⟨_, _, _, _, fun C => rfl⟩
        · exact .inl ⟨_, fun C => rfl⟩
    · exact .inl ⟨_, fun C => rfl⟩
  obtain ⟨dst, op, type, pos, after, guard⟩ := o
  cases op with
  | call c =>
    obtain ⟨callee, args, ts⟩ := c
    cases callee with
    | builtin b => cases b <;> exact .inl ⟨_, fun C => rfl⟩
    | invoke r n => exact .inl ⟨_, fun C => rfl⟩
    | value f =>
      simp only [stepOp]
      split
      · exact call _ _ _
      · exact call _ _ _
      · exact .inl ⟨_, fun C => rfl⟩
  | _ => exact .inl ⟨_, fun C => rfl⟩

theorem act1_mono (hC : LeC C C') {all : List Oper} {o : Oper} {env : List AV} {h : Nat → Option Blk} {y : Option Eff} (h1 : act1 T C all o env h = some y) : act1 T C' all o env h = some y := by
  have go : ∀ {y : Option Eff}, ((stepOp T C env h o).run some).map some = some y → ((stepOp T C' env h o).run some).map some = some y := by
    intro y hy
    rcases stepOp_shape (T := T) env h o with ⟨D, hD⟩ | ⟨f, as_, bl, g, hD⟩
    · rw [hD] at hy ⊢; exact hy
    · rw [hD] at hy ⊢
      cases hc : C f as_ bl with
      | none => rw [hc] at hy; simp [DT.run] at hy
      | some r => rw [hc] at hy; rw [hC _ _ _ _ hc]; exact hy
  unfold act1 at h1 ⊢
  cases hg : o.guard with
  | none => rw [hg] at h1; exact go h1
  | some gw =>
    obtain ⟨g, want⟩ := gw
    rw [hg] at h1
    simp only at h1 ⊢
    cases hd : dstOf all g with
    | none => rw [hd] at h1; cases h1
    | some t =>
      rw [hd] at h1
      simp only at h1 ⊢
      by_cases hx : ∃ b, env.getD t .undef = .p (.bool b)
      · obtain ⟨b, hb⟩ := hx
        rw [hb] at h1 ⊢
        simp only at h1 ⊢
        split
        · rename_i hw; rw [if_pos hw] at h1; exact go h1
        · rename_i hw; rw [if_neg hw] at h1; exact h1
      · by_cases hh : env.getD t .undef = .tup []
        · rw [hh] at h1 ⊢; exact h1
        · split at h1
          · rename_i b hb; exact absurd ⟨b, hb⟩ hx
          · rename_i hb; exact absurd hb hh
          · cases h1
theorem step1_mono (hC : LeC C C') {draw : Bool} {hd : List Nat} {all : List Oper} {o : Oper} {st st' : St} (h1 : step1 T C draw hd all o st = some st') : step1 T C' draw hd all o st = some st' := by
  unfold step1 at h1 ⊢
  cases ha : act1 T C all o st.env (hideH hd (look st.heap)) with
  | none => rw [ha] at h1; cases h1
  | some y => rw [ha] at h1; rw [act1_mono hC ha]; exact h1
theorem runOps_mono (hC : LeC C C') {draw : Bool} {hd : List (List Nat)} {all : List Oper} {k k' : St → Option α} (hk : ∀ st x, k st = some x → k' st = some x) : ∀ {l : List Oper} {j : Nat} {st : St} {x : α}, runOps T C draw hd all l j st k = some x → runOps T C' draw hd all l j st k' = some x
  | [], j, st, x, h => hk _ _ h
  | o :: r, j, st, x, h => by
    rw [runOps_cons] at h ⊢
    cases h1 : step1 T C draw (hd.getD j []) all o st with
    | none => rw [h1] at h; cases h
    | some st1 => rw [h1] at h; rw [step1_mono hC h1]; exact runOps_mono hC hk (l := r) h

theorem seq_le {k k' : Ex → St → Option α} {f f' : St → Option α} (hf : ∀ st x, f st = some x → f' st = some x) (hk : LeK k k') :
    LeK (fun ex st' => match ex with | .normal => f st' | .exit id => k (.exit id) st' | .ret => k .ret st') (fun ex st' => match ex with | .normal => f' st' | .exit id => k' (.exit id) st' | .ret => k' .ret st') := by
  intro ex st x h
  cases ex with
  | normal => exact hf _ _ h
  | exit id => exact hk _ _ _ h
  | ret => exact hk _ _ _ h
theorem block_le {k k' : Ex → St → Option α} {id : Nat} (hk : LeK k k') :
    LeK (fun ex st' => match ex with | .normal => k .normal st' | .exit i => bif i == id then k .normal st' else k (.exit i) st' | .ret => k .ret st') (fun ex st' => match ex with | .normal => k' .normal st' | .exit i => bif i == id then k' .normal st' else k' (.exit i) st' | .ret => k' .ret st') := by
  intro ex st x h
  cases ex with
  | normal => exact hk _ _ _ h
  | exit i =>
    simp only at h ⊢
    cases hi : i == id with
    | true => rw [hi] at h; exact hk _ _ _ h
    | false => rw [hi] at h; exact hk _ _ _ h
  | ret => exact hk _ _ _ h

/-- More calls, more fuel, more behind: no less. -/
theorem runCode_mono (hC : LeC C C') {F : FI} {n n' : Nat} (hn : n ≤ n') : ∀ {c : Code} {st : St} {k k' : Ex → St → Option α} {x : α}, LeK k k' → runCode T C F n c st k = some x → runCode T C' F n' c st k' = some x
  | .skip, st, k, k', x, hk, h => hk _ _ _ h
  | .region id ops draw, st, k, k', x, hk, h => by
    cases draw with
    | false => exact runOps_mono hC (fun st x h => by rw [forceSt_eq] at h ⊢; exact hk _ _ _ h) h
    | true =>
      simp only [runCode] at h ⊢
      cases hh : tlook F.hides id with
      | none => rw [hh] at h; cases h
      | some hd =>
        rw [hh] at h
        simp only [forceSt_eq] at h ⊢
        exact runOps_mono hC (fun st x h => hk _ _ _ h) h
  | .seq y z, st, k, k', x, hk, h => runCode_mono hC hn (c := y) (seq_le (fun st x h => runCode_mono hC hn (c := z) hk h) hk) h
  | .cond c y z, st, k, k', x, hk, h => by
    simp only [runCode] at h ⊢
    split
    · rename_i b hb
      rw [hb] at h
      cases b with
      | true => exact runCode_mono hC hn (c := y) hk h
      | false => exact runCode_mono hC hn (c := z) hk h
    · rename_i hx
      split at h
      · rename_i b hb; exact absurd hb (hx b)
      · cases h
  | .block id c, st, k, k', x, hk, h => runCode_mono hC hn (c := c) (block_le hk) h
  | .loop c, st, k, k', x, hk, h => loopN_mono (b := fun st' k' => runCode T C F n c st' k') (b' := fun st' k' => runCode T C' F n' c st' k') (fun st k k' x hk h => runCode_mono hC hn (c := c) hk h) hn hk h
  | .exit id, st, k, k', x, hk, h => hk _ _ _ h
  | .ret, st, k, k', x, hk, h => hk _ _ _ h
  | .label _, st, k, k', x, hk, h => hk _ _ _ h
  | .rangeFunc .., st, k, k', x, hk, h => by simp [runCode] at h
  | .scope .., st, k, k', x, hk, h => by simp [runCode] at h
  | .goto .., st, k, k', x, hk, h => by simp [runCode] at h
  | .refuse .., st, k, k', x, hk, h => by simp [runCode] at h
theorem runCodeI_monoK {F : FI} : ∀ {c : Code} {st : St} {k k' : Ex → St → Option α} {x : α}, LeK k k' → runCodeI T C F c st k = some x → runCodeI T C F c st k' = some x
  | .skip, st, k, k', x, hk, h => hk _ _ _ h
  | .region id ops draw, st, k, k', x, hk, h => by
    cases draw with
    | false => exact runOps_mono (LeC.refl C) (fun st x h => by rw [forceSt_eq] at h ⊢; exact hk _ _ _ h) h
    | true =>
      simp only [runCodeI] at h ⊢
      cases hh : tlook F.hides id with
      | none => rw [hh] at h; cases h
      | some hd =>
        rw [hh] at h
        simp only [forceSt_eq] at h ⊢
        exact runOps_mono (LeC.refl C) (fun st x h => hk _ _ _ h) h
  | .seq y z, st, k, k', x, hk, h => runCodeI_monoK (c := y) (seq_le (fun st x h => runCodeI_monoK (c := z) hk h) hk) h
  | .cond c y z, st, k, k', x, hk, h => by
    simp only [runCodeI] at h ⊢
    split
    · rename_i b hb
      rw [hb] at h
      cases b with
      | true => exact runCodeI_monoK (c := y) hk h
      | false => exact runCodeI_monoK (c := z) hk h
    · rename_i hx
      split at h
      · rename_i b hb; exact absurd hb (hx b)
      · cases h
  | .block id c, st, k, k', x, hk, h => runCodeI_monoK (c := c) (block_le hk) h
  | .loop c, st, k, k', x, hk, h => loopI_mono (b := fun st' k' => runCodeI T C F c st' k') (b' := fun st' k' => runCodeI T C F c st' k') (fun st k k' x hk h => runCodeI_monoK (c := c) hk h) (fun st k k' x hk h => runCodeI_monoK (c := c) hk h) hk h
  | .exit id, st, k, k', x, hk, h => hk _ _ _ h
  | .ret, st, k, k', x, hk, h => hk _ _ _ h
  | .label _, st, k, k', x, hk, h => hk _ _ _ h
  | .rangeFunc .., st, k, k', x, hk, h => by simp [runCodeI] at h
  | .scope .., st, k, k', x, hk, h => by simp [runCodeI] at h
  | .goto .., st, k, k', x, hk, h => by simp [runCodeI] at h
  | .refuse .., st, k, k', x, hk, h => by simp [runCodeI] at h
theorem runCodeI_mono (hC : LeC C C') {F : FI} : ∀ {c : Code} {st : St} {k k' : Ex → St → Option α} {x : α}, LeK k k' → runCodeI T C F c st k = some x → runCodeI T C' F c st k' = some x
  | .skip, st, k, k', x, hk, h => hk _ _ _ h
  | .region id ops draw, st, k, k', x, hk, h => by
    cases draw with
    | false => exact runOps_mono hC (fun st x h => by rw [forceSt_eq] at h ⊢; exact hk _ _ _ h) h
    | true =>
      simp only [runCodeI] at h ⊢
      cases hh : tlook F.hides id with
      | none => rw [hh] at h; cases h
      | some hd =>
        rw [hh] at h
        simp only [forceSt_eq] at h ⊢
        exact runOps_mono hC (fun st x h => hk _ _ _ h) h
  | .seq y z, st, k, k', x, hk, h => runCodeI_mono hC (c := y) (seq_le (fun st x h => runCodeI_mono hC (c := z) hk h) hk) h
  | .cond c y z, st, k, k', x, hk, h => by
    simp only [runCodeI] at h ⊢
    split
    · rename_i b hb
      rw [hb] at h
      cases b with
      | true => exact runCodeI_mono hC (c := y) hk h
      | false => exact runCodeI_mono hC (c := z) hk h
    · rename_i hx
      split at h
      · rename_i b hb; exact absurd hb (hx b)
      · cases h
  | .block id c, st, k, k', x, hk, h => runCodeI_mono hC (c := c) (block_le hk) h
  | .loop c, st, k, k', x, hk, h => loopI_mono (b := fun st' k' => runCodeI T C F c st' k') (b' := fun st' k' => runCodeI T C' F c st' k') (fun st k k' x hk h => runCodeI_mono hC (c := c) hk h) (fun st k k' x hk h => runCodeI_monoK (c := c) hk h) hk h
  | .exit id, st, k, k', x, hk, h => hk _ _ _ h
  | .ret, st, k, k', x, hk, h => hk _ _ _ h
  | .label _, st, k, k', x, hk, h => hk _ _ _ h
  | .rangeFunc .., st, k, k', x, hk, h => by simp [runCodeI] at h
  | .scope .., st, k, k', x, hk, h => by simp [runCodeI] at h
  | .goto .., st, k, k', x, hk, h => by simp [runCodeI] at h
  | .refuse .., st, k, k', x, hk, h => by simp [runCodeI] at h
theorem runCode_le (hC : LeC C C') {F : FI} {n : Nat} : ∀ {c : Code} {st : St} {k k' : Ex → St → Option α} {x : α}, LeK k k' → runCode T C F n c st k = some x → runCodeI T C' F c st k' = some x
  | .skip, st, k, k', x, hk, h => hk _ _ _ h
  | .region id ops draw, st, k, k', x, hk, h => by
    cases draw with
    | false => exact runOps_mono hC (fun st x h => by rw [forceSt_eq] at h ⊢; exact hk _ _ _ h) h
    | true =>
      simp only [runCodeI, runCode] at h ⊢
      cases hh : tlook F.hides id with
      | none => rw [hh] at h; cases h
      | some hd =>
        rw [hh] at h
        simp only [forceSt_eq] at h ⊢
        exact runOps_mono hC (fun st x h => hk _ _ _ h) h
  | .seq y z, st, k, k', x, hk, h => runCode_le hC (c := y) (seq_le (fun st x h => runCode_le hC (c := z) hk h) hk) h
  | .cond c y z, st, k, k', x, hk, h => by
    simp only [runCodeI, runCode] at h ⊢
    split
    · rename_i b hb
      rw [hb] at h
      cases b with
      | true => exact runCode_le hC (c := y) hk h
      | false => exact runCode_le hC (c := z) hk h
    · rename_i hx
      split at h
      · rename_i b hb; exact absurd hb (hx b)
      · cases h
  | .block id c, st, k, k', x, hk, h => runCode_le hC (c := c) (block_le hk) h
  | .loop c, st, k, k', x, hk, h => lim_of (f := fun m => loopN (forgetAt F.cfg c) (fun st' k' => runCodeI T C' F c st' k') m (forgetAt F.cfg c st) k') (n := n) (fun _ _ _ hnm h => loopN_mono (b := fun st' k' => runCodeI T C' F c st' k') (b' := fun st' k' => runCodeI T C' F c st' k') (fun st k k' x hk h => runCodeI_monoK (c := c) hk h) hnm (LeK.refl _) h)
      (loopN_mono (b := fun st' k' => runCode T C F n c st' k') (b' := fun st' k' => runCodeI T C' F c st' k') (fun st k k' x hk h => runCode_le hC (c := c) hk h) (Nat.le_refl n) hk h)
  | .exit id, st, k, k', x, hk, h => hk _ _ _ h
  | .ret, st, k, k', x, hk, h => hk _ _ _ h
  | .label _, st, k, k', x, hk, h => hk _ _ _ h
  | .rangeFunc .., st, k, k', x, hk, h => by simp [runCode] at h
  | .scope .., st, k, k', x, hk, h => by simp [runCode] at h
  | .goto .., st, k, k', x, hk, h => by simp [runCode] at h
  | .refuse .., st, k, k', x, hk, h => by simp [runCode] at h

/- WHAT ENDS, ENDS WITH SOME FUEL. -/
structure ApprC (Cn : Nat → CallF) (C : CallF) : Prop where
  mono : ∀ n m, n ≤ m → LeC (Cn n) (Cn m)
  lim : ∀ f a b x, C f a b = some x → ∃ n, Cn n f a b = some x
structure ApprK (kn : Nat → Ex → St → Option α) (k : Ex → St → Option α) : Prop where
  mono : ∀ n m, n ≤ m → LeK (kn n) (kn m)
  lim : ∀ ex st x, k ex st = some x → ∃ n, kn n ex st = some x

theorem act1_cont {Cn : Nat → CallF} (hC : ApprC Cn C) {all : List Oper} {o : Oper} {env : List AV} {h : Nat → Option Blk} {y : Option Eff} (h1 : act1 T C all o env h = some y) : ∃ n, act1 T (Cn n) all o env h = some y := by
  rcases stepOp_shape (T := T) env h o with ⟨D, hD⟩ | ⟨f, as_, bl, g, hD⟩
  · refine ⟨0, ?_⟩
    unfold act1 at h1 ⊢
    rw [hD] at h1 ⊢; exact h1
  · cases hc : C f as_ bl with
    | some r =>
      obtain ⟨n, hn⟩ := hC.lim _ _ _ _ hc
      refine ⟨n, ?_⟩
      unfold act1 at h1 ⊢
      rw [hD, hc] at h1
      rw [hD, hn]; exact h1
    | none =>
      refine ⟨0, ?_⟩
      unfold act1 at h1 ⊢
      rw [hD, hc] at h1
      cases hg : o.guard with
      | none => rw [hg] at h1; simp [DT.run] at h1
      | some gw =>
        obtain ⟨g', want⟩ := gw
        rw [hg] at h1
        simp only at h1 ⊢
        cases hd : dstOf all g' with
        | none => rw [hd] at h1; cases h1
        | some t =>
          rw [hd] at h1
          simp only at h1 ⊢
          by_cases hx : ∃ b, env.getD t .undef = .p (.bool b)
          · obtain ⟨b, hb⟩ := hx
            rw [hb] at h1 ⊢
            simp only at h1 ⊢
            split
            · rename_i hw; rw [if_pos hw] at h1; simp [DT.run] at h1
            · rename_i hw; rw [if_neg hw] at h1; exact h1
          · by_cases hh : env.getD t .undef = .tup []
            · rw [hh] at h1 ⊢; exact h1
            · split at h1
              · rename_i b hb; exact absurd ⟨b, hb⟩ hx
              · rename_i hb; exact absurd hb hh
              · cases h1
theorem step1_cont {Cn : Nat → CallF} (hC : ApprC Cn C) {draw : Bool} {hd : List Nat} {all : List Oper} {o : Oper} {st st' : St} (h1 : step1 T C draw hd all o st = some st') : ∃ n, step1 T (Cn n) draw hd all o st = some st' := by
  unfold step1 at h1
  cases ha : act1 T C all o st.env (hideH hd (look st.heap)) with
  | none => rw [ha] at h1; cases h1
  | some y =>
    obtain ⟨n, hn⟩ := act1_cont hC ha
    refine ⟨n, ?_⟩
    unfold step1
    rw [ha] at h1; rw [hn]; exact h1
theorem runOps_cont {Cn : Nat → CallF} (hC : ApprC Cn C) {draw : Bool} {hd : List (List Nat)} {all : List Oper} {kn : Nat → St → Option α} {k : St → Option α} (hm : ∀ n m st x, n ≤ m → kn n st = some x → kn m st = some x) (hk : ∀ st x, k st = some x → ∃ n, kn n st = some x) :
    ∀ {l : List Oper} {j : Nat} {st : St} {x : α}, runOps T C draw hd all l j st k = some x → ∃ n, runOps T (Cn n) draw hd all l j st (kn n) = some x
  | [], j, st, x, h => hk _ _ h
  | o :: r, j, st, x, h => by
    rw [runOps_cons] at h
    cases h1 : step1 T C draw (hd.getD j []) all o st with
    | none => rw [h1] at h; cases h
    | some st1 =>
      rw [h1] at h
      obtain ⟨n1, hn1⟩ := step1_cont hC h1
      obtain ⟨n2, hn2⟩ := runOps_cont hC hm hk (l := r) h
      refine ⟨max n1 n2, ?_⟩
      rw [runOps_cons, step1_mono (hC.mono n1 (max n1 n2) (by omega)) hn1]
      exact runOps_mono (hC.mono n2 (max n1 n2) (by omega)) (fun st x h => hm n2 _ st x (by omega) h) hn2

theorem seq_appr {kn : Nat → Ex → St → Option α} {k : Ex → St → Option α} (hk : ApprK kn k) {fn : Nat → St → Option α} {f : St → Option α} (hm : ∀ n m st x, n ≤ m → fn n st = some x → fn m st = some x) (hl : ∀ st x, f st = some x → ∃ n, fn n st = some x) :
    ApprK (fun n ex st' => match ex with | .normal => fn n st' | .exit id => kn n (.exit id) st' | .ret => kn n .ret st') (fun ex st' => match ex with | .normal => f st' | .exit id => k (.exit id) st' | .ret => k .ret st') :=
  ⟨fun n m h => seq_le (fun st x h' => hm n m st x h h') (hk.mono n m h), fun ex st x h => by
    cases ex with
    | normal => exact hl _ _ h
    | exit id => exact hk.lim _ _ _ h
    | ret => exact hk.lim _ _ _ h⟩
theorem block_appr {kn : Nat → Ex → St → Option α} {k : Ex → St → Option α} {id : Nat} (hk : ApprK kn k) :
    ApprK (fun n ex st' => match ex with | .normal => kn n .normal st' | .exit i => bif i == id then kn n .normal st' else kn n (.exit i) st' | .ret => kn n .ret st') (fun ex st' => match ex with | .normal => k .normal st' | .exit i => bif i == id then k .normal st' else k (.exit i) st' | .ret => k .ret st') :=
  ⟨fun n m h => block_le (hk.mono n m h), fun ex st x h => by
    cases ex with
    | normal => exact hk.lim _ _ _ h
    | exit i =>
      simp only at h ⊢
      cases hi : i == id with
      | true => rw [hi] at h; exact hk.lim _ _ _ h
      | false => rw [hi] at h; exact hk.lim _ _ _ h
    | ret => exact hk.lim _ _ _ h⟩
theorem next_eq {fg : St → St} {L : St → Option α} {k : Ex → St → Option α} : next fg L k = (fun ex st' => match ex with | .normal => forceSt (fg st') L | .exit id => k (.exit id) st' | .ret => k .ret st') := by
  funext ex st; cases ex <;> rfl

theorem runCode_cont {Cn : Nat → CallF} (hC : ApprC Cn C) {F : FI} : ∀ {c : Code} {st : St} {kn : Nat → Ex → St → Option α} {k : Ex → St → Option α} {x : α}, ApprK kn k → runCodeI T C F c st k = some x → ∃ n, runCode T (Cn n) F n c st (kn n) = some x
  | .skip, st, kn, k, x, hk, h => hk.lim _ _ _ h
  | .region id ops draw, st, kn, k, x, hk, h => by
    cases draw with
    | false =>
      exact runOps_cont hC (kn := fun n st' => forceSt (rehomes F.cfg.nvars ops.toList st') fun st' => kn n .normal st') (fun n m st x hnm h => by rw [forceSt_eq] at h ⊢; exact hk.mono n m hnm _ _ _ h) (fun st x h => by
        rw [forceSt_eq] at h
        obtain ⟨n, hn⟩ := hk.lim _ _ _ h
        exact ⟨n, by rw [forceSt_eq]; exact hn⟩) h
    | true =>
      simp only [runCodeI, runCode] at h ⊢
      cases hh : tlook F.hides id with
      | none => rw [hh] at h; cases h
      | some hd =>
        rw [hh] at h
        simp only [forceSt_eq] at h ⊢
        exact runOps_cont hC (kn := fun n st' => kn n .normal (rehomes F.cfg.nvars ops.toList st')) (fun n m st x hnm h => hk.mono n m hnm _ _ _ h) (fun st x h => hk.lim _ _ _ h) h
  | .seq y z, st, kn, k, x, hk, h => runCode_cont hC (c := y) (seq_appr hk (fn := fun n st' => runCode T (Cn n) F n z (forgetAt F.cfg z st') (kn n)) (fun n m st x hnm h => runCode_mono (hC.mono n m hnm) hnm (hk.mono n m hnm) h) (fun st x h => runCode_cont hC (c := z) hk h)) h
  | .cond c y z, st, kn, k, x, hk, h => by
    simp only [runCodeI, runCode] at h ⊢
    by_cases hx : ∃ b, evalO st.env c = .p (.bool b)
    · obtain ⟨b, hb⟩ := hx
      rw [hb] at h ⊢
      cases b with
      | true => exact runCode_cont hC (c := y) hk h
      | false => exact runCode_cont hC (c := z) hk h
    · split at h
      · rename_i b hb; exact absurd ⟨b, hb⟩ hx
      · cases h
  | .block id c, st, kn, k, x, hk, h => runCode_cont hC (c := c) (block_appr hk) h
  | .loop c, st, kn, k, x, hk, h => by
    obtain ⟨m, hm⟩ := lim_some h
    have key : ∀ m st x, loopN (forgetAt F.cfg c) (fun st' k' => runCodeI T C F c st' k') m st k = some x → ∃ n, loopN (forgetAt F.cfg c) (fun st' k' => runCode T (Cn n) F n c st' k') n st (kn n) = some x := by
      intro m
      induction m with
      | zero => intro st x h; simp [loopN] at h
      | succ m ih =>
        intro st x h
        rw [loopN_succ] at h
        have happ : ApprK (fun n => next (forgetAt F.cfg c) (fun st' => loopN (forgetAt F.cfg c) (fun st' k' => runCode T (Cn n) F n c st' k') n st' (kn n)) (kn n)) (next (forgetAt F.cfg c) (fun st' => loopN (forgetAt F.cfg c) (fun st' k' => runCodeI T C F c st' k') m st' k) k) :=
          ⟨fun n m hnm => next_le (fun st x h => loopN_mono (b := fun st' k' => runCode T (Cn n) F n c st' k') (b' := fun st' k' => runCode T (Cn m) F m c st' k') (fun st k k' x hk h => runCode_mono (hC.mono n m hnm) hnm (c := c) hk h) hnm (hk.mono n m hnm) h) (hk.mono n m hnm), fun ex st x h => by
            cases ex with
            | normal =>
              simp only [next, forceSt_eq] at h ⊢
              exact ih _ _ h
            | exit id => exact hk.lim _ _ _ h
            | ret => exact hk.lim _ _ _ h⟩
        obtain ⟨n, hn⟩ := runCode_cont hC (c := c) happ h
        refine ⟨n + 1, ?_⟩
        rw [loopN_succ]
        exact runCode_mono (hC.mono n (n + 1) (by omega)) (by omega) (next_le (fun st x h => loopN_mono (b := fun st' k' => runCode T (Cn n) F n c st' k') (b' := fun st' k' => runCode T (Cn (n + 1)) F (n + 1) c st' k') (fun st k k' x hk h => runCode_mono (hC.mono n (n + 1) (by omega)) (by omega) (c := c) hk h) (by omega) (hk.mono n (n + 1) (by omega)) h) (hk.mono n (n + 1) (by omega))) hn
    obtain ⟨n, hn⟩ := key m _ x hm
    exact ⟨n, hn⟩
  | .exit id, st, kn, k, x, hk, h => hk.lim _ _ _ h
  | .ret, st, kn, k, x, hk, h => hk.lim _ _ _ h
  | .label _, st, kn, k, x, hk, h => hk.lim _ _ _ h
  | .rangeFunc .., st, kn, k, x, hk, h => by simp [runCodeI] at h
  | .scope .., st, kn, k, x, hk, h => by simp [runCodeI] at h
  | .goto .., st, kn, k, x, hk, h => by simp [runCodeI] at h
  | .refuse .., st, kn, k, x, hk, h => by simp [runCodeI] at h

/-- One round of a loop. -/
theorem loop_of {C : CallF} {F : FI} {c : Code} {fg : St → St} {st : St} {k : Ex → St → Option α} {x : α} (h : runCodeI T C F c st (next fg (fun st' => loopI fg (fun st' k' => runCodeI T C F c st' k') st' k) k) = some x) : loopI fg (fun st' k' => runCodeI T C F c st' k') st k = some x := by
  have hb : LeB (fun st' k' => runCodeI (α := α) T C F c st' k') (fun st' k' => runCodeI T C F c st' k') := fun st k k' x hk h => runCodeI_mono (LeC.refl _) (c := c) hk h
  have happ : ApprK (fun n => next fg (fun st' => loopN fg (fun st' k' => runCodeI T C F c st' k') n st' k) k) (next fg (fun st' => loopI fg (fun st' k' => runCodeI T C F c st' k') st' k) k) :=
    ⟨fun n m hnm => next_le (fun st x h => loopN_mono hb hnm (LeK.refl _) h) (LeK.refl _), fun ex st x h => by
      cases ex with
      | normal =>
        simp only [next, forceSt_eq] at h ⊢
        exact lim_some h
      | exit id => exact ⟨0, h⟩
      | ret => exact ⟨0, h⟩⟩
  have hC : ApprC (fun _ => C) C := ⟨fun _ _ _ => LeC.refl _, fun _ _ _ _ h => ⟨0, h⟩⟩
  obtain ⟨n, hn⟩ := runCode_cont hC happ h
  have := runCode_le (LeC.refl C) (LeK.refl _) hn
  exact lim_of (n := n + 1) (fun _ _ _ hnm h => loopN_mono hb hnm (LeK.refl _) h) (by rw [loopN_succ]; exact this)

theorem acall_mono {X : Ext} : ∀ {n m : Nat}, n ≤ m → LeC (acall T X n) (acall T X m)
  | 0, _, _ => fun f a b x h => by simp [acall] at h
  | n + 1, 0, hm => by omega
  | n + 1, m + 1, hm => fun f a b x h => by
    simp only [acall] at h ⊢
    split at h
    · cases h
    · rename_i fi hf
      split at h
      · exact h
      · rename_i hx
        split at h
        · cases h
        · rename_i c hc
          simp only [forceAVs_eq, forceBlks_eq, forceSt_eq] at h ⊢
          exact runCode_mono (acall_mono (by omega)) (by omega) (LeK.refl _) h
theorem run_appr {X : Ext} : ApprC (acall T X) (run T X) := ⟨fun _ _ h => acall_mono h, fun _ _ _ _ h => lim_some h⟩
theorem run_mono {X : Ext} {f : Nat} {a : List AV} {b : List Blk} : Mono fun n => acall T X n f a b := fun _n _m x hnm h => acall_mono hnm f a b x h

/-- A call, run. -/
theorem run_of {X : Ext} {f : Nat} {args : List AV} {bl : List Blk} {r : List AV × List Blk} (hX : X f = none) (h : acallI T (run T X) f args bl = some r) : run T X f args bl = some r := by
  unfold acallI at h
  split at h
  · cases h
  · rename_i fi hf
    split at h
    · cases h
    · rename_i c hc
      simp only [forceAVs_eq, forceBlks_eq, forceSt_eq] at h
      obtain ⟨n, hn⟩ := runCode_cont run_appr (kn := fun _ => retC T fi bl) ⟨fun _ _ _ => LeK.refl _, fun _ _ _ h => ⟨0, h⟩⟩ h
      refine lim_of (n := n + 1) run_mono ?_
      simp only [acall, hf, hX, hc, forceAVs_eq, forceBlks_eq, forceSt_eq]
      refine runCode_mono (LeC.refl _) (Nat.le_refl n) (fun ex st x h => ?_) hn
      cases ex <;> exact h
/-- A call, answered. -/
theorem run_ext {X : Ext} {f : Nat} {fi : FI} {s : List AV → List Blk → Option (List AV × List Blk)} {args : List AV} {bl : List Blk} {r : List AV × List Blk} (hf : tlook T.funcs f = some fi) (hX : X f = some s) (h : s args bl = some r) : run T X f args bl = some r :=
  lim_of (n := 1) run_mono (by simp only [acall, hf, hX]; exact h)
theorem run_sound {P : Program} (ok : TabOk P T) {X : Ext} (hX : ExtOk P T X) : CallOk P T (run T X) := by
  intro f fi args bl rs bl' hf h
  obtain ⟨n, hn⟩ := lim_some h
  exact acall_sound ok hX n f fi args bl rs bl' hf hn
end

/- PLACES IN A FUNCTION: a loop is named by the way to it. -/
section
variable {α : Type} (T : Tab) (C : CallF) (F : FI)
def codeAt : Code → List Nat → Code
  | c, [] => c
  | .seq a _, 0 :: p => codeAt a p
  | .seq _ b, _ :: p => codeAt b p
  | .cond _ a _, 0 :: p => codeAt a p
  | .cond _ _ b, _ :: p => codeAt b p
  | .block _ c, _ :: p => codeAt c p
  | .loop c, _ :: p => codeAt c p
  | c, _ => c
/-- The loop's body at a place. -/
def bodyAt (c : Code) (p : List Nat) : Code := match codeAt c p with | .loop b => b | _ => .skip
/-- What comes behind a place. -/
noncomputable def contAt : Code → List Nat → (Ex → St → Option α) → Ex → St → Option α
  | .seq a b, 0 :: p, k => contAt a p fun ex st' =>
    match ex with
    | .normal => runCodeI T C F b (forgetAt F.cfg b st') k
    | .exit id => k (.exit id) st'
    | .ret => k .ret st'
  | .seq _ b, _ :: p, k => contAt b p k
  | .cond _ a _, 0 :: p, k => contAt a p k
  | .cond _ _ b, _ :: p, k => contAt b p k
  | .block id c, _ :: p, k => contAt c p fun ex st' =>
    match ex with
    | .normal => k .normal st'
    | .exit i => bif i == id then k .normal st' else k (.exit i) st'
    | .ret => k .ret st'
  | _, _, k => k
/-- The loop at the end of this way of loops, from a state on. -/
noncomputable def loopAt : Code → (Ex → St → Option α) → List (List Nat) → St → Option α
  | _, _, [], _ => none
  | c, k, [p], st => loopI (forgetAt F.cfg (bodyAt c p)) (fun st' k' => runCodeI T C F (bodyAt c p) st' k') st (contAt T C F c p k)
  | c, k, p :: q :: r, st => loopAt (bodyAt c p) (next (forgetAt F.cfg (bodyAt c p)) (fun st' => loopI (forgetAt F.cfg (bodyAt c p)) (fun st' k' => runCodeI T C F (bodyAt c p) st' k') st' (contAt T C F c p k)) (contAt T C F c p k)) (q :: r) st
/-- Behind that loop. -/
noncomputable def behindAt : Code → (Ex → St → Option α) → List (List Nat) → Ex → St → Option α
  | _, k, [], ex, st => k ex st
  | c, k, [p], ex, st => contAt T C F c p k ex st
  | c, k, p :: q :: r, ex, st => behindAt (bodyAt c p) (next (forgetAt F.cfg (bodyAt c p)) (fun st' => loopI (forgetAt F.cfg (bodyAt c p)) (fun st' k' => runCodeI T C F (bodyAt c p) st' k') st' (contAt T C F c p k)) (contAt T C F c p k)) (q :: r) ex st
/-- One round of that loop. -/
noncomputable def roundAt : Code → (Ex → St → Option α) → List (List Nat) → St → Option α
  | _, _, [], _ => none
  | c, k, [p], st => runCodeI T C F (bodyAt c p) st (next (forgetAt F.cfg (bodyAt c p)) (fun st' => loopI (forgetAt F.cfg (bodyAt c p)) (fun st' k' => runCodeI T C F (bodyAt c p) st' k') st' (contAt T C F c p k)) (contAt T C F c p k))
  | c, k, p :: q :: r, st => roundAt (bodyAt c p) (next (forgetAt F.cfg (bodyAt c p)) (fun st' => loopI (forgetAt F.cfg (bodyAt c p)) (fun st' k' => runCodeI T C F (bodyAt c p) st' k') st' (contAt T C F c p k)) (contAt T C F c p k)) (q :: r) st
variable {T C F}
theorem loopAt_of {x : α} : ∀ {l : List (List Nat)} {c : Code} {k : Ex → St → Option α} {st : St}, roundAt T C F c k l st = some x → loopAt T C F c k l st = some x
  | [], _, _, _, h => by simp [roundAt] at h
  | [p], c, k, st, h => loop_of h
  | p :: q :: r, c, k, st, h => loopAt_of (l := q :: r) h
end
section
variable (T : Tab) (C : CallF) (f : Nat) (bl : List Blk)
noncomputable def fiOf : FI := match tlook T.funcs f with | some fi => fi | none => ⟨default, {}, []⟩
def codeOf (F : FI) : Code := match F.fn.body with | some c => c | none => .skip
/-- In function f (called with blocks bl): the loop at a way, behind it, one round of it. -/
noncomputable def L (l : List (List Nat)) (st : St) : Option (List AV × List Blk) := loopAt T C (fiOf T f) (codeOf (fiOf T f)) (retC T (fiOf T f) bl) l st
noncomputable def K (l : List (List Nat)) (ex : Ex) (st : St) : Option (List AV × List Blk) := behindAt T C (fiOf T f) (codeOf (fiOf T f)) (retC T (fiOf T f) bl) l ex st
noncomputable def R (l : List (List Nat)) (st : St) : Option (List AV × List Blk) := roundAt T C (fiOf T f) (codeOf (fiOf T f)) (retC T (fiOf T f) bl) l st
variable {T C f bl}
theorem L_of {l : List (List Nat)} {st : St} {x : List AV × List Blk} (h : R T C f bl l st = some x) : L T C f bl l st = some x := loopAt_of h
end
end Go.Skm
