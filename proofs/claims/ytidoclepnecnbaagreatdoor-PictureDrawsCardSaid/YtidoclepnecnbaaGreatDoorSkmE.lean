/-
  A machine that runs this program's functions on pure values, and the proof that what it returns is true of the program; no condition beside the hypotheses of each.
-/
import Derived.Test.YtidoclepnecnbaaGreatDoorSkmD
import Derived.ProofKit
import Derived.Lib.SplitLaws
import Derived.Lib.AtoiAll
import Derived.Lib.ItoaMem
import Derived.Lib.IndexBytes
import Derived.Laws.Strings
import Derived.Test.YtidoclepnecnbaaGreatDoorSkmA
namespace Go.Skm
open Go.RowKit
section
variable {P : Program} {T : Tab} {C : CallF} {G : Gv}
theorem rep_get (n i : Nat) : ((Array.replicate n undef)[i]?).getD undef = undef := by
  by_cases h : i < n <;> simp [h]
theorem arr_get {A : Array Value} {i : Nat} (h : i < A.toList.length) : A.toList[i]? = some (A.getD i undef) := by
  rw [List.getElem?_eq_getElem h]
  simp only [Array.length_toList] at h
  simp [h]
theorem yOp_fit {gl : List (Nat × Obj)} {wd : World} {Mk : Nat → Prop} {on : Bool} {done : List PV} {t0 : Array Value} {ys : List Nat} {yv : Value} {o : Oper} (h : yOp ys o = true) : OpFit (gcx gl wd Mk on done t0 ys yv) o := by
  refine ⟨fun _ _ => trivial, fun t ht hy => ?_⟩
  have hy : t ∈ ys := hy
  simp only [yOp, ht, Bool.and_eq_true] at h
  have h1 := h.1
  simp only [memN_iff.2 hy, cond_true] at h1
  split at h1
  · rename_i s hs; exact ⟨s, memN_iff.1 h1, .inl hs⟩
  · rename_i s hs; exact ⟨s, memN_iff.1 h1, .inr hs⟩
  · cases h1
theorem ysFrom_mem {n : Nat} : ∀ {l : List Nat}, ysFrom n l = true → ∀ t ∈ l, t = 0 ∨ n < t
  | [], _, t, ht => by simp at ht
  | x :: r, h, t, ht => by
    simp only [ysFrom, Bool.and_eq_true, Bool.or_eq_true] at h
    rcases List.mem_cons.1 ht with rfl | ht
    · exact h.1.imp Nat.eq_of_beq_eq_true Nat.le_of_ble_eq_true
    · exact ysFrom_mem h.2 t ht
theorem yOps_mem {ys : List Nat} : ∀ {l : List Oper}, yOps ys l = true → ∀ o ∈ l, yOp ys o = true
  | [], _, o, ho => by simp at ho
  | x :: r, h, o, ho => by
    simp only [yOps, Bool.and_eq_true] at h
    rcases List.mem_cons.1 ho with rfl | ho
    · exact h.1
    · exact yOps_mem h.2 o ho
theorem sim_textG (ok : TabOk P T) (hC : CallOk P T G.gl C) (hG : G.Ok P) {hd : List (List Nat)} {ops : Array Oper} {k : St → Option (List AV × List Blk)} (hk : ∀ st x, k st = some x → Has x st) {Q : Exit → Act → World → Prop}
    (hQ : ∀ x st' a' w', k st' = some x → GI G x st' a' w' → Q .normal a' w') : ∀ (l : List Oper) (j : Nat) (st : St) (a : Act) (w : World) (x : List AV × List Blk), (∀ o ∈ l, yOp G.ys o = true) → runOps T C false hd ops.toList l j st k = some x → GI G x st a w →
    wpListIn (FW none) 0 P ops Q l a w
  | [], j, st, a, w, x, _, h, i => hQ x st a w h i
  | o :: rest, j, st, a, w, x, hw, h, gi => by
    have ih := fun st' a' w' x' h i => sim_textG (hd := hd) (ops := ops) ok hC hG hk hQ rest (j + 1) st' a' w' x' (fun o ho => hw o (by simp [ho])) h i
    have step : ∀ st1, step1 T C false (hd.getD j []) ops.toList o st = some st1 → runOps T C false hd ops.toList rest (j + 1) st1 k = some x → wpListIn (FW none) 0 P ops Q (o :: rest) a w := by
      intro st1 h1 h
      obtain ⟨wd, Mk, on, done, i, g1, g2⟩ := gi
      have := sim1 ok hC rfl (yOp_fit (hw o (by simp))) i h1 (rd := none) (n := 0) (K := wpListIn (FW none) 0 P ops Q rest) (fun a' w' i' => ih st1 a' w' x h ⟨wd, Mk, on, done, i', fun b zs hb => g1 b zs (step1_log h1 b zs hb), g2⟩) (Q := Q)
      unfold wpListIn
      split
      · rename_i hw; rw [if_pos hw] at this; exact this
      · rename_i hw; rw [if_neg hw] at this; exact ⟨fun _ _ => trivial, this⟩
    cases hy : yieldAt false st o with
    | none =>
      rw [runOps_cons _ _ hy] at h
      cases h1 : step1 T C false (hd.getD j []) ops.toList o st with
      | none => rw [h1] at h; cases h
      | some st1 => rw [h1] at h; exact step st1 h1 h
    | some p =>
      obtain ⟨xs, vs⟩ := p
      rw [runOps_yield _ _ hy] at h
      cases hg : guardOf ops.toList o st.env with
      | none => rw [hg] at h; cases h
      | some b =>
        rw [hg] at h
        cases b with
        | false => exact step _ (by unfold step1; rw [act1_guard, hg]) h
        | true =>
          obtain ⟨no, hno, hyes⟩ := fork_some h
          obtain ⟨c, ss, ty, _, hop, hce, hyl, hlog, hdp⟩ := yieldAt_log hy
          obtain ⟨wd, Mk, on, done, i, g1, g2, g3, g4⟩ := gi
          obtain ⟨rfl, rfl⟩ := g1 _ _ hlog
          have hwant := wanted_guard rfl i hg
          rcases g4 with ⟨_, restL, O, k1, k2, k3⟩ | ⟨hf, _⟩
          case inr => cases hf
          have i0 := i
          obtain ⟨M, β, L, ds, r, i1, i2, i3, fx⟩ := i0
          have hgrow : Grows G.gl wd w := r.turns i3
          have hgs : wd.heap.size ≤ w.heap.size := r.size
          obtain ⟨b', zs, q1, ys, q2⟩ := has_ops hk rest (j + 1) _ x hyes
          rw [afterYield_look] at q1
          cases q1
          have hrest : restL = .agg vs :: ys := by
            rw [q2, List.append_assoc] at k1
            exact (List.append_cancel_left k1).symm
          subst hrest
          unfold wpListIn
          rw [hwant, if_pos rfl]
          refine wpIn_exec (fun c' hc' => by rw [hop] at hc'; cases hc') ?_
          obtain ⟨dst, op, type, pos, after, guard⟩ := o
          simp only at hop
          subst hop
          obtain ⟨callee, args, ts⟩ := c
          simp only at hce hdp
          subst hce
          have hyo := hw _ List.mem_cons_self
          simp only [yOp, Bool.and_eq_true] at hyo
          have hty : ty ∈ G.ys := memN_iff.1 hyo.2
          have hdst : ∀ t, dst = some t → t ∉ G.ys := fun t e ht => by
            subst e
            have := hyo.1
            simp only [memN_iff.2 ht, cond_true] at this
            cases this
          have hev : a.eval (.tmp ty) = .func (.yield G.l) #[] #[] := by
            show a.tmps.getD ty undef = _
            rcases fx.yl ty hty with h | h
            · exact h
            · have hs := r.slot ty
              rw [hyl, h] at hs
              cases hs
          rw [exec_yield hev]
          have hls : ListR w M β (look st.heap) (evalOs st.env args.toList) (args.map a.eval).toList := by
            rw [Array.toList_map]
            exact r.evalOs _
          obtain ⟨d1, d2, d3⟩ := deeps_ok r.heap (fun _ _ h => h) hdp hls
          have hlt := hG.lt _ _ _ k2
          obtain ⟨fn, tmps, asg, body, hrun, hround⟩ := hG.y vs ys O w (Mplus M β ss) (args.map a.eval) (hG.j _ _ _ _ k2 hgrow) (by omega) (fun b hb => by
            have out : ∀ b, wd.heap.size ≤ b → ¬ O b ∧ (G.M0 b ∨ G.W0.heap.size ≤ b) := fun b hb => ⟨fun ho => by have := hlt b ho; omega, by right; omega⟩
            rcases hb with hb | ⟨s, o', hs, hb⟩
            · refine ⟨r.msub b hb, ?_⟩
              rcases r.mnew b hb with h | ⟨h, _⟩
              · exact ⟨k3 b h, (g3 b h).2⟩
              · exact out b h
            · obtain ⟨o1, o2, o3, _⟩ := r.own s b o' (d3 s hs) hb
              refine ⟨o2, ?_⟩
              rcases o3 with h | h
              · exact out b h
              · exact h.elim) (by rw [← Array.length_toList]; exact d1.symm) (fun i c hc => by
            have hi : i < (args.map a.eval).toList.length := by rw [← d1]; exact (List.getElem?_eq_some_iff.1 hc).1
            exact d2 i c _ hc (arr_get hi))
          rw [hrun, Oper.uponIn_round]
          refine ⟨FW_depth none, RoundIn.mono hround fun e W' hR => ?_⟩
          obtain ⟨ht, (⟨rfl, O', hJ, hO⟩ | ⟨rfl, hJx⟩)⟩ := hR
          · exact ih _ _ W' x hyes (GI.after hG i hlog g2 g3 k2 k3 ht hdst true (.inl ⟨rfl, ⟨O', hJ, hO⟩, ys, q2, rfl⟩))
          · exact ih _ _ W' no hno (GI.after hG i hlog g2 g3 k2 k3 ht hdst false (.inr ⟨rfl, hJx⟩))
theorem codeSim_gen (ok : TabOk P T) (hC : CallOk P T G.gl C) (hG : G.Ok P) {F : FI} {n : Nat} (hnv : F.cfg.nvars ≤ argSite) : CodeSim T C F n P 0 KP (fun _ : Unit => none) (fun _ o => yOp G.ys o = true) (fun _ x st a w => GI G x st a w) where
  reg := by
    intro _ id ops draw st a w k x Q hk h hd hw gi hQ
    have hw' : ∀ o ∈ ops.toList, yOp G.ys o = true := hw
    have hk' : ∀ st x, (forceSt (settle F.cfg ops.toList st) fun st' => k .normal st') = some x → Has x st := fun st x h => by
      rw [forceSt_eq] at h
      exact (hk .normal _ x h).sub (settle_log hnv _ _)
    simp only [runCode] at h
    obtain ⟨h, -⟩ := altSt_path h
    cases draw with
    | false =>
      refine wpIn_region_list (sim_textG ok hC hG hk' (fun x' st' a' w' h1 g => ?_) ops.toList 0 st a w x hw' h gi)
      rw [forceSt_eq] at h1
      exact hQ x' _ a' w' h1 (g.map (fun _ i => i.settle hnv _) (settle_log hnv _ _))
    | true =>
      simp only [drawsOk] at hd
      cases hh : tlook F.hides id with
      | none => rw [hh] at h; cases h
      | some hid =>
        rw [hh] at h hd
        simp only [Bool.and_eq_true] at hd
        simp only [forceSt_eq] at h
        obtain ⟨wd, Mk, on, done, i, g1, g2⟩ := gi.map (st' := st.strike (present st.heap (allSites ops.toList ops.toList))) (fun _ i => i.strike _) (strike_log _ _)
        refine sim_draw ok hC hd.1 hd.2 h (fun o ho => yOp_fit (hw' o ho)) i fun st' a' w' h1 i' => ?_
        obtain ⟨st2, h2, i2, hl2⟩ := i'.relog (fun on' xs he => by
          obtain ⟨rfl, rfl⟩ := g1 _ _ he
          exact ⟨xs, by simp [gcx, look]⟩) h1
        exact hQ x _ a' w' h2 (GI.map (st := st2) ⟨wd, Mk, on, done, i2, fun b zs hb => g1 b zs (hl2 b zs hb), g2⟩ (fun _ i => i.settle hnv _) (settle_log hnv _ _))
  forget := fun _ x st a w c g => g.map (fun _ i => i.forgetAt _ _) (forgetAt_log _ _ _)
  cond := by
    intro _ x st a w c b g hv
    obtain ⟨wd, Mk, on, done, ⟨M, β, L, ds, r, _⟩, _⟩ := g
    have hc := r.evalO c
    rw [hv] at hc
    exact hc.p_bool
  kseq := fun z k hk => hk.seq hnv z
  kblock := fun id k hk => hk.block id
  kloop := fun c j k hk => hk.loop hnv c j
theorem seq_step (ok : TabOk P T) {X : Ext} {gl : List (Nat × Obj)} (hX : ExtOk P T gl X) {n : Nat} (hC : CallOk P T gl (acall T X n)) : SeqOk P T gl (acall T X (n + 1)) := by
  intro g fi caps x hf hpb h
  simp only [acall, hf] at h
  cases hx : X g with
  | some s =>
    rw [hx] at h
    obtain ⟨rs, bl'⟩ := x
    obtain ⟨_, h1, _⟩ := hX g fi s _ _ rs bl' hf hx h
    have := h1 _ (List.mem_singleton.2 rfl)
    simp [pureBlk] at this
  | none =>
    rw [hx] at h
    simp only at h
    cases hb : fi.fn.body with
    | none => rw [hb] at h; cases h
    | some c =>
      rw [hb] at h
      simp only [forceAVs_eq, forceBlks_eq, forceSt_eq] at h
      have hpb' : noRange c = true ∧ (∀ o ∈ opsOf c, yOp fi.cfg.ys o = true) ∧ ∀ t ∈ fi.cfg.ys, t = 0 ∨ caps.length < t := by
        unfold bodyPlain at hpb
        rw [hb] at hpb
        simp only [Bool.and_eq_true] at hpb
        exact ⟨hpb.1, yOps_mem hpb.2.2, ysFrom_mem hpb.2.1⟩
      obtain ⟨hfn, hname, hdr, hret⟩ := ok.funcs g fi hf
      refine ⟨hfn, ?_⟩
      intro W0 M0 l lb J Jx O0 hgl hlb hlv hM0 hJ hJx hlt hY h0
      let cargs : Array Value := #[.func (.yield l) #[] #[]] ++ lb
      let t0 : Array Value := cargs ++ Array.replicate (fi.fn.ntmps - cargs.size) undef
      let G : Gv := { W0, M0, J, Jx, t0, l, gl, ys := fi.cfg.ys }
      have hc0 : cargs[0]? = some (.func (.yield l) #[] #[]) := by
        show (#[Value.func (.yield l) #[] #[]] ++ lb)[0]? = _
        rw [Array.getElem?_append_left (by simp)]; rfl
      have hcs : 0 < cargs.size := by
        show 0 < (#[Value.func (.yield l) #[] #[]] ++ lb).size
        rw [Array.size_append]
        show 0 < 1 + lb.size
        omega
      have hG : G.Ok P := ⟨hJ, hJx, hlt, hY⟩
      have hrep : ∀ i, ((Array.replicate (fi.fn.ntmps - cargs.size) undef)[i]?).getD undef = undef := fun i => rep_get _ i
      have hp : CallPre W0 M0 (fun _ => none) (.yld :: caps.map .p) [.log true []] cargs := by
        refine ⟨by simp [cargs, hlb]; omega, fun i v hi => ?_, fun i b0 hi => ?_, fun i b o hi hb => (by cases hb), fun i j b o o' hi hj hb => (by cases hb), fun b hb => (hM0 b hb).1⟩
        · cases i with
          | zero =>
            simp at hi; subst hi
            have : cargs.getD 0 undef = .func (.yield l) #[] #[] := by rw [Array.getD_eq_getD_getElem?, hc0]; rfl
            rw [this]; exact .yld l
          | succ i =>
            simp only [List.getElem?_cons_succ, List.getElem?_map, Option.map_eq_some_iff] at hi
            obtain ⟨c, hc, rfl⟩ := hi
            have : cargs.getD (i + 1) undef = lb.getD i undef := by
              simp only [cargs, Array.getD_eq_getD_getElem?]
              rw [Array.getElem?_append_right (by simp)]
              simp
            rw [this]; exact .p _ _ (hlv i c hc)
        · cases i with
          | zero => simp at hi; subst hi; exact .log _ _
          | succ i => simp at hi
      have hr : Rel ⟨W0, W0.heap.size, Nat.le_refl _, gl⟩ (fun _ => False) M0 M0 (fun _ => none) (startSt fi.fn (.yld :: caps.map .p) [.log true []]) { tmps := t0, defers := [] } W0 := by
        have := Rel.start hp hgl fi.fn
        rwa [show (fun b => ∃ i o, i < [Blk.log true []].length ∧ (none : Option (Nat × Nat)) = some (b, o)) = fun _ => False from funext fun b => propext ⟨fun ⟨_, _, _, h⟩ => (by cases h), fun h => h.elim⟩] at this
      have hlk : look (startSt fi.fn (.yld :: caps.map .p) [.log true []]).heap argSite = some (.log true []) := by
        show look (initHeap 0 [.log true []]) (argSite + 0) = _
        rw [look_init0]; rfl
      have hgi : GI G x (startSt fi.fn (.yld :: caps.map .p) [.log true []]) { tmps := t0, defers := [] } W0 := by
        refine ⟨W0, M0, true, [], ⟨M0, fun _ => none, [], [], hr, fun _ _ => rfl, fun s _ blk hb => ⟨blk, ?_, Like.refl _⟩, .refl _ _, ⟨fun p hp => by simp at hp, fun p hp => hp, rfl, List.nodup_nil, fun D hD => by simp at hD, fun l hl => (by cases hl), rfl, fun _ _ => rfl, fun _ => rfl, fun t ht => ?_⟩⟩, fun b zs hb => ?_, Nat.le_refl _, fun b hb => ⟨(hM0 b hb).1, .inl hb⟩, .inl ⟨rfl, logOf x.2, O0, rfl, h0, fun b hb => (hM0 b hb).2⟩⟩
        · exact hb
        · rcases hpb'.2.2 t ht with rfl | hlt
          · left
            show t0.getD 0 undef = _
            rw [Array.getD_eq_getD_getElem?]
            show ((cargs ++ Array.replicate (fi.fn.ntmps - cargs.size) undef)[0]?).getD undef = _
            rw [Array.getElem?_append_left hcs, hc0]; rfl
          · right
            show t0.getD t undef = _
            have hsz : cargs.size = 1 + lb.size := by
              show (#[Value.func (.yield l) #[] #[]] ++ lb).size = _
              rw [Array.size_append]; rfl
            rw [Array.getD_eq_getD_getElem?]
            show ((cargs ++ Array.replicate (fi.fn.ntmps - cargs.size) undef)[t]?).getD undef = _
            rw [Array.getElem?_append_right (by omega)]
            exact hrep _
        · rw [hlk] at hb; cases hb; exact ⟨rfl, rfl⟩
      let kf : Ex → St → Option (List AV × List Blk) := fun ex st => match ex with
        | .exit _ => none
        | _ => retK T fi.cfg fi.fn [.log true []] st
      have hlast : ∀ st x', retK T fi.cfg fi.fn [.log true []] st = some x' → ∃ b zs vs, look st.heap argSite = some (.log b zs) ∧ logOf x'.2 = zs ∧ resAll T st.env (look st.heap) fi.fn.results.toList = some vs := by
        intro st x' hk
        unfold retK at hk
        split at hk
        · cases hk
        · rename_i vs hvs
          split at hk
          · rename_i rs' bl'' hrv hab
            simp only [forceAVs_eq, forceBlks_eq, Option.some.injEq] at hk
            subst hk
            simp only [argsBack] at hab
            split at hab
            · rename_i b bs h1 h2
              cases h2
              cases hc : backBlkOk b && backOk (.log true []) b with
              | false => rw [hc] at hab; cases hab
              | true =>
                rw [hc] at hab
                simp only [cond_true, Option.some.injEq] at hab
                subst hab
                simp only [Bool.and_eq_true] at hc
                cases b with
                | box => simp [backOk] at hc
                | arr => simp [backOk] at hc
                | tb => simp [backOk] at hc
                | mp => simp [backOk] at hc
                | br => simp [backOk] at hc
                | log on zs => exact ⟨on, zs, vs, h1, rfl, hvs⟩
            · cases hab
          · cases hk
      have hkp : KP kf := by
        intro ex st x' hk
        have hk : retK T fi.cfg fi.fn [.log true []] st = some x' := by
          cases ex with
          | normal => exact hk
          | exit id => cases hk
          | ret => exact hk
        obtain ⟨b, zs, _, h1, h2, _⟩ := hlast st x' hk
        exact ⟨b, zs, h1, [], by rw [h2]; simp⟩
      refine calls_of_fw (rd := none) (n := 0) (callsIn_of_wp_marks hfn hb trivial ?_)
      refine sim_codeG (ng := true) (codeSim_gen ok hC hG (ok.nvars g fi hf)) (fun h => by cases h) c () _ _ W0 kf x _ hkp h (hdr c hb) (fun _ => hpb'.1) hpb'.2.1 hgi fun ex x' st a w1 hk gi => ?_
      have hk' : retK T fi.cfg fi.fn [.log true []] st = some x' ∧ (ex = .normal ∨ ex = .ret) := by
        cases ex with
        | normal => exact ⟨hk, .inl rfl⟩
        | exit id => cases hk
        | ret => exact ⟨hk, .inr rfl⟩
      obtain ⟨hk, hex⟩ := hk'
      obtain ⟨b, zs, vs, q1, q2, q3⟩ := hlast st x' hk
      obtain ⟨wd, Mk, on, done, ⟨M, β, L, ds, r, i1, i2, i3, fx⟩, g1, g2, g3, g4⟩ := gi
      obtain ⟨rfl, rfl⟩ := g1 _ _ q1
      have goal : LeavesInM (FW none) 0 P fi.fn a.tmps (fun e W' => (∃ v, e = .returned v) ∧ ((∃ O, J [] O W') ∨ Jx W')) a.defers .returning w1 := by
        rw [fx.marks]
        refine leaves_marks ds w1 fx.nodup (fun D hD => (fx.lies _ (fx.mark D hD).1).1) fun w' k1 k2 k3 k4 k5 k6 => ?_
        have r' := Inv.shut r fx rfl k1 k2 k3 k4 k5
        obtain ⟨cs, e1, e2⟩ := resAll_ok ok r' q3
        have hgrow : Grows G.gl wd w' := r'.turns (by rw [k6]; exact i3)
        refine ⟨wrapV cs, run_results e1, ⟨_, rfl⟩, ?_⟩
        rcases g4 with ⟨_, rest, O, p1, p2, _⟩ | ⟨_, p1⟩
        · rw [q2] at p1
          have : rest = [] := by
            have := congrArg List.length p1
            simp at this
            exact this
          subst this
          exact .inl ⟨O, hJ _ _ _ _ p2 hgrow⟩
        · exact .inr (hJx _ _ p1 hgrow)
      rcases hex with rfl | rfl
      · exact goal
      · exact goal
theorem acall_sound2 (ok : TabOk P T) {X : Ext} {gl : List (Nat × Obj)} (hX : ExtOk P T gl X) : ∀ n, CallOk P T gl (acall T X n) ∧ SeqOk P T gl (acall T X n)
  | 0 => ⟨fun f fi args bl rs bl' _ _ h => by simp [acall] at h, fun g fi caps r _ _ h => by simp [acall] at h⟩
  | n + 1 => ⟨call_step ok hX (acall_sound2 ok hX n).1 (acall_sound2 ok hX n).2, seq_step ok hX (acall_sound2 ok hX n).1⟩
theorem acall_sound (ok : TabOk P T) {X : Ext} {gl : List (Nat × Obj)} (hX : ExtOk P T gl X) (n : Nat) : CallOk P T gl (acall T X n) := (acall_sound2 ok hX n).1
end
end Go.Skm
namespace Go.Skm
section
variable {α β : Type}
open Classical in
noncomputable def lim (f : Nat → Option α) : Option α := if h : ∃ x n, f n = some x then some h.choose else none
def Mono (f : Nat → Option α) : Prop := ∀ n m x, n ≤ m → f n = some x → f m = some x
theorem lim_some {f : Nat → Option α} {x : α} (h : lim f = some x) : ∃ n, f n = some x := by
  unfold lim at h
  split at h
  · rename_i h'
    have := h'.choose_spec
    simp only [Option.some.injEq] at h
    rwa [h] at this
  · cases h
theorem lim_of {f : Nat → Option α} (hm : Mono f) {x : α} {n : Nat} (h : f n = some x) : lim f = some x := by
  have hex : ∃ x n, f n = some x := ⟨x, n, h⟩
  unfold lim
  rw [dif_pos hex]
  obtain ⟨m, hm'⟩ := hex.choose_spec
  have h1 := hm n (max n m) x (by omega) h
  have h2 := hm m (max n m) _ (by omega) hm'
  rw [h1] at h2
  exact h2.symm
noncomputable def loopI (fg : St → St) (body : St → (Ex → St → Option α) → Option α) (st : St) (k : Ex → St → Option α) : Option α := lim fun m => loopN fg body m st k
def LeK (k k' : Ex → St → Option α) : Prop := ∀ ex st x, k ex st = some x → k' ex st = some x
def LeB (b b' : St → (Ex → St → Option α) → Option α) : Prop := ∀ st k k' x, LeK k k' → b st k = some x → b' st k' = some x
def LeC (C C' : CallF) : Prop := ∀ f a b x, C f a b = some x → C' f a b = some x
theorem LeK.refl (k : Ex → St → Option α) : LeK k k := fun _ _ _ h => h
theorem LeC.refl (C : CallF) : LeC C C := fun _ _ _ _ h => h
def next (fg : St → St) (L : St → Option α) (k : Ex → St → Option α) : Ex → St → Option α
  | .normal, st => forceSt (fg st) L
  | .exit id, st => k (.exit id) st
  | .ret, st => k .ret st
theorem loopN_succ {fg : St → St} {body : St → (Ex → St → Option α) → Option α} {m : Nat} {st : St} {k : Ex → St → Option α} : loopN fg body (m + 1) st k = body st (next fg (fun st' => loopN fg body m st' k) k) := by
  simp only [loopN]
  congr 1
  funext ex st'
  cases ex <;> rfl
theorem next_le {fg : St → St} {L L' : St → Option α} {k k' : Ex → St → Option α} (hL : ∀ st x, L st = some x → L' st = some x) (hk : LeK k k') : LeK (next fg L k) (next fg L' k') := by
  intro ex st x h
  cases ex with
  | normal => simp only [next, forceSt_eq] at h ⊢; exact hL _ _ h
  | exit id => exact hk _ _ _ h
  | ret => exact hk _ _ _ h
theorem loopN_mono {fg : St → St} {b b' : St → (Ex → St → Option α) → Option α} (hb : LeB b b') : ∀ {m m' : Nat} {st : St} {k k' : Ex → St → Option α} {x : α}, m ≤ m' → LeK k k' → loopN fg b m st k = some x → loopN fg b' m' st k' = some x
  | 0, _, _, _, _, _, _, _, h => by simp [loopN] at h
  | m + 1, 0, _, _, _, _, hm, _, _ => by omega
  | m + 1, m' + 1, st, k, k', x, hm, hk, h => by
    rw [loopN_succ] at h ⊢
    exact hb _ _ _ _ (next_le (fun st x h => loopN_mono hb (by omega) hk h) hk) h
theorem loopI_mono {fg : St → St} {b b' : St → (Ex → St → Option α) → Option α} (hb : LeB b b') (hb' : LeB b' b') {st : St} {k k' : Ex → St → Option α} {x : α} (hk : LeK k k') (h : loopI fg b st k = some x) : loopI fg b' st k' = some x := by
  obtain ⟨m, hm⟩ := lim_some h
  exact lim_of (fun n m x hnm h => loopN_mono hb' hnm (LeK.refl _) h) (loopN_mono hb (Nat.le_refl m) hk hm)
end
section
variable {α : Type} (T : Tab)
noncomputable def runCodeI (C : CallF) (F : FI) : Code → St → (Ex → St → Option α) → Option α
  | .skip, st, k => k .normal st
  | .region id ops draw, st, k => altSt (altsAt F.cfg.alts id) st fun st =>
    match draw with
    | false => runOps T C false [] ops.toList ops.toList 0 st fun st' => forceSt (settle F.cfg ops.toList st') fun st' => k .normal st'
    | true =>
      match tlook F.hides id with
      | some hd => forceSt (st.strike (present st.heap (allSites ops.toList ops.toList))) fun st => runOps T C true hd ops.toList ops.toList 0 st fun st' => relog (look st.heap argSite) st' fun st' => forceSt (settle F.cfg ops.toList st') fun st' => k .normal st'
      | none => none
  | .seq a b, st, k => runCodeI C F a st fun ex st' =>
    match ex with
    | .normal => runCodeI C F b (forgetAt F.cfg b st') k
    | .exit id => k (.exit id) st'
    | .ret => k .ret st'
  | .cond c x y, st, k =>
    match evalO st.env c with
    | .p (.bool b) => cond b (runCodeI C F x st k) (runCodeI C F y st k)
    | _ => none
  | .block id c, st, k => runCodeI C F c st fun ex st' =>
    match ex with
    | .normal => k .normal st'
    | .exit i => bif i == id then k .normal st' else k (.exit i) st'
    | .ret => k .ret st'
  | .scope c, st, k => runCodeI C F c st k
  | .loop c, st, k => loopI (forgetAt F.cfg c) (fun st' k' => runCodeI C F c st' k') (forgetAt F.cfg c st) k
  | .exit id, st, k => k (.exit id) st
  | .ret, st, k => k .ret st
  | .label _, st, k => k .normal st
  | .rangeFunc f ps a b, st, k =>
    match evalO st.env f with
    | .p (.fn g caps) =>
      match tlook T.funcs g, plainCode a with
      | some fi, true =>
        bif bodyPlain fi caps.length then
        match C g (.yld :: caps.map .p) [.log true []] with
        | some r => rangeL (forgetAt F.cfg (.seq a b)) fi.cfg.yk ps.toList (rngWs ps a b)
            (fun st k => runCodeI C F a st fun ex st' =>
              match ex with
              | .normal => runCodeI C F b (forgetAt F.cfg b st') k
              | .exit id => k (.exit id) st'
              | .ret => k .ret st') (logOf r.2) (forgetAt F.cfg (.seq a b) st) k
        | none => none
        else none
      | _, _ => none
    | _ => none
  | _, _, _ => none
def retC (F : FI) (bl : List Blk) : Ex → St → Option (List AV × List Blk)
  | .exit _, _ => none
  | .normal, st => retK T F.cfg F.fn bl st
  | .ret, st => retK T F.cfg F.fn bl st
noncomputable def acallI (C : CallF) : CallF := fun f args bl =>
  match tlook T.funcs f with
  | none => none
  | some fi =>
    match fi.fn.body with
    | none => none
    | some c => forceAVs T.strict args fun args => forceBlks T.strict bl fun bl => forceSt (startSt fi.fn args bl) fun st => runCodeI T C fi c st (retC T fi bl)
noncomputable def run (X : Ext) : CallF := fun f args bl => lim fun n => acall T X n f args bl
end
section
variable {α : Type} {T : Tab} {C C' : CallF}
theorem stepOp_shape (env : List AV) (h : Nat → Option Blk) (o : Oper) : (∃ D, ∀ C, stepOp T C env h o = D) ∨ ∃ f as_ bl g, ∀ C, stepOp T C env h o = .call (C f as_ bl) g := by
  have call : ∀ (d : Option Nat) (f : Nat) (args : List AV), (∃ D, ∀ C, stepCall T C h d f args = D) ∨ ∃ f' as_ bl g, ∀ C, stepCall T C h d f args = .call (C f' as_ bl) g := by
    intro d f args
    unfold stepCall
    cases (cfgOf T f).prim.is with
    | true => exact .inl ⟨_, fun C => rfl⟩
    | false =>
    simp only [cond_false]
    unfold stepCall0
    split
    · split
      · split
        · exact .inr ⟨_, _, _, _, fun C => rfl⟩
        · exact .inl ⟨_, fun C => rfl⟩
      · simp only
        split
        · exact .inr ⟨_, _, _, _, fun C => rfl⟩
        · exact .inl ⟨_, fun C => rfl⟩
    · exact .inl ⟨_, fun C => rfl⟩
  obtain ⟨dst, op, type, pos, after, guard⟩ := o
  cases op with
  | call c =>
    obtain ⟨callee, args, ts⟩ := c
    cases callee with
    | builtin b => cases b <;> exact .inl ⟨_, fun C => rfl⟩
    | invoke r n => exact .inl ⟨_, fun C => rfl⟩
    | value f =>
      simp only [stepOp]
      split
      · exact call _ _ _
      · exact call _ _ _
      · exact .inl ⟨_, fun C => rfl⟩
  | _ => exact .inl ⟨_, fun C => rfl⟩
theorem act1_mono (hC : LeC C C') {all : List Oper} {o : Oper} {env : List AV} {h : Nat → Option Blk} {y : Option Eff} (h1 : act1 T C all o env h = some y) : act1 T C' all o env h = some y := by
  have go : ∀ {y : Option Eff}, ((stepOp T C env h o).run some).map some = some y → ((stepOp T C' env h o).run some).map some = some y := by
    intro y hy
    rcases stepOp_shape (T := T) env h o with ⟨D, hD⟩ | ⟨f, as_, bl, g, hD⟩
    · rw [hD] at hy ⊢; exact hy
    · rw [hD] at hy ⊢
      cases hc : C f as_ bl with
      | none => rw [hc] at hy; simp [DT.run] at hy
      | some r => rw [hc] at hy; rw [hC _ _ _ _ hc]; exact hy
  unfold act1 at h1 ⊢
  cases hg : o.guard with
  | none => rw [hg] at h1; exact go h1
  | some gw =>
    obtain ⟨g, want⟩ := gw
    rw [hg] at h1
    simp only at h1 ⊢
    cases hd : dstOf all g with
    | none => rw [hd] at h1; cases h1
    | some t =>
      rw [hd] at h1
      simp only at h1 ⊢
      by_cases hx : ∃ b, env.getD t .undef = .p (.bool b)
      · obtain ⟨b, hb⟩ := hx
        rw [hb] at h1 ⊢
        simp only at h1 ⊢
        split
        · rename_i hw; rw [if_pos hw] at h1; exact go h1
        · rename_i hw; rw [if_neg hw] at h1; exact h1
      · by_cases hh : env.getD t .undef = .tup []
        · rw [hh] at h1 ⊢; exact h1
        · split at h1
          · rename_i b hb; exact absurd ⟨b, hb⟩ hx
          · rename_i hb; exact absurd hb hh
          · cases h1
theorem step1_mono (hC : LeC C C') {draw : Bool} {hd : List Nat} {all : List Oper} {o : Oper} {st st' : St} (h1 : step1 T C draw hd all o st = some st') : step1 T C' draw hd all o st = some st' := by
  unfold step1 at h1 ⊢
  cases ha : act1 T C all o st.env (hideH hd (look st.heap)) with
  | none => rw [ha] at h1; cases h1
  | some y => rw [ha] at h1; rw [act1_mono hC ha]; exact h1
theorem relog_mono {b : Option Blk} {st : St} {k k' : St → Option α} {x : α} (hk : ∀ st x, k st = some x → k' st = some x) (h : relog b st k = some x) : relog b st k' = some x := by
  unfold relog at h ⊢
  split at h
  · split at h
    · exact hk _ _ h
    · cases h
  · exact hk _ _ h
theorem runOps_mono (hC : LeC C C') {draw : Bool} {hd : List (List Nat)} {all : List Oper} {k k' : St → Option α} (hk : ∀ st x, k st = some x → k' st = some x) : ∀ {l : List Oper} {j : Nat} {st : St} {x : α}, runOps T C draw hd all l j st k = some x → runOps T C' draw hd all l j st k' = some x
  | [], j, st, x, h => hk _ _ h
  | o :: r, j, st, x, h => by
    cases hy : yieldAt draw st o with
    | none =>
      rw [runOps_cons _ _ hy] at h ⊢
      cases h1 : step1 T C draw (hd.getD j []) all o st with
      | none => rw [h1] at h; cases h
      | some st1 => rw [h1] at h; rw [step1_mono hC h1]; exact runOps_mono hC hk (l := r) h
    | some p =>
      obtain ⟨xs, vs⟩ := p
      rw [runOps_yield _ _ hy] at h ⊢
      cases hg : guardOf all o st.env with
      | none => rw [hg] at h; cases h
      | some b =>
        rw [hg] at h
        cases b with
        | false => exact runOps_mono hC hk (l := r) h
        | true =>
          obtain ⟨no, h1, h2⟩ := fork_some h
          exact fork_of (runOps_mono hC hk (l := r) h1) (runOps_mono hC hk (l := r) h2)
theorem rnext_le {fg : St → St} {ws : List Nat} {L L' : St → Option α} {k k' : Ex → St → Option α} (hL : ∀ st x, L st = some x → L' st = some x) (hk : LeK k k') : LeK (rnext fg ws L k) (rnext fg ws L' k') := by
  intro ex st x h
  cases ex with
  | normal => simp only [rnext, forceSt_eq] at h ⊢; exact hL _ _ h
  | exit id => simp only [rnext, forceSt_eq] at h ⊢; exact hk _ _ _ h
  | ret => simp only [rnext, forceSt_eq] at h ⊢; exact hk _ _ _ h
theorem rangeL_mono {fg : St → St} {ss : List (Bool × List Kd)} {ps ws : List Nat} {b b' : St → (Ex → St → Option α) → Option α} (hb : LeB b b') : ∀ {xs : List PV} {st : St} {k k' : Ex → St → Option α} {x : α}, LeK k k' → rangeL fg ss ps ws b xs st k = some x → rangeL fg ss ps ws b' xs st k' = some x
  | [], _, _, _, _, hk, h => hk _ _ _ h
  | v :: xs, st, k, k', x, hk, h => by
    simp only [rangeL] at h ⊢
    split at h
    · cases h
    · rename_i env he
      rw [forceSt_eq] at h ⊢
      exact hb _ _ _ _ (rnext_le (fun st x h => rangeL_mono hb hk h) hk) h
theorem rangeI_some {F : FI} {f : Operand} {ps : Array Tmp} {y z : Code} {st : St} {k : Ex → St → Option α} {x : α} (h : runCodeI T C F (.rangeFunc f ps y z) st k = some x) :
    ∃ g caps fi r, evalO st.env f = .p (.fn g caps) ∧ tlook T.funcs g = some fi ∧ plainCode y = true ∧ bodyPlain fi caps.length = true ∧ C g (.yld :: caps.map .p) [.log true []] = some r ∧
      rangeL (forgetAt F.cfg (.seq y z)) fi.cfg.yk ps.toList (rngWs ps y z) (fun st k => runCodeI T C F (.seq y z) st k) (logOf r.2) (forgetAt F.cfg (.seq y z) st) k = some x := by
  simp only [runCodeI] at h
  split at h
  · rename_i g caps hv
    split at h
    · rename_i fi hf hp
      cases hb : bodyPlain fi caps.length with
      | false => rw [hb] at h; cases h
      | true =>
        rw [hb] at h
        simp only [cond_true] at h
        split at h
        · rename_i r hr
          exact ⟨g, caps, fi, r, hv, hf, hp, hb, hr, h⟩
        · cases h
    · cases h
  · cases h
theorem rangeI_of {F : FI} {f : Operand} {ps : Array Tmp} {y z : Code} {st : St} {k : Ex → St → Option α} {x : α} {g : Nat} {caps : List PV} {fi : FI} {r : List AV × List Blk} (h1 : evalO st.env f = .p (.fn g caps)) (h2 : tlook T.funcs g = some fi) (h3 : plainCode y = true) (h4 : bodyPlain fi caps.length = true) (h5 : C g (.yld :: caps.map .p) [.log true []] = some r)
    (h : rangeL (forgetAt F.cfg (.seq y z)) fi.cfg.yk ps.toList (rngWs ps y z) (fun st k => runCodeI T C F (.seq y z) st k) (logOf r.2) (forgetAt F.cfg (.seq y z) st) k = some x) : runCodeI T C F (.rangeFunc f ps y z) st k = some x := by
  simp only [runCodeI, h1, h2, h3, h4, h5, cond_true]
  exact h
theorem range_of {F : FI} {n : Nat} {f : Operand} {ps : Array Tmp} {y z : Code} {st : St} {k : Ex → St → Option α} {x : α} {g : Nat} {caps : List PV} {fi : FI} {r : List AV × List Blk} (h1 : evalO st.env f = .p (.fn g caps)) (h2 : tlook T.funcs g = some fi) (h3 : plainCode y = true) (h4 : bodyPlain fi caps.length = true) (h5 : C g (.yld :: caps.map .p) [.log true []] = some r)
    (h : rangeL (forgetAt F.cfg (.seq y z)) fi.cfg.yk ps.toList (rngWs ps y z) (roundC T C F n y z) (logOf r.2) (forgetAt F.cfg (.seq y z) st) k = some x) : runCode T C F n (.rangeFunc f ps y z) st k = some x := by
  simp only [runCode, h1, h2, h3, h4, h5, cond_true]
  exact h
theorem seq_le {k k' : Ex → St → Option α} {f f' : St → Option α} (hf : ∀ st x, f st = some x → f' st = some x) (hk : LeK k k') :
    LeK (fun ex st' => match ex with | .normal => f st' | .exit id => k (.exit id) st' | .ret => k .ret st') (fun ex st' => match ex with | .normal => f' st' | .exit id => k' (.exit id) st' | .ret => k' .ret st') := by
  intro ex st x h
  cases ex with
  | normal => exact hf _ _ h
  | exit id => exact hk _ _ _ h
  | ret => exact hk _ _ _ h
theorem block_le {k k' : Ex → St → Option α} {id : Nat} (hk : LeK k k') :
    LeK (fun ex st' => match ex with | .normal => k .normal st' | .exit i => bif i == id then k .normal st' else k (.exit i) st' | .ret => k .ret st') (fun ex st' => match ex with | .normal => k' .normal st' | .exit i => bif i == id then k' .normal st' else k' (.exit i) st' | .ret => k' .ret st') := by
  intro ex st x h
  cases ex with
  | normal => exact hk _ _ _ h
  | exit i =>
    simp only at h ⊢
    cases hi : i == id with
    | true => rw [hi] at h; exact hk _ _ _ h
    | false => rw [hi] at h; exact hk _ _ _ h
  | ret => exact hk _ _ _ h
theorem runCode_mono (hC : LeC C C') {F : FI} {n n' : Nat} (hn : n ≤ n') : ∀ {c : Code} {st : St} {k k' : Ex → St → Option α} {x : α}, LeK k k' → runCode T C F n c st k = some x → runCode T C' F n' c st k' = some x
  | .skip, st, k, k', x, hk, h => hk _ _ _ h
  | .region id ops draw, st, k, k', x, hk, h => by
    simp only [runCode] at h ⊢
    obtain ⟨h, e⟩ := altSt_path h
    rw [e]
    cases draw with
    | false => exact runOps_mono hC (fun st x h => by rw [forceSt_eq] at h ⊢; exact hk _ _ _ h) h
    | true =>
      simp only at h ⊢
      cases hh : tlook F.hides id with
      | none => rw [hh] at h; cases h
      | some hd =>
        rw [hh] at h
        simp only [forceSt_eq] at h ⊢
        exact runOps_mono hC (fun st x h => relog_mono (fun st x h => hk _ _ _ h) h) h
  | .seq y z, st, k, k', x, hk, h => runCode_mono hC hn (c := y) (seq_le (fun st x h => runCode_mono hC hn (c := z) hk h) hk) h
  | .cond c y z, st, k, k', x, hk, h => by
    simp only [runCode] at h ⊢
    split
    · rename_i b hb
      rw [hb] at h
      cases b with
      | true => exact runCode_mono hC hn (c := y) hk h
      | false => exact runCode_mono hC hn (c := z) hk h
    · rename_i hx
      split at h
      · rename_i b hb; exact absurd hb (hx b)
      · cases h
  | .block id c, st, k, k', x, hk, h => runCode_mono hC hn (c := c) (block_le hk) h
  | .loop c, st, k, k', x, hk, h => loopN_mono (b := fun st' k' => runCode T C F n c st' k') (b' := fun st' k' => runCode T C' F n' c st' k') (fun st k k' x hk h => runCode_mono hC hn (c := c) hk h) hn hk h
  | .exit id, st, k, k', x, hk, h => hk _ _ _ h
  | .ret, st, k, k', x, hk, h => hk _ _ _ h
  | .label _, st, k, k', x, hk, h => hk _ _ _ h
  | .rangeFunc f ps y z, st, k, k', x, hk, h => by
    obtain ⟨g, caps, fi, r, h1, h2, h3, h4, h5, h⟩ := runCode_range h
    refine range_of h1 h2 h3 h4 (hC _ _ _ _ h5) (rangeL_mono (fun st k k' x hk h => ?_) hk h)
    exact runCode_mono hC hn (c := y) (seq_le (fun st x h => runCode_mono hC hn (c := z) hk h) hk) h
  | .scope c, st, k, k', x, hk, h => runCode_mono hC hn (c := c) hk h
  | .goto .., st, k, k', x, hk, h => by simp [runCode] at h
  | .refuse .., st, k, k', x, hk, h => by simp [runCode] at h
theorem runCodeI_monoK {F : FI} : ∀ {c : Code} {st : St} {k k' : Ex → St → Option α} {x : α}, LeK k k' → runCodeI T C F c st k = some x → runCodeI T C F c st k' = some x
  | .skip, st, k, k', x, hk, h => hk _ _ _ h
  | .region id ops draw, st, k, k', x, hk, h => by
    simp only [runCodeI] at h ⊢
    obtain ⟨h, e⟩ := altSt_path h
    rw [e]
    cases draw with
    | false => exact runOps_mono (LeC.refl C) (fun st x h => by rw [forceSt_eq] at h ⊢; exact hk _ _ _ h) h
    | true =>
      simp only at h ⊢
      cases hh : tlook F.hides id with
      | none => rw [hh] at h; cases h
      | some hd =>
        rw [hh] at h
        simp only [forceSt_eq] at h ⊢
        exact runOps_mono (LeC.refl C) (fun st x h => relog_mono (fun st x h => hk _ _ _ h) h) h
  | .seq y z, st, k, k', x, hk, h => runCodeI_monoK (c := y) (seq_le (fun st x h => runCodeI_monoK (c := z) hk h) hk) h
  | .cond c y z, st, k, k', x, hk, h => by
    simp only [runCodeI] at h ⊢
    split
    · rename_i b hb
      rw [hb] at h
      cases b with
      | true => exact runCodeI_monoK (c := y) hk h
      | false => exact runCodeI_monoK (c := z) hk h
    · rename_i hx
      split at h
      · rename_i b hb; exact absurd hb (hx b)
      · cases h
  | .block id c, st, k, k', x, hk, h => runCodeI_monoK (c := c) (block_le hk) h
  | .loop c, st, k, k', x, hk, h => loopI_mono (b := fun st' k' => runCodeI T C F c st' k') (b' := fun st' k' => runCodeI T C F c st' k') (fun st k k' x hk h => runCodeI_monoK (c := c) hk h) (fun st k k' x hk h => runCodeI_monoK (c := c) hk h) hk h
  | .exit id, st, k, k', x, hk, h => hk _ _ _ h
  | .ret, st, k, k', x, hk, h => hk _ _ _ h
  | .label _, st, k, k', x, hk, h => hk _ _ _ h
  | .rangeFunc f ps y z, st, k, k', x, hk, h => by
    obtain ⟨g, caps, fi, r, h1, h2, h3, h4, h5, h⟩ := rangeI_some h
    refine rangeI_of h1 h2 h3 h4 h5 (rangeL_mono (fun st k k' x hk h => ?_) hk h)
    exact runCodeI_monoK (c := y) (seq_le (fun st x h => runCodeI_monoK (c := z) hk h) hk) h
  | .scope c, st, k, k', x, hk, h => runCodeI_monoK (c := c) hk h
  | .goto .., st, k, k', x, hk, h => by simp [runCodeI] at h
  | .refuse .., st, k, k', x, hk, h => by simp [runCodeI] at h
theorem runCodeI_mono (hC : LeC C C') {F : FI} : ∀ {c : Code} {st : St} {k k' : Ex → St → Option α} {x : α}, LeK k k' → runCodeI T C F c st k = some x → runCodeI T C' F c st k' = some x
  | .skip, st, k, k', x, hk, h => hk _ _ _ h
  | .region id ops draw, st, k, k', x, hk, h => by
    simp only [runCodeI] at h ⊢
    obtain ⟨h, e⟩ := altSt_path h
    rw [e]
    cases draw with
    | false => exact runOps_mono hC (fun st x h => by rw [forceSt_eq] at h ⊢; exact hk _ _ _ h) h
    | true =>
      simp only at h ⊢
      cases hh : tlook F.hides id with
      | none => rw [hh] at h; cases h
      | some hd =>
        rw [hh] at h
        simp only [forceSt_eq] at h ⊢
        exact runOps_mono hC (fun st x h => relog_mono (fun st x h => hk _ _ _ h) h) h
  | .seq y z, st, k, k', x, hk, h => runCodeI_mono hC (c := y) (seq_le (fun st x h => runCodeI_mono hC (c := z) hk h) hk) h
  | .cond c y z, st, k, k', x, hk, h => by
    simp only [runCodeI] at h ⊢
    split
    · rename_i b hb
      rw [hb] at h
      cases b with
      | true => exact runCodeI_mono hC (c := y) hk h
      | false => exact runCodeI_mono hC (c := z) hk h
    · rename_i hx
      split at h
      · rename_i b hb; exact absurd hb (hx b)
      · cases h
  | .block id c, st, k, k', x, hk, h => runCodeI_mono hC (c := c) (block_le hk) h
  | .loop c, st, k, k', x, hk, h => loopI_mono (b := fun st' k' => runCodeI T C F c st' k') (b' := fun st' k' => runCodeI T C' F c st' k') (fun st k k' x hk h => runCodeI_mono hC (c := c) hk h) (fun st k k' x hk h => runCodeI_monoK (c := c) hk h) hk h
  | .exit id, st, k, k', x, hk, h => hk _ _ _ h
  | .ret, st, k, k', x, hk, h => hk _ _ _ h
  | .label _, st, k, k', x, hk, h => hk _ _ _ h
  | .rangeFunc f ps y z, st, k, k', x, hk, h => by
    obtain ⟨g, caps, fi, r, h1, h2, h3, h4, h5, h⟩ := rangeI_some h
    refine rangeI_of h1 h2 h3 h4 (hC _ _ _ _ h5) (rangeL_mono (fun st k k' x hk h => ?_) hk h)
    exact runCodeI_mono hC (c := y) (seq_le (fun st x h => runCodeI_mono hC (c := z) hk h) hk) h
  | .scope c, st, k, k', x, hk, h => runCodeI_mono hC (c := c) hk h
  | .goto .., st, k, k', x, hk, h => by simp [runCodeI] at h
  | .refuse .., st, k, k', x, hk, h => by simp [runCodeI] at h
theorem runCode_le (hC : LeC C C') {F : FI} {n : Nat} : ∀ {c : Code} {st : St} {k k' : Ex → St → Option α} {x : α}, LeK k k' → runCode T C F n c st k = some x → runCodeI T C' F c st k' = some x
  | .skip, st, k, k', x, hk, h => hk _ _ _ h
  | .region id ops draw, st, k, k', x, hk, h => by
    simp only [runCodeI, runCode] at h ⊢
    obtain ⟨h, e⟩ := altSt_path h
    rw [e]
    cases draw with
    | false => exact runOps_mono hC (fun st x h => by rw [forceSt_eq] at h ⊢; exact hk _ _ _ h) h
    | true =>
      simp only at h ⊢
      cases hh : tlook F.hides id with
      | none => rw [hh] at h; cases h
      | some hd =>
        rw [hh] at h
        simp only [forceSt_eq] at h ⊢
        exact runOps_mono hC (fun st x h => relog_mono (fun st x h => hk _ _ _ h) h) h
  | .seq y z, st, k, k', x, hk, h => runCode_le hC (c := y) (seq_le (fun st x h => runCode_le hC (c := z) hk h) hk) h
  | .cond c y z, st, k, k', x, hk, h => by
    simp only [runCodeI, runCode] at h ⊢
    split
    · rename_i b hb
      rw [hb] at h
      cases b with
      | true => exact runCode_le hC (c := y) hk h
      | false => exact runCode_le hC (c := z) hk h
    · rename_i hx
      split at h
      · rename_i b hb; exact absurd hb (hx b)
      · cases h
  | .block id c, st, k, k', x, hk, h => runCode_le hC (c := c) (block_le hk) h
  | .loop c, st, k, k', x, hk, h => lim_of (f := fun m => loopN (forgetAt F.cfg c) (fun st' k' => runCodeI T C' F c st' k') m (forgetAt F.cfg c st) k') (n := n) (fun _ _ _ hnm h => loopN_mono (b := fun st' k' => runCodeI T C' F c st' k') (b' := fun st' k' => runCodeI T C' F c st' k') (fun st k k' x hk h => runCodeI_monoK (c := c) hk h) hnm (LeK.refl _) h)
      (loopN_mono (b := fun st' k' => runCode T C F n c st' k') (b' := fun st' k' => runCodeI T C' F c st' k') (fun st k k' x hk h => runCode_le hC (c := c) hk h) (Nat.le_refl n) hk h)
  | .exit id, st, k, k', x, hk, h => hk _ _ _ h
  | .ret, st, k, k', x, hk, h => hk _ _ _ h
  | .label _, st, k, k', x, hk, h => hk _ _ _ h
  | .rangeFunc f ps y z, st, k, k', x, hk, h => by
    obtain ⟨g, caps, fi, r, h1, h2, h3, h4, h5, h⟩ := runCode_range h
    refine rangeI_of h1 h2 h3 h4 (hC _ _ _ _ h5) (rangeL_mono (fun st k k' x hk h => ?_) hk h)
    exact runCode_le hC (c := y) (seq_le (fun st x h => runCode_le hC (c := z) hk h) hk) h
  | .scope c, st, k, k', x, hk, h => runCode_le hC (c := c) hk h
  | .goto .., st, k, k', x, hk, h => by simp [runCode] at h
  | .refuse .., st, k, k', x, hk, h => by simp [runCode] at h
structure ApprC (Cn : Nat → CallF) (C : CallF) : Prop where
  mono : ∀ n m, n ≤ m → LeC (Cn n) (Cn m)
  lim : ∀ f a b x, C f a b = some x → ∃ n, Cn n f a b = some x
structure ApprK (kn : Nat → Ex → St → Option α) (k : Ex → St → Option α) : Prop where
  mono : ∀ n m, n ≤ m → LeK (kn n) (kn m)
  lim : ∀ ex st x, k ex st = some x → ∃ n, kn n ex st = some x
theorem act1_cont {Cn : Nat → CallF} (hC : ApprC Cn C) {all : List Oper} {o : Oper} {env : List AV} {h : Nat → Option Blk} {y : Option Eff} (h1 : act1 T C all o env h = some y) : ∃ n, act1 T (Cn n) all o env h = some y := by
  rcases stepOp_shape (T := T) env h o with ⟨D, hD⟩ | ⟨f, as_, bl, g, hD⟩
  · refine ⟨0, ?_⟩
    unfold act1 at h1 ⊢
    rw [hD] at h1 ⊢; exact h1
  · cases hc : C f as_ bl with
    | some r =>
      obtain ⟨n, hn⟩ := hC.lim _ _ _ _ hc
      refine ⟨n, ?_⟩
      unfold act1 at h1 ⊢
      rw [hD, hc] at h1
      rw [hD, hn]; exact h1
    | none =>
      refine ⟨0, ?_⟩
      unfold act1 at h1 ⊢
      rw [hD, hc] at h1
      cases hg : o.guard with
      | none => rw [hg] at h1; simp [DT.run] at h1
      | some gw =>
        obtain ⟨g', want⟩ := gw
        rw [hg] at h1
        simp only at h1 ⊢
        cases hd : dstOf all g' with
        | none => rw [hd] at h1; cases h1
        | some t =>
          rw [hd] at h1
          simp only at h1 ⊢
          by_cases hx : ∃ b, env.getD t .undef = .p (.bool b)
          · obtain ⟨b, hb⟩ := hx
            rw [hb] at h1 ⊢
            simp only at h1 ⊢
            split
            · rename_i hw; rw [if_pos hw] at h1; simp [DT.run] at h1
            · rename_i hw; rw [if_neg hw] at h1; exact h1
          · by_cases hh : env.getD t .undef = .tup []
            · rw [hh] at h1 ⊢; exact h1
            · split at h1
              · rename_i b hb; exact absurd ⟨b, hb⟩ hx
              · rename_i hb; exact absurd hb hh
              · cases h1
theorem step1_cont {Cn : Nat → CallF} (hC : ApprC Cn C) {draw : Bool} {hd : List Nat} {all : List Oper} {o : Oper} {st st' : St} (h1 : step1 T C draw hd all o st = some st') : ∃ n, step1 T (Cn n) draw hd all o st = some st' := by
  unfold step1 at h1
  cases ha : act1 T C all o st.env (hideH hd (look st.heap)) with
  | none => rw [ha] at h1; cases h1
  | some y =>
    obtain ⟨n, hn⟩ := act1_cont hC ha
    refine ⟨n, ?_⟩
    unfold step1
    rw [ha] at h1; rw [hn]; exact h1
theorem relog_cont {b : Option Blk} {st : St} {kn : Nat → St → Option α} {k : St → Option α} {x : α} (hk : ∀ st x, k st = some x → ∃ n, kn n st = some x) (h : relog b st k = some x) : ∃ n, relog b st (kn n) = some x := by
  unfold relog at h ⊢
  split at h
  · split at h
    · exact hk _ _ h
    · cases h
  · exact hk _ _ h
theorem runOps_cont {Cn : Nat → CallF} (hC : ApprC Cn C) {draw : Bool} {hd : List (List Nat)} {all : List Oper} {kn : Nat → St → Option α} {k : St → Option α} (hm : ∀ n m st x, n ≤ m → kn n st = some x → kn m st = some x) (hk : ∀ st x, k st = some x → ∃ n, kn n st = some x) :
    ∀ {l : List Oper} {j : Nat} {st : St} {x : α}, runOps T C draw hd all l j st k = some x → ∃ n, runOps T (Cn n) draw hd all l j st (kn n) = some x
  | [], j, st, x, h => hk _ _ h
  | o :: r, j, st, x, h => by
    cases hy : yieldAt draw st o with
    | none =>
      rw [runOps_cons _ _ hy] at h
      cases h1 : step1 T C draw (hd.getD j []) all o st with
      | none => rw [h1] at h; cases h
      | some st1 =>
        rw [h1] at h
        obtain ⟨n1, hn1⟩ := step1_cont hC h1
        obtain ⟨n2, hn2⟩ := runOps_cont hC hm hk (l := r) h
        refine ⟨max n1 n2, ?_⟩
        rw [runOps_cons _ _ hy, step1_mono (hC.mono n1 (max n1 n2) (by omega)) hn1]
        exact runOps_mono (hC.mono n2 (max n1 n2) (by omega)) (fun st x h => hm n2 _ st x (by omega) h) hn2
    | some p =>
      obtain ⟨xs, vs⟩ := p
      rw [runOps_yield _ _ hy] at h
      cases hg : guardOf all o st.env with
      | none => rw [hg] at h; cases h
      | some b =>
        rw [hg] at h
        cases b with
        | false =>
          obtain ⟨n, hn⟩ := runOps_cont hC hm hk (l := r) h
          refine ⟨n, ?_⟩
          rw [runOps_yield _ _ hy, hg]
          exact hn
        | true =>
          obtain ⟨no, h1, h2⟩ := fork_some h
          obtain ⟨n1, hn1⟩ := runOps_cont hC hm hk (l := r) h1
          obtain ⟨n2, hn2⟩ := runOps_cont hC hm hk (l := r) h2
          refine ⟨max n1 n2, ?_⟩
          rw [runOps_yield _ _ hy, hg]
          exact fork_of (runOps_mono (hC.mono n1 (max n1 n2) (by omega)) (fun st x h => hm n1 _ st x (by omega) h) hn1) (runOps_mono (hC.mono n2 (max n1 n2) (by omega)) (fun st x h => hm n2 _ st x (by omega) h) hn2)
theorem seq_appr {kn : Nat → Ex → St → Option α} {k : Ex → St → Option α} (hk : ApprK kn k) {fn : Nat → St → Option α} {f : St → Option α} (hm : ∀ n m st x, n ≤ m → fn n st = some x → fn m st = some x) (hl : ∀ st x, f st = some x → ∃ n, fn n st = some x) :
    ApprK (fun n ex st' => match ex with | .normal => fn n st' | .exit id => kn n (.exit id) st' | .ret => kn n .ret st') (fun ex st' => match ex with | .normal => f st' | .exit id => k (.exit id) st' | .ret => k .ret st') :=
  ⟨fun n m h => seq_le (fun st x h' => hm n m st x h h') (hk.mono n m h), fun ex st x h => by
    cases ex with
    | normal => exact hl _ _ h
    | exit id => exact hk.lim _ _ _ h
    | ret => exact hk.lim _ _ _ h⟩
theorem block_appr {kn : Nat → Ex → St → Option α} {k : Ex → St → Option α} {id : Nat} (hk : ApprK kn k) :
    ApprK (fun n ex st' => match ex with | .normal => kn n .normal st' | .exit i => bif i == id then kn n .normal st' else kn n (.exit i) st' | .ret => kn n .ret st') (fun ex st' => match ex with | .normal => k .normal st' | .exit i => bif i == id then k .normal st' else k (.exit i) st' | .ret => k .ret st') :=
  ⟨fun n m h => block_le (hk.mono n m h), fun ex st x h => by
    cases ex with
    | normal => exact hk.lim _ _ _ h
    | exit i =>
      simp only at h ⊢
      cases hi : i == id with
      | true => rw [hi] at h; exact hk.lim _ _ _ h
      | false => rw [hi] at h; exact hk.lim _ _ _ h
    | ret => exact hk.lim _ _ _ h⟩
theorem runCode_cont {Cn : Nat → CallF} (hC : ApprC Cn C) {F : FI} : ∀ {c : Code} {st : St} {kn : Nat → Ex → St → Option α} {k : Ex → St → Option α} {x : α}, ApprK kn k → runCodeI T C F c st k = some x → ∃ n, runCode T (Cn n) F n c st (kn n) = some x
  | .skip, st, kn, k, x, hk, h => hk.lim _ _ _ h
  | .region id ops draw, st, kn, k, x, hk, h => by
    simp only [runCodeI, runCode] at h ⊢
    obtain ⟨h, e⟩ := altSt_path h
    simp only [e]
    cases draw with
    | false =>
      exact runOps_cont hC (kn := fun n st' => forceSt (settle F.cfg ops.toList st') fun st' => kn n .normal st') (fun n m st x hnm h => by rw [forceSt_eq] at h ⊢; exact hk.mono n m hnm _ _ _ h) (fun st x h => by
        rw [forceSt_eq] at h
        obtain ⟨n, hn⟩ := hk.lim _ _ _ h
        exact ⟨n, by rw [forceSt_eq]; exact hn⟩) h
    | true =>
      simp only [] at h ⊢
      cases hh : tlook F.hides id with
      | none => rw [hh] at h; cases h
      | some hd =>
        rw [hh] at h
        simp only [forceSt_eq] at h ⊢
        exact runOps_cont hC (kn := fun n st' => relog (look (st.strike (present st.heap (allSites ops.toList ops.toList))).heap argSite) st' fun st' => kn n .normal (settle F.cfg ops.toList st')) (fun n m st x hnm h => relog_mono (fun st x h => hk.mono n m hnm _ _ _ h) h) (fun st x h => relog_cont (kn := fun n st' => kn n .normal (settle F.cfg ops.toList st')) (fun st x h => hk.lim _ _ _ h) h) h
  | .seq y z, st, kn, k, x, hk, h => runCode_cont hC (c := y) (seq_appr hk (fn := fun n st' => runCode T (Cn n) F n z (forgetAt F.cfg z st') (kn n)) (fun n m st x hnm h => runCode_mono (hC.mono n m hnm) hnm (hk.mono n m hnm) h) (fun st x h => runCode_cont hC (c := z) hk h)) h
  | .cond c y z, st, kn, k, x, hk, h => by
    simp only [runCodeI, runCode] at h ⊢
    by_cases hx : ∃ b, evalO st.env c = .p (.bool b)
    · obtain ⟨b, hb⟩ := hx
      rw [hb] at h ⊢
      cases b with
      | true => exact runCode_cont hC (c := y) hk h
      | false => exact runCode_cont hC (c := z) hk h
    · split at h
      · rename_i b hb; exact absurd ⟨b, hb⟩ hx
      · cases h
  | .block id c, st, kn, k, x, hk, h => runCode_cont hC (c := c) (block_appr hk) h
  | .loop c, st, kn, k, x, hk, h => by
    obtain ⟨m, hm⟩ := lim_some h
    have key : ∀ m st x, loopN (forgetAt F.cfg c) (fun st' k' => runCodeI T C F c st' k') m st k = some x → ∃ n, loopN (forgetAt F.cfg c) (fun st' k' => runCode T (Cn n) F n c st' k') n st (kn n) = some x := by
      intro m
      induction m with
      | zero => intro st x h; simp [loopN] at h
      | succ m ih =>
        intro st x h
        rw [loopN_succ] at h
        have happ : ApprK (fun n => next (forgetAt F.cfg c) (fun st' => loopN (forgetAt F.cfg c) (fun st' k' => runCode T (Cn n) F n c st' k') n st' (kn n)) (kn n)) (next (forgetAt F.cfg c) (fun st' => loopN (forgetAt F.cfg c) (fun st' k' => runCodeI T C F c st' k') m st' k) k) :=
          ⟨fun n m hnm => next_le (fun st x h => loopN_mono (b := fun st' k' => runCode T (Cn n) F n c st' k') (b' := fun st' k' => runCode T (Cn m) F m c st' k') (fun st k k' x hk h => runCode_mono (hC.mono n m hnm) hnm (c := c) hk h) hnm (hk.mono n m hnm) h) (hk.mono n m hnm), fun ex st x h => by
            cases ex with
            | normal =>
              simp only [next, forceSt_eq] at h ⊢
              exact ih _ _ h
            | exit id => exact hk.lim _ _ _ h
            | ret => exact hk.lim _ _ _ h⟩
        obtain ⟨n, hn⟩ := runCode_cont hC (c := c) happ h
        refine ⟨n + 1, ?_⟩
        rw [loopN_succ]
        exact runCode_mono (hC.mono n (n + 1) (by omega)) (by omega) (next_le (fun st x h => loopN_mono (b := fun st' k' => runCode T (Cn n) F n c st' k') (b' := fun st' k' => runCode T (Cn (n + 1)) F (n + 1) c st' k') (fun st k k' x hk h => runCode_mono (hC.mono n (n + 1) (by omega)) (by omega) (c := c) hk h) (by omega) (hk.mono n (n + 1) (by omega)) h) (hk.mono n (n + 1) (by omega))) hn
    obtain ⟨n, hn⟩ := key m _ x hm
    exact ⟨n, hn⟩
  | .exit id, st, kn, k, x, hk, h => hk.lim _ _ _ h
  | .ret, st, kn, k, x, hk, h => hk.lim _ _ _ h
  | .label _, st, kn, k, x, hk, h => hk.lim _ _ _ h
  | .rangeFunc f ps y z, st, kn, k, x, hk, h => by
    obtain ⟨g, caps, fi, r, h1, h2, h3, h4, h5, h⟩ := rangeI_some h
    obtain ⟨n0, h5⟩ := hC.lim _ _ _ _ h5
    have rmono : ∀ n m, n ≤ m → LeB (roundC (α := α) T (Cn n) F n y z) (roundC T (Cn m) F m y z) := fun n m hnm st k k' x hk h => runCode_mono (hC.mono n m hnm) hnm (c := y) (seq_le (fun st x h => runCode_mono (hC.mono n m hnm) hnm (c := z) hk h) hk) h
    have key : ∀ (xs : List PV) (st : St) (x : α), rangeL (forgetAt F.cfg (.seq y z)) fi.cfg.yk ps.toList (rngWs ps y z) (fun st k => runCodeI T C F (.seq y z) st k) xs st k = some x → ∃ n, rangeL (forgetAt F.cfg (.seq y z)) fi.cfg.yk ps.toList (rngWs ps y z) (roundC T (Cn n) F n y z) xs st (kn n) = some x := by
      intro xs
      induction xs with
      | nil => intro st x h; exact hk.lim _ _ _ h
      | cons v xs ih =>
        intro st x h
        simp only [rangeL] at h ⊢
        split at h
        · cases h
        · rename_i env he
          rw [forceSt_eq] at h
          have happ : ApprK (fun n => rnext (forgetAt F.cfg (.seq y z)) (rngWs ps y z) (fun st => rangeL (forgetAt F.cfg (.seq y z)) fi.cfg.yk ps.toList (rngWs ps y z) (roundC T (Cn n) F n y z) xs st (kn n)) (kn n)) (rnext (forgetAt F.cfg (.seq y z)) (rngWs ps y z) (fun st => rangeL (forgetAt F.cfg (.seq y z)) fi.cfg.yk ps.toList (rngWs ps y z) (fun st k => runCodeI T C F (.seq y z) st k) xs st k) k) :=
            ⟨fun n m hnm => rnext_le (fun st x h => rangeL_mono (rmono n m hnm) (hk.mono n m hnm) h) (hk.mono n m hnm), fun ex st x h => by
              cases ex with
              | normal =>
                simp only [rnext, forceSt_eq] at h ⊢
                exact ih _ _ h
              | exit id =>
                simp only [rnext, forceSt_eq] at h ⊢
                exact hk.lim _ _ _ h
              | ret =>
                simp only [rnext, forceSt_eq] at h ⊢
                exact hk.lim _ _ _ h⟩
          have h' := runCode_cont hC (c := y) (seq_appr happ (fn := fun n st' => runCode T (Cn n) F n z (forgetAt F.cfg z st') (rnext (forgetAt F.cfg (.seq y z)) (rngWs ps y z) (fun st => rangeL (forgetAt F.cfg (.seq y z)) fi.cfg.yk ps.toList (rngWs ps y z) (roundC T (Cn n) F n y z) xs st (kn n)) (kn n))) (fun n m st x hnm h => runCode_mono (hC.mono n m hnm) hnm (c := z) (happ.mono n m hnm) h) (fun st x h => runCode_cont hC (c := z) happ h)) h
          obtain ⟨n, hn⟩ := h'
          exact ⟨n, by rw [forceSt_eq]; exact hn⟩
    obtain ⟨n1, h⟩ := key _ _ _ h
    refine ⟨max n0 n1, range_of h1 h2 h3 h4 (hC.mono n0 (max n0 n1) (by omega) _ _ _ _ h5) (rangeL_mono (rmono n1 (max n0 n1) (by omega)) (hk.mono n1 (max n0 n1) (by omega)) h)⟩
  | .scope c, st, kn, k, x, hk, h => runCode_cont hC (c := c) hk h
  | .goto .., st, kn, k, x, hk, h => by simp [runCodeI] at h
  | .refuse .., st, kn, k, x, hk, h => by simp [runCodeI] at h
theorem loop_of {C : CallF} {F : FI} {c : Code} {fg : St → St} {st : St} {k : Ex → St → Option α} {x : α} (h : runCodeI T C F c st (next fg (fun st' => loopI fg (fun st' k' => runCodeI T C F c st' k') st' k) k) = some x) : loopI fg (fun st' k' => runCodeI T C F c st' k') st k = some x := by
  have hb : LeB (fun st' k' => runCodeI (α := α) T C F c st' k') (fun st' k' => runCodeI T C F c st' k') := fun st k k' x hk h => runCodeI_mono (LeC.refl _) (c := c) hk h
  have happ : ApprK (fun n => next fg (fun st' => loopN fg (fun st' k' => runCodeI T C F c st' k') n st' k) k) (next fg (fun st' => loopI fg (fun st' k' => runCodeI T C F c st' k') st' k) k) :=
    ⟨fun n m hnm => next_le (fun st x h => loopN_mono hb hnm (LeK.refl _) h) (LeK.refl _), fun ex st x h => by
      cases ex with
      | normal =>
        simp only [next, forceSt_eq] at h ⊢
        exact lim_some h
      | exit id => exact ⟨0, h⟩
      | ret => exact ⟨0, h⟩⟩
  have hC : ApprC (fun _ => C) C := ⟨fun _ _ _ => LeC.refl _, fun _ _ _ _ h => ⟨0, h⟩⟩
  obtain ⟨n, hn⟩ := runCode_cont hC happ h
  have := runCode_le (LeC.refl C) (LeK.refl _) hn
  exact lim_of (n := n + 1) (fun _ _ _ hnm h => loopN_mono hb hnm (LeK.refl _) h) (by rw [loopN_succ]; exact this)
theorem acall_mono {X : Ext} : ∀ {n m : Nat}, n ≤ m → LeC (acall T X n) (acall T X m)
  | 0, _, _ => fun f a b x h => by simp [acall] at h
  | n + 1, 0, hm => by omega
  | n + 1, m + 1, hm => fun f a b x h => by
    simp only [acall] at h ⊢
    split at h
    · cases h
    · rename_i fi hf
      split at h
      · exact h
      · rename_i hx
        split at h
        · cases h
        · rename_i c hc
          simp only [forceAVs_eq, forceBlks_eq, forceSt_eq] at h ⊢
          exact runCode_mono (acall_mono (by omega)) (by omega) (LeK.refl _) h
theorem run_appr {X : Ext} : ApprC (acall T X) (run T X) := ⟨fun _ _ h => acall_mono h, fun _ _ _ _ h => lim_some h⟩
theorem run_mono {X : Ext} {f : Nat} {a : List AV} {b : List Blk} : Mono fun n => acall T X n f a b := fun _n _m x hnm h => acall_mono hnm f a b x h
theorem run_of {X : Ext} {f : Nat} {args : List AV} {bl : List Blk} {r : List AV × List Blk} (hX : X f = none) (h : acallI T (run T X) f args bl = some r) : run T X f args bl = some r := by
  unfold acallI at h
  split at h
  · cases h
  · rename_i fi hf
    split at h
    · cases h
    · rename_i c hc
      simp only [forceAVs_eq, forceBlks_eq, forceSt_eq] at h
      obtain ⟨n, hn⟩ := runCode_cont run_appr (kn := fun _ => retC T fi bl) ⟨fun _ _ _ => LeK.refl _, fun _ _ _ h => ⟨0, h⟩⟩ h
      refine lim_of (n := n + 1) run_mono ?_
      simp only [acall, hf, hX, hc, forceAVs_eq, forceBlks_eq, forceSt_eq]
      refine runCode_mono (LeC.refl _) (Nat.le_refl n) (fun ex st x h => ?_) hn
      cases ex <;> exact h
theorem run_ext {X : Ext} {f : Nat} {fi : FI} {s : List AV → List Blk → Option (List AV × List Blk)} {args : List AV} {bl : List Blk} {r : List AV × List Blk} (hf : tlook T.funcs f = some fi) (hX : X f = some s) (h : s args bl = some r) : run T X f args bl = some r :=
  lim_of (n := 1) run_mono (by simp only [acall, hf, hX]; exact h)
theorem run_sound {P : Program} (ok : TabOk P T) {X : Ext} {gl : List (Nat × Obj)} (hX : ExtOk P T gl X) : CallOk P T gl (run T X) := by
  intro f fi args bl rs bl' hf hpb h
  obtain ⟨n, hn⟩ := lim_some h
  exact acall_sound ok hX n f fi args bl rs bl' hf hpb hn
end
inductive Wy where
  | lp (p : List Nat)
  | rg (p : List Nat) (ss : List (Bool × List Kd)) (xs : List PV)
section
variable {α : Type} (T : Tab) (C : CallF) (F : FI)
def codeAt : Code → List Nat → Code
  | c, [] => c
  | .seq a _, 0 :: p => codeAt a p
  | .seq _ b, _ :: p => codeAt b p
  | .cond _ a _, 0 :: p => codeAt a p
  | .cond _ _ b, _ :: p => codeAt b p
  | .block _ c, _ :: p => codeAt c p
  | .scope c, _ :: p => codeAt c p
  | .loop c, _ :: p => codeAt c p
  | c, _ => c
def bodyAt (c : Code) (p : List Nat) : Code := match codeAt c p with
  | .loop b => b
  | .rangeFunc _ _ a b => .seq a b
  | _ => .skip
def psAt (c : Code) (p : List Nat) : List Nat := match codeAt c p with
  | .rangeFunc _ ps _ _ => ps.toList
  | _ => []
def wsAt (c : Code) (p : List Nat) : List Nat := match codeAt c p with
  | .rangeFunc _ ps a b => rngWs ps a b
  | _ => []
noncomputable def contAt : Code → List Nat → (Ex → St → Option α) → Ex → St → Option α
  | .seq a b, 0 :: p, k => contAt a p fun ex st' =>
    match ex with
    | .normal => runCodeI T C F b (forgetAt F.cfg b st') k
    | .exit id => k (.exit id) st'
    | .ret => k .ret st'
  | .seq _ b, _ :: p, k => contAt b p k
  | .cond _ a _, 0 :: p, k => contAt a p k
  | .cond _ _ b, _ :: p, k => contAt b p k
  | .block id c, _ :: p, k => contAt c p fun ex st' =>
    match ex with
    | .normal => k .normal st'
    | .exit i => bif i == id then k .normal st' else k (.exit i) st'
    | .ret => k .ret st'
  | .scope c, _ :: p, k => contAt c p k
  | _, _, k => k
noncomputable def lpAt (c : Code) (p : List Nat) (k : Ex → St → Option α) (st : St) : Option α := loopI (forgetAt F.cfg (bodyAt c p)) (fun st' k' => runCodeI T C F (bodyAt c p) st' k') st (contAt T C F c p k)
noncomputable def lpNext (c : Code) (p : List Nat) (k : Ex → St → Option α) : Ex → St → Option α := next (forgetAt F.cfg (bodyAt c p)) (lpAt T C F c p k) (contAt T C F c p k)
noncomputable def rgAt (c : Code) (p : List Nat) (ss : List (Bool × List Kd)) (k : Ex → St → Option α) (xs : List PV) (st : St) : Option α :=
  rangeL (forgetAt F.cfg (bodyAt c p)) ss (psAt c p) (wsAt c p) (fun st k => runCodeI T C F (bodyAt c p) st k) xs st (contAt T C F c p k)
noncomputable def rgNext (c : Code) (p : List Nat) (ss : List (Bool × List Kd)) (xs : List PV) (k : Ex → St → Option α) : Ex → St → Option α := rnext (forgetAt F.cfg (bodyAt c p)) (wsAt c p) (rgAt T C F c p ss k xs) (contAt T C F c p k)
noncomputable def loopAt : Code → (Ex → St → Option α) → List Wy → St → Option α
  | _, _, [], _ => none
  | c, k, [.lp p], st => lpAt T C F c p k st
  | c, k, [.rg p ss xs], st => rgAt T C F c p ss k xs st
  | c, k, .lp p :: q :: r, st => loopAt (bodyAt c p) (lpNext T C F c p k) (q :: r) st
  | c, k, .rg p ss xs :: q :: r, st => loopAt (bodyAt c p) (rgNext T C F c p ss xs k) (q :: r) st
noncomputable def behindAt : Code → (Ex → St → Option α) → List Wy → Ex → St → Option α
  | _, k, [], ex, st => k ex st
  | c, k, [.lp p], ex, st => contAt T C F c p k ex st
  | c, k, [.rg p _ _], ex, st => contAt T C F c p k ex st
  | c, k, .lp p :: q :: r, ex, st => behindAt (bodyAt c p) (lpNext T C F c p k) (q :: r) ex st
  | c, k, .rg p ss xs :: q :: r, ex, st => behindAt (bodyAt c p) (rgNext T C F c p ss xs k) (q :: r) ex st
noncomputable def roundAt : Code → (Ex → St → Option α) → List Wy → St → Option α
  | _, _, [], _ => none
  | c, k, [.lp p], st => runCodeI T C F (bodyAt c p) st (lpNext T C F c p k)
  | c, k, [.rg p ss xs], st => rgAt T C F c p ss k xs st
  | c, k, .lp p :: q :: r, st => roundAt (bodyAt c p) (lpNext T C F c p k) (q :: r) st
  | c, k, .rg p ss xs :: q :: r, st => roundAt (bodyAt c p) (rgNext T C F c p ss xs k) (q :: r) st
variable {T C F}
theorem loopAt_of {x : α} : ∀ {l : List Wy} {c : Code} {k : Ex → St → Option α} {st : St}, roundAt T C F c k l st = some x → loopAt T C F c k l st = some x
  | [], _, _, _, h => by simp [roundAt] at h
  | [.lp p], c, k, st, h => loop_of h
  | [.rg p ss xs], c, k, st, h => h
  | .lp p :: q :: r, c, k, st, h => loopAt_of (l := q :: r) h
  | .rg p ss xs :: q :: r, c, k, st, h => loopAt_of (l := q :: r) h
end
section
variable (T : Tab) (C : CallF) (f : Nat) (bl : List Blk)
noncomputable def fiOf : FI := match tlook T.funcs f with | some fi => fi | none => ⟨default, {}, []⟩
def codeOf (F : FI) : Code := match F.fn.body with | some c => c | none => .skip
noncomputable def L (l : List Wy) (st : St) : Option (List AV × List Blk) := loopAt T C (fiOf T f) (codeOf (fiOf T f)) (retC T (fiOf T f) bl) l st
noncomputable def K (l : List Wy) (ex : Ex) (st : St) : Option (List AV × List Blk) := behindAt T C (fiOf T f) (codeOf (fiOf T f)) (retC T (fiOf T f) bl) l ex st
noncomputable def R (l : List Wy) (st : St) : Option (List AV × List Blk) := roundAt T C (fiOf T f) (codeOf (fiOf T f)) (retC T (fiOf T f) bl) l st
variable {T C f bl}
theorem L_of {l : List Wy} {st : St} {x : List AV × List Blk} (h : R T C f bl l st = some x) : L T C f bl l st = some x := loopAt_of h
end
end Go.Skm
namespace Go.Skm
open Go.ChangeShapes Go.WideShapes
mutual
def PV.wf : PV → Prop
  | .int k n => (Lit.int k n).wf = true
  | .str s => s.size ≤ maxLen
  | .list _ _ xs => xs.length ≤ maxLen ∧ PV.wfs xs
  | .agg cs => PV.wfs cs
  | .nil => False
  | _ => True
def PV.wfs : List PV → Prop
  | [] => True
  | v :: r => PV.wf v ∧ PV.wfs r
end
theorem wfs_mem : ∀ {l : List PV}, PV.wfs l ↔ ∀ v ∈ l, v.wf
  | [] => by simp [PV.wfs]
  | v :: r => by simp [PV.wfs, wfs_mem]
section
variable (P : Program)
def argT : Nat → TypeId → Bool
  | 0, _ => false
  | n + 1, t =>
    match P.underlying t with
    | some (.int _) => Nat.beq (P.cellsOf t) 1
    | some .bool => Nat.beq (P.cellsOf t) 1
    | some .string => Nat.beq (P.cellsOf t) 1
    | some (.slice e) => argT n e && (Nat.blt 0 (P.cellsOf e) && Nat.beq (P.cellsOf t) 1)
    | some (.struct fs) => go n 0 fs.toList && Nat.beq (P.cellsOf t) (sum fs.toList)
    | some (.array m e) => argT n e && Nat.beq (P.cellsOf t) (m * P.cellsOf e)
    | _ => false
where
  go (n : Nat) : Nat → List Field → Bool
  | _, [] => true
  | o, f :: r => f.offset == o && (argT n f.type && go n (o + P.cellsOf f.type) r)
  sum : List Field → Nat
  | [] => 0
  | f :: r => P.cellsOf f.type + sum r
end
section
variable {H : Type} {enc : TypeId × Value → H} {P : Program} {w : World} {base : Nat} {sp : Nat → Bool} {held : Bool} {M : Nat → Prop}
theorem argT_len : ∀ {n : Nat} {t : TypeId}, argT P n t = true → (shapeP P n t).2.length = P.cellsOf t
  | 0, t, h => by simp [argT] at h
  | n + 1, t, h => by
    unfold argT at h
    unfold shapeP
    split at h
    · rename_i k hu; rw [hu]; simpa using (Nat.eq_of_beq_eq_true h).symm
    · rename_i hu; rw [hu]; simpa using (Nat.eq_of_beq_eq_true h).symm
    · rename_i hu; rw [hu]; simpa using (Nat.eq_of_beq_eq_true h).symm
    · rename_i e hu
      rw [hu]
      simp only [Bool.and_eq_true] at h
      simpa using (Nat.eq_of_beq_eq_true h.2.2).symm
    · rename_i fs hu
      rw [hu]
      simp only [Bool.and_eq_true] at h
      rw [Nat.eq_of_beq_eq_true h.2]
      have : ∀ (l : List Field) (o : Nat), argT.go P n o l = true → (l.flatMap fun f => (shapeP P n f.type).2).length = argT.sum P l := by
        intro l
        induction l with
        | nil => intro o _; rfl
        | cons f r ih =>
          intro o h
          simp only [argT.go, Bool.and_eq_true] at h
          simp only [List.flatMap_cons, List.length_append, argT.sum, argT_len h.2.1, ih _ h.2.2]
      exact this _ _ h.1
    · rename_i m e hu
      rw [hu]
      simp only [Bool.and_eq_true] at h
      simp only [List.length_flatten, List.map_replicate, List.sum_replicate_nat, argT_len h.1]
      exact (Nat.eq_of_beq_eq_true h.2).symm
    · cases h
def ArgR (w : World) (M : Nat → Prop) (ks : List Kd) (cs : List Value) (ps : List PV) : Prop :=
  kindsOk ks ps = true ∧ ps.length = cs.length ∧ (∀ (i : Nat) (p : PV), ps[i]? = some p → VR w M p (cs.getD i undef)) ∧ PV.wfs ps
theorem kindsOk_append : ∀ {k1 k2 : List Kd} {p1 p2 : List PV}, kindsOk k1 p1 = true → kindsOk k2 p2 = true → kindsOk (k1 ++ k2) (p1 ++ p2) = true
  | [], k2, [], p2, _, h => h
  | k :: k1, k2, v :: p1, p2, h1, h2 => by
    simp only [kindsOk, Bool.and_eq_true] at h1
    simp only [List.cons_append, kindsOk, Bool.and_eq_true]
    exact ⟨h1.1, kindsOk_append h1.2 h2⟩
  | [], _, _ :: _, _, h, _ => by simp [kindsOk] at h
  | _ :: _, _, [], _, h, _ => by simp [kindsOk] at h
theorem ArgR.append {k1 k2 : List Kd} {c1 c2 : List Value} {p1 p2 : List PV} (h1 : ArgR w M k1 c1 p1) (h2 : ArgR w M k2 c2 p2) : ArgR w M (k1 ++ k2) (c1 ++ c2) (p1 ++ p2) := by
  refine ⟨kindsOk_append h1.1 h2.1, by simp [h1.2.1, h2.2.1], fun i p hp => ?_, ?_⟩
  · by_cases hi : i < p1.length
    · rw [List.getElem?_append_left hi] at hp
      have := h1.2.2.1 i p hp
      rw [List.getD_eq_getElem?_getD] at this ⊢
      rwa [List.getElem?_append_left (by rw [← h1.2.1]; exact hi)]
    · rw [List.getElem?_append_right (by omega)] at hp
      have := h2.2.2.1 _ p hp
      rw [List.getD_eq_getElem?_getD] at this ⊢
      rwa [List.getElem?_append_right (by rw [← h1.2.1]; omega), ← h1.2.1]
  · rw [wfs_mem] at *
    have a := wfs_mem.1 h1.2.2.2
    have b := wfs_mem.1 h2.2.2.2
    intro v hv
    rcases List.mem_append.1 hv with hv | hv
    · exact a v hv
    · exact b v hv
def elemPV (a : Bool) (ps : List PV) : PV := match a with | true => .agg ps | false => ps.headD .nil
theorem shapeP_one {n : Nat} {t : TypeId} (h : argT P n t = true) (ha : (shapeP P n t).1 = false) : (shapeP P n t).2.length = 1 := by
  cases n with
  | zero => simp [argT] at h
  | succ n =>
    unfold argT at h
    unfold shapeP at ha ⊢
    split at h <;> rename_i hu <;> first | (simp only [hu] at ha ⊢; done) | skip
    all_goals (try (simp only [hu] at ha ⊢; rfl))
    all_goals (simp only [hu] at ha)
    all_goals (cases ha)
theorem arg_elem_ok {n : Nat} {t : TypeId} {cs : List Value} {ps : List PV} (h : argT P n t = true) (hc : ArgR w M (shapeP P n t).2 cs ps) :
    shapeOk (shapeP P n t).1 (shapeP P n t).2 (elemPV (shapeP P n t).1 ps) = true ∧ (elemPV (shapeP P n t).1 ps).cells = ps ∧ (elemPV (shapeP P n t).1 ps).wf := by
  cases ha : (shapeP P n t).1 with
  | true => exact ⟨hc.1, rfl, by simp only [elemPV, PV.wf]; exact hc.2.2.2⟩
  | false =>
    have h1 := shapeP_one h ha
    have hk := hc.1
    match hks : (shapeP P n t).2, h1, hk with
    | [k], _, hk =>
      match ps, hk, hc with
      | [p], hk, hc =>
        simp only [kindsOk, Bool.and_true] at hk
        have hl := kindOk_leaf hk
        refine ⟨hk, ?_, ?_⟩
        · simp only [elemPV, List.headD_cons]
          cases p <;> first | rfl | simp [PV.leaf] at hl
        · exact (wfs_mem.1 hc.2.2.2) p (by simp)
      | [], hk, _ => simp [kindsOk] at hk
      | _ :: _ :: _, hk, _ => simp [kindsOk] at hk
theorem spot_of_cells {a : Addr} {n i : Nat} {v : Value} (h : w.cell? (a.add i) = some v) (hi : i < n) (h0 : i = 0) : a.spot = none := by
  subst h0
  simp only [Addr.add, if_true] at h
  unfold World.cell? at h
  split at h
  · cases hs : a.spot with
    | none => rfl
    | some s => rw [hs] at h; simp at h
  · cases h
theorem cells?_get {a : Addr} {n : Nat} {cs : List Value} (h : w.cells? base a n = some cs) : cs.length = n ∧ ∀ i, i < n → ∃ v, cs[i]? = some v ∧ w.cell? (a.add i) = some v := by
  unfold World.cells? at h
  split at h
  · have hl := mapM_some_length h
    simp at hl
    refine ⟨hl, fun i hi => ?_⟩
    have := mapM_some_get h i i (by simp [hi])
    have hlt : i < cs.length := by omega
    rw [List.getElem?_eq_getElem hlt] at this
    exact ⟨cs[i], by simp, this⟩
  · cases h
theorem trod_pure (hM : ∀ b, b < w.heap.size → M b) : ∀ (fuel n : Nat) (t : TypeId) (cs : List Value) (x : DataW H × List MemPlace), DataW.trod enc P w base sp held fuel t cs = some x → argT P n t = true → ∃ ps, ArgR w M (shapeP P n t).2 cs ps := by
  intro fuel
  induction fuel with
  | zero => intro n t cs x h; simp [DataW.trod] at h
  | succ fuel ih =>
    intro n t cs x h ha
    cases n with
    | zero => simp [argT] at ha
    | succ n =>
      unfold argT at ha
      have one : ∀ (k : Kd) (p : PV) (v : Value), kindOk k p = true → VR w M p v → p.wf → ArgR w M [k] [v] [p] := by
        intro k p v h1 h2 h3
        refine ⟨by simp [kindsOk, h1], rfl, fun i q hq => ?_, by simp [PV.wfs, h3]⟩
        cases i with
        | zero => simp at hq; subst hq; simpa using h2
        | succ i => simp at hq
      split at ha
      · rename_i k hu
        obtain ⟨m, rfl, _, hw⟩ := DataW.trod_int hu h
        have e : (shapeP P (n + 1) t).2 = [.int k] := by (conv => lhs; unfold shapeP); rw [hu]
        rw [e]
        exact ⟨_, one _ (.int k m) _ (by simp [kindOk]) (.int k m) hw⟩
      · rename_i hu
        obtain ⟨b, rfl, _⟩ := DataW.trod_bool hu h
        have e : (shapeP P (n + 1) t).2 = [.bool] := by (conv => lhs; unfold shapeP); rw [hu]
        rw [e]
        exact ⟨_, one _ (.bool b) _ rfl (.bool b) trivial⟩
      · rename_i hu
        obtain ⟨s, rfl, _, hw⟩ := DataW.trod_string hu h
        have e : (shapeP P (n + 1) t).2 = [.str] := by (conv => lhs; unfold shapeP); rw [hu]
        rw [e]
        exact ⟨_, one _ (.str s) _ rfl (.str s) hw⟩
      · -- a slice
        rename_i e hu
        simp only [Bool.and_eq_true] at ha
        have es : (shapeP P (n + 1) t).2 = [.slice (shapeP P n e).1 (shapeP P n e).2] := by (conv => lhs; unfold shapeP); rw [hu]
        rw [es]
        have hpos : 0 < P.cellsOf e := Nat.le_of_ble_eq_true ha.2.1
        have hlen := argT_len ha.1
        rcases DataW.trod_slice hu h with ⟨rfl, _⟩ | ⟨a, len, cap, elems, rest, m, hm, rfl, _, hb, hlc, hcm, hel, hget, _, _⟩
        · exact ⟨_, one _ (.list (shapeP P n e).1 (shapeP P n e).2 []) _ (by simp [kindOk, Kd.beqs_refl]) (.listE _ _ none 0) (by simp [PV.wf, PV.wfs])⟩
        · cases hm
          have good : ∀ i, i < len → ∃ (ps : List PV) (csi : List Value), w.cells? base (a.add (i * P.cellsOf e)) (P.cellsOf e) = some csi ∧ ArgR w M (shapeP P n e).2 csi ps := by
            intro i hi
            have h1 := hget i hi
            rw [List.getElem?_eq_getElem (by omega)] at h1
            simp only [Option.bind_eq_some_iff] at h1
            obtain ⟨csi, h2, h3⟩ := h1
            obtain ⟨ps, h4⟩ := ih n e csi _ h3 ha.1
            exact ⟨ps, csi, h2, h4⟩
          by_cases h0 : len = 0
          · subst h0
            exact ⟨_, one _ (.list (shapeP P n e).1 (shapeP P n e).2 []) _ (by simp [kindOk, Kd.beqs_refl]) (.listE _ _ (some a) cap) (by simp [PV.wf, PV.wfs])⟩
          · have hspot : a.spot = none := by
              obtain ⟨ps, csi, h2, _⟩ := good 0 (by omega)
              obtain ⟨_, h3⟩ := cells?_get h2
              obtain ⟨v, _, h4⟩ := h3 0 hpos
              simp only [Nat.zero_mul] at h4
              have e0 : a.add 0 = a := by simp [Addr.add]
              rw [e0] at h4
              exact spot_of_cells h4 hpos rfl
            have addr : ∀ i j, (a.add (i * P.cellsOf e)).add j = ⟨a.block, a.off + i * P.cellsOf e + j, none⟩ := by
              intro i j
              obtain ⟨ab, ao, as⟩ := a
              simp only at hspot
              subst hspot
              unfold Addr.add
              by_cases h1 : i * P.cellsOf e = 0 <;> by_cases h2 : j = 0 <;> simp [h1, h2]
            have hex : ∃ (f : Nat → List PV) (g : Nat → List Value), ∀ i, i < len → w.cells? base (a.add (i * P.cellsOf e)) (P.cellsOf e) = some (g i) ∧ ArgR w M (shapeP P n e).2 (g i) (f i) :=
              ⟨fun i => if h : i < len then (good i h).choose else [], fun i => if h : i < len then (good i h).choose_spec.choose else [], fun i hi => by
                simp only [dif_pos hi]; exact (good i hi).choose_spec.choose_spec⟩
            obtain ⟨f, g, hfg⟩ := hex
            have hblk : a.block < w.heap.size := by
              obtain ⟨h2, _⟩ := hfg 0 (by omega)
              obtain ⟨_, h3⟩ := cells?_get h2
              obtain ⟨v, _, h4⟩ := h3 0 hpos
              rw [addr] at h4
              unfold World.cell? at h4
              simp only at h4
              rcases Nat.lt_or_ge a.block w.heap.size with h' | h'
              · exact h'
              · rw [Array.getElem?_eq_none h'] at h4; cases h4
            have hxs : ∀ (i : Nat) (x : PV), ((List.range len).map fun i => elemPV (shapeP P n e).1 (f i))[i]? = some x → i < len ∧ x = elemPV (shapeP P n e).1 (f i) := by
              intro i x hx
              simp only [List.getElem?_map, Option.map_eq_some_iff] at hx
              obtain ⟨j, hj, rfl⟩ := hx
              have hi : i < len := by simpa using (List.getElem?_eq_some_iff.1 hj).1
              rw [List.getElem?_range hi] at hj
              cases hj
              exact ⟨hi, rfl⟩
            refine ⟨[.list (shapeP P n e).1 (shapeP P n e).2 ((List.range len).map fun i => elemPV (shapeP P n e).1 (f i))], one _ _ _ (by simp [kindOk, Kd.beqs_refl]) ?_ ?_⟩
            · have := VR.list (w := w) (M := M) (shapeP P n e).1 (shapeP P n e).2 ((List.range len).map fun i => elemPV (shapeP P n e).1 (f i)) a.block a.off cap (fun i j => (g i).getD j undef) (hM _ hblk) (by simpa using hlc)
                (fun i x j c hx hj => by
                  obtain ⟨hi, rfl⟩ := hxs i x hx
                  obtain ⟨h2, h3⟩ := hfg i hi
                  rw [(arg_elem_ok ha.1 h3).2.1] at hj
                  obtain ⟨hl, h4⟩ := cells?_get h2
                  have hjl : j < P.cellsOf e := by
                    have := (List.getElem?_eq_some_iff.1 hj).1
                    rw [h3.2.1, hl] at this; exact this
                  obtain ⟨v, h5, h6⟩ := h4 j hjl
                  rw [addr] at h6
                  rw [hlen, h6, List.getD_eq_getElem?_getD, h5]; rfl)
                (fun i x j c hx hj => by
                  obtain ⟨hi, rfl⟩ := hxs i x hx
                  obtain ⟨h2, h3⟩ := hfg i hi
                  rw [(arg_elem_ok ha.1 h3).2.1] at hj
                  exact h3.2.2.1 j c hj)
                (fun x hx => by
                  obtain ⟨i, hi⟩ := List.mem_iff_getElem?.1 hx
                  obtain ⟨hi', rfl⟩ := hxs i x hi
                  exact (arg_elem_ok ha.1 (hfg i hi').2).1)
              have ea : a = ⟨a.block, a.off, none⟩ := by cases a; simp at hspot; simp [hspot]
              rw [List.length_map, List.length_range] at this
              rw [ea]; exact this
            · refine ⟨by simpa using Nat.le_trans hlc hcm, wfs_mem.2 fun x hx => ?_⟩
              obtain ⟨i, hi⟩ := List.mem_iff_getElem?.1 hx
              obtain ⟨hi', rfl⟩ := hxs i x hi
              exact (arg_elem_ok ha.1 (hfg i hi').2).2.2
      · -- a struct
        rename_i fs hu
        simp only [Bool.and_eq_true] at ha
        have es : (shapeP P (n + 1) t).2 = fs.toList.flatMap fun f => (shapeP P n f.type).2 := by (conv => lhs; unfold shapeP); rw [hu]
        rw [es]
        obtain ⟨xs, m, hm, _, hl, hxl, hget⟩ := DataW.trod_struct hu h
        cases hm
        have htot := Nat.eq_of_beq_eq_true ha.2
        have key : ∀ (l : List Field) (o : Nat), argT.go P n o l = true → (∀ f ∈ l, ∃ y, DataW.trod enc P w base sp held fuel f.type ((cs.drop f.offset).take (P.cellsOf f.type)) = some y) → o + argT.sum P l = cs.length →
            ∃ ps, ArgR w M (l.flatMap fun f => (shapeP P n f.type).2) (cs.drop o) ps := by
          intro l
          induction l with
          | nil =>
            intro o _ _ ho
            simp only [argT.sum, Nat.add_zero] at ho
            refine ⟨[], rfl, ?_, fun i p h => by simp at h, trivial⟩
            simp [ho]
          | cons f r ihl =>
            intro o hg hm ho
            simp only [argT.go, Bool.and_eq_true, beq_iff_eq] at hg
            obtain ⟨hoff, hf, hr⟩ := hg
            obtain ⟨y, hy⟩ := hm f (by simp)
            rw [hoff] at hy
            obtain ⟨p1, h1⟩ := ih n f.type _ y hy hf
            simp only [argT.sum] at ho
            obtain ⟨p2, h2⟩ := ihl (o + P.cellsOf f.type) hr (fun g hg => hm g (by simp [hg])) (by omega)
            refine ⟨p1 ++ p2, ?_⟩
            have := h1.append h2
            rw [← List.drop_drop] at this
            rwa [List.take_append_drop] at this
        obtain ⟨ps, hps⟩ := key fs.toList 0 ha.1 (fun f hf => by
          obtain ⟨i, hi⟩ := List.mem_iff_getElem?.1 hf
          have hi' : fs[i]? = some f := by simpa using hi
          have hlt : i < xs.length := by rw [hxl]; exact (Array.getElem?_eq_some_iff.1 hi').1
          exact ⟨xs[i], by rw [hget i f hi', List.getElem?_eq_getElem hlt]⟩) (by rw [Nat.zero_add, hl, htot])
        exact ⟨ps, by simpa using hps⟩
      · -- an array
        rename_i m e hu
        simp only [Bool.and_eq_true] at ha
        have es : (shapeP P (n + 1) t).2 = (List.replicate m (shapeP P n e).2).flatten := by (conv => lhs; unfold shapeP); rw [hu]
        rw [es]
        have h' : (if cs.length = P.cellsOf t then ((List.range m).mapM fun i => DataW.trod enc P w base sp held fuel e ((cs.drop (i * P.cellsOf e)).take (P.cellsOf e))).map fun xs => ((.agg (xs.map (·.1)) : DataW H), xs.flatMap (·.2)) else none) = some x := by
          rw [← h, DataW.trod_step]
          unfold DataW.trodStep
          rw [hu]
        clear h
        split at h'
        · rename_i hl
          simp only [Option.map_eq_some_iff] at h'
          obtain ⟨xs, hxs, rfl⟩ := h'
          have htot := Nat.eq_of_beq_eq_true ha.2
          have hel : ∀ i, i < m → ∃ ps, ArgR w M (shapeP P n e).2 ((cs.drop (i * P.cellsOf e)).take (P.cellsOf e)) ps := by
            intro i hi
            have h1 := mapM_some_get hxs i i (by simp [hi])
            have hl := mapM_some_length hxs
            simp at hl
            rw [List.getElem?_eq_getElem (by omega)] at h1
            exact ih n e _ _ h1 ha.1
          have key : ∀ (k : Nat), k ≤ m → ∃ ps, ArgR w M (List.replicate k (shapeP P n e).2).flatten (cs.drop ((m - k) * P.cellsOf e)) ps := by
            intro k
            induction k with
            | zero =>
              intro _
              refine ⟨[], rfl, ?_, fun i p h => by simp at h, trivial⟩
              simp [hl, htot]
            | succ k ihk =>
              intro hk
              obtain ⟨p2, h2⟩ := ihk (by omega)
              obtain ⟨p1, h1⟩ := hel (m - (k + 1)) (by omega)
              refine ⟨p1 ++ p2, ?_⟩
              have := h1.append h2
              rw [List.replicate_succ, List.flatten_cons]
              have e1 : m - k = m - (k + 1) + 1 := by omega
              rw [e1, Nat.add_mul, Nat.one_mul, ← List.drop_drop, List.take_append_drop] at this
              exact this
          obtain ⟨ps, hps⟩ := key m (Nat.le_refl m)
          exact ⟨ps, by simpa using hps⟩
        · cases h'
      · cases ha
theorem sameAt_of {w w' : World} (hb : ∀ b, b < w.heap.size → w'.heap[b]? = w.heap[b]?) {p : MemPlace} (hp : p.block < w.heap.size) : w.sameAt w' p := by
  cases p with
  | cell b off => simp only [World.sameAt, World.cell?]; rw [hb b hp]
  | map b => exact hb b hp
theorem trod_spare : ∀ (fuel n : Nat) (t : TypeId) (cs : List Value) (x : DataW H × List MemPlace), DataW.trod enc P w base (fun _ => true) held fuel t cs = some x → argT P n t = true → (∀ p ∈ x.2, sp p.block = true) → DataW.trod enc P w base sp held fuel t cs = some x := by
  intro fuel
  induction fuel with
  | zero => intro n t cs x h; simp [DataW.trod] at h
  | succ fuel ih =>
    intro n t cs x h ha hs
    cases n with
    | zero => simp [argT] at ha
    | succ n =>
      unfold argT at ha
      split at ha
      · rename_i k hu
        obtain ⟨m, rfl, rfl, hw⟩ := DataW.trod_int hu h
        rw [DataW.trod_step]; simp [DataW.trodStep, hu, hw]
      · rename_i hu
        obtain ⟨b, rfl, rfl⟩ := DataW.trod_bool hu h
        rw [DataW.trod_step]; simp [DataW.trodStep, hu]
      · rename_i hu
        obtain ⟨s, rfl, rfl, hw⟩ := DataW.trod_string hu h
        rw [DataW.trod_step]; simp [DataW.trodStep, hu, hw]
      · rename_i e hu
        simp only [Bool.and_eq_true] at ha
        have hpos : 0 < P.cellsOf e := Nat.le_of_ble_eq_true ha.2.1
        rcases DataW.trod_slice hu h with ⟨rfl, rfl⟩ | ⟨a, len, cap, elems, rest, m, hm, rfl, rfl, hb, hlc, hcm, hel, hget, hrest, _⟩
        · rw [DataW.trod_step]; simp [DataW.trodStep, hu]
        · cases hm
          obtain ⟨hrl, hrg⟩ := hrest rfl
          rw [DataW.trod_step] at h ⊢
          unfold DataW.trodStep at h ⊢
          rw [hu] at h ⊢
          simp only [hb, hlc, hcm, and_self, if_true, Option.bind_eq_some_iff, Option.map_eq_some_iff] at h ⊢
          obtain ⟨el, he, rs, hr, hd⟩ := h
          have hall : ∀ y ∈ el ++ rs, ∀ p ∈ y.2, sp p.block = true := by
            intro y hy p hp
            refine hs p ?_
            rw [← (Prod.mk.inj hd).2]
            exact List.mem_append.2 (.inr (List.mem_flatMap.2 ⟨y, hy, hp⟩))
          refine ⟨el, mapM_carry he fun i y hi hy hf => ?_, rs, ?_, hd⟩
          · simp only [Option.bind_eq_some_iff] at hf ⊢
            obtain ⟨cs', h1, h2⟩ := hf
            exact ⟨cs', h1, ih n e cs' y h2 ha.1 (hall y (by simp [hy]))⟩
          · split
            · refine mapM_carry hr fun i y hi hy hf => ?_
              simp only [Option.bind_eq_some_iff] at hf ⊢
              obtain ⟨cs', h1, h2⟩ := hf
              exact ⟨cs', h1, ih n e cs' y h2 ha.1 (hall y (by simp [hy]))⟩
            · rename_i hsp
              by_cases hz : rs = []
              · rw [hz]
              · exfalso
                refine hsp (hs (.cell a.block a.off) ?_)
                rw [← (Prod.mk.inj hd).2]
                refine List.mem_append.2 (.inl (MemPlace.mem_row.2 ⟨0, ?_, by simp⟩))
                have : 0 < rs.length := List.length_pos_iff.2 hz
                exact Nat.mul_pos (by omega) hpos
      · rename_i fs hu
        simp only [Bool.and_eq_true] at ha
        obtain ⟨xs, m, hm, rfl, hl, hxl, hget⟩ := DataW.trod_struct hu h
        cases hm
        have h' : (if cs.length = P.cellsOf t then (fs.toList.mapM fun f => DataW.trod enc P w base (fun _ => true) held fuel f.type ((cs.drop f.offset).take (P.cellsOf f.type))).map fun xs => ((.agg (xs.map (·.1)) : DataW H), xs.flatMap (·.2)) else none) = some (.agg (xs.map (·.1)), xs.flatMap (·.2)) := by
          rw [← h, DataW.trod_step]
          unfold DataW.trodStep
          rw [hu]
        rw [DataW.trod_step]
        unfold DataW.trodStep
        rw [hu]
        show (if cs.length = P.cellsOf t then (fs.toList.mapM fun f => DataW.trod enc P w base sp held fuel f.type ((cs.drop f.offset).take (P.cellsOf f.type))).map fun xs => ((.agg (xs.map (·.1)) : DataW H), xs.flatMap (·.2)) else none) = _
        rw [if_pos hl] at h' ⊢
        simp only [Option.map_eq_some_iff] at h' ⊢
        obtain ⟨ys, hy, hd⟩ := h'
        have hfs : ∀ (l : List Field) (o : Nat), argT.go P n o l = true → ∀ f ∈ l, argT P n f.type = true := by
          intro l
          induction l with
          | nil => intro o _ f hf; simp at hf
          | cons g r ihl =>
            intro o hg f hf
            simp only [argT.go, Bool.and_eq_true] at hg
            rcases List.mem_cons.1 hf with rfl | hf
            · exact hg.2.1
            · exact ihl _ hg.2.2 f hf
        refine ⟨ys, mapM_carry hy fun f y hf hy' h1 => ih n f.type _ y h1 (hfs _ _ ha.1 f hf) fun p hp => hs p ?_, hd⟩
        rw [← (Prod.mk.inj hd).2]
        exact List.mem_flatMap.2 ⟨y, hy', hp⟩
      · rename_i m e hu
        simp only [Bool.and_eq_true] at ha
        have h' : (if cs.length = P.cellsOf t then ((List.range m).mapM fun i => DataW.trod enc P w base (fun _ => true) held fuel e ((cs.drop (i * P.cellsOf e)).take (P.cellsOf e))).map fun xs => ((.agg (xs.map (·.1)) : DataW H), xs.flatMap (·.2)) else none) = some x := by
          rw [← h, DataW.trod_step]
          unfold DataW.trodStep
          rw [hu]
        rw [DataW.trod_step]
        unfold DataW.trodStep
        rw [hu]
        show (if cs.length = P.cellsOf t then ((List.range m).mapM fun i => DataW.trod enc P w base sp held fuel e ((cs.drop (i * P.cellsOf e)).take (P.cellsOf e))).map fun xs => ((.agg (xs.map (·.1)) : DataW H), xs.flatMap (·.2)) else none) = _
        split at h'
        · rename_i hl
          rw [if_pos hl]
          simp only [Option.map_eq_some_iff] at h' ⊢
          obtain ⟨ys, hy, hd⟩ := h'
          refine ⟨ys, mapM_carry hy fun i y hi hy' h1 => ih n e _ y h1 ha.1 fun p hp => hs p ?_, hd⟩
          rw [← hd]
          exact List.mem_flatMap.2 ⟨y, hy', hp⟩
        · cases h'
      · cases ha
inductive ArgsR (P : Program) (w : World) (M : Nat → Prop) : List TypeId → List Value → List PV → Prop
  | nil : ArgsR P w M [] [] []
  | cons (t : TypeId) (ts : List TypeId) (v : Value) (vs : List Value) (x : PV) (xs : List PV) (h1 : VR w M x v) (h2 : shapeOk (shapeP P 8 t).1 (shapeP P 8 t).2 x = true) (h3 : x.wf) (h : ArgsR P w M ts vs xs) : ArgsR P w M (t :: ts) (v :: vs) (x :: xs)
theorem arg_read {b0 : Nat} (hM : ∀ b, b < w.heap.size → M b) {t : TypeId} {v : Value} {d : DataW H} {ps : List MemPlace} (ha : argT P 8 t = true) (hok : Value.okWide P w .any b0 t v) (h : DataW.Trod enc P w base sp held t v d ps) :
    ∃ x, VR w M x v ∧ shapeOk (shapeP P 8 t).1 (shapeP P 8 t).2 x = true ∧ x.wf := by
  obtain ⟨fuel, h⟩ := h
  obtain ⟨qs, hq⟩ := trod_pure hM fuel 8 t _ _ h ha
  obtain ⟨e1, e2, e3⟩ := arg_elem_ok ha hq
  refine ⟨_, ?_, e1, e3⟩
  cases hs : (shapeP P 8 t).1 with
  | true =>
    have hagg : (∃ fs, P.underlying t = some (.struct fs)) ∨ ∃ m e, P.underlying t = some (.array m e) := by
      unfold shapeP at hs
      split at hs <;> first | (cases hs; done) | skip
      · exact .inl ⟨_, ‹_›⟩
      · exact .inr ⟨_, _, ‹_›⟩
    have hv : ∃ cs, v = .agg cs := by
      unfold Value.okWide at hok
      rcases hagg with ⟨fs, hu⟩ | ⟨m, e, hu⟩
      · rw [hu] at hok; obtain ⟨cs, rfl, _⟩ := hok; exact ⟨cs, rfl⟩
      · rw [hu] at hok; obtain ⟨cs, rfl, _⟩ := hok; exact ⟨cs, rfl⟩
    obtain ⟨cs, rfl⟩ := hv
    have hc : (Value.agg cs).cells.toList = cs.toList := rfl
    rw [hc] at hq
    refine .agg qs cs (by simpa using hq.2.1.symm) (fun c hc => ?_) fun i c hi => ?_
    · obtain ⟨j, hj⟩ := List.mem_iff_getElem?.1 hc
      have hk := kindsOk_get hq.1
      have hjl : j < (shapeP P 8 t).2.length := by rw [hk.1]; exact (List.getElem?_eq_some_iff.1 hj).1
      exact kindOk_leaf (hk.2 j _ c (List.getElem?_eq_getElem hjl) hj)
    · have := hq.2.2.1 i c hi
      rwa [List.getD_eq_getElem?_getD, Array.getElem?_toList, ← Array.getD_eq_getD_getElem?] at this
  | false =>
    have h1 := shapeP_one ha hs
    have hk := kindsOk_get hq.1
    match qs, hq, hk with
    | [q], hq, hk =>
      have hl : q.leaf = true := by
        refine kindOk_leaf (hk.2 0 ((shapeP P 8 t).2[0]'(by omega)) q (by simp) rfl)
      have hv : v.cells.toList = [v] := by
        have hl1 := hq.2.1
        cases v <;> first | rfl | skip
        rename_i cs
        exfalso
        unfold Value.okWide at hok
        split at hok
        · rename_i fs hu
          unfold shapeP at hs
          rw [hu] at hs
          cases hs
        · rename_i m e hu
          unfold shapeP at hs
          rw [hu] at hs
          cases hs
        · rename_i hns hna
          unfold argT at ha
          split at ha <;> rename_i hu <;> first | (cases ha; done) | skip
          · obtain ⟨m, hc, _⟩ := DataW.trod_int hu h
            simp [Value.cells] at hc
            unfold Cell.okWide Cell.ok at hok
            rw [hu] at hok
            simp at hok
          · unfold Cell.okWide Cell.ok at hok
            rw [hu] at hok
            simp at hok
          · unfold Cell.okWide Cell.ok at hok
            rw [hu] at hok
            simp at hok
          · unfold Cell.okWide Cell.ok at hok
            rw [hu] at hok
            simp at hok
          · exact hns _ hu
          · exact hna _ _ hu
      rw [hv] at hq
      simpa [elemPV] using hq.2.2.1 0 q rfl
    | [], hq, hk => have := hk.1; rw [h1] at this; simp at this
    | _ :: _ :: _, hq, hk => have := hk.1; rw [h1] at this; simp at this
theorem trodAll_later {w' : World} (hb : ∀ b, b < w.heap.size → w'.heap[b]? = w.heap[b]?) : ∀ {ts : List TypeId} {vs : List Value} {ds : List (DataW H)} {ps : List MemPlace}, DataW.TrodAll enc P w base (fun _ => true) held ts vs ds ps → (∀ t ∈ ts, argT P 8 t = true) →
    DataW.TrodAll enc P w' base (fun b => decide (b < w.heap.size)) held ts vs ds ps
  | [], [], [], ps, h, _ => h
  | t :: ts, v :: vs, d :: ds, ps, ⟨p, q, h1, h2, e⟩, ha => by
    refine ⟨p, q, ?_, trodAll_later hb h2 (fun u hu => ha u (by simp [hu])), e⟩
    obtain ⟨fuel, h1⟩ := h1
    have hlt := DataW.trod_lt _ _ _ _ h1
    exact ⟨fuel, trod_spare fuel 8 t _ _ (DataW.trod_carry fuel t _ _ h1 fun p hp => sameAt_of hb (hlt p hp)) (ha t (by simp)) fun p hp => by simpa using hlt p hp⟩
theorem args_read {b0 : Nat} (hM : ∀ b, b < w.heap.size → M b) : ∀ {ts : List TypeId} {vs : List Value} {ds : List (DataW H)} {ps : List MemPlace}, DataW.TrodAll enc P w base sp held ts vs ds ps → (∀ t ∈ ts, argT P 8 t = true) → (∀ (j : Nat) t v, ts[j]? = some t → vs[j]? = some v → Value.okWide P w .any b0 t v) →
    ∃ xs, ArgsR P w M ts vs xs
  | [], [], [], ps, _, _, _ => ⟨[], .nil⟩
  | t :: ts, v :: vs, d :: ds, ps, ⟨p, q, h1, h2, e⟩, ha, hv => by
    obtain ⟨xs, hxs⟩ := args_read hM h2 (fun u hu => ha u (by simp [hu])) fun j t v h1 h2 => hv (j + 1) t v (by simpa using h1) (by simpa using h2)
    obtain ⟨x, e1, e2, e3⟩ := arg_read hM (ha t (by simp)) (hv 0 t v rfl rfl) h1
    exact ⟨x :: xs, .cons t ts v vs x xs e1 e2 e3 hxs⟩
theorem ArgsR.length {ts : List TypeId} {vs : List Value} {xs : List PV} (h : ArgsR P w M ts vs xs) : xs.length = vs.length := by
  induction h with
  | nil => rfl
  | cons _ _ _ _ _ _ _ _ _ _ ih => simp [ih]
theorem ArgsR.get {ts : List TypeId} {vs : List Value} {xs : List PV} (h : ArgsR P w M ts vs xs) : ∀ (i : Nat) (x : PV), xs[i]? = some x → ∃ v, vs[i]? = some v ∧ VR w M x v := by
  induction h with
  | nil => intro i x h; simp at h
  | cons t ts v vs x xs h1 h2 h3 h ih =>
    intro i y hy
    cases i with
    | zero => simp at hy; subst hy; exact ⟨v, rfl, h1⟩
    | succ i => simp at hy; simpa using ih i y hy
theorem law_calls {T : Tab} (ok : TabOk P T) {X : Ext} {gl : List (Nat × Obj)} (hX : ExtOk P T gl X) {f : Nat} {fi : FI} (hf : tlook T.funcs f = some fi) {fn : Func} (hfn : fi.fn = fn) {tb : TypeId} (hres : fn.resultTypes = #[tb]) (hrets : fi.cfg.rets = [])
    (hub : P.underlying tb = some .bool) {s : ChangeSpec} (hvars : s.vars = []) {W : World} {args : Array Value} {ds gs : List (DataW H)} {before : List MemPlace} {b0 : Nat}
    (hval : ∀ (j : Nat) t v, fn.params[j]? = some t → args[j]? = some v → Value.okWide P W .any b0 t v) (hW : DataW.Whole enc P fn.params.toList s.vars false W args.toList ds gs before)
    (hpar : fn.params.toList.all (argT P 8) = true) (hs : s.fn H ds = { results := [.lit (.bool true)], args := ds })
    (hgl : ∀ p ∈ gl, p.1 < W.heap.size ∧ W.heap[p.1]? = some p.2) (hrun : ∀ xs, ArgsR P W (fun b => b < W.heap.size) fn.params.toList args.toList xs → run T X f (xs.map .p) [] = some ([.p (.bool true)], [])) :
    Calls P f args W fun e W' => ∃ v, e = .returned v ∧ s.post enc P fn false true false false W args v W' := by
  subst hfn
  have hW0 := hW
  obtain ⟨p, q, hA, hV, hbef, hz, hn⟩ := hW
  have hall : ∀ t ∈ fi.fn.params.toList, argT P 8 t = true := fun t ht => List.all_eq_true.1 hpar t ht
  rw [hvars] at hV
  cases gs with
  | cons g gr => exact hV.elim
  | nil =>
    obtain ⟨xs, hxs⟩ := args_read (M := fun b => b < W.heap.size) (fun _ h => h) hA hall (base := 0) (fun j t v h1 h2 => by
      exact hval j t v (by simpa using h1) (by simpa using h2))
    have hsnd := run_sound ok hX f fi (xs.map .p) [] _ [] hf (by simp) (hrun xs hxs)
    have hpre : CallPre W (fun b => b < W.heap.size) (fun _ => none) (xs.map .p) [] args := by
      refine ⟨by simp [hxs.length], fun i v hi => ?_, fun i b0 hi => by simp at hi, fun i b o hi => by simp at hi, fun i j b o o' hi => by simp at hi, fun b hb => hb⟩
      simp only [List.getElem?_map, Option.map_eq_some_iff] at hi
      obtain ⟨x, hx, rfl⟩ := hi
      obtain ⟨v, h1, h2⟩ := hxs.get i x hx
      rw [Array.getD_eq_getD_getElem?, ← Array.getElem?_toList, h1]
      exact .p _ _ h2
    refine Calls.mono (hsnd.2 W _ _ args hgl hpre) fun e W' hpost => ?_
    obtain ⟨cs, ps, M', rfl, post⟩ := hpost
    have hkeep : ∀ b, b < W.heap.size → W'.heap[b]? = W.heap[b]? := fun b hb => post.keep b hb fun i o hi => by simp at hi
    have hr := post.res
    rw [hres, hrets] at hr
    have hcs : cs = [.bool true] := by
      cases hr with
      | cons _ _ _ _ _ c cs' p ps' h1 h2 _ =>
        cases h2
        cases h1 with
        | deep _ x _ _ hv => cases hv; rfl
    subst hcs
    refine ⟨.bool true, rfl, ds, [], before, [], p, [], hW0, ?_, ?_, ?_, ?_, fun h => by cases h⟩
    · rw [List.append_nil, hs, hres]
      exact ⟨[], [], ⟨1, by simp [DataW.trod, Value.cells, hub]⟩, rfl, rfl⟩
    · rw [List.append_nil, hs]
      exact trodAll_later hkeep hA hall
    · rw [List.append_nil, hs, hvars]; rfl
    · refine ⟨post.os, post.output, fun i hi => ?_⟩
      rw [hkeep i hi]
      cases hh : W.heap[i]? with
      | none => simp
      | some o => cases o <;> simp
end
def TypesOk (P : Program) : List (Nat × TI) → Prop
  | [] => True
  | (t, i) :: r => mkTI P t = some i ∧ TypesOk P r
structure FuncOk (P : Program) (T : Tab) (f : Nat) (fi : FI) : Prop where
  fn : P.funcs[f]? = some fi.fn
  name : (fi.fn.name == "runtime.NumGoroutine") = false
  draws : (match fi.fn.body with | some c => drawsOk T fi.hides c | none => true) = true
  flat : (fi.cfg.byRef || (fi.cfg.shares || retsFlat T fi.cfg.rets fi.fn.resultTypes.toList)) = true
  nvars : Nat.ble fi.cfg.nvars 100000 = true
def FuncsOk (P : Program) (T : Tab) : List (Nat × FI) → Prop
  | [] => True
  | (f, i) :: r => FuncOk P T f i ∧ FuncsOk P T r
theorem typesOk_get {P : Program} : ∀ {l : List (Nat × TI)} {t : Nat} {i : TI}, TypesOk P l → tlook l t = some i → mkTI P t = some i
  | [], t, i, _, h => by simp [tlook] at h
  | (k, x) :: r, t, i, hk, h => by
    simp only [tlook] at h
    cases he : k == t with
    | true =>
      rw [he] at h
      have e : k = t := by simpa using he
      subst e
      cases h
      exact hk.1
    | false => rw [he] at h; exact typesOk_get hk.2 h
theorem funcsOk_get {P : Program} {T : Tab} : ∀ {l : List (Nat × FI)} {f : Nat} {i : FI}, FuncsOk P T l → tlook l f = some i → FuncOk P T f i
  | [], f, i, _, h => by simp [tlook] at h
  | (k, x) :: r, f, i, hk, h => by
    simp only [tlook] at h
    cases he : k == f with
    | true =>
      rw [he] at h
      have e : k = f := by simpa using he
      subst e
      cases h
      exact hk.1
    | false => rw [he] at h; exact funcsOk_get hk.2 h
def PrimsOk (P : Program) (T : Tab) : Prop := ∀ f fi, tlook T.funcs f = some fi → fi.cfg.prim.is = true → (∃ c, fi.fn.body = some c) ∧ PrimC P f fi.cfg.primTs fi.cfg.primE fi.cfg.prim
theorem tabOk_of {P : Program} {T : Tab} (h1 : TypesOk P T.types) (h2 : FuncsOk P T T.funcs) (h3 : P.follows .mixedOrders = true) (h4 : PrimsOk P T) : TabOk P T := by
  refine ⟨fun t i h => typesOk_get h1 h, fun f fi h => ?_, h3, fun f fi h => Nat.le_of_ble_eq_true (funcsOk_get h2 h).nvars, h4⟩
  have g := funcsOk_get h2 h
  refine ⟨g.fn, g.name, fun c hc => ?_, fun hb hs => ?_⟩
  · have := g.draws
    rw [hc] at this
    exact this
  · have := g.flat
    rw [hb, hs] at this
    exact this
end Go.Skm
namespace Go.Skm
theorem wrap_eq {x : Int} (h1 : -9223372036854775808 ≤ x) (h2 : x ≤ 9223372036854775807) : IntKind.i64.wrap x = x := by
  have : ∀ y : Int, y = x % 2 ^ 64 → (if (true && decide (y ≥ 2 ^ (64 - 1))) = true then y - 2 ^ 64 else y) = x := by
    intro y hy
    by_cases h : y ≥ 2 ^ (64 - 1)
    · rw [if_pos (by simpa using h)]; omega
    · rw [if_neg (by simpa using h)]; omega
  exact this _ rfl
theorem condD {α : Type} (p : Prop) [Decidable p] (a b : α) : cond (decide p) a b = if p then a else b := by
  by_cases h : p <;> simp [h]
theorem condE {α : Type} (x y : Int) (a b : α) : cond (x == y) a b = if x = y then a else b := by
  by_cases h : x = y
  · simp [h]
  · have : (x == y) = false := by simpa using h
    simp [h, this]
theorem condN {α : Type} (x y : Int) (a b : α) : cond (x != y) a b = if x = y then b else a := by
  by_cases h : x = y
  · simp [h]
  · have : (x != y) = true := by simpa using h
    simp [h, this]
theorem condA {α : Type} (p q : Bool) (a b : α) : cond (p && q) a b = cond p (cond q a b) b := by cases p <;> rfl
theorem condO {α : Type} (p : Bool) (a b : α) : cond (!p) a b = cond p b a := by cases p <;> rfl
@[simp] theorem toInt_int (k : IntKind) (n : Int) : (PV.int k n).toInt = n := rfl
@[simp] theorem toBool_bool (b : Bool) : (PV.bool b).toBool = b := rfl
@[simp] theorem toStr_str (s : ByteArray) : (PV.str s).toStr = s := rfl
@[simp] theorem toList_list (a : Bool) (ks : List Kd) (xs : List PV) : (PV.list a ks xs).toList = xs := rfl
@[simp] theorem pv_p (v : PV) : (AV.p v).pv = v := rfl
@[simp] theorem freshList_fresh (a : Bool) (ks : List Kd) (xs : List PV) : (AV.fresh a ks xs).freshList = xs := rfl
@[simp] theorem sOff_slice (s z o l : Nat) : (AV.slice s z o l).sOff = o := rfl
@[simp] theorem sLen_slice (s z o l : Nat) : (AV.slice s z o l).sLen = l := rfl
@[simp] theorem xs_arr (a : Bool) (ks : List Kd) (xs : List PV) : (Blk.arr a ks xs).xs = xs := rfl
@[simp] theorem cell_agg (cs : List PV) (j : Nat) : (PV.agg cs).cell j = cs.getD j .nil := rfl
@[simp] theorem cell_list (a : Bool) (ks : List Kd) (xs : List PV) (j : Nat) : (PV.list a ks xs).cell j = .list a ks xs := rfl
@[simp] theorem cell_int (k : IntKind) (n : Int) (j : Nat) : (PV.int k n).cell j = .int k n := rfl
structure V3 where
  x : Int
  y : Int
  z : Int
  deriving DecidableEq
namespace V3
theorem ext' {a b : V3} (h1 : a.x = b.x) (h2 : a.y = b.y) (h3 : a.z = b.z) : a = b := by
  cases a; cases b; simp at h1 h2 h3; simp [h1, h2, h3]
instance : Inhabited V3 := ⟨⟨0, 0, 0⟩⟩
end V3
abbrev kV : List Kd := [.int .i64, .int .i64, .int .i64]
def encV (v : V3) : PV := .agg [.int .i64 v.x, .int .i64 v.y, .int .i64 v.z]
def encL (l : List V3) : List PV := l.map encV
def encI (l : List Int) : List PV := l.map fun n => .int .i64 n
@[simp] theorem encL_length (l : List V3) : (encL l).length = l.length := by simp [encL]
@[simp] theorem encI_length (l : List Int) : (encI l).length = l.length := by simp [encI]
@[simp] theorem encL_nil : encL [] = [] := rfl
theorem encL_get (l : List V3) (i : Nat) : (encL l)[i]? = (l[i]?).map encV := by simp [encL]
theorem encL_getD (l : List V3) {i : Nat} (h : i < l.length) : (encL l).getD i .nil = encV (l.getD i default) := by
  rw [List.getD_eq_getElem?_getD, List.getD_eq_getElem?_getD, encL_get]; simp [h]
@[simp] theorem encL_x (l : List V3) (i : Nat) : (((encL l).getD i .nil).cell 0).toInt = (l.getD i default).x := by
  by_cases h : i < l.length
  · rw [encL_getD l h]; rfl
  · have h1 : (encL l).getD i .nil = .nil := by rw [List.getD_eq_getElem?_getD, encL_get]; simp [h]
    have h2 : l.getD i default = default := by rw [List.getD_eq_getElem?_getD]; simp [h]
    rw [h1, h2]; rfl
@[simp] theorem encL_y (l : List V3) (i : Nat) : (((encL l).getD i .nil).cell 1).toInt = (l.getD i default).y := by
  by_cases h : i < l.length
  · rw [encL_getD l h]; rfl
  · have h1 : (encL l).getD i .nil = .nil := by rw [List.getD_eq_getElem?_getD, encL_get]; simp [h]
    have h2 : l.getD i default = default := by rw [List.getD_eq_getElem?_getD]; simp [h]
    rw [h1, h2]; rfl
@[simp] theorem encL_z (l : List V3) (i : Nat) : (((encL l).getD i .nil).cell 2).toInt = (l.getD i default).z := by
  by_cases h : i < l.length
  · rw [encL_getD l h]; rfl
  · have h1 : (encL l).getD i .nil = .nil := by rw [List.getD_eq_getElem?_getD, encL_get]; simp [h]
    have h2 : l.getD i default = default := by rw [List.getD_eq_getElem?_getD]; simp [h]
    rw [h1, h2]; rfl
theorem encL_drop (l : List V3) (n : Nat) : (encL l).drop n = encL (l.drop n) := by simp [encL]
theorem encL_take (l : List V3) (n : Nat) : (encL l).take n = encL (l.take n) := by simp [encL]
theorem encL_append (l m : List V3) : encL l ++ encL m = encL (l ++ m) := by simp [encL]
theorem encL_one (v : V3) : [encV v] = encL [v] := rfl
def V3.ok (v : V3) : Prop := (-9223372036854775808 ≤ v.x ∧ v.x ≤ 9223372036854775807) ∧ (-9223372036854775808 ≤ v.y ∧ v.y ≤ 9223372036854775807) ∧ (-9223372036854775808 ≤ v.z ∧ v.z ≤ 9223372036854775807)
theorem wf_i64 {n : Int} : (PV.int .i64 n).wf ↔ -9223372036854775808 ≤ n ∧ n ≤ 9223372036854775807 := by
  simp [PV.wf, Lit.wf, IntKind.min, IntKind.max, IntKind.bits, IntKind.signed]
theorem vec_of {x : PV} (h : shapeOk true kV x = true) (hw : x.wf) : ∃ v : V3, x = encV v ∧ v.ok := by
  cases x <;> simp only [shapeOk, Bool.false_eq_true] at h
  rename_i cs
  match cs, h, hw with
  | [a, b, c], h, hw =>
    simp only [kindsOk, Bool.and_true, Bool.and_eq_true] at h
    obtain ⟨ha, hb, hc⟩ := h
    cases a <;> simp [kindOk] at ha
    cases b <;> simp [kindOk] at hb
    cases c <;> simp [kindOk] at hc
    subst ha hb hc
    rename_i p q r
    simp only [PV.wf, PV.wfs, and_true] at hw
    exact ⟨⟨p, q, r⟩, rfl, wf_i64.1 hw.1, wf_i64.1 hw.2.1, wf_i64.1 hw.2.2⟩
  | [], h, _ => simp [kindsOk] at h
  | [_], h, _ => simp [kindsOk] at h
  | [_, _], h, _ => simp [kindsOk] at h
  | _ :: _ :: _ :: _ :: _, h, _ => simp [kindsOk] at h
theorem vecs_of : ∀ {xs : List PV}, (∀ x ∈ xs, shapeOk true kV x = true) → PV.wfs xs → ∃ l : List V3, xs = encL l ∧ ∀ v ∈ l, v.ok
  | [], _, _ => ⟨[], rfl, by simp⟩
  | x :: xs, h, hw => by
    obtain ⟨v, rfl, h1⟩ := vec_of (h x (by simp)) hw.1
    obtain ⟨l, rfl, h2⟩ := vecs_of (fun y hy => h y (by simp [hy])) hw.2
    exact ⟨v :: l, rfl, fun u hu => by 
      rcases List.mem_cons.1 hu with rfl | hu
      · exact h1
      · exact h2 u hu⟩
section
variable {P : Program} {w : World} {M : Nat → Prop}
theorem ArgsR.one {t : TypeId} {ts : List TypeId} {vs : List Value} {xs : List PV} (h : ArgsR P w M (t :: ts) vs xs) : ∃ x ys v us, xs = x :: ys ∧ vs = v :: us ∧ VR w M x v ∧ shapeOk (shapeP P 8 t).1 (shapeP P 8 t).2 x = true ∧ x.wf ∧ ArgsR P w M ts us ys := by
  cases h with
  | cons _ _ v vs x xs h1 h2 h3 h => exact ⟨x, xs, v, vs, rfl, rfl, h1, h2, h3, h⟩
theorem ArgsR.none {vs : List Value} {xs : List PV} (h : ArgsR P w M [] vs xs) : xs = [] := by cases h; rfl
end
end Go.Skm
namespace Go.Skm
def splitC (c : UInt8) : List UInt8 → List (List UInt8)
  | [] => [[]]
  | b :: r => if b = c then [] :: splitC c r else (match splitC c r with
    | p :: ps => (b :: p) :: ps
    | [] => [[b]])
theorem splitC_ne (c : UInt8) : ∀ l, splitC c l ≠ []
  | [] => by simp [splitC]
  | b :: r => by
    unfold splitC
    split
    · simp
    · split <;> simp
theorem splitC_none {c : UInt8} : ∀ {l : List UInt8}, c ∉ l → splitC c l = [l]
  | [], _ => rfl
  | b :: r, h => by
    have h1 : b ≠ c := fun e => h (by simp [e])
    have h2 := splitC_none (c := c) (l := r) (fun e => h (List.mem_cons_of_mem _ e))
    rw [splitC, if_neg h1, h2]
theorem splitC_app {c : UInt8} (y : List UInt8) : ∀ {x : List UInt8}, c ∉ x → splitC c (x ++ c :: y) = x :: splitC c y
  | [], _ => by simp [splitC]
  | b :: r, h => by
    have h1 : b ≠ c := fun e => h (by simp [e])
    have h2 := splitC_app (c := c) y (x := r) (fun e => h (List.mem_cons_of_mem _ e))
    rw [List.cons_append]
    rw [splitC, if_neg h1, h2]
theorem splitC_length (c : UInt8) : ∀ l, (splitC c l).length ≤ l.length + 1
  | [] => by simp [splitC]
  | b :: r => by
    have ih := splitC_length c r
    unfold splitC
    split
    · simp only [List.length_cons]; omega
    · split
      · next q qs hq => rw [hq] at ih; simp only [List.length_cons] at ih ⊢; omega
      · simp
theorem splitC_piece {c : UInt8} : ∀ {l p : List UInt8}, p ∈ splitC c l → p.length ≤ l.length
  | [], p, h => by
    simp only [splitC, List.mem_singleton] at h
    subst h; simp
  | b :: r, p, h => by
    have ih := fun q => splitC_piece (c := c) (l := r) (p := q)
    unfold splitC at h
    split at h
    · rcases List.mem_cons.1 h with rfl | h
      · simp
      · have := ih p h; simp only [List.length_cons]; omega
    · split at h
      · next q qs hq =>
        rw [hq] at ih
        rcases List.mem_cons.1 h with rfl | h
        · have := ih q (by simp); simp only [List.length_cons]; omega
        · have := ih p (by simp [h]); simp only [List.length_cons]; omega
      · next hq => exact absurd hq (splitC_ne c r)
theorem index_none {s : List UInt8} {c : UInt8} (h : Lib.index s [c] = -1) : c ∉ s := by
  rw [Lib.index_one] at h
  intro hc
  obtain ⟨i, hi⟩ := List.mem_iff_getElem?.1 hc
  exact Lib.indexByte_none h i hi
theorem index_some {s : List UInt8} {c : UInt8} {i : Nat} (h : Lib.index s [c] = i) : s = s.take i ++ c :: s.drop (i + 1) ∧ c ∉ s.take i := by
  rw [Lib.index_one] at h
  obtain ⟨h1, h2⟩ := Lib.indexByte_some h
  obtain ⟨hi, h3⟩ := List.getElem?_eq_some_iff.1 h1
  refine ⟨?_, fun hc => ?_⟩
  · have h4 := List.drop_eq_getElem_cons hi
    rw [h3] at h4
    rw [← h4, List.take_append_drop]
  · obtain ⟨j, hj⟩ := List.mem_iff_getElem?.1 hc
    rw [List.getElem?_take] at hj
    split at hj
    · next hlt => exact h2 j hlt hj
    · cases hj
theorem split_eq (c : UInt8) : ∀ (n : Nat) (s : List UInt8), s.length ≤ n → Lib.splitK [c] 0 (Lib.count s [c]) s = splitC c s := by
  intro n
  induction n with
  | zero =>
    intro s h
    have : s = [] := List.eq_nil_of_length_eq_zero (by omega)
    subst this
    have : Lib.index [] [c] = -1 := rfl
    rw [Lib.count_miss this]; rfl
  | succ n ih =>
    intro s h
    by_cases hm : Lib.index s [c] = -1
    · rw [Lib.count_miss hm, splitC_none (index_none hm)]; rfl
    · have hge := Lib.index_ge s [c]
      obtain ⟨i, hi⟩ := Int.eq_ofNat_of_zero_le (show 0 ≤ Lib.index s [c] by omega)
      obtain ⟨h1, h2⟩ := index_some hi
      have hlen : i < s.length := by
        have := congrArg List.length h1
        simp only [List.length_append, List.length_take, List.length_cons, List.length_drop] at this
        omega
      rw [Lib.count_hit (by simp) hi, Nat.add_comm, Lib.splitK]
      have hne : ¬ ((Lib.index s [c] == -1) = true) := by simpa using hm
      have e : (Lib.index s [c]).toNat = i := by omega
      rw [if_neg hne, e, Nat.add_zero]
      have hd : (s.drop (i + [c].length)).length ≤ n := by simp; omega
      rw [ih _ hd]
      conv => rhs; rw [h1]
      rw [splitC_app _ h2]; rfl
theorem splitB_eq (c : UInt8) (s : ByteArray) : Lib.splitB ⟨#[c]⟩ 0 (Lib.countB s ⟨#[c]⟩) s = (splitC c s.data.toList).map fun l => ⟨l.toArray⟩ := by
  have h := Lib.splitB_data ⟨#[c]⟩ 0 (Lib.countB s ⟨#[c]⟩) s
  have h2 := split_eq c _ s.data.toList (Nat.le_refl _)
  have e : (ByteArray.mk #[c]).data.toList = [c] := rfl
  rw [e] at h
  unfold Lib.countB at h ⊢
  rw [e] at h ⊢
  rw [h2] at h
  rw [← h, List.map_map]
  have : ∀ l : List ByteArray, l = l.map ((fun l => ByteArray.mk l.toArray) ∘ fun b => b.data.toList) := by
    intro l
    induction l with
    | nil => rfl
    | cons b l ih => rw [List.map_cons, ← ih]; rfl
  exact this _
theorem decDigits_split {u : Nat} (h : 10 ≤ u) : Lib.decDigits u = Lib.decDigits (u / 10) ++ Lib.decDigits (u % 10) := by
  conv => lhs; rw [Lib.decDigits]
  rw [dif_neg (by omega)]
  congr 1
  rw [Lib.decDigits, dif_pos (by omega)]
theorem atoi_range {l : List UInt8} {n : Int} (h : Lib.atoiAll l = .ok n) : -9223372036854775808 ≤ n ∧ n ≤ 9223372036854775807 := by
  unfold Lib.atoiAll at h
  split at h
  · cases h
  · simp only at h
    split at h
    · cases h
    · cases h
    · split at h
      · cases h
      · next h1 =>
        split at h
        · cases h
        · next h2 =>
          injection h with h
          subst h
          split <;> omega
def numOf (w : List UInt8) : Option Int := match Lib.atoiAll w with
  | .ok v => if Lib.itoa v = w then some v else none
  | _ => none
theorem ba_eq {a b : ByteArray} : a = b ↔ a.data.toList = b.data.toList := by
  constructor
  · rintro rfl; rfl
  · intro h
    cases a with | mk a => cases b with | mk b =>
      simp only at h
      rw [show a = b from by rw [← Array.toArray_toList (xs := a), h, Array.toArray_toList]]
theorem ba_beq (a b : ByteArray) : (a.toList == b.toList) = decide (a = b) := by
  rw [ByteArray.toList_eq, ByteArray.toList_eq]
  by_cases h : a = b
  · subst h; simp
  · have : a.data.toList ≠ b.data.toList := fun e => h (ba_eq.2 e)
    rw [show (a.data.toList == b.data.toList) = false from by simpa using this, show decide (a = b) = false from by simpa using h]
def ba (l : List UInt8) : ByteArray := ⟨l.toArray⟩
@[simp] theorem ba_data (l : List UInt8) : (ba l).data.toList = l := rfl
theorem ba_size (l : List UInt8) : (ba l).size = l.length := rfl
theorem ba_append (x y : List UInt8) : ba x ++ ba y = ba (x ++ y) := by
  rw [ba_eq]
  simp [ba]
theorem ba_inj {x y : List UInt8} : ba x = ba y ↔ x = y := by rw [ba_eq]; simp
def atoiR (l : List UInt8) : List AV := match Lib.atoiAll l with
  | .ok v => [.p (.int .i64 v), .p .nilif]
  | .range => [.p (.int .i64 (Lib.atoiSat l)), .p .ifc]
  | _ => [.p (.int .i64 0), .p .ifc]
section
variable {α β γ : Type}
theorem bindS {o : Option β} {r : β} {f : β → Option γ} {x : Option γ} (h : o = some r) (h2 : f r = x) : o.bind f = x := by rw [h]; exact h2
theorem condT {c : Bool} {a b x : α} (h : c = true) (h2 : a = x) : cond c a b = x := by rw [h]; exact h2
theorem condF {c : Bool} {a b x : α} (h : c = false) (h2 : b = x) : cond c a b = x := by rw [h]; exact h2
theorem condP {p : Prop} {i : Decidable p} {a b x : α} (h : p) (h2 : a = x) : cond (@decide p i) a b = x := by rw [decide_eq_true h]; exact h2
theorem iteP {p : Prop} {i : Decidable p} {a b x : α} (h : p) (h2 : a = x) : @ite α p i a b = x := by rw [if_pos h]; exact h2
theorem iteN {p : Prop} {i : Decidable p} {a b x : α} (h : ¬ p) (h2 : b = x) : @ite α p i a b = x := by rw [if_neg h]; exact h2
theorem condNP {p : Prop} {i : Decidable p} {a b x : α} (h : ¬ p) (h2 : b = x) : cond (@decide p i) a b = x := by rw [decide_eq_false h]; exact h2
end
end Go.Skm
