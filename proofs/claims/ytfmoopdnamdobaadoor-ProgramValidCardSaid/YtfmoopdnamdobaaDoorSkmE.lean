import Derived.Test.YtfmoopdnamdobaaDoorSkmD
import Derived.LoopNIn
import Derived.Scope
import Derived.RangeFuncNested
import Derived.RangeFuncLeaves
namespace Go.Skm
section scopes
variable {E:Fence} {n:Nat} {P:Program} {Q:Exit→Act→World→Prop} {b:Frame} {a:Act} {k:List Item} {cs:List Frame} {w:World}
theorem o8 {c:Code}:step P (lone (b.atR a (.code (.scope c)::k)) cs w)=.next (lone (b.atR a (.code c::.inScope c::k)) cs w) :=
 step_lone_go (by simp[stepG,stepG.exec,Frame.atR])
theorem NU {c:Code}:step P (lone (b.atR a (.inScope c::k)) cs w)=.next (lone (b.atR a k) cs w) :=
 step_lone_go (by simp[stepG,stepG.exec,Frame.atR])
theorem Vo {c:Code} (h:c.wpIn E n P (Exit.noGoto Q) a w):(Code.scope c).wpIn E n P Q a w:=by
 intro b k cs hro hb hr
 have h0:(lone (b.atR a (.code (.scope c)::k)) cs w).fenced P E:=fenced_calm hb hr rfl
 obtain⟨e,a₁,w₁,hq,harr⟩:=h b (.inScope c::k) cs hro hb hr
 cases e with
 | normal=>exact⟨.normal,a₁,w₁,hq,.head h0 o8 (StepsIn.trans harr (.one (fenced_calm hb hr rfl) NU))⟩
 | exit id =>
  have hx:exitTo id (.inScope c::k)=exitTo id k:=by simp[exitTo]
  exact⟨.exit id,a₁,w₁,hq,fun k' hk=>.head h0 o8 (harr.1 k' (by rw[hx];exact hk)),
   fun hr' hk=>let ⟨k₁,h1,h2⟩:=harr.2 hr' (by rw[hx];exact hk);⟨k₁,h1,.head h0 o8 h2⟩⟩
 | goto l=>exact hq.elim
 | ret=>exact⟨_,a₁,w₁,hq,.of_steps (.one h0 o8) harr⟩
 | panic ch=>exact⟨_,a₁,w₁,hq,.of_steps (.one h0 o8) harr⟩
 | outgrown=>exact⟨_,a₁,w₁,hq,.of_steps (.one h0 o8) harr⟩
end scopes
section
variable {α ι:Type} (T:Tab) (C:aA) (F:FI) (n:Nat)
def Vp (z:Code) (k:Ex→St→Option α):Ex→St→Option α:=fun ex st' =>
 match ex with
 | .normal=>aK T C F n z (aB F.cfg z st') k
 | .exit id=>k (.exit id) st'
 | .ret=>k .ret st'
def Ij (id:Nat) (k:Ex→St→Option α):Ex→St→Option α:=fun ex st' =>
 match ex with
 | .normal=>k .normal st'
 | .exit i=>bif i==id then k .normal st' else k (.exit i) st'
 | .ret=>k .ret st'
def MQ (c:Code) (m:Nat) (k:Ex→St→Option α):Ex→St→Option α:=fun ex st' =>
 match ex with
 | .normal=>dU (aB F.cfg c st') fun st'=>lU (aB F.cfg c) (fun st' k'=>aK T C F n c st' k') m st' k
 | .exit id=>k (.exit id) st'
 | .ret=>k .ret st'
theorem wZ (y z:Code) (st:St) (k:Ex→St→Option α):aK T C F n (.seq y z) st k=aK T C F n y st (Vp T C F n z k):=rfl
theorem Ec (id:Nat) (c:Code) (st:St) (k:Ex→St→Option α):aK T C F n (.block id c) st k=aK T C F n c st (Ij id k):=rfl
theorem Ci (c:Code) (m:Nat) (st:St) (k:Ex→St→Option α):lU (aB F.cfg c) (fun st' k'=>aK T C F n c st' k') (m+1) st k=aK T C F n c st (MQ T C F n c m k):=rfl
structure QM (P:Program) (m:Nat) (KP:(Ex→St→Option α)→Prop) (rd:ι→Option Nat) (Fit:ι→Oper→Prop) (I:ι→α→St→Act→World→Prop):Prop where
 reg:∀ (i:ι) (id:Nat) (ops:Array Oper) (draw:Bool) (st:St) (a:Act) (w:World) (k:Ex→St→Option α) (x:α) (Q:Exit→Act→World→Prop),KP k→aK T C F n (.region id ops draw) st k=some x →
  iK T F.hides (.region id ops draw)=true→(∀ o∈opsOf (.region id ops draw),Fit i o)→I i x st a w →
  (∀ x' st' a' w',k .normal st'=some x'→I i x' st' a' w'→Q .normal a' w')→(Code.region id ops draw).wpIn (FW (rd i)) m P Q a w
 forget:∀ (i:ι) (x:α) (st:St) (a:Act) (w:World) (c:Code),I i x st a w→I i x (aB F.cfg c st) a w
 cond:∀ (i:ι) (x:α) (st:St) (a:Act) (w:World) (c:Operand) (b:Bool),I i x st a w→aP st.env c=.p (.bool b)→a.eval c=.bool b
 kseq:∀ (z:Code) (k:Ex→St→Option α),KP k→KP (Vp T C F n z k)
 kblock:∀ (id:Nat) (k:Ex→St→Option α),KP k→KP (Ij id k)
 kloop:∀ (c:Code) (j:Nat) (k:Ex→St→Option α),KP k→KP (MQ T C F n c j k)
def Vq (ng:Bool) (P:Program) (m:Nat) (KP:(Ex→St→Option α)→Prop) (rd:ι→Option Nat) (Fit:ι→Oper→Prop) (I:ι→α→St→Act→World→Prop) (c:Code):Prop :=
 ∀ (i:ι) (st:St) (a:Act) (w:World) (k:Ex→St→Option α) (x:α) (Q:Exit→Act→World→Prop),KP k→aK T C F n c st k=some x→iK T F.hides c=true→(ng=true→iT c=true)→(∀ o∈opsOf c,Fit i o)→I i x st a w →
  (∀ ex x' st' a' w',k ex st'=some x'→I i x' st' a' w'→Q ex.ZY a' w')→c.wpIn (FW (rd i)) m P Q a w
variable {T C F n}
theorem jA {ng : Bool} {P : Program} {m : Nat} {KP : (Ex → St → Option α) → Prop} {rd : ι → Option Nat} {Fit : ι → Oper → Prop} {I : ι → α → St → Act → World → Prop} (S : QM T C F n P m KP rd Fit I)
    (NV:ng=false→∀ f ps y z,Vq T C F n ng P m KP rd Fit I y→Vq T C F n ng P m KP rd Fit I z→Vq T C F n ng P m KP rd Fit I (.rangeFunc f ps y z)):∀ c:Code,Vq T C F n ng P m KP rd Fit I c
  | .skip=>fun _ st a w _ x _ _ h _ _ _ i hQ=>wpIn_skip (hQ .normal x st a w h i)
  | .region id ops draw=>fun i st a w k x Q hk h hd _ hw hi hQ=>S.reg i id ops draw st a w k x Q hk h hd hw hi fun x' st' a' w' h1 h2=>hQ .normal x' st' a' w' h1 h2
  | .seq y z=>fun i st a w k x Q hk h hd Z4 hw hi hQ=>by
   rw[wZ]at h
   simp only[iK,qBa]at hd
   have Z5:ng=true→iT y=true∧iT z=true:=fun e=>by have:=Z4 e;simpa [iT] using this
   refine wpIn_seq (jA S NV y i st a w _ x _ (S.kseq z k hk) h hd.1 (fun e=>(Z5 e).1) (fun o ho=>hw o (by simp[opsOf,ho])) hi fun ex x' st' a' w' h1 i'=>?_)
   cases ex with
   | normal=>exact jA S NV z i _ a' w' k x' Q hk h1 hd.2 (fun e=>(Z5 e).2) (fun o ho=>hw o (by simp[opsOf,ho])) (S.forget _ _ _ _ _ _ i') hQ
   | exit id=>exact hQ (.exit id) x' st' a' w' h1 i'
   | ret=>exact hQ .ret x' st' a' w' h1 i'
  | .cond c y z=>fun i st a w k x Q hk h hd Z4 hw hi hQ=>by
   simp only[aK]at h
   simp only[iK,qBa]at hd
   have Z5:ng=true→iT y=true∧iT z=true:=fun e=>by have:=Z4 e;simpa [iT] using this
   cases hv:Skm.aP st.env c with
   | p v =>
    cases v with
    | bool b =>
     have hc:=S.cond i x st a w c b hi hv
     rw[hv]at h
     simp only at h
     refine wpIn_cond hc ?_
     cases b with
     | true=>exact jA S NV y i st a w k x Q hk h hd.1 (fun e=>(Z5 e).1) (fun o ho=>hw o (by simp[opsOf,ho])) hi hQ
     | false=>exact jA S NV z i st a w k x Q hk h hd.2 (fun e=>(Z5 e).2) (fun o ho=>hw o (by simp[opsOf,ho])) hi hQ
    | _=>rw[hv]at h;simp at h
   | _=>rw[hv]at h;simp at h
  | .block id c=>fun i st a w k x Q hk h hd Z4 hw hi hQ=>by
   rw[Ec]at h
   simp only[iK]at hd
   refine wpIn_block (jA S NV c i st a w _ x _ (S.kblock id k hk) h hd (fun e=>by simpa [iT] using Z4 e) (fun o ho=>hw o (by simpa [opsOf] using ho)) hi fun ex x' st' a' w' h1 i'=>?_)
   cases ex with
   | normal=>exact hQ .normal x' st' a' w' h1 i'
   | exit j =>
    simp only[Ex.ZY,Exit.inBlock]
    simp only[Ij]at h1
    by_cases hj:j=id
    · rw[if_pos hj]
      have:(j==id)=true:=by simpa using hj
      simp only[this,cond_true]at h1
      exact hQ .normal x' st' a' w' h1 i'
    · rw[if_neg hj]
      have:(j==id)=false:=by simpa using hj
      simp only[this,cond_false]at h1
      exact hQ (.exit j) x' st' a' w' h1 i'
   | ret=>exact hQ .ret x' st' a' w' h1 i'
  | .loop c=>fun i st a w k x Q hk h hd Z4 hw hi hQ=>by
   simp only[aK]at h
   simp only[iK]at hd
   refine wpIn_loop_rounds n ?_
   have key:∀ (j:Nat) (st:St) (a:Act) (w:World) (x:α),lU (Skm.aB F.cfg c) (fun st' k'=>aK T C F n c st' k') j st k=some x→I i x st a w→Code.roundsIn (FW (rd i)) m P c Q j a w:=by
    intro j
    induction j with
    | zero=>intro st a w x h;simp[lU]at h
    | succ j ih =>
     intro st a w x h hi
     rw[Ci]at h
     rw[roundsIn_succ]
     refine jA S NV c i st a w _ x _ (S.kloop c j k hk) h hd (fun e=>by simpa [iT] using Z4 e) (fun o ho=>hw o (by simpa [opsOf] using ho)) hi fun ex x' st' a' w' h1 i'=>?_
     cases ex with
     | normal =>
      simp only[MQ,aC]at h1
      exact ih _ a' w' x' h1 (S.forget _ _ _ _ _ _ i')
     | exit id=>exact hQ (.exit id) x' st' a' w' h1 i'
     | ret=>exact hQ .ret x' st' a' w' h1 i'
   exact key n _ a w x h (S.forget _ _ _ _ _ _ hi)
  | .exit id=>fun _ st a w _ x _ _ h _ _ _ i hQ=>wpIn_exit (hQ (.exit id) x st a w h i)
  | .ret=>fun _ st a w _ x _ _ h _ _ _ i hQ=>wpIn_ret (hQ .ret x st a w h i)
  | .label _=>fun _ st a w _ x _ _ h _ _ _ i hQ=>wpIn_label (hQ .normal x st a w h i)
  | .rangeFunc f ps y z=>by
   cases hn:ng with
   | false=>exact hn▸NV hn f ps y z (jA S NV y) (jA S NV z)
   | true=>exact fun _ st a w _ x _ _ _ _ Z4 _ _ _=>by have:=Z4 rfl;simp[iT]at this
  | .scope c=>fun i st a w k x Q hk h hd Z4 hw hi hQ=>by
   have h:aK T C F n c st k=some x:=h
   simp only[iK]at hd
   refine Vo (jA S NV c i st a w k x _ hk h hd (fun e=>by simpa [iT] using Z4 e) (fun o ho=>hw o (by simpa [opsOf] using ho)) hi fun ex x' st' a' w' h1 i'=>?_)
   cases ex with
   | normal=>exact hQ .normal x' st' a' w' h1 i'
   | exit j=>exact hQ (.exit j) x' st' a' w' h1 i'
   | ret=>exact hQ .ret x' st' a' w' h1 i'
  | .goto ..=>fun _ st a w _ x _ _ h _ _ _ i hQ=>by simp[aK]at h
  | .refuse ..=>fun _ st a w _ x _ _ h _ _ _ i hQ=>by simp[aK]at h
end
section
variable {P:Program} {T:Tab} {C:aA} {F:FI} {n m:Nat} {α:Type}
abbrev CxN (gl:Option (List (Nat × Obj))):={ cx:Cx // zk cx.hp0∧cx.w0.gl=gl }
theorem Jc (ok:bJ P T) {gl:Option (List (Nat × Obj))} (hC:fZ P T gl C) (sJ:F.cfg.nvars≤ah) (x0:α):QM T C F n P m (fun _:Ex→St→Option α=>True) (fun i:CxN gl=>i.1.rd) (fun i=>wX i.1) (fun i x st a w=>x=x0∧Inv i.1 st a w) where
 reg:=by
  intro i id ops draw st a w k x Q _ h hd hw ⟨hx,hi⟩ hQ
  have hw':∀ o∈ops.toList,wX i.1 o:=hw
  have hC:fZ P T i.1.w0.gl C:=by rw[i.2.2];exact hC
  have fin:∀ st' a' w',(dU (settle F.cfg ops.toList st') fun st'=>k .normal st')=some x→Inv i.1 st' a' w'→Q .normal a' w':=by
   intro st' a' w' h1 i'
   rw[aC]at h1
   exact hQ x _ a' w' h1 ⟨hx,i'.settle sJ _⟩
  simp only[aK]at h
  obtain⟨h,-⟩:=iJ h
  cases draw with
  | false =>
   exact TP ok hC i.2.1 h hw' hi fin
  | true =>
   simp only[iK]at hd
   cases hh:bI F.hides id with
   | none=>rw[hh]at h;cases h
   | some hid =>
    rw[hh]at h hd
    simp only[qBa]at hd
    simp only[aC]at h
    have i0:=hi.strike (present st.heap (pW ops.toList ops.toList))
    have back:∀ {k2:St→Option α} {st':St} {a':Act} {w':World},Skm.nS (look (st.strike (present st.heap (pW ops.toList ops.toList))).heap ah) st' k2=some x→Inv i.1 st' a' w'→∃ st2,k2 st2=some x∧Inv i.1 st2 a' w':=by
     intro k2 st' a' w' h1 i'
     obtain⟨st2,h2,i2,_⟩:=i'.nS (fun on xs he=>by
      have i0':=i0
      obtain⟨M,β,L,ds,r,e1,e2,e3,fx⟩:=i0'
      obtain⟨b0,g1,g2⟩:=e2 ah (Nat.le_refl _) _ he
      cases b0 with
      | box=>exact g2.elim
      | arr=>exact g2.elim
      | tb=>exact g2.elim
      | mp=>exact g2.elim
      | br=>exact g2.elim
      | log o ys=>cases (show o=on from g2);exact⟨ys,g1⟩) h1
     exact⟨st2,h2,i2⟩
    cases hy:UY F.cfg.ys ops.toList with
    | none =>
     rw[hy]at h
     refine TN ok hC hd.1 hd.2 h hw' i0 fun st' a' w' h1 i'=>?_
     obtain⟨st2,h2,i2⟩:=back h1 i'
     exact hQ x _ a' w' h2 ⟨hx,i2.settle sJ _⟩
    | some jc =>
     rw[hy]at h
     refine WS ok hC hd.1 hd.2 (MP hy) h hw' i0 fun st' a' w' h1 i' _=>?_
     obtain⟨st2,h2,i2⟩:=back h1 i'
     exact MI ok hC i.2.1 (fun st3 a3 w3 h3 i3=>hQ x _ a3 w3 h3 ⟨hx,i3.settle sJ _⟩) (ops.toList.drop jc) jc st2 a' w' (fun o ho=>hw' o (List.mem_of_mem_drop ho)) h2 i2
 forget:=fun i _ st a w c h=>⟨h.1,h.2.aB _ _⟩
 cond:=by
  intro i x st a w c b hi hv
  obtain⟨_,M,β,L,ds,r,_⟩:=hi
  have hc:=r.aP c
  rw[hv]at hc
  exact hc.zT
 kseq:=fun _ _ _=>trivial
 kblock:=fun _ _ _=>trivial
 kloop:=fun _ _ _ _=>trivial
end
end Go.Skm
namespace Go.Skm
open Go.RowKit
structure Turns (gl:Option (List (Nat × Obj))) (O:Nat→Prop) (W W':World):Prop where
 size:W.heap.size≤W'.heap.size
 keep:∀ b,b<W.heap.size→¬ O b→W'.heap[b]?=W.heap[b]?
 os:W'.os=W.os
 tape:W'.tape=W.tape
 output:W'.output=W.output
 drawn:iH gl W.drawn W'.drawn
abbrev nN (gl:Option (List (Nat × Obj))) (W W':World):Prop:=Turns gl (fun _=>False) W W'
theorem Turns.trans {gl:Option (List (Nat × Obj))} {O O':Nat→Prop} {A B C:World} (h:Turns gl O A B) (k:Turns gl O' B C) (hO:∀ b,b<A.heap.size→O' b→O b):Turns gl O A C :=
 ⟨Nat.le_trans h.size k.size,fun b hb ho=>by rw[k.keep b (by have:=h.size;omega) fun h'=>ho (hO b hb h'),h.keep b hb ho],k.os.trans h.os,k.tape.trans h.tape,k.output.trans h.output,h.drawn.trans k.drawn⟩
theorem nN.alloc {gl:Option (List (Nat × Obj))} (W:World) (o:Obj):nN gl W (W.alloc o) :=
 ⟨by simp,fun b hb _=>Below.heap_alloc W o b hb,rfl,rfl,rfl,.refl _ _⟩
theorem Turns.putObj {gl:Option (List (Nat × Obj))} (W:World) (l:Nat) (o:Obj):Turns gl (fun b=>b=l) W (W.putObj l o) :=
 ⟨by simp,fun b _ h=>World.putObj_heap_other h,rfl,rfl,rfl,.refl _ _⟩
def Yy (P:Program) (gl:Option (List (Nat × Obj))) (l:Nat) (aF:Array Value) (W:World) (J:(Nat→Prop)→World→Prop) (Jx:World→Prop) (O:Nat→Prop):Prop :=
 YieldAt (FW none) 0 P l aF W fun e W'=>Turns gl O W W'∧((e=.returned (.bool true)∧∃ O',J O' W'∧∀ b,O' b→O b∨W.heap.size≤b)∨(e=.returned (.bool false)∧Jx W'))
def Ui (P:Program) (gl:Option (List (Nat × Obj))) (g:Nat) (caps xs:List PV):Prop :=
 ∀ (W0:World) (M0:Nat→Prop) (l:Nat) (lb:Array Value) (J:List PV→(Nat→Prop)→World→Prop) (Jx:World→Prop) (O0:Nat→Prop),
  (∀ p∈gl.getD [],M0 p.1∧W0.heap[p.1]?=some p.2)→lb.size=caps.length→(∀ i c,caps[i]?=some c→VR W0 M0 c (lb.getD i undef))→(∀ b,M0 b→b<W0.heap.size∧¬ O0 b) →
  (∀ r O W W',J r O W→nN gl W W'→J r O W')→(∀ W W',Jx W→nN gl W W'→Jx W')→(∀ r O W,J r O W→∀ b,O b→b<W.heap.size) →
  (∀ vs r O W (M:Nat→Prop) aF,J (.agg vs::r) O W→W0.heap.size≤W.heap.size→(∀ b,M b→b<W.heap.size∧¬ O b∧(M0 b∨W0.heap.size≤b))→aF.size=vs.length→(∀ i c,vs[i]?=some c→VR W M c (aF.getD i undef)) →
    Yy P gl l aF W (J r) Jx O) →
  J xs O0 W0→Calls P g (#[.func (.yield l) #[] #[]]++lb) W0 fun e W'=>(∃ v,e=.returned v)∧((∃ O,J [] O W')∨Jx W')
def Fe (P:Program) (T:Tab) (gl:Option (List (Nat × Obj))) (C:aA):Prop :=
 ∀ g fi caps r,bI T.funcs g=some fi→jm fi caps.length=true→C g (.zq::caps.map .p) [.log true []]=some r→P.funcs[g]?=some fi.fn∧Ui P gl g caps (sQ r.2)
section
variable {w0 w0':Base} {Pr Pr' M0 M0' M M':Nat→Prop} {β β':Nat→Option (Nat × Nat)} {st st':St} {a a':Act} {w w':World}
theorem Rel.to (r : Rel w0 Pr M0 M β st a w) (hgl : w0'.gl = w0.gl) (hM : ∀ b,M b → M' b ∧ w'.heap[b]? = w.heap[b]?)
    (hB:∀ s b o,(look st.heap s).isSome=true→β s=some (b,o)→w'.heap[b]?=w.heap[b]?∧¬ M' b∧b<w'.heap.size∧((w0'.heap.size≤b∨Pr' b)∧(w0'.n0≤b∨ah≤s)))
    (fB:∀ b,M' b→b<w'.heap.size) (jQ:∀ b,M' b→M0' b∨(w0'.n0≤b∧(w0'.heap.size≤b∨Pr' b))) (oD:∀ b,M0' b→M' b)
    (keep:∀ b,b<w0'.heap.size→¬ Pr' b→w'.heap[b]?=w0'.heap[b]?) (room:∀ b n,b<w0'.n0→Pr' b→Room w0'.wd b n→Room w' b n)
    (size:w0'.heap.size≤w'.heap.size) (os:w'.os=w0'.os) (tape:w'.tape=w0'.tape) (output:w'.output=w0'.output):Rel w0' Pr' M0' M' β st a w':=by
  have key:∀ (v:AV) (c:Value),AR w M β (look st.heap) v c→AR w' M' β (look st.heap) v c:=fun v c h =>
   h.mono hM fun s blk _ hl=>⟨blk,hl,Like.refl _,rfl,fun b o n h3 hr=>hr.of_block (hB s b o (by rw[hl];rfl) h3).1⟩
  refine⟨r.lC,fun t v h=>key _ _ (r.env t v h),?_,fun s b o hs hb=>(hB s b o hs hb).2,r.inj,fB,jQ,oD,keep,room,size,os,tape,output,fun p hp=>by rw[hgl]at hp;exact⟨(hM _ (r.glob p hp).1).1,(hM _ (r.glob p hp).1).2.trans (r.glob p hp).2⟩⟩
  intro s blk hl
  have hi:(look st.heap s).isSome=true:=by rw[hl];rfl
  cases r.heap s blk hl with
  | box cs b o C e fr g1 g2 g3 g4 g5 g6=>exact .box _ b o C e fr g1 (by rw[(hB s b o hi g1).1];exact g2) g3 g4 g5 fun j c hc=>key _ _ (g6 j c hc)
  | gY a ks=>exact .gY a ks
  | log on ys=>exact .log on ys
  | arr a ks xs b o C e fr g1 g2 g3 g4 g5 g6=>exact .arr a ks xs b o C e fr g1 (by rw[(hB s b o hi g1).1];exact g2) g3 g4 g5 fun i x j c hx hc=>(g6 i x j c hx hc).mono hM
  | tb t c0 c1 b C fr g1 g2 g3 g4 g5 g6 g7 g8=>exact .tb t c0 c1 b C fr g1 (by rw[(hB s b 0 hi g1).1];exact g2) g3 g4 g5 g6 (key _ _ g7) (key _ _ g8)
  | mp t es b o E k g1 g2 g3 g4=>exact .mp t es b o E k g1 (by rw[(hB s b o hi g1).1];exact g2) g3 fun i p e hi he=>⟨(g4 i p e hi he).1.mono hM,(g4 i p e hi he).2.mono hM⟩
  | EH e=>exact .EH e
  | br e xs b C fr g1 g2 g3 g4 g5 g6=>exact .br e xs b C fr g1 (by rw[(hB s b 0 hi g1).1];exact g2) g3 g4 g5 g6
theorem Rel.slots (r:Rel w0 Pr M0 M β st a w) {env:List AV} (hs:env.length≤a'.tmps.size) (h:∀ t v,env[t]?=some v→AR w M β (look st.heap) v (a'.tmps.getD t undef)):Rel w0 Pr M0 M β { st with env:=env } a' w :=
 ⟨hs,h,r.heap,r.own,r.inj,r.fB,r.jQ,r.oD,r.keep,r.room,r.size,r.os,r.tape,r.output,r.glob⟩
theorem Rel.turns (r:Rel w0 Pr M0 M β st a w) (hd:iH w0.gl w0.drawn w.drawn):Turns w0.gl Pr w0.wd w:=⟨r.size,r.keep,r.os,r.tape,r.output,hd⟩
end
theorem Jd {ws:List Nat}:∀ (l:List AV) (k i:Nat) (v:AV),(tJ ws k l)[i]?=some v→v=.undef∨(l[i]?=some v∧(k+i) ∉ ws)
 | [],k,i,v,h=>by simp[tJ]at h
 | u::r,k,0,v,h=>by
  simp only[tJ,List.getElem?_cons_zero,qOa]at h
  cases hm:dR k ws with
  | true=>rw[hm]at h;left;simpa using h.symm
  | false=>rw[hm]at h;right;exact⟨by simpa using h,fun hk=>by rw[jr.2 (show k∈ws from hk)]at hm;cases hm⟩
 | u::r,k,i+1,v,h=>by
  simp only[tJ,List.getElem?_cons_succ]at h
  have:=Jd r (k+1) i v h
  rw[show k+1+i=k+(i+1) from by omega]at this
  simpa using this
theorem Cj {ws:List Nat}:∀ (l:List AV) (k:Nat),(tJ ws k l).length=l.length
 | [],_=>rfl
 | u::r,k=>by simp[tJ,Cj r]
theorem X6 {w:World} {M:Nat→Prop} {s:Bool × List Kd} {v:PV} {c:Value} (hk:au s.1 s.2 v=true) (h:VR w M v c):VR w M (UW s v) c:=by
 obtain⟨a,ks⟩:=s
 cases a with
 | true=>exact h.written hk
 | false =>
  match ks,hk with
  | [k],hk=>exact vJ (by simpa [au] using hk) h
  | [],hk=>simp[au]at hk
  | _::_::_,hk=>simp[au]at hk
theorem O9:∀ {ss:List (Bool × List Kd)} {ps:List Nat} {vs:List PV} {i:Nat} {env env':List AV},Au ss ps (.agg vs) i env=some env'→vs.length=i+ps.length
 | [],[],vs,i,env,env',hs=>by
  simp only[Au]at hs
  cases hb:Nat.beq (PV.agg vs).cells.length i with
  | false=>rw[hb]at hs;cases hs
  | true=>exact Nat.eq_of_beq_eq_true hb
 | s::ss,t::ps,vs,i,env,env',hs=>by
  simp only[Au]at hs
  cases hb:au s.1 s.2 ((PV.agg vs).cell i) with
  | false=>rw[hb]at hs;cases hs
  | true =>
   rw[hb]at hs
   have:=O9 hs
   simp only[List.length_cons];omega
 | [],_::_,vs,i,env,env',hs=>by simp[Au]at hs
 | _::_,[],vs,i,env,env',hs=>by simp[Au]at hs
theorem TQ {w : World} {M : Nat → Prop} {β : Nat → Option (Nat × Nat)} {h : Nat → Option aJ} : ∀ {ss : List (Bool × List Kd)} {ps : List Nat} {vs : List PV} {i : Nat} {env env' : List AV} {cs : List Value} {tmps : Array Value},
    Au ss ps (.agg vs) i env=some env'→cs.length=vs.length-i→i≤vs.length→(∀ j c,vs[i+j]?=some c→VR w M c (cs.getD j undef)) →
    env.length≤tmps.size→(∀ t v,env[t]?=some v→AR w M β h v (tmps.getD t undef)) →
    cs.length=ps.length∧env'.length=env.length∧(((ps.zip cs).foldl (fun tmps (t,a)=>tmps.setIfInBounds t a) tmps).size=tmps.size) ∧
    (∀ t v,env'[t]?=some v→AR w M β h v (((ps.zip cs).foldl (fun tmps (t,a)=>tmps.setIfInBounds t a) tmps).getD t undef)) ∧
    (∀ t,t ∉ ps→((ps.zip cs).foldl (fun tmps (t,a)=>tmps.setIfInBounds t a) tmps).getD t undef=tmps.getD t undef)
  | [],[],vs,i,env,env',cs,tmps,hs,hc,hi,hv,hl,he=>by
   simp only[Au]at hs
   cases hb:Nat.beq (PV.agg vs).cells.length i with
   | false=>rw[hb]at hs;cases hs
   | true =>
    rw[hb]at hs;cases hs
    have:vs.length=i:=Nat.eq_of_beq_eq_true hb
    have hc0:cs=[]:=List.length_eq_zero_iff.1 (by omega)
    subst hc0
    exact⟨rfl,rfl,rfl,he,fun _ _=>rfl⟩
  | s::ss,t::ps,vs,i,env,env',cs,tmps,hs,hc,hi,hv,hl,he=>by
   simp only[Au]at hs
   cases hb:au s.1 s.2 ((PV.agg vs).cell i) with
   | false=>rw[hb]at hs;cases hs
   | true =>
    rw[hb]at hs
    simp only[cond_true]at hs
    have hlt:i<vs.length:=by have:=O9 hs;omega
    match cs,hc with
     | [],hc=>simp at hc;omega
     | c::cs,hc =>
      have hv0:=hv 0 vs[i] (by simp)
      simp only[qLb,List.getElem?_cons_zero,Option.getD_some]at hv0
      have hcell:(PV.agg vs).cell i=vs[i]:=by simp[PV.cell,List.getD,hlt]
      rw[hcell]at hs hb
      have hnew:AR w M β h (.p (UW s vs[i])) c:=.p _ _ (X6 hb hv0)
      obtain⟨g1,g2,g3,g4,g5⟩:=TQ (w:=w) (M:=M) (β:=β) (h:=h) (cs:=cs) (tmps:=tmps.setIfInBounds t c) hs (by simp at hc;omega) (by omega) (fun j d hd=>by
       have:=hv (j+1) d (by rw[← hd];congr 1;omega)
       simpa using this) (by simpa using hl) (fun u v hu=>by
       by_cases e:u=t
       · subst e
         have hlt':u<env.length:=by have:=(qLa.1 hu).1;simpa using this
         rw[List.getElem?_set_self hlt']at hu
         cases hu
         have:(tmps.setIfInBounds u c).getD u undef=c:=by
          have:u<tmps.size:=by omega
          simp[this]
         rw[this];exact hnew
       · rw[List.getElem?_set_ne (Ne.symm e)]at hu
         have:(tmps.setIfInBounds t c).getD u undef=tmps.getD u undef:=by
          simp[qAe (Ne.symm e)]
         rw[this];exact he u v hu)
      refine⟨by simp[g1],by simpa using g2,by simpa using g3,g4,fun u hu=>?_⟩
      simp only[List.mem_cons,not_or]at hu
      refine(g5 u hu.2).trans ?_
      simp[qAe (Ne.symm hu.1)]
  | [],_::_,vs,i,env,env',cs,tmps,hs,hc,hi,hv,hl,he=>by simp[Au]at hs
  | _::_,[],vs,i,env,env',cs,tmps,hs,hc,hi,hv,hl,he=>by simp[Au]at hs
end Go.Skm
namespace Go.Skm
open Go.RowKit
section
variable {w0:Base} {Pr M0 M:Nat→Prop} {β:Nat→Option (Nat × Nat)} {st:St} {a:Act} {w:World}
theorem GH (r:Rel w0 Pr M0 M β st a w) (F:Bz) (c:Code):Rel w0 Pr M0 M β (aB F c st) a w∧iQ st.heap (aB F c st).heap∧∀ b,kN β (aB F c st).heap b→kN β st.heap b:=by
 unfold Skm.aB
 split
 · exact⟨r,fun s _ b h=>⟨b,h,Like.refl _⟩,fun _ h=>h⟩
 · split
   · exact⟨r,fun s _ b h=>⟨b,h,Like.refl _⟩,fun _ h=>h⟩
   · rename_i live sites _
     have r1:=r.Wv (env:=qO live 0 st.env) (vW _ _) (fun t v h=>Ce _ _ _ _ h)
     exact⟨r1.strike _ (fun b h=>h) fun b h=>.inl h,wU _ _,fun b h=>Gx (st:={ st with env:=qO live 0 st.env }) h⟩
end
def x9 (cx:Cx) (a':Act) (Ln:List (Nat × Obj)) (MV:List Nat) (l:Nat) (W1:World) (st:St) (O:Nat→Prop) (W:World) (lp:Loop):Prop :=
 ∃ M β,Rel cx.w0 cx.Pr cx.M0 M β st a' W∧(∀ s,ah≤s→β s=cx.QF s)∧iQ cx.hp0 st.heap∧iH cx.w0.gl cx.w0.drawn W.drawn∧Fix cx M β st.heap a' W Ln MV ∧
  (W.heap[l]?=some (.loop lp)∧¬ M l∧¬ kN β st.heap l∧(∀ p∈Ln,p.1≠l)∧cx.w0.heap.size≤l∧W1.heap.size≤W.heap.size)∧(∀ b,O b↔(kN β st.heap b∨b=l))
section
variable {cx:Cx} {a':Act} {Ln:List (Nat × Obj)} {MV:List Nat} {l:Nat} {W1 W W':World} {st:St} {O:Nat→Prop} {lp:Loop}
theorem Rel.nY {w0:Base} {Pr M0 M:Nat→Prop} {β:Nat→Option (Nat × Nat)} {a:Act} {w:World} (r:Rel w0 Pr M0 M β st a w) {b:Nat} (h:kN β st.heap b):¬ M b∧b<w.heap.size∧(w0.heap.size≤b∨Pr b):=by
 obtain⟨s,o,hs,hb⟩:=h
 obtain⟨g1,g2,g3,_⟩:=r.own s b o hs hb
 exact⟨g1,g2,g3⟩
theorem x9.lt (i:x9 cx a' Ln MV l W1 st O W lp):∀ b,O b→b<W.heap.size:=by
 obtain⟨M,β,r,e1,e2,e3,fx,⟨h1,h2,h3,h4,h5,h6⟩,hO⟩:=i
 intro b hb
 rcases(hO b).1 hb with h | rfl
 · exact(r.nY h).2.1
 · exact(qAa.1 h1).1
theorem x9.grows (i:x9 cx a' Ln MV l W1 st O W lp) (g:nN cx.w0.gl W W'):x9 cx a' Ln MV l W1 st O W' lp:=by
 obtain⟨M,β,r,e1,e2,e3,fx,⟨h1,h2,h3,h4,h5,h6⟩,hO⟩:=i
 have hk:∀ b,b<W.heap.size→W'.heap[b]?=W.heap[b]?:=fun b hb=>g.keep b hb fun h=>h
 have hl:l<W.heap.size:=(qAa.1 h1).1
 have hgs:=g.size
 have hrs:=r.size
 refine⟨M,β,r.to rfl (fun b hb=>⟨hb,hk b (r.fB b hb)⟩) (fun s b o hs hb=>?_) (fun b hb=>Nat.lt_of_lt_of_le (r.fB b hb) hgs) r.jQ r.oD (fun b hb hp=>?_) (fun b n hb hp hr=>?_) (Nat.le_trans r.size hgs) (g.os.trans r.os) (g.tape.trans r.tape) (g.output.trans r.output),
  e1,e2,e3.trans g.drawn,fx.less (fun p hp=>hk p.1 (qAa.1 (fx.lies p hp).1).1) fun _ h=>h,⟨(hk l hl).trans h1,h2,h3,h4,h5,Nat.le_trans h6 hgs⟩,hO⟩
 · obtain⟨g1,g2,g3⟩:=r.own s b o hs hb
   exact⟨hk b g2,g1,Nat.lt_of_lt_of_le g2 hgs,g3⟩
 · rw[hk b (by omega)];exact r.keep b hb hp
 · exact(r.room b n hb hp hr).of_block (hk b (by have:=cx.w0.le';omega))
theorem x9.aB (i:x9 cx a' Ln MV l W1 st O W lp) (F:Bz) (c:Code):∃ O',x9 cx a' Ln MV l W1 (Skm.aB F c st) O' W lp∧∀ b,O' b→O b:=by
 obtain⟨M,β,r,e1,e2,e3,fx,⟨h1,h2,h3,h4,h5,h6⟩,hO⟩:=i
 obtain⟨r',a2,ho⟩:=GH r F c
 exact⟨fun b=>kN β (Skm.aB F c st).heap b∨b=l,⟨M,β,r',e1,e2.trans a2,e3,fx.less (fun _ _=>rfl) ho,⟨h1,h2,fun h=>h3 (ho l h),h4,h5,h6⟩,fun b=>Iff.rfl⟩,fun b hb=>(hO b).2 (hb.imp (ho b) id)⟩
theorem x9.close (i:x9 cx a' Ln MV l W1 st O W lp) (o:Obj):Inv cx st a' (W.putObj l o):=by
 obtain⟨M,β,r,e1,e2,e3,fx,⟨h1,h2,h3,h4,h5,h6⟩,hO⟩:=i
 have hk:∀ b,b≠l→(W.putObj l o).heap[b]?=W.heap[b]?:=fun b hb=>World.putObj_heap_other hb
 have hsz:(W.putObj l o).heap.size=W.heap.size:=World.putObj_size
 have hrs:=r.size
 refine⟨M,β,Ln,MV,r.to rfl (fun b hb=>⟨hb,hk b fun e=>h2 (e▸hb)⟩) (fun s b o' hs hb=>?_) (fun b hb=>by rw[hsz];exact r.fB b hb) r.jQ r.oD (fun b hb hp=>?_) (fun b n hb hp hr=>?_) (by rw[hsz];exact r.size) r.os r.tape r.output,
  e1,e2,e3,fx.less (fun p hp=>hk p.1 (h4 p hp)) fun _ h=>h⟩
 · obtain⟨g1,g2,g3⟩:=r.own s b o' hs hb
   exact⟨hk b fun e=>h3 (e▸⟨s,o',hs,hb⟩),g1,by rw[hsz];exact g2,g3⟩
 · rw[hk b (by omega)];exact r.keep b hb hp
 · exact(r.room b n hb hp hr).of_block (hk b (by have:=cx.w0.le';omega))
structure ab9 (cx JK:Cx) (M:Nat→Prop) (a':Act) (Ln:List (Nat × Obj)) (ws:List Nat) (l:Nat) (W:World) (O:Nat→Prop):Prop where
 n0:JK.w0.n0=cx.w0.n0
 gl:JK.w0.gl=cx.w0.gl
 turns:Turns cx.w0.gl O W JK.w0.wd
 pr:∀ b,JK.Pr b→O b∨W.heap.size≤b
 jQ:∀ b,JK.M0 b→cx.M0 b∨(cx.w0.n0≤b∧(cx.w0.heap.size≤b∨cx.Pr b))
 room:∀ b n,b<cx.w0.n0→O b→Room W b n→Room JK.w0.wd b n
 oD:∀ b,M b→JK.M0 b
 QF:JK.QF=cx.QF
 hp0:JK.hp0=cx.hp0
 wr:JK.Wr=fun t=>t∈ws
 size:JK.t0.size=a'.tmps.size
 t0:∀ t,t ∉ ws→JK.t0.getD t undef=a'.tmps.getD t undef
 L0:∀ p∈Ln,p∈JK.L0
theorem x9.round {M : Nat → Prop} {β : Nat → Option (Nat × Nat)} (r : Rel cx.w0 cx.Pr cx.M0 M β st a' W) (fx : Fix cx M β st.heap a' W Ln MV) (hcd : iH cx.w0.gl cx.w0.drawn W.drawn) (h4 : ∀ p ∈ Ln,p.1 ≠ l) (h5 : cx.w0.heap.size ≤ l) (h6 : W1.heap.size ≤ W.heap.size)
    (hO:∀ b,O b↔(kN β st.heap b∨b=l)) {JK:Cx} {ws:List Nat} (sb:ab9 cx JK M a' Ln ws l W O) {lb:Obj} (hlb:(l,lb)∈JK.L0) {st3:St} {a3:Act} {W3:World} (i:Inv JK st3 a3 W3) (lp':Loop) :
    W3.heap[l]?=some lb∧∃ O',x9 cx a' Ln MV l W1 (back ws st3) O' (W3.putObj l (.loop lp')) lp'∧(∀ b,O' b→O b∨W.heap.size≤b)∧Turns cx.w0.gl O W (W3.putObj l (.loop lp')):=by
  obtain⟨M3,β3,L3,ds3,r3,i1,i2,i3,f3⟩:=i
  obtain⟨k1,k2,k3⟩:=f3.lies _ (f3.sub _ hlb)
  have hl3:l<W3.heap.size:=(qAa.1 k1).1
  have hk:∀ b,b≠l→(W3.putObj l (.loop lp')).heap[b]?=W3.heap[b]?:=fun b hb=>World.putObj_heap_other hb
  have hsz:(W3.putObj l (.loop lp')).heap.size=W3.heap.size:=World.putObj_size
  have hrs:=r.size
  have hts:=sb.turns.size
  have hr3:=r3.size
  have anN:W.heap.size≤JK.w0.heap.size:=hts
  have ht3:Turns cx.w0.gl O W W3:=sb.turns.trans (sb.gl▸r3.turns i3) fun b hb hp=>by
   rcases sb.pr b hp with h | h
   · exact h
   · omega
  have htu:Turns cx.w0.gl O W (W3.putObj l (.loop lp')):=ht3.trans (Turns.putObj W3 l _) fun b _ hb=>(hO b).2 (.inr hb)
  have hown:∀ b,(JK.w0.heap.size≤b∨JK.Pr b)→O b∨W.heap.size≤b:=fun b h=>by
   rcases h with h | h
   · right;omega
   · exact sb.pr b h
  have hO':∀ b,O b→cx.w0.heap.size≤b∨cx.Pr b:=fun b h=>by
   rcases(hO b).1 h with h | rfl
   · exact(r.nY h).2.2
   · exact .inl h5
  have hup:∀ b,(JK.w0.heap.size≤b∨JK.Pr b)→cx.w0.heap.size≤b∨cx.Pr b:=fun b h=>by
   rcases hown b h with h | h
   · exact hO' b h
   · left;omega
  have rr:Rel cx.w0 cx.Pr cx.M0 M3 β3 st3 a3 (W3.putObj l (.loop lp')):=by
   refine r3.to sb.gl.symm (fun b hb=>⟨hb,hk b fun e=>k3 (e▸hb)⟩) (fun s b o hs hb=>?_) (fun b hb=>by rw[hsz];exact r3.fB b hb) (fun b hb=>?_) (fun b hb=>r3.oD b (sb.oD b (r.oD b hb))) (fun b hb hp=>?_) (fun b n hb hp hr=>?_) (by rw[hsz];omega)
    (ht3.os.trans r.os) (ht3.tape.trans r.tape) (ht3.output.trans r.output)
   · obtain⟨g1,g2,g3,g4⟩:=r3.own s b o hs hb
     exact⟨hk b fun e=>k2 (e▸⟨s,o,hs,hb⟩),g1,by rw[hsz];exact g2,hup b g3,by rw[← sb.n0];exact g4⟩
   · rcases r3.jQ b hb with h | ⟨h,h'⟩
     · exact sb.jQ b h
     · exact .inr ⟨by rw[← sb.n0];exact h,hup b h'⟩
   · have hno : ¬ O b := fun h => by
       rcases hO' b h with h | h
       · omega
       · exact hp h
     rw[hk b (by omega),ht3.keep b (by omega) hno]
     exact r.keep b hb hp
   · have h0:=r.room b n hb hp hr
     have hle:=cx.w0.le'
     have h1:Room JK.w0.wd b n:=by
      by_cases ho:O b
      · exact sb.room b n hb ho h0
      · exact h0.of_block (sb.turns.keep b (by omega) ho)
     have h2:Room W3 b n:=by
      by_cases hp':JK.Pr b
      · exact r3.room b n (by rw[sb.n0];exact hb) hp' h1
      · exact h1.of_block (r3.keep b (by omega) hp')
     exact h2.of_block (hk b (by omega))
  have hsize:a3.tmps.size=a'.tmps.size:=f3.size.trans sb.size
  have rs:=rr.slots (a':=a') (env:=tJ ws 0 st3.env) (by rw[Cj,← hsize];exact rr.lC) fun t v hv=>by
   rcases Jd _ _ _ _ hv with rfl | ⟨h1,h2⟩
   · exact .undef _
   · have h2:t ∉ ws:=by simpa using h2
     have e:a3.tmps.getD t undef=a'.tmps.getD t undef:=(f3.tmps t (by rw[sb.wr];exact h2)).trans (sb.t0 t h2)
     rw[← e];exact rr.env t v h1
  refine⟨k1,fun b=>kN β3 st3.heap b∨b=l,⟨M3,β3,rs,fun s hs=>(i1 s hs).trans (by rw[sb.QF]),by rw[← sb.hp0];exact i2,hcd.trans ht3.drawn,⟨fun p hp=>?_,fx.sub,fx.marks,fx.nodup,fx.mark,fx.rd,fx.size,fx.tmps,fx.one,fx.yl,fx.nml⟩,
   ⟨World.putObj_heap_same hl3,k3,k2,h4,h5,Nat.le_trans h6 (by rw[hsz];omega)⟩,fun b=>Iff.rfl⟩,fun b hb=>?_,htu⟩
  · obtain⟨g1,g2,g3⟩:=f3.lies p (f3.sub p (sb.L0 p hp))
    exact⟨(hk p.1 (h4 p hp)).trans g1,g2,g3⟩
  · rcases hb with h | rfl
    · exact hown b (r3.nY h).2.2
    · exact .inl ((hO _).2 (.inr rfl))
end
end Go.Skm
namespace Go.Skm
open Go.RowKit
section
variable {T:Tab} {C:aA} {F:FI} {n:Nat} {α:Type}
theorem QN:∀ c:Code,jY c=true→∀ (st:St) (k k':Ex→St→Option α),k .normal=k' .normal→aK T C F n c st k=aK T C F n c st k'
 | .skip,_,st,k,k',h=>by simp only[aK,h]
 | .region id ops draw,_,st,k,k',h=>by cases draw<;>simp only[aK,h]
 | .seq y z,hp,st,k,k',h=>by
  simp only[jY,qBa]at hp
  rw[wZ,wZ]
  refine QN y hp.1 st _ _ ?_
  funext st'
  exact QN z hp.2 _ k k' h
 | .cond ..,hp,_,_,_,_ | .block ..,hp,_,_,_,_ | .loop ..,hp,_,_,_,_ | .exit ..,hp,_,_,_,_ | .ret,hp,_,_,_,_ | .label ..,hp,_,_,_,_
 | .rangeFunc ..,hp,_,_,_,_ | .scope ..,hp,_,_,_,_ | .goto ..,hp,_,_,_,_ | .refuse ..,hp,_,_,_,_=>by simp[jY]at hp
def vX (T:Tab) (C:aA) (F:FI) (n:Nat) (y z:Code) (st:St) (k:Ex→St→Option α):Option α:=aK T C F n y st (Vp T C F n z k)
def jP (ps:Array Tmp) (y z:Code):List Nat:=ps.toList++(fO y++fO z)
theorem qW {f : Operand} {ps : Array Tmp} {y z : Code} {st : St} {k : Ex → St → Option α} {x : α} (h : aK T C F n (.rangeFunc f ps y z) st k = some x) :
    ∃ g caps fi r,aP st.env f=.p (.fn g caps)∧bI T.funcs g=some fi∧jY y=true∧jm fi caps.length=true∧C g (.zq::caps.map .p) [.log true []]=some r ∧
     jf (aB F.cfg (.seq y z)) fi.cfg.yk ps.toList (jP ps y z) (vX T C F n y z) (sQ r.2) (aB F.cfg (.seq y z) st) k=some x:=by
  simp only[aK]at h
  obtain⟨h,-⟩:=iJ h
  split at h
  · rename_i g caps hv
    split at h
    · rename_i fi hf hp
      cases hb:jm fi caps.length with
      | false=>rw[hb]at h;cases h
      | true =>
       rw[hb]at h
       simp only[cond_true]at h
       split at h
       · rename_i r hr
         exact⟨g,caps,fi,r,hv,hf,hp,hb,hr,h⟩
       · cases h
    · cases h
  · cases h
theorem N9 {ps:Array Tmp} {cs:Array Value} {t:Array Value}:(ps.zip cs).foldl (fun tmps (t,a)=>tmps.setIfInBounds t a) t=(ps.toList.zip cs.toList).foldl (fun tmps (t,a)=>tmps.setIfInBounds t a) t:=by
 rw[← Array.foldl_toList,Array.toList_zip]
end
section
variable {cx:Cx} {a':Act} {Ln:List (Nat × Obj)} {MV:List Nat} {l:Nat} {W1 W W':World} {st:St} {O:Nat→Prop} {lp:Loop} {P:Program}
def cx1 (cx:Cx) (le:cx.w0.n0≤W.heap.size) (O M1:Nat→Prop) (ws:List Nat) (tmps:Array Value) (l:Nat) (L0:List (Nat × Obj)):Cx :=
 { w0:=⟨W,cx.w0.n0,le,cx.w0.gl⟩,Pr:=O,M0:=M1,QF:=cx.QF,hp0:=cx.hp0,Wr:=fun t=>t∈ws,t0:=tmps,rd:=some l,L0:=L0,nm:=cx.nm }
theorem Inv.busy {Az : Cx} {st1 : St} {a1 : Act} {w1 : World} {lo : Obj} (i : Inv Az st1 a1 w1) (hl : (l,lo) ∈ Az.L0) (ho : ∀ ds,lo ≠ .deferred ds) (hrd : Az.rd = some l) (lp : Loop) (hLn : ∀ p ∈ Ln,p ∈ Az.L0 ∧ p.1 ≠ l) (ws : List Nat) (_hw : Az.Wr = fun t => t ∈ ws) (hpr : Az.Pr l) (hlt : l < Az.w0.heap.size) :
    w1.heap[l]?=some lo∧∃ TR:Cx,Inv TR st1 a1 (w1.putObj l (.loop lp))∧TR.w0.n0=Az.w0.n0∧TR.w0.gl=Az.w0.gl∧TR.w0.wd=w1.putObj l (.loop lp)∧Turns Az.w0.gl Az.Pr Az.w0.wd TR.w0.wd∧(∀ b,TR.Pr b→Az.w0.heap.size≤b∨Az.Pr b)∧(∀ b,TR.M0 b→Az.M0 b∨(Az.w0.n0≤b∧(Az.w0.heap.size≤b∨Az.Pr b))) ∧
     (∀ b n,b<Az.w0.n0→Az.Pr b→b≠l→Room Az.w0.wd b n→Room TR.w0.wd b n)∧(∀ b,Az.M0 b→TR.M0 b)∧TR.QF=Az.QF∧TR.hp0=Az.hp0∧TR.Wr=Az.Wr∧TR.t0=Az.t0∧TR.rd=some l∧(l,Obj.loop lp)∈TR.L0∧(∀ p∈Ln,p∈TR.L0)∧(TR.Ys=fun _=>False):=by
  obtain⟨M,β,L,ds,r,i1,i2,i3,fx⟩:=i
  obtain⟨k1,k2,k3⟩:=fx.lies _ (fx.sub _ hl)
  refine⟨k1,?_⟩
  have hl1:l<w1.heap.size:=(qAa.1 k1).1
  have hk:∀ b,b≠l→(w1.putObj l (.loop lp)).heap[b]?=w1.heap[b]?:=fun b hb=>World.putObj_heap_other hb
  have hsz:(w1.putObj l (.loop lp)).heap.size=w1.heap.size:=World.putObj_size
  have hrs:=r.size
  have hn:=Az.w0.le'
  have ht:Turns Az.w0.gl Az.Pr Az.w0.wd (w1.putObj l (.loop lp)):=(r.turns i3).trans (Turns.putObj w1 l _) fun b _ hb=>by rw[show b=l from hb];exact hpr
  let L2:List (Nat × Obj):=(l,.loop lp)::L.filter fun p=>p.1 != l
  have hmem:∀ p,p∈L→p.1≠l→p∈L2:=fun p hp hne=>List.mem_cons_of_mem _ (List.mem_filter.2 ⟨hp,by simpa using hne⟩)
  refine⟨{ w0:=⟨w1.putObj l (.loop lp),Az.w0.n0,by rw[hsz];omega,Az.w0.gl⟩,Pr:=fun b=>kN β st1.heap b∨b=l,M0:=M,QF:=Az.QF,hp0:=Az.hp0,Wr:=Az.Wr,t0:=Az.t0,rd:=some l,L0:=L2,nm:=Az.nm },?_,rfl,rfl,rfl,ht,fun b hb=>?_,r.jQ,fun b n hb hp hne hr=>(r.room b n hb hp hr).of_block (hk b hne),r.oD,rfl,rfl,rfl,rfl,rfl,by simp[L2],fun p hp=>?_,rfl⟩
  · refine⟨M,β,L2,ds,r.to rfl (fun b hb=>⟨hb,hk b fun e=>k3 (e▸hb)⟩) (fun s b o hs hb=>?_) (fun b hb=>by rw[hsz];exact r.fB b hb) (fun b hb=>.inl hb) (fun b hb=>hb) (fun _ _ _=>rfl) (fun _ _ _ _ h=>h) (Nat.le_refl _) rfl rfl rfl,i1,i2,.refl _ _,⟨fun p hp=>?_,fun p hp=>hp,fx.marks,fx.nodup,fun D hD=>?_,fun l' hl'=>?_,fx.size,fx.tmps,fx.one,fun _ h=>h.elim,by show Az.nm≤(w1.putObj l (.loop lp)).heap.size;rw[hsz];have:=fx.nml;omega⟩⟩
    · obtain⟨g1,g2,g3,g4⟩:=r.own s b o hs hb
      exact⟨hk b fun e=>k2 (e▸⟨s,o,hs,hb⟩),g1,by rw[hsz];exact g2,.inr (.inl ⟨s,o,hs,hb⟩),g4⟩
    · rcases List.mem_cons.1 hp with rfl | hp
      · exact⟨World.putObj_heap_same hl1,k2,k3⟩
      · obtain⟨hp1,hp2⟩:=List.mem_filter.1 hp
        obtain⟨g1,g2,g3⟩:=fx.lies p hp1
        exact⟨(hk p.1 (by simpa using hp2)).trans g1,g2,g3⟩
    · obtain⟨g1,g2⟩:=fx.mark D hD
      refine⟨hmem _ g1 fun e=>?_,g2⟩
      have e:D=l:=e
      have:=(fx.lies _ g1).1
      rw[e]at this
      rw[show w1.heap[l]?=some lo from k1]at this
      exact ho _ (by cases this;rfl)
    · cases hl'
      exact⟨lp,by simp[L2]⟩
  · rcases hb with h | rfl
    · exact(r.nY h).2.2
    · exact .inr hpr
  · obtain⟨h1,h2⟩:=hLn p hp
    exact hmem p (fx.sub p h1) h2
end
end Go.Skm
namespace Go.Skm
open Go.RowKit
section
variable {P:Program} {T:Tab} {C:aA} {F:FI} {n m:Nat} {α:Type} {cx:Cx} {st:St} {a:Act} {w:World}
theorem kH:∀ {c:Code} {o:Oper} {d:Nat},o∈opsOf c→o.dst=some d→d∈fO c
 | .region id ops draw,o,d,ho,hd=>by
  simp only[fO,List.mem_filterMap]
  exact⟨o,ho,hd⟩
 | .seq a b,o,d,ho,hd=>by
  simp only[opsOf,List.mem_append]at ho
  simp only[fO,List.mem_append]
  exact ho.imp (fun h=>kH h hd) fun h=>kH h hd
 | .cond _ a b,o,d,ho,hd=>by
  simp only[opsOf,List.mem_append]at ho
  simp only[fO,List.mem_append]
  exact ho.imp (fun h=>kH h hd) fun h=>kH h hd
 | .block _ c,o,d,ho,hd=>by
  simp only[opsOf]at ho
  simp only[fO]
  exact kH ho hd
 | .loop c,o,d,ho,hd=>by
  simp only[opsOf]at ho
  simp only[fO]
  exact kH ho hd
 | .scope c,o,d,ho,hd=>by
  simp only[opsOf]at ho
  simp only[fO]
  exact kH ho hd
 | .rangeFunc _ ps a b,o,d,ho,hd=>by
  simp only[opsOf,List.mem_append]at ho
  simp only[fO,List.mem_append]
  exact .inr (ho.imp (fun h=>kH h hd) fun h=>kH h hd)
 | .skip,o,d,ho,_ | .exit _,o,d,ho,_ | .ret,o,d,ho,_ | .label _,o,d,ho,_ | .goto ..,o,d,ho,_ | .refuse ..,o,d,ho,_=>by simp[opsOf]at ho
theorem Vr {M : Nat → Prop} {β : Nat → Option (Nat × Nat)} {L : List (Nat × Obj)} {ds : List Nat} (r : Rel cx.w0 cx.Pr cx.M0 M β st a w) (i1 : ∀ s,ah ≤ s → β s = cx.QF s) (i2 : iQ cx.hp0 st.heap) (i3 : iH cx.w0.gl cx.w0.drawn w.drawn) (fx : Fix cx M β st.heap a w L ds) (hnl : zk cx.hp0) (fn : FuncId) (ps : Array Tmp) (y z : Code) :
    ∃ (l:Nat) (mark:List Deferred) (W1:World) (dB:Nat) (Ln:List (Nat × Obj)) (MV:List Nat),(Instr.enterLoop fn a.tmps ps y z cx.rd).run P w=.ok (l,mark) W1∧nN cx.w0.gl w W1 ∧
     ∀ (F:Bz) (c:Code),∃ O,x9 cx { a with defers:=mark++a.defers } Ln MV l W1 (aB F c st) O W1 { state:=.ready,pending:=none,fn,tmps:=a.tmps,params:=ps,assign:=y,body:=z,defers:=dB }∧(∀ b,M b→¬ O b)∧∀ p∈Ln,p.1<W1.heap.size∧¬ M p.1:=by
  have hrs:=r.size
  have hn:=cx.w0.le'
  have fin : ∀ (W1 : World) (l : Nat) (mark : List Deferred) (Ln : List (Nat × Obj)) (MV : List Nat) (lp : Loop),nN cx.w0.gl w W1 → w.heap.size ≤ l → W1.heap[l]? = some (.loop lp) → (∀ p ∈ Ln,W1.heap[p.1]? = some p.2 ∧ p.1 ≠ l ∧ (p ∈ L ∨ w.heap.size ≤ p.1)) → (∀ p ∈ L,p ∈ Ln) →
      mark++a.defers=MV.map rV→MV.Nodup→(∀ D∈MV,(D,Obj.deferred (some []))∈Ln∧cx.nm≤D)→∀ (F:Bz) (c:Code),∃ O,x9 cx { a with defers:=mark++a.defers } Ln MV l W1 (aB F c st) O W1 lp∧(∀ b,M b→¬ O b)∧∀ p∈Ln,p.1<W1.heap.size∧¬ M p.1:=by
    intro W1 l mark Ln MV lp g hl hlp hLn hsub hm hnd hmk F c
    have hgs:=g.size
    have hk:∀ b,b<w.heap.size→W1.heap[b]?=w.heap[b]?:=fun b hb=>g.keep b hb fun h=>h
    have rr:Rel cx.w0 cx.Pr cx.M0 M β st a W1:=by
     refine r.to rfl (fun b hb=>⟨hb,hk b (r.fB b hb)⟩) (fun s b o hs hb=>?_) (fun b hb=>Nat.lt_of_lt_of_le (r.fB b hb) hgs) r.jQ r.oD (fun b hb hp=>?_) (fun b n hb hp hr=>?_) (Nat.le_trans r.size hgs) (g.os.trans r.os) (g.tape.trans r.tape) (g.output.trans r.output)
     · obtain⟨g1,g2,g3⟩:=r.own s b o hs hb
       exact⟨hk b g2,g1,Nat.lt_of_lt_of_le g2 hgs,g3⟩
     · rw[hk b (by omega)];exact r.keep b hb hp
     · exact(r.room b n hb hp hr).of_block (hk b (by omega))
    have ra:=rr.slots (a':={ a with defers:=mark++a.defers }) (env:=st.env) rr.lC rr.env
    obtain⟨rf,af,hof⟩:=GH ra F c
    have hMl:¬ M l:=fun h=>by have:=r.fB l h;omega
    have hOl:¬ kN β st.heap l:=fun h=>by have:=(r.nY h).2.1;omega
    refine⟨fun b=>kN β (aB F c st).heap b∨b=l,⟨M,β,rf,i1,i2.trans af,i3.trans g.drawn,⟨fun p hp=>?_,fun p hp=>hsub p (fx.sub p hp),hm,hnd,hmk,fun l' hl'=>?_,fx.size,fx.tmps,fun h=>absurd hnl h,fx.yl,fx.nml⟩,⟨hlp,hMl,fun h=>hOl (hof l h),fun p hp=>(hLn p hp).2.1,by omega,Nat.le_refl _⟩,fun b=>Iff.rfl⟩,fun b hb ho=>?_,fun p hp=>?_⟩
    · obtain⟨g1,g2,g3⟩:=hLn p hp
      rcases g3 with g3 | g3
      · obtain⟨k1,k2,k3⟩:=fx.lies p g3
        exact⟨g1,fun h=>k2 (hof _ h),k3⟩
      · exact⟨g1,fun h=>by have:=(r.nY (hof _ h)).2.1;omega,fun h=>by have:=r.fB _ h;omega⟩
    · obtain⟨r0,hr0⟩:=fx.rd l' hl'
      exact⟨r0,hsub _ hr0⟩
    · rcases ho with h | rfl
      · exact(r.nY (hof b h)).1 hb
      · exact hMl hb
    · obtain⟨g1,g2,g3⟩:=hLn p hp
      refine⟨(qAa.1 g1).1,fun h=>?_⟩
      rcases g3 with g3 | g3
      · exact(fx.lies p g3).2.2 h
      · have:=r.fB _ h;omega
  have hlt:∀ p∈L,p.1<w.heap.size:=fun p hp=>(qAa.1 (fx.lies p hp).1).1
  cases hrd:cx.rd with
  | none =>
   refine⟨_,_,_,w.heap.size,(w.heap.size,.deferred (some []))::L,w.heap.size::ds,run_enterLoop_outer fn a.tmps ps y z,(nN.alloc w _).trans (nN.alloc _ _) (fun _ _ h=>h),?_⟩
   refine fin _ _ _ _ _ _ ((nN.alloc w _).trans (nN.alloc _ _) (fun _ _ h=>h)) (by omega) ?_ (fun p hp=>?_) (fun p hp=>List.mem_cons_of_mem _ hp) (by rw[fx.marks];rfl) ?_ fun D hD=>?_
   · have:=World.alloc_heap_new (w.alloc (.deferred (some []))) (.loop { state:=.ready,pending:=none,fn,tmps:=a.tmps,params:=ps,assign:=y,body:=z,defers:=w.heap.size })
     rwa[World.size_alloc]at this
   · rcases List.mem_cons.1 hp with rfl | hp
     · exact⟨(Below.heap_alloc _ _ _ (by simp)).trans (World.alloc_heap_new w _),by simp,.inr (Nat.le_refl _)⟩
     · have:=hlt p hp
       refine⟨?_,by omega,.inl hp⟩
       rw[Below.heap_alloc _ _ _ (by simp;omega),Below.heap_alloc _ _ _ this]
       exact(fx.lies p hp).1
   · refine List.nodup_cons.2 ⟨fun h=>?_,fx.nodup⟩
     have:=hlt _ (fx.mark _ h).1
     exact absurd this (Nat.lt_irrefl _)
   · rcases List.mem_cons.1 hD with rfl | hD
     · exact⟨by simp,by have:=fx.nml;omega⟩
     · exact⟨List.mem_cons_of_mem _ (fx.mark D hD).1,(fx.mark D hD).2⟩
  | some l0 =>
   obtain⟨r0,hr0⟩:=fx.rd l0 hrd
   refine⟨_,_,_,r0.defers,L,ds,run_enterLoop_inner (fx.lies _ hr0).1 fn a.tmps ps y z,nN.alloc w _,?_⟩
   refine fin _ _ _ _ _ _ (nN.alloc w _) (Nat.le_refl _) (World.alloc_heap_new w _) (fun p hp=>?_) (fun p hp=>hp) (by rw[fx.marks];rfl) fx.nodup fx.mark
   have:=hlt p hp
   exact⟨(Below.heap_alloc _ _ _ this).trans (fx.lies p hp).1,by omega,.inl hp⟩
def Ex.code:Ex→Code
 | .normal=>.skip
 | .exit id=>.exit id
 | .ret=>.ret
theorem Ph (ok : bJ P T) {gl : Option (List (Nat × Obj))} (hS : Fe P T gl C) {x0 : α} {f : Operand} {ps : Array Tmp} {y z : Code}
    (hy:Vq T C F n false P 0 (fun _:Ex→St→Option α=>True) (fun i:CxN gl=>i.1.rd) (fun i=>wX i.1) (fun i x st a w=>x=x0∧Inv i.1 st a w) y)
    (hz:Vq T C F n false P 0 (fun _:Ex→St→Option α=>True) (fun i:CxN gl=>i.1.rd) (fun i=>wX i.1) (fun i x st a w=>x=x0∧Inv i.1 st a w) z) :
    Vq T C F n false P 0 (fun _:Ex→St→Option α=>True) (fun i:CxN gl=>i.1.rd) (fun i=>wX i.1) (fun i x st a w=>x=x0∧Inv i.1 st a w) (.rangeFunc f ps y z):=by
  intro ⟨cx,hnl,hgl⟩ st a w k x Q _ h hd _ hw hi hQ
  simp only at hw hi hQ ⊢
  obtain⟨g,caps,fi,res,hv,hf,hpy,hpb,hcall,h⟩:=qW h
  simp only[iK,qBa]at hd
  obtain⟨hfun,hit⟩:=hS g fi caps res hf hpb hcall
  obtain⟨hx0,M,β,L,ds,r,i1,i2,i3,fx⟩:=hi
  subst hx0
  have hev:=r.aP f
  rw[hv]at hev
  obtain⟨lb,hlb,akK,afg⟩:∃ lb:Array Value,a.eval f=.func (.func g) #[] lb∧lb.size=caps.length∧∀ i c,caps[i]?=some c→VR w M c (lb.getD i undef):=by
   generalize a.eval f=c at hev
   cases hev with
   | p _ _ Nq=>cases Nq with | fn _ _ vs hn hc=>exact⟨vs,rfl,hn,hc⟩
  have hbody:∃ c,fi.fn.body=some c:=by
   unfold jm at hpb
   cases hb:fi.fn.body with
   | none=>rw[hb]at hpb;cases hpb
   | some c=>exact⟨c,rfl⟩
  refine wpIn_rangeFunc fun fn _=>?_
  obtain⟨l,mark,W1,dB,Ln,MV,hrun,hg,hfin⟩:=Vr (P:=P) r i1 i2 i3 fx hnl fn ps y z
  obtain⟨O0,hI0,hMO,afh⟩:=hfin F.cfg (.seq y z)
  refine⟨l,mark,W1,{ target:=.fn (.func g) lb,args:=#[.func (.yield l) #[] #[]] },W1,g,#[.func (.yield l) #[] #[]]++lb,W1,hrun,?_,fun _ _=>trivial,?_,yB cx.rd,?_⟩
  · simp only[resolve,hlb]
    simp[go_sem]
  · simp only[invoke]
    exact Dn ok hf hbody _
  refine dJ _ ?_
  generalize hrec:({ state:=.ready,pending:=none,fn,tmps:=a.tmps,params:=ps,assign:=y,body:=z,defers:=dB }:Loop)=rec at hI0
  generalize ha':({ a with defers:=mark++a.defers }:Act)=a' at hI0
  have hat:a'.tmps=a.tmps:=by rw[← ha']
  let J:List PV→(Nat→Prop)→World→Prop:=fun r O W=>∃ st,jf (aB F.cfg (.seq y z)) fi.cfg.yk ps.toList (jP ps y z) (vX T C F n y z) r st k=some x∧x9 cx a' Ln MV l W1 st O W rec
  let Jx:World→Prop:=fun W=>∃ (ex:Ex) (st:St) (O:Nat→Prop),k ex st=some x∧(ex=.ret∨∃ id,ex=.exit id)∧x9 cx a' Ln MV l W1 st O W { rec with state:=.done,pending:=some ex.code }
  have hW1:cx.w0.n0≤W1.heap.size:=by have:=hg.size;have:=r.size;have:=cx.w0.le';omega
  refine Calls.mono (hit W1 M l lb J Jx O0 (fun p hp=>by rw[← hgl]at hp;exact⟨(r.glob p hp).1,(hg.keep _ (r.fB _ (r.glob p hp).1) fun h=>h).trans (r.glob p hp).2⟩) akK (fun i c hc=>(afg i c hc).mono fun b hb=>⟨hb,hg.keep b (r.fB b hb) fun h=>h⟩) (fun b hb=>⟨Nat.lt_of_lt_of_le (r.fB b hb) hg.size,hMO b hb⟩)
   (fun r O W W' ⟨st,h1,h2⟩ g=>⟨st,h1,h2.grows (hgl▸g)⟩) (fun W W' ⟨ex,st,O,h1,h2,h3⟩ g=>⟨ex,st,O,h1,h2,h3.grows (hgl▸g)⟩) (fun r O W ⟨st,h1,h2⟩=>h2.lt) ?_ ⟨_,h,hI0⟩) ?_
  · -- one round
    rintro vs xs O W Mi aF ⟨st,h1,h2⟩ anO hMi hcn hcv
    clear h hI0 afg i1 i2 i3 fx hv
    simp only[jf]at h1
    split at h1
    · cases h1
    rename_i env henv
    rw[aC]at h1
    obtain⟨M',β',r',e1,e2,e3,f',⟨k1,k2,k3,k4,k5,k6⟩,hO⟩:=h2
    have hl:l<W.heap.size:=(qAa.1 k1).1
    have akM:=r'.size
    have Ur:∀ b,O b→b<W.heap.size:=fun b hb=>by
     rcases(hO b).1 hb with h | rfl
     · exact(r'.nY h).2.1
     · exact hl
    let M1:Nat→Prop:=fun b=>M' b∨Mi b
    have afi:∀ b,M1 b→¬ O b:=fun b hb ho=>by
     rcases hb with hb | hb
     · rcases(hO b).1 ho with h | rfl
       · exact(r'.nY h).1 hb
       · exact k2 hb
     · exact(hMi b hb).2.1 ho
    have hle:cx.w0.n0≤W.heap.size:=by have:=cx.w0.le';omega
    have r1:Rel ⟨W,cx.w0.n0,hle,cx.w0.gl⟩ O M1 M1 β' st a' W:=by
     refine r'.to rfl (fun b hb=>⟨.inl hb,rfl⟩) (fun s b o hs hb=>?_) (fun b hb=>?_) (fun b hb=>.inl hb) (fun b hb=>hb) (fun _ _ _=>rfl) (fun _ _ _ _ h=>h) (Nat.le_refl _) rfl rfl rfl
     · obtain⟨g1,g2,g3,g4⟩:=r'.own s b o hs hb
       have ho:O b:=(hO b).2 (.inl ⟨s,o,hs,hb⟩)
       exact⟨rfl,fun hm=>afi b hm ho,g2,.inr ho,g4⟩
     · rcases hb with hb | hb
       · exact r'.fB b hb
       · exact(hMi b hb).1
    obtain⟨p1,p2,p3,p4,p5⟩:=TQ (w:=W) (M:=M1) (β:=β') (h:=look st.heap) (cs:=aF.toList) (tmps:=a'.tmps) henv (by simp[hcn]) (Nat.zero_le _) (fun j c hc=>by
     have:=hcv j c (by simpa using hc)
     have e:aF.toList.getD j undef=aF.getD j undef:=by simp[]
     rw[e];exact this.mono fun b hb=>⟨.inr hb,rfl⟩) r1.lC r1.env
    have hyl:=run_yield (P:=P) (args:=aF) k1 (by rw[← hrec];simpa using p1)
    rw[← N9]at p3 p4 p5
    have etm:rec.tmps=a'.tmps:=by rw[← hrec,hat]
    have eps:rec.params=ps:=by rw[← hrec]
    rw[eps,etm]at hyl
    generalize htm:(ps.zip aF).foldl (fun tmps (t,a)=>tmps.setIfInBounds t a) a'.tmps=tmps at p3 p4 p5 hyl
    have eas:rec.assign=y:=by rw[← hrec]
    have ebo:rec.body=z:=by rw[← hrec]
    have est:rec.state=.ready:=by rw[← hrec]
    have epe:rec.pending=none:=by rw[← hrec]
    rw[eas,ebo]at hyl
    refine⟨rec.fn,tmps,y,z,hyl,roundIn_of_wpIn trivial ?_⟩
    let cA:Cx:=cx1 cx hle O M1 (jP ps y z) tmps l ((l,.loop rec)::Ln)
    have hIA:Inv cA { st with env:=env } { tmps:=tmps,defers:=[] } W:=by
     refine⟨M1,β',(l,.loop rec)::Ln,[],r1.slots (a':={ tmps:=tmps,defers:=[] }) (by rw[p2];show st.env.length≤tmps.size;rw[p3];exact r1.lC) p4,e1,e2,.refl _ _,⟨fun p hp=>?_,fun p hp=>hp,rfl,List.nodup_nil,fun D hD=>by simp at hD,fun l' hl'=>?_,rfl,fun _ _=>rfl,fun _=>rfl,fun _ h=>h.elim,Nat.le_trans f'.nml akM⟩⟩
     · rcases List.mem_cons.1 hp with rfl | hp
       · exact⟨k1,k3,fun hm=>afi l hm ((hO l).2 (.inr rfl))⟩
       · obtain⟨g1,g2,g3⟩:=f'.lies p hp
         exact⟨g1,g2,fun hm=>by
          rcases hm with hm | hm
          · exact g3 hm
          · -- what the giver holds is not what lies here
            rcases(hMi _ hm).2.2 with h | h
            · exact(afh p hp).2 h
            · have:=(afh p hp).1;omega⟩
     · cases hl'
       exact⟨rec,by simp⟩
    have hdst:(∀ o∈opsOf y,wX cA o)∧∀ o∈opsOf z,∀ d,o.dst=some d→d∈jP ps y z:=⟨fun o ho=>⟨fun d hd=>by have:=kH ho hd;show d∈jP ps y z;simp[jP,this],fun _ _ h=>h.elim⟩,fun o ho d hd=>by have:=kH ho hd;simp[jP,this]⟩
    let kr:Ex→St→Option α:=nT (aB F.cfg (.seq y z)) (jP ps y z) (fun st=>jf (aB F.cfg (.seq y z)) fi.cfg.yk ps.toList (jP ps y z) (vX T C F n y z) xs st k) k
    let kn : Ex → St → Option α := fun ex st' => match ex with
        | .normal=>Vp T C F n z kr .normal st'
        | _=>none
    have h1':aK T C F n y { st with env:=env } kn=some _:=(QN y hpy _ kn (Vp T C F n z kr) rfl).trans h1
    clear h1
    refine hy ⟨cA,hnl,hgl⟩ _ _ W _ _ _ trivial h1' hd.1 (fun h=>by cases h) hdst.1 ⟨rfl,hIA⟩ ?_
    intro ex x' st' a1 w1 hk1 ⟨hx1,hI1⟩
    subst hx1
    cases ex with
    | exit id=>cases hk1
    | ret=>cases hk1
    | normal =>
    have hk1:aK T C F n z (Skm.aB F.cfg z st') kr=some x':=hk1
    have akN:=hI1.aB F.cfg z
    obtain⟨q1,cB,hIB,n0B,gB,wB,tB,prB,mB,afj,moB,b0B,hpB,wrB,t0B,rdB,lB,LnB,ysB⟩:=Inv.busy (Ln:=Ln) akN (l:=l) (lo:=.loop rec) (by simp[cA,cx1]) (by simp) rfl { rec with state:=.busy } (fun p hp=>⟨List.mem_cons_of_mem _ hp,k4 p hp⟩) (jP ps y z) rfl ((hO l).2 (.inr rfl)) hl
    refine⟨_,run_beginRound q1 est,?_⟩
    have hO':∀ b,O b→cx.w0.heap.size≤b∨cx.Pr b:=fun b h=>by
     rcases(hO b).1 h with h | rfl
     · exact(r'.nY h).2.2
     · exact .inl k5
    have sb:ab9 cx cB M' a' Ln (jP ps y z) l W O:=by
     refine⟨n0B,gB,tB,fun b hb=>(prB b hb).symm,fun b hb=>?_,fun b j hb ho hr=>afj b j hb ho (fun e=>?_) hr,fun b hb=>moB b (.inl hb),b0B,hpB,wrB,by rw[t0B];exact p3,fun t ht=>by rw[t0B];exact p5 t fun h=>ht (by simp only[jP,List.mem_append];exact .inl h),LnB⟩
     · rcases mB b hb with (h | h) | ⟨h,h'⟩
       · exact r'.jQ b h
       · rcases(hMi b h).2.2 with h | h
         · exact r.jQ b h
         · have:=hg.size;have:=r.size;have:=cx.w0.le'
           exact .inr ⟨by omega,.inl (by omega)⟩
       · refine .inr ⟨h,?_⟩
         rcases h' with h' | h'
         · have h':W.heap.size≤b:=h'
           left;omega
         · exact hO' b h'
     · obtain⟨Cs,e',fr,hc,_⟩:=hr
       rw[e,k1]at hc;cases hc
    have hzz:=hz ⟨cB,by rw[hpB];exact hnl,gB.trans hgl⟩ _ a1 _ _ _ (roundPost P l fun e W'=>Turns gl O W W'∧((e=.returned (.bool true)∧∃ O',J xs O' W'∧∀ b,O' b→O b∨W.heap.size≤b)∨(e=.returned (.bool false)∧Jx W'))) trivial hk1 hd.2 (fun h=>by cases h) (fun o ho=>⟨fun d hd=>by show cB.Wr d;rw[wrB];exact hdst.2 o ho d hd,fun t _ h=>by rw[ysB]at h;exact h.elim⟩) ⟨rfl,hIB⟩ ?_
    · simp only[rdB]at hzz
      exact hzz
    intro ex2 x2 st3 a3 W3 hk2 ⟨hx2,hI3⟩
    subst hx2
    have key:=fun lp'=>x9.round (W1:=W1) r' f' e3 k4 k5 k6 hO sb lB hI3 lp'
    cases ex2 with
    | normal =>
     obtain⟨q3,O',hI',hOs,ht⟩:=key rec
     obtain⟨O'',akP,hsub⟩:=hI'.aB F.cfg (.seq y z)
     have he:=run_endRound (P:=P) none q3
     have acO:({ { rec with state:=.busy } with state:=if(none:Option Code).isNone then .ready else .done,pending:=none }:Loop)=rec:=by
      cases rec;simp at est epe;subst est epe;rfl
     simp only[kr,nT,aC]at hk2
     refine⟨_,_,he,?_⟩
     rw[acO]
     exact⟨hgl▸ht,.inl ⟨rfl,O'',⟨_,hk2,akP⟩,fun b hb=>hOs b (hsub b hb)⟩⟩
    | exit id =>
     obtain⟨q3,O',hI',hOs,ht⟩:=key { rec with state:=.done,pending:=some (.exit id) }
     simp only[kr,nT,aC]at hk2
     exact⟨_,_,run_endRound (P:=P) (some (.exit id)) q3,hgl▸ht,.inr ⟨rfl,.exit id,_,O',hk2,.inr ⟨id,rfl⟩,hI'⟩⟩
    | ret =>
     obtain⟨q3,O',hI',hOs,ht⟩:=key { rec with state:=.done,pending:=some .ret }
     simp only[kr,nT,aC]at hk2
     exact⟨_,_,run_endRound (P:=P) (some .ret) q3,hgl▸ht,.inr ⟨rfl,.ret,_,O',hk2,.inl rfl,hI'⟩⟩
  · -- behind the sequence
    rintro e W2 ⟨⟨v,rfl⟩,(⟨O,st,h1,h2⟩ | ⟨ex,st,O,h1,h2,h3⟩)⟩
    · simp only[jf]at h1
      have hl:W2.heap[l]?=some (.loop rec):=by obtain⟨_,_,_,_,_,_,_,⟨h,_⟩,_⟩:=h2;exact h
      have hend:=run_endLoop (P:=P) hl (by rw[← hrec];simp)
      rw[show rec.pending=none by rw[← hrec]]at hend
      refine⟨none,_,hend,?_⟩
      exact hQ .normal _ st a' _ h1 ⟨rfl,h2.close _⟩
    · have hl:W2.heap[l]?=some (.loop { rec with state:=.done,pending:=some ex.code }):=by obtain⟨_,_,_,_,_,_,_,⟨h,_⟩,_⟩:=h3;exact h
      refine⟨some ex.code,_,run_endLoop (P:=P) hl (by simp),?_⟩
      rcases h2 with rfl | ⟨id,rfl⟩
      · exact wpIn_ret (hQ .ret _ st a' _ h1 ⟨rfl,h3.close _⟩)
      · exact wpIn_exit (hQ (.exit id) _ st a' _ h1 ⟨rfl,h3.close _⟩)
end
end Go.Skm
namespace Go.Skm
section
variable {P:Program} {T:Tab} {w0:Base} {Pr M0 M:Nat→Prop} {β QF:Nat→Option (Nat × Nat)} {hp0:Heap} {st st':St} {a:Act} {w:World}
def zl (tmps:Array Value):ResultVar→Sem Value
 | .tmp t=>pure (tmps.getD t undef)
 | .cell a t=>do loadVar t (← asAddr (tmps.getD a undef))
theorem Z7 (ok:bJ P T) (r:Rel w0 Pr M0 M β st a w) {x:ResultVar} {v:AV} (h:Ws T st.env (look st.heap) x=some v):∃ c,(zl a.tmps x).run P w=.ok c w∧AR w M β (look st.heap) v c:=by
 cases x with
 | tmp t =>
  simp only[Ws,qOa]at h
  subst h
  exact⟨_,by simp[zl],r.slot t⟩
 | cell t ty =>
  simp only[Ws]at h
  split at h
  · rename_i s n hs hn
    split at h
    · rename_i cs hl
      have hx:=r.slot t
      rw[hs]at hx
      have hst:(BH T (look st.heap) ty (.ptr s 0 0)).run some=some { val:=v }:=by
       simp only[BH,hn,hl,h];rfl
      obtain⟨v',c,h1,h2,h3⟩:=(SK ok (h':=look st.heap) (fun _ _ h=>h) r.heap hx).Zu Eff some _ hst
      cases h1
      refine⟨c,?_,h2⟩
      generalize hc:a.tmps.getD t undef=p at hx h3
      cases hx with
      | ptrB _ _ cs' b o p1 p2 =>
       simp only[Instr.loadAt,Instr.sureAddr]at h3
       simp only[zl,hc,asAddr]
       simpa using h3
      | ptrA _ _ _ sa ks xs b o p1 p2 p3=>rw[hl]at p1;cases p1
      | ptrT _ _ _ _ _ b p1 p2=>rw[hl]at p1;cases p1
    · cases h
  · cases h
theorem Dv (ok:bJ P T) (r:Rel w0 Pr M0 M β st a w):∀ {l:List ResultVar} {vs:List AV},EC T st.env (look st.heap) l=some vs→∃ cs,(l.mapM (zl a.tmps)).run P w=.ok cs w∧lV w M β (look st.heap) vs cs
 | [],vs,h=>by
  simp[EC]at h;subst h
  exact⟨[],by simp,rfl,fun i x c h=>by simp at h⟩
 | x::l,vs,h=>by
  simp only[EC]at h
  split at h
  · rename_i v vs' h1 h2
    cases h
    obtain⟨c,g1,g2⟩:=Z7 ok r h1
    obtain⟨cs,g3,g4⟩:=Dv ok r h2
    refine⟨c::cs,by simp[g1,g3],by simp[g4.1],fun i y d hy hd=>?_⟩
    cases i with
    | zero=>simp at hy hd;subst hy hd;exact g2
    | succ i=>simp at hy hd;exact g4.2 i y d hy hd
  · cases h
theorem Cm {fn:Func} {tmps:Array Value} {cs:List Value} (h:(fn.results.toList.mapM (zl tmps)).run P w=.ok cs w):(results fn tmps).run P w=.ok (wV cs) w:=by
 have e:results fn tmps=(do let vs ← fn.results.mapM (zl tmps);pure (if h:vs.size=1 then vs[0] else .tuple vs)):=rfl
 rw[e,Array.mapM_eq_mapM_toList]
 simp only[map_eq_pure_bind,bind_assoc,pure_bind,Sem.run_bind,h,qRa,Sem.run_pure]
 congr 1
 match cs with
 | []=>rfl
 | [c]=>rfl
 | _::_::_=>rfl
theorem xg {ss:List Nat} {hp:Heap} {s:Nat} {b:aJ} (h:look (lS hp ss) s=some b):look hp s=some b∧s ∉ ss:=by
 rw[qg]at h
 by_cases hm:s∈ss
 · rw[if_pos hm]at h;cases h
 · rw[if_neg hm]at h;exact⟨h,hm⟩
theorem Je {h:Nat→Option aJ} {v:AV} {x:PV} {ss:List Nat} (hd:IJ h v=some (x,ss)):∀ s∈ss,(h s).isSome=true:=by
 unfold IJ at hd
 split at hd
 · cases hd;simp
 · split at hd
   · rename_i hs;cases hd;simp[hs]
   · cases hd
 · split at hd
   · rename_i hs
     split at hd
     · cases hd;simp[hs]
     · cases hd
   · cases hd
 · split at hd
   · rename_i hs;cases hd;simp[hs]
   · cases hd
 · cases hd
theorem zX {h:Nat→Option aJ}:∀ {vs:List AV} {xs:List PV} {ss:List Nat},vC h vs=some (xs,ss)→∀ s∈ss,(h s).isSome=true
 | [],xs,ss,hd=>by simp[vC]at hd;obtain⟨_,rfl⟩:=hd;simp
 | v::r,xs,ss,hd=>by
  simp only[vC]at hd
  split at hd
  · rename_i h1 h2
    cases hd
    intro s hs
    rcases List.mem_append.1 hs with hs | hs
    · exact Je h1 s hs
    · exact zX h2 s hs
  · cases hd
theorem Jf {h:Nat→Option aJ} {v:AV} {x:PV} {ss:List Nat} (hd:FV h v=some (x,ss)):∀ s∈ss,(h s).isSome=true:=by
 unfold FV at hd
 split at hd
 · split at hd
   · rename_i hs
     split at hd
     · rename_i h1
       cases hd
       intro s hs'
       rcases List.mem_cons.1 hs' with rfl | hs'
       · rw[hs];rfl
       · exact zX h1 s hs'
     · cases hd
   · cases hd
 · exact Je hd
theorem GK {h:Nat→Option aJ}:∀ {vs:List AV} {xs:List PV} {ss:List Nat},BF h vs=some (xs,ss)→∀ s∈ss,(h s).isSome=true
 | [],xs,ss,hd=>by simp[BF]at hd;obtain⟨_,rfl⟩:=hd;simp
 | v::r,xs,ss,hd=>by
  simp only[BF]at hd
  split at hd
  · rename_i h1 h2
    cases hd
    intro s hs
    rcases List.mem_append.1 hs with hs | hs
    · exact Jf h1 s hs
    · exact GK h2 s hs
  · cases hd
theorem MW {h:Nat→Option aJ} {v:AV} {x:PV} {ss:List Nat} (hd:deep h v=some (x,ss)):∀ s∈ss,(h s).isSome=true:=by
 unfold deep at hd
 split at hd
 · split at hd
   · rename_i h1;cases hd;exact zX h1
   · cases hd
 · split at hd
   · rename_i h1;cases hd;exact GK h1
   · cases hd
 · exact Jf hd
theorem Pj {β:Type}:∀ {l:List β} {r:List β} {x:β},qC l=some (r,x)→l=r++[x]
 | [],r,x,h=>by cases h
 | [y],r,x,h=>by simp[qC]at h;obtain⟨rfl,rfl⟩:=h;rfl
 | y::z::l,r,x,h=>by
  simp only[qC]at h
  split at h
  · rename_i r' x' e
    simp only[qOa,Prod.mk.injEq]at h
    obtain⟨rfl,rfl⟩:=h
    rw[Pj e];rfl
  · cases h
theorem TS {w:World} {M:Nat→Prop} {β:Nat→Option (Nat × Nat)} {h:Nat→Option aJ} {v:AV} {c:Value} {cs:List AV} (hv:AR w M β h v c) (hc:v.Ld=some cs):∃ vs,c=.agg vs∧vs.size=cs.length∧∀ (i:Nat) (x:AV),cs[i]?=some x→AR w M β h x (vs.getD i undef):=by
 unfold AV.Ld at hc
 split at hc
 · rename_i ps
   cases hc
   cases hv
   rename_i hv
   cases hv with
   | agg _ vs hn _ hh =>
    refine⟨vs,rfl,by simp[hn],fun i x hx=>?_⟩
    rw[List.getElem?_map]at hx
    cases hp:ps[i]? with
    | none=>rw[hp]at hx;cases hx
    | some y =>
     rw[hp]at hx
     simp only[Option.map_some,qOa]at hx
     subst hx
     exact .p _ _ (hh i y hp)
 · rename_i ps
   cases hc
   cases hv with
   | agg _ vs hn _ hh=>exact⟨vs,rfl,hn,hh⟩
 · cases hc
theorem Z8 {w : World} {M M' : Nat → Prop} {β : Nat → Option (Nat × Nat)} {h : Nat → Option aJ} (hM : ∀ b,M b → M' b) {s z off len : Nat} {a : Bool} {ks : List Kd} {ys : List PV} {c : Value} (hs' : h s = some (.arr a ks ys)) (hbr : BR w M β h s (.arr a ks ys)) (hv : AR w M β h (.slice s z off len) c) :
    ∃ p:Option (Nat × Nat),BR w M' (fun _=>p) (fun _=>some (.arr a ks ((ys.drop off).take len))) 0 (.arr a ks ((ys.drop off).take len)) ∧
     AR w M' (fun _=>p) (fun _=>some (.arr a ks ((ys.drop off).take len))) (.slice 0 ks.length 0 ((ys.drop off).take len).length) c∧(∀ b o,p=some (b,o)→∃ o0,β s=some (b,o0)):=by
  cases hv with
  | sliceE _ _ a' ks' xs' base h1 h2 =>
   rw[hs']at h1;cases h1
   refine⟨none,?_,?_,fun b o h=>by cases h⟩
   · simp only[List.take_zero];exact .gY _ _
   · simp only[List.take_zero,List.length_nil]
     exact .sliceE 0 0 _ _ [] base rfl (by simp)
  | slice _ _ _ a' ks' xs' b o cap h1 h2 h3 h4 h5 =>
   rw[hs']at h1;cases h1
   have hlen:((ys.drop off).take len).length=len:=by simp;omega
   refine⟨some (b,o+off*ks.length),?_,?_,fun b' o' h=>by cases h;exact⟨o,h3⟩⟩
   · cases hbr with
     | gY=>simp only[List.drop_nil,List.take_nil];exact .gY _ _
     | arr _ _ _ b' o' C e' fr g1 g2 g3 g4 g5 g6 =>
      rw[h3]at g1;cases g1
      refine .arr _ _ _ b _ C e' fr rfl g2 ?_ g4 (fun x hx=>g5 x (List.mem_of_mem_drop (List.mem_of_mem_take hx))) fun i x j c hx hj=>?_
      · rw[hlen,Nat.add_assoc,← Nat.add_mul]
        exact Nat.le_trans (Nat.add_le_add_left (Nat.mul_le_mul_right _ (by omega)) _) g3
      · have hi : i < len := by
          have:=(qLa.1 hx).1
          omega
        rw[List.getElem?_take,if_pos hi,List.getElem?_drop]at hx
        have:=(g6 (off+i) x j c hx hj).mono (M':=M') fun b hb=>⟨hM b hb,rfl⟩
        rw[Nat.add_mul]at this
        rwa[show o+off*ks.length+i*ks.length=o+(off*ks.length+i*ks.length) from by omega]
   · rw[hlen]
     have:=AR.slice (M:=M') (β:=fun _=>some (b,o+off*ks.length)) (h:=fun _=>some (.arr a ks ((ys.drop off).take len))) 0 0 len a ks ((ys.drop off).take len) b (o+off*ks.length) cap rfl (by rw[hlen];omega) rfl h4 (by
      refine h5.mono ?_
      rw[Nat.zero_add,Nat.add_assoc,← Nat.add_mul];exact Nat.le_refl _)
     rwa[Nat.zero_mul,Nat.add_zero]at this
theorem EY (r : Rel w0 Pr M0 M β st a w) {hA : Nat → Option aJ} {Yp : Nat → Option (Nat × Nat)} (hend : ∀ j blk,look st.heap (ah + j) = some blk → hA (ah + j) = some blk ∧ Yp (ah + j) = β (ah + j)) :
    ∀ {ts:List TypeId} {ms:List dO} {vs:List AV} {cs:List Value} {rs:List AV} {hp:Heap},wQ T hp ms ts vs=some rs→(∀ s b,look hp s=some b→look st.heap s=some b)→lV w M β (look st.heap) vs cs →
    ∃ (S:List Nat) (ps:List (Option (Nat × Nat))),sD T w (bD M β S) Yp hA ms ts rs cs ps∧(∀ s∈S,(look hp s).isSome=true∧s<ah) ∧
     (∀ b o,some (b,o)∈ps→∃ s o0,(look hp s).isSome=true∧s ∉ S∧s<ah∧β s=some (b,o0))∧(nP T ms ts=true→sD T w (bD (fun _=>False) β S) Yp hA ms ts rs cs ps)
  | [],ms,[],cs,rs,hp,h,_,hl=>by
   simp[wQ]at h;subst h
   have:cs=[]:=by have:=hl.1;simpa using this.symm
   subst this
   exact⟨[],[],.nil ms,by simp,by simp,fun _=>.nil ms⟩
  | t::ts,ms,v::vs,[],rs,hp,h,_,hl=>by have:=hl.1;simp at this
  | t::ts,ms,v::vs,c::cs,rs,hp,h,hsub,hl=>by
   simp only[wQ]at h
   obtain⟨hv,hls⟩:=hl.cons
   split at h
   · rename_i x ss hx
     split at h
     · rename_i xs hxs
       cases h
       have afk:∀ s b,look (lS hp ss) s=some b→look st.heap s=some b:=fun s b h=>hsub s b (xg h).1
       obtain⟨S,ps,k1,k2,k3,k4⟩:=EY r hend hxs afk hls
       have upF:∀ (ss:List Nat) b,bD (fun _=>False) β S b→bD (fun _=>False) β (ss++S) b:=fun ss b hb=>hb.imp id fun ⟨s,o,h1,h2⟩=>⟨s,o,by simp[h1],h2⟩
       have live:∀ s,(look (lS hp ss) s).isSome=true→(look hp s).isSome=true∧s ∉ ss:=fun s h=>by
        obtain⟨b,hb⟩:=Option.isSome_iff_exists.1 h
        obtain⟨g1,g2⟩:=xg hb
        exact⟨by rw[g1];rfl,g2⟩
       revert hx
       generalize hm:ms.headD .deep=m
       intro hx
       have plain : ∀ (x' : AV),x = x' → qZ T w (bD M β S) Yp hA (ms.headD .deep) t x' c none → (CY T (ms.headD .deep) t = true → qZ T w (bD (fun _ => False) β S) Yp hA (ms.headD .deep) t x' c none) → ∃ (S : List Nat) (ps : List (Option (Nat × Nat))),sD T w (bD M β S) Yp hA ms (t::ts) (x::xs) (c::cs) ps ∧ (∀ s ∈ S,(look hp s).isSome = true ∧ s < ah) ∧
           (∀ b o,some (b,o)∈ps→∃ s o0,(look hp s).isSome=true∧s ∉ S∧s<ah∧β s=some (b,o0))∧(nP T ms (t::ts)=true→sD T w (bD (fun _=>False) β S) Yp hA ms (t::ts) (x::xs) (c::cs) ps):=by
         intro x' e hr hrF
         subst e
         refine⟨S,none::ps,.cons ms t ts x xs c cs none ps hr k1 (fun b o o' h=>by cases h),fun s hs=>⟨(live s (k2 s hs).1).1,(k2 s hs).2⟩,fun b o hb=>?_,fun hf=>by
          simp only[nP,qBa]at hf
          exact .cons ms t ts x xs c cs none ps (hrF hf.1) (k4 hf.2) (fun b o o' h=>by cases h)⟩
         rcases List.mem_cons.1 hb with hb | hb
         · cases hb
         · obtain⟨s,o0,q1,q2,q3,q4⟩:=k3 b o hb
           exact⟨s,o0,(live s q1).1,q2,q3,q4⟩
       cases m with
       | deep =>
        simp only[zQ]at hx
        split at hx
        · rename_i y ss' hd
          cases hc:au (ay T t).1 (ay T t).2 y&&ss'.all (fun s=>Nat.blt s 100000) with
          | false=>rw[hc]at hx;cases hx
          | true =>
           rw[hc]at hx
           simp only[cond_true,qOa,Prod.mk.injEq]at hx
           obtain⟨rfl,rfl⟩:=hx
           simp only[qBa]at hc
           obtain⟨d1,d2⟩:=Dh (M:=M) (β:=β) (fun s b h=>r.heap s b (hsub s b h)) hsub hd hv
           have hlt:∀ s∈ss',s<ah:=fun s hs=>Nat.le_of_ble_eq_true (List.all_eq_true.1 hc.2 s hs)
           have hlive:∀ s∈ss',(look hp s).isSome=true:=MW hd
           have up:∀ b,bD M β S b→bD M β (ss'++S) b:=fun b hb=>hb.imp id fun ⟨s,o,h1,h2⟩=>⟨s,o,by simp[h1],h2⟩
           have hd1:qZ T w (bD M β (ss'++S)) Yp hA .deep t (.p y) c none:=.deep t y c hc.1 (d1.mono fun b hb=>⟨hb.imp id fun ⟨s,o,h1,h2⟩=>⟨s,o,by simp[h1],h2⟩,rfl⟩)
           refine⟨ss'++S,none::ps,.cons ms t ts _ xs c cs none ps ?_ (k1.mono up) (fun b o o' h=>by cases h),fun s hs=>?_,fun b o hb=>?_,fun hf=>?_⟩
           · rw[hm]
             exact hd1
           · rcases List.mem_append.1 hs with hs | hs
             · exact⟨hlive s hs,hlt s hs⟩
             · exact⟨(live s (k2 s hs).1).1,(k2 s hs).2⟩
           · rcases List.mem_cons.1 hb with hb | hb
             · cases hb
             · obtain⟨s,o0,q1,q2,q3,q4⟩:=k3 b o hb
               exact⟨s,o0,(live s q1).1,by simp[(live s q1).2,q2],q3,q4⟩
           · simp only[nP,qBa]at hf
             refine .cons ms t ts _ xs c cs none ps ?_ ((k4 hf.2).mono (upF _)) (fun b o o' h=>by cases h)
             have hf1:=hf.1
             rw[hm]at hf1 ⊢
             exact hd1.flat hf1 (.inl rfl)
        · cases hx
       | fresh =>
        simp only[zQ]at hx
        split at hx
        · rename_i e hu
          split at hx
          · rename_i s z off len
            split at hx
            · rename_i sa ks ys hs
              cases hc:sa==(ay T e).1&&Kd.xB ks (ay T e).2&&Nat.blt s 100000 with
              | false=>rw[hc]at hx;cases hx
              | true =>
               rw[hc]at hx
               simp only[cond_true,qOa,Prod.mk.injEq]at hx
               obtain⟨rfl,rfl⟩:=hx
               simp only[qBa,beq_iff_eq]at hc
               obtain⟨⟨rfl,hks⟩,hlt⟩:=hc
               have hks:=Kd.mY _ _ hks
               subst hks
               have hlt:s<ah:=Nat.le_of_ble_eq_true hlt
               have hs':=hsub _ _ hs
               have hbr:=r.heap s _ hs'
               obtain ⟨p,hp1,hp2,hp3⟩ : ∃ p : Option (Nat × Nat),BR w (bD M β S) (fun _ => p) (fun _ => some (.arr (ay T e).1 (ay T e).2 ((ys.drop off).take len))) 0 (.arr (ay T e).1 (ay T e).2 ((ys.drop off).take len)) ∧
                   AR w (bD M β S) (fun _=>p) (fun _=>some (.arr (ay T e).1 (ay T e).2 ((ys.drop off).take len))) (.slice 0 (ay T e).2.length 0 ((ys.drop off).take len).length) c∧(∀ b o,p=some (b,o)→∃ o0,β s=some (b,o0)):=by
                 cases hv with
                 | sliceE _ _ a' ks' xs' base h1 h2 =>
                  refine⟨none,?_,?_,fun b o h=>by cases h⟩
                  · simp only[List.take_zero];exact .gY _ _
                  · simp only[List.take_zero,List.length_nil]
                    exact .sliceE 0 0 _ _ [] base rfl (by simp)
                 | slice _ _ _ a' ks' xs' b o cap h1 h2 h3 h4 h5 =>
                  rw[hs']at h1;cases h1
                  have hlen:((ys.drop off).take len).length=len:=by simp;omega
                  refine⟨some (b,o+off*(ay T e).2.length),?_,?_,fun b' o' h=>by cases h;exact⟨o,h3⟩⟩
                  · cases hbr with
                    | gY=>simp only[List.drop_nil,List.take_nil];exact .gY _ _
                    | arr _ _ _ b' o' C e' fr g1 g2 g3 g4 g5 g6 =>
                     rw[h3]at g1;cases g1
                     refine .arr _ _ _ b _ C e' fr rfl g2 ?_ g4 (fun x hx=>g5 x (List.mem_of_mem_drop (List.mem_of_mem_take hx))) fun i x j c hx hj=>?_
                     · rw[hlen,Nat.add_assoc,← Nat.add_mul]
                       exact Nat.le_trans (Nat.add_le_add_left (Nat.mul_le_mul_right _ (by omega)) _) g3
                     · have hi : i < len := by
                         have:=(qLa.1 hx).1
                         omega
                       rw[List.getElem?_take,if_pos hi,List.getElem?_drop]at hx
                       have:=(g6 (off+i) x j c hx hj).mono (M':=bD M β S) fun b hb=>⟨.inl hb,rfl⟩
                       rw[Nat.add_mul]at this
                       rwa[show o+off*(ay T e).2.length+i*(ay T e).2.length=o+(off*(ay T e).2.length+i*(ay T e).2.length) from by omega]
                  · rw[hlen]
                    have:=AR.slice (M:=bD M β S) (β:=fun _=>some (b,o+off*(ay T e).2.length)) (h:=fun _=>some (.arr (ay T e).1 (ay T e).2 ((ys.drop off).take len))) 0 0 len (ay T e).1 (ay T e).2 ((ys.drop off).take len) b (o+off*(ay T e).2.length) cap rfl (by rw[hlen];omega) rfl h4 (by
                     refine h5.mono ?_
                     rw[Nat.zero_add,Nat.add_assoc,← Nat.add_mul];exact Nat.le_refl _)
                    rwa[Nat.zero_mul,Nat.add_zero]at this
               have hsl:(look hp s).isSome=true:=by rw[hs];rfl
               have hfr:qZ T w (bD M β S) Yp hA .fresh t (.fresh (ay T e).1 (ay T e).2 ((ys.drop off).take len)) c p:=.fresh t e _ c p hu hp1 hp2
               have hap:∀ b o o',p=some (b,o)→some (b,o') ∉ ps:=fun b o o' e1 e2=>by
                obtain⟨o0,q0⟩:=hp3 b o e1
                obtain⟨s',o0',q1,q2,q3,q4⟩:=k3 b o' e2
                obtain⟨g1,g2⟩:=live s' q1
                obtain⟨blk,hb⟩:=Option.isSome_iff_exists.1 g1
                have:=r.inj s' s b o0' o0 (by rw[hsub _ _ hb];rfl) (by rw[hs'];rfl) q4 q0
                exact g2 (by simp[this])
               refine⟨S,p::ps,.cons ms t ts _ xs c cs p ps ?_ k1 hap,fun s' hs'=>⟨(live s' (k2 s' hs').1).1,(k2 s' hs').2⟩,fun b o hb=>?_,fun hf=>?_⟩
               · rw[hm];exact hfr
               · rcases List.mem_cons.1 hb with hb | hb
                 · obtain⟨o0,q0⟩:=hp3 b o hb.symm
                   exact⟨s,o0,hsl,fun hS=>(live s (k2 s hS).1).2 (by simp),hlt,q0⟩
                 · obtain⟨s',o0,q1,q2,q3,q4⟩:=k3 b o hb
                   exact⟨s',o0,(live s' q1).1,q2,q3,q4⟩
               · simp only[nP,qBa]at hf
                 refine .cons ms t ts _ xs c cs p ps ?_ (k4 hf.2) hap
                 have hf1:=hf.1
                 rw[hm]at hf1 ⊢
                 exact hfr.flat hf1 (.inr (.inl rfl))
            · cases hx
          · simp only[qOa,Prod.mk.injEq]at hx
            obtain⟨rfl,rfl⟩:=hx
            have hc:c=.slice none 0 0:=by cases hv;rename_i hv;cases hv;rfl
            subst hc
            have hne:∀ M,qZ T w M Yp hA (ms.headD .deep) t (.fresh (ay T e).1 (ay T e).2 []) (.slice none 0 0) none:=fun M=>by
             rw[hm];exact .fresh t e [] _ none hu (.gY _ _) (.sliceE 0 0 _ _ [] none rfl (by simp))
            exact plain _ rfl (hne _) fun _=>hne _
          · cases hx
        · cases hx
       | Js=>simp[zQ]at hx
       | Bv=>simp[zQ]at hx
       | func g qs =>
        simp only[zQ]at hx
        split at hx
        · rename_i f ys ss' hd
          cases hc:(f==g&&zI qs ys)&&ss'.all (fun s=>Nat.blt s 100000) with
          | false=>rw[hc]at hx;cases hx
          | true =>
           rw[hc]at hx
           simp only[cond_true,qOa,Prod.mk.injEq]at hx
           obtain⟨rfl,rfl⟩:=hx
           simp only[qBa,beq_iff_eq]at hc
           obtain⟨⟨rfl,hcq⟩,hcs⟩:=hc
           obtain⟨d1,d2⟩:=Dh (M:=M) (β:=β) (fun s b h=>r.heap s b (hsub s b h)) hsub hd hv
           have hlt:∀ s∈ss',s<ah:=fun s hs=>Nat.le_of_ble_eq_true (List.all_eq_true.1 hcs s hs)
           have hlive:∀ s∈ss',(look hp s).isSome=true:=MW hd
           have up:∀ b,bD M β S b→bD M β (ss'++S) b:=fun b hb=>hb.imp id fun ⟨s,o,h1,h2⟩=>⟨s,o,by simp[h1],h2⟩
           refine⟨ss'++S,none::ps,.cons ms t ts _ xs c cs none ps ?_ (k1.mono up) (fun b o o' h=>by cases h),fun s hs=>?_,fun b o hb=>?_,fun hf=>?_⟩
           · rw[hm]
             exact .func f qs t ys c hcq (d1.mono fun b hb=>⟨hb.imp id fun ⟨s,o,h1,h2⟩=>⟨s,o,by simp[h1],h2⟩,rfl⟩)
           · rcases List.mem_append.1 hs with hs | hs
             · exact⟨hlive s hs,hlt s hs⟩
             · exact⟨(live s (k2 s hs).1).1,(k2 s hs).2⟩
           · rcases List.mem_cons.1 hb with hb | hb
             · cases hb
             · obtain⟨s,o0,q1,q2,q3,q4⟩:=k3 b o hb
               exact⟨s,o0,(live s q1).1,by simp[(live s q1).2,q2],q3,q4⟩
           · simp only[nP,qBa,hm,CY]at hf
             exact absurd hf.1 (by simp)
        · cases hx
       | wP=>simp[zQ]at hx
       | DF =>
        simp only[zQ]at hx
        split at hx
        · rename_i Wu hsh
          split at hx
          · rename_i ks a ls cells hla hcells
            split at hx
            · rename_i cs0 y hcl
              split at hx
              · rename_i ys zs ss' hpu hfo
                cases hc:bC ks ys with
                | false=>rw[hc]at hx;cases hx
                | true =>
                 rw[hc]at hx
                 simp only[cond_true,qOa,Prod.mk.injEq]at hx
                 obtain⟨rfl,rfl⟩:=hx
                 have hck:=hc
                 obtain⟨va,rfl,hvn,hva⟩:=TS hv hcells
                 have e1:=Pj hcl
                 subst e1
                 have e2:=rG hpu
                 subst e2
                 have hy:AR w M β (look st.heap) y (va.getD ys.length undef):=hva ys.length y (by simp)
                 obtain ⟨p,hp1,hp2,hp3⟩ : ∃ p : Option (Nat × Nat),BR w (bD M β S) (fun _ => p) (fun _ => some (.arr a ls zs)) 0 (.arr a ls zs) ∧
                     AR w (bD M β S) (fun _=>p) (fun _=>some (.arr a ls zs)) (.slice 0 ls.length 0 zs.length) (va.getD ys.length undef)∧(∀ b o,p=some (b,o)→∃ s o0,s∈ss'∧(look hp s).isSome=true∧s<ah∧β s=some (b,o0)):=by
                   unfold Wq at hfo
                   split at hfo
                   · rename_i s z off len
                     split at hfo
                     · rename_i sa ks' ws hs
                       cases hc:sa==a&&Kd.xB ks' ls&&Nat.blt s 100000 with
                       | false=>rw[hc]at hfo;cases hfo
                       | true =>
                        rw[hc]at hfo
                        simp only[cond_true,qOa,Prod.mk.injEq]at hfo
                        obtain⟨rfl,rfl⟩:=hfo
                        simp only[qBa,beq_iff_eq]at hc
                        obtain⟨⟨rfl,hks⟩,hlt⟩:=hc
                        have hks:=Kd.mY _ _ hks
                        subst hks
                        obtain⟨p,q1,q2,q3⟩:=Z8 (M':=bD M β S) (fun b hb=>.inl hb) (hsub _ _ hs) (r.heap s _ (hsub _ _ hs)) hy
                        refine⟨p,q1,q2,fun b o e=>?_⟩
                        obtain⟨o0,q⟩:=q3 b o e
                        exact⟨s,o0,by simp,by rw[hs];rfl,Nat.le_of_ble_eq_true hlt,q⟩
                     · cases hfo
                   · simp only[qOa,Prod.mk.injEq]at hfo
                     obtain⟨rfl,rfl⟩:=hfo
                     refine⟨none,.gY _ _,?_,fun b o e=>by cases e⟩
                     generalize va.getD ys.length undef=c0 at hy
                     cases hy
                     rename_i hy
                     cases hy
                     exact .sliceE 0 0 _ _ [] none rfl (by simp)
                   · cases hfo
                 have hfr:qZ T w (bD M β S) Yp hA .DF t (.agg (ys.map .p++[.fresh a ls zs])) (.agg va) p :=
                  .DF t Wu ks a ls ys zs va p hsh hla hck (by simpa using hvn) (fun i c hc=>by
                   have:=hva i (.p c) (by rw[List.getElem?_append_left (by simpa using (qLa.1 hc).1),List.getElem?_map,hc];rfl)
                   cases this
                   rename_i this
                   exact this.mono fun b hb=>⟨.inl hb,rfl⟩) hp1 hp2
                 have hap:∀ b o o',p=some (b,o)→some (b,o') ∉ ps:=fun b o o' e1 e2=>by
                  obtain⟨s,o0,hs1,hs2,_,q0⟩:=hp3 b o e1
                  obtain⟨s',o0',q1,q2,q3,q4⟩:=k3 b o' e2
                  obtain⟨g1,g2⟩:=live s' q1
                  obtain⟨blk,hb⟩:=Option.isSome_iff_exists.1 g1
                  obtain⟨aff,hb2⟩:=Option.isSome_iff_exists.1 hs2
                  have:=r.inj s' s b o0' o0 (by rw[hsub _ _ hb];rfl) (by rw[hsub _ _ hb2];rfl) q4 q0
                  exact g2 (by rw[this];exact hs1)
                 refine⟨S,p::ps,.cons ms t ts _ xs (.agg va) cs p ps ?_ k1 hap,fun s' hs'=>⟨(live s' (k2 s' hs').1).1,(k2 s' hs').2⟩,fun b o hb=>?_,fun hf=>?_⟩
                 · rw[hm];exact hfr
                 · rcases List.mem_cons.1 hb with hb | hb
                   · obtain⟨s,o0,hs1,hs2,hs3,q0⟩:=hp3 b o hb.symm
                     exact⟨s,o0,hs2,fun hS=>(live s (k2 s hS).1).2 hs1,hs3,q0⟩
                   · obtain⟨s',o0,q1,q2,q3,q4⟩:=k3 b o hb
                     exact⟨s',o0,(live s' q1).1,q2,q3,q4⟩
                 · simp only[nP,qBa]at hf
                   refine .cons ms t ts _ xs (.agg va) cs p ps ?_ (k4 hf.2) hap
                   have hf1:=hf.1
                   rw[hm]at hf1 ⊢
                   exact hfr.flat hf1 (.inr (.inr rfl))
              · cases hx
            · cases hx
          · cases hx
        · cases hx
       | alias=>simp[zQ]at hx
     · cases h
   · cases h
  | [],ms,v::vs,cs,rs,hp,h,_,_=>by simp[wQ]at h
  | t::ts,ms,[],cs,rs,hp,h,_,_=>by simp[wQ]at h
theorem X7 {b0 b:aJ} (h0:dS b0=true) (h1:Df b=true) (h2:backOk b0 b=true):dS b=true:=by
 cases b with
 | log=>cases b0<;>simp[backOk,dS]at h0 h2
 | _=>exact h1
theorem Jg {hp:Heap}:∀ {bl pG:List aJ} {k:Nat},(∀ b∈bl,dS b=true)→y9 hp k bl=some pG→pG.length=bl.length∧∀ (i:Nat) (b0 b1:aJ),bl[i]?=some b0→pG[i]?=some b1→look hp (ah+(k+i))=some b1∧dS b1=true∧backOk b0 b1=true
 | [],pG,k,_,h=>by
  simp[y9]at h;subst h
  exact⟨rfl,fun i b0 b1 h=>by simp at h⟩
 | b0::r,pG,k,hbl,h=>by
  simp only[y9]at h
  split at h
  · rename_i b bs h1 h2
    cases hc:Df b&&backOk b0 b with
    | false=>rw[hc]at h;cases h
    | true =>
     rw[hc]at h
     simp only[cond_true,qOa]at h
     subst h
     simp only[qBa]at hc
     obtain⟨g1,g2⟩:=Jg (fun b hb=>hbl b (by simp[hb])) h2
     refine⟨by simp[g1],fun i c0 c1 e1 e2=>?_⟩
     cases i with
     | zero=>simp at e1 e2;subst e1 e2;exact⟨h1,X7 (hbl b0 (by simp)) hc.1 hc.2,hc.2⟩
     | succ i =>
      simp at e1 e2
      rw[show k+(i+1)=k+1+i from by omega]
      exact g2 i c0 c1 e1 e2
  · cases h
theorem BR.pure_mono {M':Nat→Prop} {β':Nat→Option (Nat × Nat)} {h h':Nat→Option aJ} {s s':Nat} {blk:aJ} (hM:∀ b,M b→M' b) (hb:BR w M β h s blk) (hp:dS blk=true) (e:β' s'=β s):BR w M' β' h' s' blk:=by
 have hM':∀ b,M b→M' b∧w.heap[b]?=w.heap[b]?:=fun b h=>⟨hM b h,rfl⟩
 have hb1:=hb.XR (β':=β') (h':=h') hp e
 cases hb1 with
 | log=>simp[dS]at hp
 | tb=>simp[dS]at hp
 | mp=>simp[dS]at hp
 | br=>simp[dS]at hp
 | EH=>simp[dS]at hp
 | gY=>exact .gY _ _
 | arr _ _ _ b o C e' fr g1 g2 g3 g4 g5 g6=>exact .arr _ _ _ b o C e' fr g1 g2 g3 g4 g5 fun i x j c h1 h2=>(g6 i x j c h1 h2).mono hM'
 | box cs b o C e' fr g1 g2 g3 g4 g5 g6 =>
  refine .box cs b o C e' fr g1 g2 g3 g4 g5 fun j c hc=>?_
  simp only[dS,Option.isSome_iff_exists]at hp
  obtain⟨vs,hp⟩:=hp
  have hcs:=rG hp
  subst hcs
  have hc':=g6 j c hc
  simp only[List.getElem?_map,Option.map_eq_some_iff]at hc
  obtain⟨x,_,rfl⟩:=hc
  generalize C.getD (o+j) undef=u at hc'
  cases hc' with
  | p _ _ hv=>exact .p _ _ (hv.mono hM')
theorem Rel.start {args : List AV} {bl : List aJ} {aF : Array Value} (hp : tX w M β args bl aF) {gl : Option (List (Nat × Obj))} (hgl : ∀ p ∈ gl.getD [],M p.1 ∧ w.heap[p.1]? = some p.2) (fn : Func) :
    Rel ⟨w,w.heap.size,Nat.le_refl _,gl⟩ (fun b=>∃ i o,i<bl.length∧β (ah+i)=some (b,o)) M M β (tK fn args bl) { tmps:=aF++Array.replicate (fn.ntmps-aF.size) undef,defers:=[] } w:=by
  have hn:=hp.num
  refine⟨?_,fun t v ht=>?_,fun s blk hs=>?_,fun s b o hs hb=>?_,fun s s' b o o' hs hs' hb hb'=>?_,hp.fB,fun b h=>.inl h,fun b h=>h,fun b _ _=>rfl,fun b n _ _ h=>h,Nat.le_refl _,rfl,rfl,rfl,hgl⟩
  · simp[tK,hn]
  · by_cases hlt:t<args.length
    · have ht' : args[t]? = some v := by
        simp only[tK]at ht
        rwa[List.getElem?_append_left hlt]at ht
      have:=hp.args t v ht'
      have e:(aF++Array.replicate (fn.ntmps-aF.size) undef).getD t undef=aF.getD t undef:=by
       rw[qAb,qAb,Array.getElem?_append_left (by omega)]
      rw[e];exact this
    · have : v = .undef := by
        simp only[tK]at ht
        rw[List.getElem?_append_right (by omega),List.getElem?_replicate]at ht
        split at ht
        · simpa using ht.symm
        · cases ht
      subst this
      exact .undef _
  · obtain⟨i,h1,rfl,h2⟩:=Dk hs
    exact hp.blk i blk h2
  · obtain⟨blk,hs⟩:=Option.isSome_iff_exists.1 hs
    obtain⟨i,h1,rfl,h2⟩:=Dk hs
    obtain⟨g1,g2⟩:=hp.own i b o h1 hb
    exact⟨g1,g2,.inr ⟨i,o,h1,hb⟩,.inr (by omega)⟩
  · obtain⟨blk,hs⟩:=Option.isSome_iff_exists.1 hs
    obtain⟨blk',hs'⟩:=Option.isSome_iff_exists.1 hs'
    obtain⟨i,h1,rfl,h2⟩:=Dk hs
    obtain⟨j,h1',rfl,h2'⟩:=Dk hs'
    rw[hp.inj i j b o o' h1 h1' hb hb']
def Ae (P : Program) (T : Tab) (gl : Option (List (Nat × Obj))) (X : Ext) : Prop := (∀ w : World,(∀ p ∈ gl.getD [],w.heap[p.1]? = some p.2) → T.glob gl.isSome w) ∧ ∀ f fi s args bl rs pG,bI T.funcs f = some fi → X f = some s → s args bl = some (rs,pG) → (∃ c,fi.fn.body = some c) ∧ (∀ b ∈ bl,dS b = true) ∧
    ∀ (w:World) (M:Nat→Prop) (β:Nat→Option (Nat × Nat)) (aF:Array Value),(∀ p∈gl.getD [],M p.1∧w.heap[p.1]?=some p.2)→tX w M β args bl aF →
     Calls P f aF w fun e w'=>∃ cs ps M',e=.returned (wV cs)∧zi gl T fi w M β bl rs pG w' M' cs ps
theorem pK {fn : Func} {tmps : Array Value} {R : Ending → World → Prop} {n : Nat} : ∀ (ds : List Nat) (w : World),ds.Nodup → (∀ D ∈ ds,w.heap[D]? = some (.deferred (some []))) →
    (∀ w',(∀ b,b ∉ ds→w'.heap[b]?=w.heap[b]?)→w'.heap.size=w.heap.size→w'.os=w.os→w'.tape=w.tape→w'.output=w.output→w'.drawn=w.drawn→∃ v,(results fn tmps).run P w'=.ok v w'∧R (.returned v) w') →
    LeavesInM (FW none) n P fn tmps R (ds.map rV) .returning w
  | [],w,_,_,h=>h w (fun _ _=>rfl) rfl rfl rfl rfl rfl
  | D::ds,w,hnd,hl,h=>by
   obtain⟨h1,h2⟩:=List.nodup_cons.1 hnd
   refine⟨by simp,.inl ⟨D,w.putObj D (.deferred none),rfl,run_takeDeferred (hl D (by simp)),?_⟩⟩
   refine pK ds _ h2 (fun D' hD'=>?_) fun w' k1 k2 k3 k4 k5 k6=>?_
   · rw[World.putObj_heap_other (show D'≠D from fun e=>h1 (e▸hD'))]
     exact hl D' (by simp[hD'])
   · refine h w' (fun b hb=>?_) (by rw[k2,World.putObj_size]) k3 k4 k5 k6
     simp only[List.mem_cons,not_or]at hb
     rw[k1 b hb.2,World.putObj_heap_other hb.1]
theorem Inv.shut {cx : Cx} {M : Nat → Prop} {β : Nat → Option (Nat × Nat)} {st : St} {a : Act} {w w' : World} {L : List (Nat × Obj)} {ds : List Nat} (r : Rel cx.w0 cx.Pr cx.M0 M β st a w) (fx : Fix cx M β st.heap a w L ds) (hn : cx.nm = cx.w0.heap.size)
    (k1:∀ b,b ∉ ds→w'.heap[b]?=w.heap[b]?) (k2:w'.heap.size=w.heap.size) (k3:w'.os=w.os) (k4:w'.tape=w.tape) (k5:w'.output=w.output):Rel cx.w0 cx.Pr cx.M0 M β st a w':=by
  have hM:∀ b,M b→b ∉ ds:=fun b hb hd=>(fx.lies _ (fx.mark b hd).1).2.2 hb
  have hO:∀ b,kN β st.heap b→b ∉ ds:=fun b hb hd=>(fx.lies _ (fx.mark b hd).1).2.1 hb
  have hw:∀ b,b<cx.w0.heap.size→b ∉ ds:=fun b hb hd=>by have:=(fx.mark b hd).2;omega
  refine r.to rfl (fun b hb=>⟨hb,k1 b (hM b hb)⟩) (fun s b o hs hb=>?_) (fun b hb=>by rw[k2];exact r.fB b hb) r.jQ r.oD (fun b hb hp=>?_) (fun b n hb hp hr=>?_) (by rw[k2];exact r.size) (k3.trans r.os) (k4.trans r.tape) (k5.trans r.output)
  · obtain⟨g1,g2,g3⟩:=r.own s b o hs hb
    exact⟨k1 b (hO b ⟨s,o,hs,hb⟩),g1,by rw[k2];exact g2,g3⟩
  · rw[k1 b (hw b hb)];exact r.keep b hb hp
  · exact(r.room b n hb hp hr).of_block (k1 b (hw b (by have:=cx.w0.le';omega)))
theorem Vs {bl:List aJ} (h:∀ b∈bl,dS b=true):zk (dM 0 bl):=by
 intro xs he
 have:look (dM 0 bl) (ah+0)=some (.log true xs):=he
 rw[vT]at this
 have:=h _ (qLe this)
 simp[dS]at this
theorem X8 (ok : bJ P T) {X : Ext} {gl : Option (List (Nat × Obj))} (hX : Ae P T gl X) {n : Nat} (hC : fZ P T gl (jZ T X n)) (hS : Fe P T gl (jZ T X n)) :
    ∀ f fi args bl rs pG,bI T.funcs f=some fi→(∀ b∈bl,dS b=true)→jZ T X (n+1) f args bl=some (rs,pG)→(∃ c,fi.fn.body=some c) ∧
    ∀ (w:World) (M:Nat→Prop) (β:Nat→Option (Nat × Nat)) (aF:Array Value),(∀ p∈gl.getD [],M p.1∧w.heap[p.1]?=some p.2)→tX w M β args bl aF →
     Calls P f aF w fun e w'=>∃ cs ps M',e=.returned (wV cs)∧zi gl T fi w M β bl rs pG w' M' cs ps:=by
  intro f fi args bl rs pG hf hpb h
  simp only[jZ,hf]at h
  cases hx:X f with
  | some s =>
   rw[hx]at h
   obtain⟨h1,_,h2⟩:=hX.2 f fi s args bl rs pG hf hx h
   exact⟨h1,h2⟩
  | none =>
   rw[hx]at h
   simp only at h
   cases hb:fi.fn.body with
   | none=>rw[hb]at h;cases h
   | some c =>
    rw[hb]at h
    have hcb:DX fi.cfg bl=true:=by
     cases hcb:DX fi.cfg bl with
     | true=>rfl
     | false=>rw[hcb]at h;cases h
    have D7:fi.cfg.vcall=false:=by
     cases D7:fi.cfg.vcall with
     | false=>rfl
     | true =>
      unfold DX at hcb
      rw[D7]at hcb
      simp only at hcb
      split at hcb
      · have:=hpb _ (List.mem_cons_self ..)
        simp[dS,Aq]at this
      · cases hcb
    rw[hcb]at h
    simp only[cond_true,fJ,iM,aC,Le,Xy,D7]at h
    refine⟨⟨c,rfl⟩,fun w M β aF hgl hp=>?_⟩
    obtain⟨hfn,hname,hdr,hret⟩:=ok.funcs f fi hf
    let cx:Cx:={ w0:=⟨w,w.heap.size,Nat.le_refl _,gl⟩,Pr:=fun b=>∃ i o,i<bl.length∧β (ah+i)=some (b,o),M0:=M,QF:=β,hp0:=dM 0 bl,Wr:=fun _=>True,t0:=aF++Array.replicate (fi.fn.ntmps-aF.size) undef,rd:=none,L0:=[],nm:=w.heap.size }
    have hi:Inv cx (tK fi.fn args bl) { tmps:=aF++Array.replicate (fi.fn.ntmps-aF.size) undef,defers:=[] } w :=
     ⟨M,β,[],[],Rel.start hp hgl fi.fn,fun _ _=>rfl,fun s _ b hb=>⟨b,hb,Like.refl b⟩,.refl _ _,⟨fun p hp=>by simp at hp,fun p hp=>by simp[cx]at hp,rfl,List.nodup_nil,fun D hD=>by simp at hD,fun l hl=>(by cases hl),rfl,fun _ _=>rfl,fun _=>rfl,fun _ h=>h.elim,Nat.le_refl _⟩⟩
    refine lX (rd:=none) (n:=0) (callsIn_of_wp_marks hfn hb trivial ?_)
    refine jA (ng:=false) (Jc (m:=0) ok hC (ok.nvars f fi hf) (rs,pG)) (fun _ f ps y z hy hz=>Ph ok hS hy hz) c ⟨cx,Vs hpb,rfl⟩ _ _ w _ _ _ trivial h (hdr c hb) (fun h=>by cases h) (fun _ _=>⟨fun _ _=>trivial,fun _ _ h=>h.elim⟩) ⟨rfl,hi⟩ fun ex x' st a w1 hk i=>?_
    obtain⟨rfl,i⟩:=i
    have hk':SG T fi.cfg fi.fn bl st=some (rs,pG)∧(ex=.normal∨ex=.ret):=by
     cases ex with
     | normal=>exact⟨hk,.inl rfl⟩
     | exit id=>cases hk
     | ret=>exact⟨hk,.inr rfl⟩
    obtain⟨hk,hex⟩:=hk'
    obtain⟨M1,β1,L1,ds1,r1,e1,e2,e3',Z9⟩:=i
    have goal:LeavesInM (FW none) 0 P fi.fn a.tmps (fun e w'=>∃ cs ps M',e=.returned (wV cs)∧zi gl T fi w M β bl rs pG w' M' cs ps) a.defers .returning w1:=by
     rw[Z9.marks]
     refine pK ds1 w1 Z9.nodup (fun D hD=>(Z9.lies _ (Z9.mark D hD).1).1) fun w' q1 q2 q3 q4 q5 q6=>?_
     have r:=Inv.shut r1 Z9 rfl q1 q2 q3 q4 q5
     have e3:iH gl w.drawn w'.drawn:=by rw[q6];exact e3'
     unfold SG at hk
     split at hk
     · cases hk
     · rename_i vs hvs
       split at hk
       · rename_i rs' abC hrv hab
         simp only[fJ,iM,qOa,Prod.mk.injEq]at hk
         obtain⟨rfl,rfl⟩:=hk
         obtain⟨cs,g1,g2⟩:=Dv ok r hvs
         obtain⟨ab1,ab2⟩:=Jg hpb hab
         have hold:∀ j blk,look st.heap (ah+j)=some blk→∃ b0,bl[j]?=some b0∧Like b0 blk:=by
          intro j blk hj
          obtain⟨b0,k1,k2⟩:=e2 (ah+j) (by omega) blk hj
          rw[vT]at k1
          exact⟨b0,k1,k2⟩
         have hend:∀ j blk,look st.heap (ah+j)=some blk→look (dM 0 abC) (ah+j)=some blk∧β (ah+j)=β1 (ah+j):=by
          intro j blk hj
          obtain⟨b0,k1,k2⟩:=hold j blk hj
          refine⟨?_,(e1 (ah+j) (by omega)).symm⟩
          rw[vT]
          have hlt:j<abC.length:=by rw[ab1];exact(qLa.1 k1).1
          have:=(ab2 j b0 abC[j] k1 (by simp)).1
          rw[Nat.zero_add,hj]at this
          cases this
          simp
         obtain⟨S,ps,q1,q2,q3,q4⟩:=EY r hend hrv (fun _ _ h=>h) g2
         have hup:∀ b,M1 b→bD M1 β1 S b:=fun b h=>.inl h
         refine⟨wV cs,Cm g1,cs,ps,bD M1 β1 S,rfl,⟨q1,fun b o hb=>?_,fun hb1 hs1=>⟨bD (fun _=>False) β1 S,fun b hb=>?_,q4 (hret hb1 hs1)⟩,fun b h=>.inl (r.oD b h),fun b h=>?_,fun b h=>?_,fun b hb hn=>?_,fun b n hb hr=>?_,r.size,r.os,r.tape,r.output,e3,ab1,fun i b0 b1 h1 h2=>?_⟩⟩
         · obtain⟨s,o0,k1,k2,k3,k4⟩:=q3 b o hb
           obtain⟨o1,o2,o3⟩:=r.own s b o0 k1 k4
           refine⟨fun h=>?_,o2,?_⟩
           · rcases h with h | ⟨s',o',hs',hb'⟩
             · exact o1 h
             · exact k2 (by rw[r.inj s s' b o0 o' k1 (q2 s' hs').1 k4 hb'];exact hs')
           · rcases o3.2 with o3 | o3
             · exact o3
             · omega
         · rcases hb with hb | ⟨s',o',hs',hb'⟩
           · exact hb.elim
           · refine⟨.inr ⟨s',o',hs',hb'⟩,?_⟩
             obtain⟨k1,k2⟩:=q2 s' hs'
             rcases(r.own s' b o' k1 hb').2.2.2 with o3 | o3
             · exact o3
             · omega
         · rcases h with h | ⟨s',o',hs',hb'⟩
           · exact(r.jQ b h).imp id And.left
           · obtain⟨k1,k2⟩:=q2 s' hs'
             rcases(r.own s' b o' k1 hb').2.2.2 with o3 | o3
             · exact .inr o3
             · omega
         · rcases h with h | ⟨s',o',hs',hb'⟩
           · exact r.fB b h
           · exact(r.own s' b o' (q2 s' hs').1 hb').2.1
         · exact r.keep b hb fun ⟨i,o,hi,h⟩=>hn i o hi h
         · by_cases hpr:∃ i o,i<bl.length∧β (ah+i)=some (b,o)
           · exact r.room b n hb hpr hr
           · exact hr.of_block (r.keep b hb hpr)
         · obtain⟨k1,k2,k3⟩:=ab2 i b0 b1 h1 h2
           rw[Nat.zero_add]at k1
           obtain⟨b0',k4,k5⟩:=hold i b1 k1
           rw[h1]at k4;cases k4
           exact⟨(r.heap _ _ k1).pure_mono hup k2 (e1 (ah+i) (by omega)).symm,k5,k3,k2⟩
       · cases hk
    rcases hex with rfl | rfl
    · exact goal
    · exact goal
end
end Go.Skm
namespace Go.Skm
def jg (st st':St):Prop:=∀ b zs,look st'.heap ah=some (.log b zs)→look st.heap ah=some (.log b zs)
theorem jg.refl (st:St):jg st st:=fun _ _ h=>h
theorem jg.trans {a b c:St} (h:jg a b) (k:jg b c):jg a c:=fun x zs hx=>h x zs (k x zs hx)
theorem Jh {ss:List Nat} {x:Option aJ} {b:Bool} {zs:List PV} (h:x.map (aJ.kill ss)=some (.log b zs)):x=some (.log b zs):=by
 cases x with
 | none=>cases h
 | some y =>
  cases y with
  | box=>simp[aJ.kill]at h
  | arr=>simp[aJ.kill]at h
  | tb=>simp[aJ.kill]at h
  | mp=>simp[aJ.kill]at h
  | br=>simp[aJ.kill]at h
  | log=>simpa [aJ.kill] using h
theorem oH (st:St) (ss:List Nat):jg st (st.strike ss):=by
 intro b zs h
 rw[bU]at h
 split at h
 · cases h
 · exact Jh h
theorem aac (st:St) (ss:List Nat):jg st (st.kill ss):=by
 intro b zs h
 cases ss with
 | nil=>exact h
 | cons s r =>
  have h:look (fE (s::r) st.heap) ah=some (.log b zs):=h
  rw[fA]at h
  exact Jh h
theorem uH {h:Heap}:∀ {c:List (Nat × aJ)},mF h c=true→∀ s b zs,(s,aJ.log b zs) ∉ c
 | [],_,s,b,zs=>by simp
 | (t,.log _ _)::r,hc,s,b,zs=>by simp[mF]at hc
 | (t,.box cs)::r,hc,s,b,zs=>by
  have:mF h r=true:=by
   simp only[mF]at hc
   cases ht:(t==ah) with
   | false=>rw[ht]at hc;exact hc
   | true =>
    rw[ht]at hc
    simp only[cond_true]at hc
    split at hc
    · cases hc
    · exact hc
  simp[uH this s b zs]
 | (t,.arr a ks xs)::r,hc,s,b,zs=>by
  have:mF h r=true:=by
   simp only[mF]at hc
   cases ht:(t==ah) with
   | false=>rw[ht]at hc;exact hc
   | true =>
    rw[ht]at hc
    simp only[cond_true]at hc
    split at hc
    · cases hc
    · exact hc
  simp[uH this s b zs]
 | (t,.tb u c0 c1)::r,hc,s,b,zs=>by
  have:mF h r=true:=by
   simp only[mF]at hc
   cases ht:(t==ah) with
   | false=>rw[ht]at hc;exact hc
   | true =>
    rw[ht]at hc
    simp only[cond_true]at hc
    split at hc
    · cases hc
    · exact hc
  simp[uH this s b zs]
 | (t,.mp u es)::r,hc,s,b,zs=>by
  have:mF h r=true:=by
   simp only[mF]at hc
   cases ht:(t==ah) with
   | false=>rw[ht]at hc;exact hc
   | true =>
    rw[ht]at hc
    simp only[cond_true]at hc
    split at hc
    · cases hc
    · exact hc
  simp[uH this s b zs]
 | (t,.br u xs)::r,hc,s,b,zs=>by
  have:mF h r=true:=by
   simp only[mF]at hc
   cases ht:(t==ah) with
   | false=>rw[ht]at hc;exact hc
   | true =>
    rw[ht]at hc
    simp only[cond_true]at hc
    split at hc
    · cases hc
    · exact hc
  simp[uH this s b zs]
theorem X9 {h:Heap} {st:St} {d:Option Nat} {e:Eff} (hc:mF h e.mD=true):jg st (st.apply d e):=by
 intro b zs hl
 have hl:look (dZ ((st.strike (present st.heap e.new++e.xE)).kill e.cut).heap e.mD) ah=some (.log b zs):=hl
 rcases BM _ _ _ _ hl with hl | hl
 · exact oH _ _ _ _ (aac _ _ _ _ hl)
 · exact absurd hl (uH hc _ _ _)
theorem iO (F:Bz) (c:Code) (st:St):jg st (aB F c st):=by
 unfold Skm.aB
 split
 · exact jg.refl _
 · split
   · exact jg.refl _
   · exact oH { st with env:=_ } _
theorem EZ {st:St} {s d:Nat} (hne:s≠d) (hs:s<ah) (hd:d<ah):jg st (st.xH s d):=by
 intro b zs h
 have hn:look (st.strike [d]).heap d=none:=by rw[bU];simp
 have h:look (oz s d (st.strike [d]).heap) ah=some (.log b zs):=h
 rw[qm hne ah hn,if_neg (by omega),if_neg (by omega)]at h
 refine oH st [d] b zs ?_
 cases hx:look (st.strike [d]).heap ah with
 | none=>rw[hx]at h;cases h
 | some y =>
  rw[hx]at h
  cases y with
  | box=>simp[aJ.ren]at h
  | arr=>simp[aJ.ren]at h
  | tb=>simp[aJ.ren]at h
  | mp=>simp[aJ.ren]at h
  | br=>simp[aJ.ren]at h
  | log=>simpa [aJ.ren] using h
theorem pq (nv:Nat) (hs:List Nat) (sJ:nv≤ah):∀ (l:List Oper) (st:St),jg st (jE nv hs l st)
 | [],st=>jg.refl _
 | o::r,st=>by
  simp only[Skm.jE]
  split
  · rename_i d _ _
    split
    · rename_i s _ _ _ _
      cases hc:(Nat.ble nv s||(dR d hs&&!(s==d)))&&(Nat.blt d nv&&Nat.blt s 100000) with
      | false=>exact pq nv hs sJ r st
      | true =>
       simp only[qBa]at hc
       have h2:d<nv:=Nat.le_of_ble_eq_true hc.2.1
       have h1:s≠d:=by
        intro e
        rcases(by simpa only[Bool.or_eq_true] using hc.1:Nat.ble nv s=true∨(dR d hs&&!(s==d))=true) with h | h
        · exact absurd (Nat.le_of_ble_eq_true h) (Nat.not_le_of_lt (by rw[e];exact h2))
        · simp[e]at h
       have h3:s<100000:=Nat.le_of_ble_eq_true hc.2.2
       have ea:ah=100000:=rfl
       exact(EZ h1 h3 (Nat.lt_of_lt_of_le h2 sJ)).trans (pq nv hs sJ r _)
    · exact pq nv hs sJ r st
  · exact pq nv hs sJ r st
def Has (x:List AV × List aJ) (st:St):Prop:=∃ b zs,look st.heap ah=some (.log b zs)∧∃ ys,sQ x.2=zs++ys
theorem Has.sub {x:List AV × List aJ} {st st':St} (h:jg st st'):Has x st'→Has x st:=fun ⟨b,zs,h1,h2⟩=>⟨b,zs,h b zs h1,h2⟩
def KP (k:Ex→St→Option (List AV × List aJ)):Prop:=∀ ex st x,k ex st=some x→Has x st
section
variable {T:Tab} {C:aA} {F:FI} {n:Nat}
theorem Pm {hd:List Nat} {all:List Oper} {o:Oper} {st st':St} (h:step1 T C false hd all o st=some st'):jg st st':=by
 unfold step1 at h
 split at h
 · cases h
 · cases h;exact fun _ _ h=>h
 · split at h
   · rename_i hc
     simp only[qBa]at hc
     cases h
     exact X9 hc.2
   · cases h
theorem Ji {draw:Bool} {st:St} {o:Oper} {xs vs:List PV} (h:ny draw st o=some (xs,vs)):∃ c ss t,draw=false∧o.op=.call c∧c.callee=.value (.tmp t)∧st.env.getD t .undef=.zq∧look st.heap ah=some (.log true xs)∧DV (look st.heap) (jK st.env c.args.toList)=some (vs,ss):=by
 cases draw with
 | true=>cases h
 | false =>
  have h:yieldOf st o=some (xs,vs):=h
  unfold yieldOf at h
  split at h
  · rename_i c hop
    split at h
    · rename_i t hce
      split at h
      · rename_i hy
        split at h
        · rename_i xs' vs' ss h1 h2
          cases h
          exact⟨c,ss,t,rfl,hop,hce,hy,h1,h2⟩
        · cases h
      · cases h
    · cases h
  · cases h
theorem sK (st:St) (d:Option Nat) (xs vs:List PV) (b:Bool):look (iU st d xs vs b).heap ah=some (.log b (xs++[.agg vs])):=by
 show look (put _ ah _) ah=_
 rw[aZ,if_pos rfl]
theorem Dw {hd:List (List Nat)} {all:List Oper} {k:St→Option (List AV × List aJ)} (hk:∀ st x,k st=some x→Has x st):∀ (l:List Oper) (j:Nat) (st:St) (x:List AV × List aJ),dA T C false hd all l j st k=some x→Has x st
 | [],j,st,x,h=>hk st x h
 | o::rest,j,st,x,h=>by
  cases hy:ny false st o with
  | none =>
   rw[mP _ _ hy]at h
   cases h1:step1 T C false (hd.getD j []) all o st with
   | none=>rw[h1]at h;cases h
   | some st1 =>
    rw[h1]at h
    exact(Dw hk rest (j+1) st1 x h).sub (Pm h1)
  | some p =>
   obtain⟨xs,vs⟩:=p
   rw[nD _ _ hy]at h
   obtain⟨_,_,_,_,_,_,_,hl,_⟩:=Ji hy
   cases hg:guardOf all o st.env with
   | none=>rw[hg]at h;cases h
   | some b =>
    rw[hg]at h
    cases b with
    | false=>exact(Dw hk rest (j+1) _ x h).sub fun _ _ h=>h
    | true =>
     obtain⟨r,_,h3⟩:=Dp h
     obtain⟨b,zs,h4,ys,h5⟩:=Dw hk rest (j+1) _ x h3
     rw[sK]at h4
     cases h4
     exact⟨true,xs,hl,.agg vs::ys,by rw[h5];simp⟩
theorem Pn {b:Option aJ} {st:St} {k:St→Option (List AV × List aJ)} {x:List AV × List aJ} (hk:∀ st x,k st=some x→Has x st) (h:nS b st k=some x):∃ on zs,b=some (.log on zs)∧∃ ys,sQ x.2=zs++ys:=by
 unfold nS at h
 split at h
 · split at h
   · rename_i on xs
     obtain⟨b',zs,h1,h2⟩:=hk _ _ h
     have h1:look (put st.heap ah (.log on xs)) ah=_:=h1
     rw[aZ,if_pos rfl]at h1
     cases h1
     exact⟨_,_,rfl,h2⟩
   · cases h
 · rename_i hno
   obtain⟨b',zs,h1,h2⟩:=hk _ _ h
   exact absurd h1 (hno _ _)
theorem mQ (ts:List Nat):∀ (l:List Oper) (st:St),jg st (freezes ts l st)
 | [],st=>jg.refl _
 | o::r,st=>by
  simp only[freezes]
  split
  · cases hm:Qn ts _ with
    | none=>exact mQ ts r st
    | some x =>
     simp only[]
     split
     · rename_i v ss _
       cases hf:gU ss with
       | false=>exact mQ ts r st
       | true =>
        refine jg.trans ?_ (mQ ts r _)
        exact fun b zs h=>oH st ss b zs h
     · exact mQ ts r st
  · exact mQ ts r st
theorem jh (hs:List Nat):∀ (l:List Oper) (st:St),jg st (eF hs l st)
 | [],st=>jg.refl _
 | o::r,st=>by
  simp only[Skm.eF]
  split
  · rename_i x _
    split
    · rename_i s _ _ _ _
      cases hc:dR x hs&&(Nat.blt s 5000&&Nat.blt x 5000) with
      | false=>exact jh hs r st
      | true =>
       simp only[qBa]at hc
       have h1:s<5000:=Nat.le_of_ble_eq_true hc.2.1
       have h2:x<5000:=Nat.le_of_ble_eq_true hc.2.2
       have k:∀ s y:Nat,s<5000→y<5000→s≠5000+y∧s<ah∧5000+y<ah:=fun s y h1 h2=>by
        have ea:ah=100000:=rfl
        omega
       obtain⟨k1,k2,k3⟩:=k s x h1 h2
       exact(EZ k1 k2 k3).trans (jh hs r _)
    · exact jh hs r st
  · split
    · rename_i d _
      split
      · cases hc:dR d hs&&Nat.blt d 5000 with
        | false=>exact jh hs r st
        | true =>
         simp only[qBa]at hc
         have h2:d<5000:=Nat.le_of_ble_eq_true hc.2
         have ea:ah=100000:=rfl
         have k:∀ y:Nat,y<5000→y≠7990∧y<ah∧7990<ah:=fun y h=>by
          have ea:ah=100000:=rfl
          omega
         obtain⟨k1,k2,k3⟩:=k d h2
         exact(EZ k1 k2 k3).trans (jh hs r _)
      · exact jh hs r st
    · exact jh hs r st
  · exact jh hs r st
theorem mV {F:Bz} (sJ:F.nvars≤ah) (l:List Oper) (st:St):jg st (settle F l st):=by
 unfold settle
 split
 · exact(pq _ _ sJ l st).trans (mQ _ l _)
 · exact((pq _ _ sJ l st).trans (jh _ l _)).trans (mQ _ l _)
theorem Vt (sJ:F.cfg.nvars≤ah) {id:Nat} {ops:Array Oper} {draw:Bool} {k:Ex→St→Option (List AV × List aJ)} (hk:KP k) (st:St) (x:List AV × List aJ) (h:aK T C F n (.region id ops draw) st k=some x):Has x st:=by
 have hk':∀ st x,(dU (settle F.cfg ops.toList st) fun st'=>k .normal st')=some x→Has x st:=fun st x h=>by
  rw[aC]at h
  exact(hk .normal _ x h).sub (mV sJ _ _)
 simp only[aK]at h
 obtain⟨h,-⟩:=iJ h
 cases draw with
 | false =>
  exact Dw hk' _ _ _ _ h
 | true =>
  simp only at h
  split at h
  · simp only[aC]at h
    split at h
    · obtain⟨fin,_,h2⟩:=Cc h
      obtain⟨on,zs,h3,h4⟩:=Pn (fun st x h=>(hk .normal _ x h).sub (mV sJ _ _)) h2
      exact⟨on,zs,oH _ _ _ _ h3,h4⟩
    · obtain⟨fin,_,h2⟩:=Cc h
      obtain⟨on,zs,h3,h4⟩:=Pn (fun st x h=>Dw (fun st x h=>(hk .normal _ x h).sub (mV sJ _ _)) _ _ _ _ h) h2
      exact⟨on,zs,oH _ _ _ _ h3,h4⟩
  · cases h
theorem mW (sJ:F.cfg.nvars≤ah):∀ (c:Code) (k:Ex→St→Option (List AV × List aJ)),KP k→∀ st x,aK T C F n c st k=some x→Has x st
 | .skip,k,hk,st,x,h=>hk .normal st x h
 | .region id ops draw,k,hk,st,x,h=>Vt sJ hk st x h
 | .seq y z,k,hk,st,x,h=>by
  rw[wZ]at h
  refine mW sJ y _ (fun ex st x h=>?_) st x h
  cases ex with
  | normal=>exact(mW sJ z k hk _ x h).sub (iO _ _ _)
  | exit id=>exact hk (.exit id) st x h
  | ret=>exact hk .ret st x h
 | .cond c y z,k,hk,st,x,h=>by
  simp only[aK]at h
  split at h
  · rename_i b _
    cases b with
    | true=>exact mW sJ y k hk st x h
    | false=>exact mW sJ z k hk st x h
  · cases h
 | .block id c,k,hk,st,x,h=>by
  rw[Ec]at h
  refine mW sJ c _ (fun ex st x h=>?_) st x h
  cases ex with
  | normal=>exact hk .normal st x h
  | exit j =>
   simp only[Ij]at h
   cases hj:(j==id) with
   | true=>rw[hj]at h;exact hk .normal st x h
   | false=>rw[hj]at h;exact hk (.exit j) st x h
  | ret=>exact hk .ret st x h
 | .loop c,k,hk,st,x,h=>by
  simp only[aK]at h
  have key:∀ (m:Nat) (st:St) (x:List AV × List aJ),lU (aB F.cfg c) (fun st' k'=>aK T C F n c st' k') m st k=some x→Has x st:=by
   intro m
   induction m with
   | zero=>intro st x h;simp[lU]at h
   | succ m ih =>
    intro st x h
    rw[Ci]at h
    refine mW sJ c _ (fun ex st x h=>?_) st x h
    cases ex with
    | normal =>
     simp only[MQ,aC]at h
     exact(ih _ x h).sub (iO _ _ _)
    | exit id=>exact hk (.exit id) st x h
    | ret=>exact hk .ret st x h
  exact(key n _ x h).sub (iO _ _ _)
 | .exit id,k,hk,st,x,h=>hk (.exit id) st x h
 | .ret,k,hk,st,x,h=>hk .ret st x h
 | .label _,k,hk,st,x,h=>hk .normal st x h
 | .rangeFunc f ps y z,k,hk,st,x,h=>by
  obtain⟨g,caps,fi,r,_,_,_,_,_,h⟩:=qW h
  have key:∀ (l:List PV) (st:St) (x:List AV × List aJ),jf (aB F.cfg (.seq y z)) fi.cfg.yk ps.toList (jP ps y z) (vX T C F n y z) l st k=some x→Has x st:=by
   intro l
   induction l with
   | nil=>intro st x h;exact hk .normal st x h
   | cons v l ih =>
    intro st x h
    simp only[jf]at h
    split at h
    · cases h
    · rename_i env _
      rw[aC]at h
      have hkr:KP (nT (aB F.cfg (.seq y z)) (jP ps y z) (fun st=>jf (aB F.cfg (.seq y z)) fi.cfg.yk ps.toList (jP ps y z) (vX T C F n y z) l st k) k):=by
       intro ex st x h
       cases ex with
       | normal =>
        simp only[nT,aC]at h
        exact((ih _ x h).sub (iO _ _ _)).sub fun _ _ h=>h
       | exit id =>
        simp only[nT,aC]at h
        exact(hk (.exit id) _ x h).sub fun _ _ h=>h
       | ret =>
        simp only[nT,aC]at h
        exact(hk .ret _ x h).sub fun _ _ h=>h
      refine(mW sJ y (Vp T C F n z _) (fun ex st x h=>?_) { st with env:=env } x h).sub fun _ _ h=>h
      cases ex with
      | normal=>exact(mW sJ z _ hkr _ x h).sub (iO _ _ _)
      | exit id=>exact hkr (.exit id) st x h
      | ret=>exact hkr .ret st x h
  exact(key _ _ x h).sub (iO _ _ _)
 | .scope c,k,hk,st,x,h=>mW sJ c k hk st x h
 | .goto ..,_,_,_,_,h | .refuse ..,_,_,_,_,h=>by simp[aK]at h
theorem KP.seq (sJ:F.cfg.nvars≤ah) {k:Ex→St→Option (List AV × List aJ)} (hk:KP k) (z:Code):KP (Vp T C F n z k):=by
 intro ex st x h
 cases ex with
 | normal=>exact(mW sJ z k hk _ x h).sub (iO _ _ _)
 | exit id=>exact hk (.exit id) st x h
 | ret=>exact hk .ret st x h
theorem KP.block {k:Ex→St→Option (List AV × List aJ)} (hk:KP k) (id:Nat):KP (Ij id k):=by
 intro ex st x h
 cases ex with
 | normal=>exact hk .normal st x h
 | exit j =>
  simp only[Ij]at h
  cases hj:(j==id) with
  | true=>rw[hj]at h;exact hk .normal st x h
  | false=>rw[hj]at h;exact hk (.exit j) st x h
 | ret=>exact hk .ret st x h
theorem KP.loop (sJ:F.cfg.nvars≤ah) {k:Ex→St→Option (List AV × List aJ)} (hk:KP k) (c:Code) (m:Nat):KP (MQ T C F n c m k):=by
 have key:∀ (m:Nat) (st:St) (x:List AV × List aJ),lU (aB F.cfg c) (fun st' k'=>aK T C F n c st' k') m st k=some x→Has x st:=by
  intro m
  induction m with
  | zero=>intro st x h;simp[lU]at h
  | succ m ih =>
   intro st x h
   rw[Ci]at h
   refine mW sJ c _ (fun ex st x h=>?_) st x h
   cases ex with
   | normal =>
    simp only[MQ,aC]at h
    exact(ih _ x h).sub (iO _ _ _)
   | exit id=>exact hk (.exit id) st x h
   | ret=>exact hk .ret st x h
 intro ex st x h
 cases ex with
 | normal =>
  simp only[MQ,aC]at h
  exact(key m _ x h).sub (iO _ _ _)
 | exit id=>exact hk (.exit id) st x h
 | ret=>exact hk .ret st x h
end
end Go.Skm
namespace Go.Skm
open Go.RowKit
def gcx (gl:Option (List (Nat × Obj))) (wd:World) (M0:Nat→Prop) (on:Bool) (done:List PV) (t0:Array Value) (ys:List Nat) (yv:Value):Cx :=
 { w0:=⟨wd,wd.heap.size,Nat.le_refl _,gl⟩,Pr:=fun _=>False,M0:=M0,QF:=fun _=>none,hp0:=[(ah,.log on done)],Wr:=fun _=>True,t0,rd:=none,L0:=[],nm:=wd.heap.size,Ys:=fun t=>t∈ys,yv:=yv }
structure Gv where
 W0:World
 M0:Nat→Prop
 J:List PV→(Nat→Prop)→World→Prop
 Jx:World→Prop
 t0:Array Value
 l:Nat
 gl:Option (List (Nat × Obj))
 ys:List Nat
abbrev Gv.yv (G:Gv):Value:=.func (.yield G.l) #[] #[]
structure Gv.Ok (G:Gv) (P:Program):Prop where
 j:∀ r O W W',G.J r O W→nN G.gl W W'→G.J r O W'
 jx:∀ W W',G.Jx W→nN G.gl W W'→G.Jx W'
 lt:∀ r O W,G.J r O W→∀ b,O b→b<W.heap.size
 y:∀ vs r O W (M:Nat→Prop) aF,G.J (.agg vs::r) O W→G.W0.heap.size≤W.heap.size→(∀ b,M b→b<W.heap.size∧¬ O b∧(G.M0 b∨G.W0.heap.size≤b))→aF.size=vs.length→(∀ i c,vs[i]?=some c→VR W M c (aF.getD i undef))→Yy P G.gl G.l aF W (G.J r) G.Jx O
def GI (G:Gv) (x:List AV × List aJ) (st:St) (a:Act) (w:World):Prop :=
 ∃ wd Mk on done,Inv (gcx G.gl wd Mk on done G.t0 G.ys G.yv) st a w∧(∀ b zs,look st.heap ah=some (.log b zs)→b=on∧zs=done)∧G.W0.heap.size≤wd.heap.size∧(∀ b,Mk b→b<wd.heap.size∧(G.M0 b∨G.W0.heap.size≤b)) ∧
  ((on=true∧∃ rest O,sQ x.2=done++rest∧G.J rest O wd∧∀ b,Mk b→¬ O b)∨(on=false∧G.Jx wd))
section
variable {P:Program} {G:Gv} {x:List AV × List aJ} {st st':St} {a a':Act} {w w':World}
theorem GI.map (g:GI G x st a w) (h:∀ cx,Inv cx st a w→Inv cx st' a' w') (hl:jg st st'):GI G x st' a' w':=by
 obtain⟨wd,Mk,on,done,i,h1,h2,h3,h4⟩:=g
 exact⟨wd,Mk,on,done,h _ i,fun b zs hb=>h1 b zs (hl b zs hb),h2,h3,h4⟩
theorem AR.swap {w:World} {M:Nat→Prop} {β:Nat→Option (Nat × Nat)} {h h':Nat→Option aJ} (hh:∀ s blk,h s=some blk→(∀ b zs,blk≠.log b zs)→h' s=some blk) {v:AV} {c:Value} (hv:AR w M β h v c):AR w M β h' v c:=by
 induction hv with
 | undef c=>exact .undef c
 | p v c hv=>exact .p v c hv
 | slice s off len a ks xs b o cap h1 hl hb hcap hr=>exact .slice s off len a ks xs b o cap (hh _ _ h1 (by simp)) hl hb hcap hr
 | sliceE s off a ks xs base h1 hl=>exact .sliceE s off a ks xs base (hh _ _ h1 (by simp)) hl
 | bslice s off len cs b o cap h1 hl hb hcap=>exact .bslice s off len cs b o cap (hh _ _ h1 (by simp)) hl hb hcap
 | bsliceE s off cs base h1 hl=>exact .bsliceE s off cs base (hh _ _ h1 (by simp)) hl
 | ptrB s off cs b o h1 hb=>exact .ptrB s off cs b o (hh _ _ h1 (by simp)) hb
 | ptrA s idx off a ks xs b o h1 hi hb=>exact .ptrA s idx off a ks xs b o (hh _ _ h1 (by simp)) hi hb
 | pI a ks x off b o f hM hx hc hv=>exact .pI a ks x off b o f hM hx hc hv
 | fn f cs vs hn _ ih=>exact .fn f cs vs hn ih
 | agg cs vs hn hl _ ih=>exact .agg cs vs hn hl ih
 | nJ cs vs hn _ ih=>exact .nJ cs vs hn ih
 | zq l=>exact .zq l
 | ptrT s off t c0 c1 b h1 hb=>exact .ptrT s off t c0 c1 b (hh _ _ h1 (by simp)) hb
 | EF s t es b o h1 hb=>exact .EF s t es b o (hh _ _ h1 (by simp)) hb
 | EG s e xs b cap h1 hb hcap h0 hr=>exact .EG s e xs b cap (hh _ _ h1 (by simp)) hb hcap h0 hr
 | vK s e h1=>exact .vK s e (hh _ _ h1 (by simp))
theorem Rel.ads {w0:Base} {Pr M0 M:Nat→Prop} {β:Nat→Option (Nat × Nat)} (r:Rel w0 Pr M0 M β st a w) {b0:Bool} {zs0:List PV} (h0:look st.heap ah=some (.log b0 zs0)) (b:Bool) (zs:List PV):Rel w0 Pr M0 M β { st with heap:=put st.heap ah (.log b zs) } a w:=by
 have hlk:∀ s,look (put st.heap ah (.log b zs)) s=if s=ah then some (.log b zs) else look st.heap s:=fun s=>aZ _ _ _ _
 have key:∀ {v:AV} {c:Value},AR w M β (look st.heap) v c→AR w M β (look (put st.heap ah (.log b zs))) v c:=fun hv=>hv.swap fun s blk hs hn=>by
  rw[hlk]
  by_cases e:s=ah
  · subst e;rw[h0]at hs;cases hs;exact absurd rfl (hn _ _)
  · rw[if_neg e];exact hs
 have live:∀ s,(look (put st.heap ah (.log b zs)) s).isSome=true→(look st.heap s).isSome=true:=by
  intro s hs
  rw[hlk]at hs
  by_cases e:s=ah
  · subst e;rw[h0];rfl
  · rw[if_neg e]at hs;exact hs
 refine⟨r.lC,fun t v hv=>key (r.env t v hv),fun s blk hs=>?_,fun s b o hs hb=>r.own s b o (live s hs) hb,fun s s' b o o' hs hs'=>r.inj s s' b o o' (live s hs) (live s' hs'),r.fB,r.jQ,r.oD,r.keep,r.room,r.size,r.os,r.tape,r.output,r.glob⟩
 have hs:look (put st.heap ah (.log b zs)) s=some blk:=hs
 rw[hlk]at hs
 by_cases e:s=ah
 · rw[if_pos e]at hs;cases hs;exact .log _ _
 · rw[if_neg e]at hs
   cases r.heap s blk hs with
   | box cs b o C e fr k1 k2 k3 k4 k5 k6=>exact .box cs b o C e fr k1 k2 k3 k4 k5 fun j c hj=>key (k6 j c hj)
   | gY a ks=>exact .gY a ks
   | log on ys=>exact .log on ys
   | arr a ks xs b o C e fr k1 k2 k3 k4 k5 k6=>exact .arr a ks xs b o C e fr k1 k2 k3 k4 k5 k6
   | tb t c0 c1 b C fr k1 k2 k3 k4 k5 k6 k7 k8=>exact .tb t _ _ b C fr k1 k2 k3 k4 k5 k6 (key k7) (key k8)
   | mp t es b o E k k1 k2 k3 k4=>exact .mp t es b o E k k1 k2 k3 k4
   | EH e=>exact .EH e
   | br e xs b C fr k1 k2 k3 k4 g5 g6=>exact .br e xs b C fr k1 k2 k3 k4 g5 g6
theorem pz {s k:Nat}:∀ {h:Heap},k∈iG s h↔k≠s∧(look h k).isSome=true
 | []=>by simp[iG,look]
 | (t,c)::h=>by
  have ih:=pz (s:=s) (k:=k) (h:=h)
  simp only[iG,look]
  by_cases hts:t=s
  · subst hts
    simp only[beq_self_eq_true,cond_true]
    rw[ih]
    by_cases htk:t=k
    · subst htk;simp
    · have:(t==k)=false:=by simpa using htk
      simp[this]
  · have:(t==s)=false:=by simpa using hts
    simp only[this,cond_false,List.mem_cons]
    rw[ih]
    by_cases htk:t=k
    · subst htk;simp[hts]
    · have h2:(t==k)=false:=by simpa using htk
      rw[h2]
      simp only[cond_false]
      constructor
      · rintro (rfl | h)
        · exact absurd rfl htk
        · exact h
      · exact .inr
theorem Ed {h:Nat→Option aJ} {ss:List Nat}:∀ (l:List AV),(xR h ss l).length=l.length
 | []=>rfl
 | v::r=>by simp[xR,Ed r]
theorem MX {h:Nat→Option aJ} {ss:List Nat}:∀ (l:List AV) (t:Nat),(xR h ss l)[t]?=(l[t]?).map (Qm h ss)
 | [],t=>by simp[xR]
 | v::r,0=>by simp[xR]
 | v::r,t+1=>by simp[xR,MX r t]
theorem aad {w0:Base} {Pr M0 M:Nat→Prop} {β:Nat→Option (Nat × Nat)} (r:Rel w0 Pr M0 M β st a w) {v:AV} {y:PV} {c:Value} (h:Wn (ji [ah] (look st.heap)) v=some y) (hv:AR w M β (look st.heap) v c):VR w (bD M β (iG ah st.heap)) y c:=by
 unfold Wn at h
 split at h
 · rename_i s
   split at h
   · rename_i cs hs
     split at h
     · rename_i vs hp
       cases h
       have hne:s≠ah:=by
        rintro rfl
        simp[ji,dR]at hs
       have hs':look st.heap s=some (.box cs):=by
        have:dR s [ah]=false:=dL.2 (by simp[hne])
        simpa only[ji,this,cond_false] using hs
       have hd:FV (look st.heap) (.ptr s 0 0)=some (.ref vs,[s]):=by
        have hcs:=rG hp
        have:∀ l:List PV,vC (look st.heap) (l.map .p)=some (l,[]):=by
         intro l
         induction l with
         | nil=>rfl
         | cons x l ih=>simp only[List.map_cons,vC,IJ,ih];rfl
        simp only[FV,hs',hcs,this]
       obtain⟨d1,_,_⟩:=LG r.heap (fun _ _ h=>h) hd hv
       refine d1.mono fun b hb=>⟨hb.imp id fun ⟨s',o,h1,h2⟩=>⟨s',o,?_,h2⟩,rfl⟩
       simp only[List.mem_singleton]at h1
       subst h1
       exact pz.2 ⟨hne,by rw[hs'];rfl⟩
     · cases h
   · cases h
 · cases h
theorem GI.after {wd : World} {Mk : Nat → Prop} {done : List PV} (hG : G.Ok P) (i : Inv (gcx G.gl wd Mk true done G.t0 G.ys G.yv) st a w) (hl : look st.heap ah = some (.log true done)) (h2 : G.W0.heap.size ≤ wd.heap.size) (h3 : ∀ b,Mk b → b < wd.heap.size ∧ (G.M0 b ∨ G.W0.heap.size ≤ b)) {O : Nat → Prop} {vs rest : List PV}
    (hJ:G.J (.agg vs::rest) O wd) (hMO:∀ b,Mk b→¬ O b) {W':World} (ht:Turns G.gl O w W') {d:Option Nat} (hd:∀ t,d=some t→t ∉ G.ys) (b:Bool)
    (h4:(b=true∧(∃ O',G.J rest O' W'∧∀ c,O' c→O c∨w.heap.size≤c)∧∃ ys,sQ x.2=(done++[.agg vs])++ys∧ys=rest)∨(b=false∧G.Jx W')):GI G x (iU st d done vs b) (a.put d (.bool b)) W':=by
  obtain⟨M,β,L,ds,r,i1,i2,i3,fx⟩:=i
  have hds:ds=[]:=fx.one fun h=>h done (by simp[gcx,look])
  subst hds
  have hgs:wd.heap.size≤w.heap.size:=r.size
  have hts:=ht.size
  have Ur:=hG.lt _ _ _ hJ
  have hn0:∀ c s o,s∈iG ah st.heap→β s=some (c,o)→wd.heap.size≤c:=fun c s o hs hb=>by
   rcases(r.own s c o (pz.1 hs).2 hb).2.2.1 with h | h
   · exact h
   · exact h.elim
  have r0:=r.strike (iG ah st.heap) (M':=bD M β (iG ah st.heap)) (fun _ h=>.inl h) (fun c h=>by
   rcases h with h | ⟨s,o,h1,h2⟩
   · exact .inl h
   · exact .inr ⟨hn0 c s o h1 h2,s,o,h1,(pz.1 h1).2,h2⟩)
  have r1:Rel _ _ _ (bD M β (iG ah st.heap)) β { env:=xR (ji [ah] (look st.heap)) (iG ah st.heap) st.env,heap:=(st.strike (iG ah st.heap)).heap } a w:=r0.slots (by rw[Ed];exact r.lC) fun t v hv=>by
   rw[MX]at hv
   cases he:st.env[t]? with
   | none=>rw[he]at hv;cases hv
   | some u =>
    rw[he]at hv
    simp only[Option.map_some,qOa]at hv
    have hu:=r.env t u he
    unfold Qm at hv
    cases hr:Wn (ji [ah] (look st.heap)) u with
    | some y =>
     rw[hr]at hv
     subst hv
     exact .p _ _ (aad r hr hu)
    | none =>
     rw[hr]at hv
     subst hv
     refine r0.env t _ ?_
     have hs:∀ ss:List Nat,(st.strike ss).env=fU ss st.env:=fun ss=>by
      cases ss with
      | nil=>show st.env=_;rw[oZ]
      | cons _ _=>rfl
     rw[hs,iP,he]
     rfl
  have hls:look (st.strike (iG ah st.heap)).heap ah=some (.log true done):=by
   rw[bU,if_neg (fun h=>(pz.1 h).1 rfl),hl];rfl
  have hon:∀ s,(look (st.strike (iG ah st.heap)).heap s).isSome=true→s=ah:=fun s hs=>by
   rw[bU]at hs
   by_cases h:s∈iG ah st.heap
   · rw[if_pos h]at hs;cases hs
   · rw[if_neg h]at hs
     by_cases e:s=ah
     · exact e
     · exact absurd (pz.2 ⟨e,by simpa using hs⟩) h
  have hMn:∀ c,bD M β (iG ah st.heap) c→c<w.heap.size∧¬ O c∧(G.M0 c∨G.W0.heap.size≤c):=fun c hc=>by
   refine⟨r0.fB c hc,fun ho=>?_,?_⟩
   · rcases r0.jQ c hc with h | ⟨h,_⟩
     · exact hMO c h ho
     · have:=Ur c ho
       have h:wd.heap.size≤c:=h
       omega
   · rcases r0.jQ c hc with h | ⟨h,_⟩
     · exact(h3 c h).2
     · have h:wd.heap.size≤c:=h
       right;omega
  let Mn:Nat→Prop:=fun c=>c<w.heap.size∧¬ O c∧(G.M0 c∨G.W0.heap.size≤c)
  have pJ:∀ c o,β ah≠some (c,o):=fun c o h=>by rw[i1 ah (Nat.le_refl _)]at h;cases h
  have hno:∀ s c o,(look (st.strike (iG ah st.heap)).heap s).isSome=true→β s≠some (c,o):=fun s c o hs h=>by rw[hon s hs]at h;exact pJ c o h
  have r2:Rel ⟨W',W'.heap.size,Nat.le_refl _,G.gl⟩ (fun _=>False) Mn Mn β { env:=xR (ji [ah] (look st.heap)) (iG ah st.heap) st.env,heap:=(st.strike (iG ah st.heap)).heap } a W' :=
   r1.to rfl (fun c hc=>⟨hMn c hc,ht.keep c (hMn c hc).1 (hMn c hc).2.1⟩) (fun s c o hs h=>absurd h (hno s c o hs)) (fun c hc=>Nat.lt_of_lt_of_le hc.1 hts) (fun c hc=>.inl hc) (fun c hc=>hc) (fun _ _ _=>rfl) (fun _ _ _ h=>h.elim) (Nat.le_refl _) rfl rfl rfl
  have r3:=(r2.setEnv d (v:=.p (.bool b)) (c:=.bool b) (.p _ _ (.bool b))).ads (b0:=true) (zs0:=done) hls b (done++[.agg vs])
  refine⟨W',Mn,b,done++[.agg vs],⟨Mn,β,[],[],r3,i1,fun s hs blk hb=>?_,.refl _ _,⟨fun p hp=>by simp at hp,fun p hp=>hp,?_,List.nodup_nil,fun D hD=>by simp at hD,fun l hl=>(by cases hl),(Fh _ _ _).trans fx.size,fun t ht=>absurd trivial ht,fun _=>rfl,fun t ht=>?_,Nat.le_refl _⟩⟩,fun c zs hc=>?_,by omega,fun c hc=>⟨Nat.lt_of_lt_of_le hc.1 hts,hc.2.2⟩,?_⟩
  · have hb:look (put (st.strike (iG ah st.heap)).heap ah (.log b (done++[.agg vs]))) s=some blk:=hb
    rw[aZ]at hb
    by_cases e:s=ah
    · subst e
      rw[if_pos rfl]at hb;cases hb
      exact⟨.log b (done++[.agg vs]),by simp[gcx,look],rfl⟩
    · rw[if_neg e]at hb
      exact absurd (hon s (by rw[hb];rfl)) e
  · rw[put_defers];exact fx.marks
  · rw[QG fun e=>hd t e ht];exact fx.yl t ht
  · rw[sK]at hc;cases hc;exact⟨rfl,rfl⟩
  · rcases h4 with ⟨rfl,⟨O',k1,k2⟩,ys,k3,rfl⟩ | ⟨rfl,k1⟩
    · refine .inl ⟨rfl,_,O',k3,k1,fun c hc ho=>?_⟩
      rcases k2 c ho with h | h
      · exact hc.2.1 h
      · have:=hc.1;omega
    · exact .inr ⟨rfl,k1⟩
theorem QO {all:List Oper} {ops:Array Oper} (he:ops.toList=all) {cx:Cx} (i:Inv cx st a w) {o:Oper} {b:Bool} (h:guardOf all o st.env=some b):Region.wanted o (yielded ops a.tmps)=b:=by
 unfold guardOf at h
 cases hg:o.guard with
 | none=>rw[hg]at h;cases h;simp[Region.wanted,hg]
 | some gw =>
  obtain⟨g,want⟩:=gw
  rw[hg]at h
  simp only at h
  cases hd:oP all g with
  | none=>rw[hd]at h;cases h
  | some t =>
   rw[hd]at h
   simp only at h
   split at h
   · rename_i c hc
     cases h
     have hy:=MH he hd i hc
     simp only[Region.wanted,hg,hy]
     cases c<;>cases want<;>rfl
   · rename_i hc
     cases h
     have hy:=Gp he hd i hc
     simp only[Region.wanted,hg,hy]
     rfl
   · cases h
theorem Vu {ρ : Operand → Value} {dst : Option Tmp} {fo : Operand} {args : Array Operand} {ts : Array TypeId} {type : TypeId} {pos : String} {after : Array Edge} {guard : Option (Nat × Bool)} {l : Nat} (h : ρ fo = .func (.yield l) #[] #[]) :
    (execOp ρ ⟨dst,.call ⟨.value fo,args,ts⟩,type,pos,after,guard⟩)=Instr.yield l (args.map ρ):=by
  simp only[execOp,resolve,h,Deferred.ofValue]
  simp[invoke]
end
end Go.Skm
namespace Go.Skm
section
variable {P:Program} {T:Tab} {w0:Base} {Pr M0 M:Nat→Prop} {β QF:Nat→Option (Nat × Nat)} {hp0:Heap} {st st':St} {a:Act} {w:World}
theorem GL {keep:Bool} {b0 b1:aJ} {x:Nat} (hx:(look (jd keep [b0,b1]) x).isSome=true):x=ah∨x=bV keep:=by
 rw[BZ]at hx
 by_cases h1:x=ah
 · exact .inl h1
 · rw[if_neg h1]at hx
   by_cases h2:x=bV keep
   · exact .inr h2
   · rw[if_neg h2]at hx;cases hx
theorem Rel.adt {keep : Bool} {args : List AV} {b0 b1 : aJ} {aF : Array Value} (hp : Qx keep w M β args [b0,b1] aF) {gl : Option (List (Nat × Obj))} (hgl : ∀ p ∈ gl.getD [],M p.1 ∧ w.heap[p.1]? = some p.2) (fn : Func) {n0 : Nat} (le : n0 ≤ w.heap.size) (hn0 : keep = true ∨ n0 = 0) :
    Rel ⟨w,n0,le,gl⟩ (fun b=>∃ x o,(look (jd keep [b0,b1]) x).isSome=true∧β x=some (b,o)) M M β { env:=args++List.replicate (fn.ntmps-args.length) .undef,heap:=jd keep [b0,b1] } { tmps:=aF++Array.replicate (fn.ntmps-aF.size) undef,defers:=[] } w:=by
  have hn:=hp.num
  refine⟨?_,fun t v ht=>?_,fun s blk hs=>hp.blk s blk hs,fun s b o hs hb=>?_,hp.inj,hp.fB,fun b h=>.inl h,fun b h=>h,fun b _ _=>rfl,fun b n _ _ h=>h,Nat.le_refl _,rfl,rfl,rfl,hgl⟩
  · simp[hn]
  · by_cases hlt:t<args.length
    · have ht' : args[t]? = some v := by
        rwa[List.getElem?_append_left hlt]at ht
      have:=hp.args t v ht'
      have e:(aF++Array.replicate (fn.ntmps-aF.size) undef).getD t undef=aF.getD t undef:=by
       rw[qAb,qAb,Array.getElem?_append_left (by omega)]
      rw[e];exact this
    · have : v = .undef := by
        rw[List.getElem?_append_right (by omega),List.getElem?_replicate]at ht
        split at ht
        · simpa using ht.symm
        · cases ht
      subst this
      exact .undef _
  · obtain⟨g1,g2⟩:=hp.own s b o hs hb
    refine⟨g1,g2,.inr ⟨s,o,hs,hb⟩,?_⟩
    rcases GL hs with rfl | rfl
    · exact .inr (Nat.le_refl _)
    · rcases hn0 with rfl | rfl
      · right;simp[bV,ah]
      · exact .inl (Nat.zero_le _)
theorem NW {h:Nat→Option aJ} {ms:List dO} {ts:List TypeId} {rs:List AV} {cs:List Value} {ps:List (Option (Nat × Nat))} (hr:sD T w M β h ms ts rs cs ps) (hd:zf ms=true):∀ p∈ps,p=none:=by
 induction hr with
 | nil ms=>intro p hp;simp at hp
 | cons ms t ts v vs c cs p ps h1 h2 h3 ih =>
  have hm:ms.headD .deep=.deep∧zf ms.tail=true:=by
   cases ms with
   | nil=>exact⟨rfl,rfl⟩
   | cons m ms =>
    cases m<;>simp[zf]at hd
    exact⟨rfl,hd⟩
  intro q hq
  rcases List.mem_cons.1 hq with rfl | hq
  · rw[hm.1]at h1;cases h1;rfl
  · exact ih hm.2 q hq
theorem Ya {keep:Bool} {z off len:Nat} {sa:Bool} {ks:List Kd} {xs:List PV}:zk (jd keep [.box [.slice (bV keep) z off len],.arr sa ks xs]):=by
 intro ys he
 rw[BZ,if_pos rfl]at he
 cases he
theorem Vw (ok : bJ P T) {X : Ext} {gl : Option (List (Nat × Obj))} (hX : Ae P T gl X) {n : Nat} (hC : fZ P T gl (jZ T X n)) (hS : Fe P T gl (jZ T X n)) :
    ∀ f fi args z off len sa ks xs rs pG,bI T.funcs f=some fi→fi.cfg.vcall=true→jZ T X (n+1) f args [.box [.slice (bV fi.cfg.vkeep) z off len],.arr sa ks xs]=some (rs,pG)→(∃ c,fi.fn.body=some c) ∧
    ∀ (w:World) (M:Nat→Prop) (β:Nat→Option (Nat × Nat)) (aF:Array Value),(∀ p∈gl.getD [],M p.1∧w.heap[p.1]?=some p.2)→Qx fi.cfg.vkeep w M β args [.box [.slice (bV fi.cfg.vkeep) z off len],.arr sa ks xs] aF →
     Calls P f aF w fun e w'=>∃ cs M',e=.returned (wV cs)∧Qy gl T fi w M β sa ks xs rs pG w' M' cs:=by
  intro f fi args z Yb len0 sa ks xs rs pG hf D7 h
  simp only[jZ,hf]at h
  cases hx:X f with
  | some s =>
   rw[hx]at h
   obtain⟨_,h1,_⟩:=hX.2 f fi s args _ rs pG hf hx h
   have:=h1 _ (List.mem_cons_self ..)
   simp[dS,Aq]at this
  | none =>
   rw[hx]at h
   simp only at h
   cases hb:fi.fn.body with
   | none=>rw[hb]at h;cases h
   | some c =>
    rw[hb]at h
    simp only[DX,D7,cond_true,fJ,iM,aC,Le,Xy]at h
    refine⟨⟨c,rfl⟩,fun w M β aF hgl hp=>?_⟩
    obtain⟨hfn,hname,hdr,hret⟩:=ok.funcs f fi hf
    have hle:cond fi.cfg.vkeep w.heap.size 0≤w.heap.size:=by cases fi.cfg.vkeep<;>simp
    let cx:Cx:={ w0:=⟨w,cond fi.cfg.vkeep w.heap.size 0,hle,gl⟩,Pr:=fun b=>∃ x o,(look (jd fi.cfg.vkeep [.box [.slice (bV fi.cfg.vkeep) z Yb len0],.arr sa ks xs]) x).isSome=true∧β x=some (b,o),M0:=M,QF:=β,hp0:=jd fi.cfg.vkeep [.box [.slice (bV fi.cfg.vkeep) z Yb len0],.arr sa ks xs],Wr:=fun _=>True,t0:=aF++Array.replicate (fi.fn.ntmps-aF.size) undef,rd:=none,L0:=[],nm:=w.heap.size }
    have hi:Inv cx { env:=args++List.replicate (fi.fn.ntmps-args.length) .undef,heap:=jd fi.cfg.vkeep [.box [.slice (bV fi.cfg.vkeep) z Yb len0],.arr sa ks xs] } { tmps:=aF++Array.replicate (fi.fn.ntmps-aF.size) undef,defers:=[] } w :=
     ⟨M,β,[],[],Rel.adt hp hgl fi.fn hle (by cases fi.cfg.vkeep<;>simp),fun _ _=>rfl,fun s _ b hb=>⟨b,hb,Like.refl b⟩,.refl _ _,⟨fun p hp=>by simp at hp,fun p hp=>by simp[cx]at hp,rfl,List.nodup_nil,fun D hD=>by simp at hD,fun l hl=>(by cases hl),rfl,fun _ _=>rfl,fun _=>rfl,fun _ h=>h.elim,Nat.le_refl _⟩⟩
    refine lX (rd:=none) (n:=0) (callsIn_of_wp_marks hfn hb trivial ?_)
    refine jA (ng:=false) (Jc (m:=0) ok hC (ok.nvars f fi hf) (rs,pG)) (fun _ f ps y z hy hz=>Ph ok hS hy hz) c ⟨cx,Ya,rfl⟩ _ _ w _ _ _ trivial h (hdr c hb) (fun h=>by cases h) (fun _ _=>⟨fun _ _=>trivial,fun _ _ h=>h.elim⟩) ⟨rfl,hi⟩ fun ex x' st a w1 hk i=>?_
    obtain⟨rfl,i⟩:=i
    have hk':adf T fi.cfg fi.fn [.box [.slice (bV fi.cfg.vkeep) z Yb len0],.arr sa ks xs] st=some (rs,pG)∧(ex=.normal∨ex=.ret):=by
     cases ex with
     | normal=>exact⟨hk,.inl rfl⟩
     | exit id=>cases hk
     | ret=>exact⟨hk,.inr rfl⟩
    obtain⟨hk,hex⟩:=hk'
    obtain⟨M1,β1,L1,ds1,r1,e1,e2,e3',Z9⟩:=i
    have goal:LeavesInM (FW none) 0 P fi.fn a.tmps (fun e w'=>∃ cs M',e=.returned (wV cs)∧Qy gl T fi w M β sa ks xs rs pG w' M' cs) a.defers .returning w1:=by
     rw[Z9.marks]
     refine pK ds1 w1 Z9.nodup (fun D hD=>(Z9.lies _ (Z9.mark D hD).1).1) fun w' q1 q2 q3 q4 q5 q6=>?_
     have r:=Inv.shut r1 Z9 rfl q1 q2 q3 q4 q5
     have e3:iH gl w.drawn w'.drawn:=by rw[q6];exact e3'
     unfold adf at hk
     split at hk
     case h_2=>cases hk
     rename_i vs b0 a0 Wu xs0 hvs hbl
     simp only[List.cons.injEq,aJ.arr.injEq,and_true]at hbl
     obtain⟨_,rfl,rfl,rfl⟩:=hbl
     split at hk
     case h_2=>cases hk
     rename_i X z1 off len hbox
     split at hk
     case h_2=>cases hk
     rename_i a1 ks1 ys harr
     cases hcd:(a1==sa&&Kd.xB ks1 ks)&&(zf fi.cfg.rets&&cond fi.cfg.vkeep (X==100001) (Nat.blt X 100000)) with
     | false=>rw[hcd]at hk;cases hk
     | true =>
     rw[hcd]at hk
     simp only[qBa,beq_iff_eq]at hcd
     obtain⟨⟨rfl,hks⟩,afl,hXs⟩:=hcd
     have:=Kd.mY _ _ hks
     subst this
     simp only[cond_true]at hk
     split at hk
     case h_2=>cases hk
     rename_i rs' hrv
     simp only[fJ,iM,qOa,Prod.mk.injEq]at hk
     obtain⟨rfl,rfl⟩:=hk
     obtain⟨cs,g1,g2⟩:=Dv ok r hvs
     have hsub:∀ s b,look (lS st.heap [ah,X]) s=some b→look st.heap s=some b:=fun s b hb=>(xg hb).1
     obtain⟨S,ps,p1,p2,p3,p4⟩:=EY r (hA:=look st.heap) (Yp:=β1) (fun j blk hj=>⟨hj,rfl⟩) hrv hsub g2
     have hps:=NW p1 afl
     have hS2:∀ s∈S,(look st.heap s).isSome=true∧s≠ah∧s≠X:=by
      intro s hs
      obtain⟨b,hb⟩:=Option.isSome_iff_exists.1 (p2 s hs).1
      obtain⟨k1,k2⟩:=xg hb
      simp only[List.mem_cons,List.not_mem_nil,or_false,not_or]at k2
      exact⟨by rw[k1];rfl,k2⟩
     have hup:∀ b,M1 b→bD M1 β1 S b:=fun b h=>.inl h
     have e0:β1 ah=β ah:=e1 ah (Nat.le_refl _)
     have hnS:∀ x b o,(look st.heap x).isSome=true→β1 x=some (b,o)→(x=ah∨x=X)→¬ bD M1 β1 S b:=by
      intro x b o hx hb hxx hm
      rcases hm with hm | ⟨s',o',hs',hb'⟩
      · exact(r.own x b o hx hb).1 hm
      · have:=r.inj x s' b o o' hx (hS2 s' hs').1 hb hb'
        subst this
        rcases hxx with h | h
        · exact(hS2 _ hs').2.1 h
        · exact(hS2 _ hs').2.2 h
     have hib:(look st.heap ah).isSome=true:=by rw[hbox];rfl
     have hiX:(look st.heap X).isSome=true:=by rw[harr];rfl
     have abD:X≠ah:=by rintro rfl;rw[hbox]at harr;cases harr
     have hPr:∀ x b o,(look st.heap x).isSome=true→β1 x=some (b,o)→x≠ah→w.heap.size≤b∨∃ o',β (bV fi.cfg.vkeep)=some (b,o'):=by
      intro x b o hx hb hne
      rcases(r.own x b o hx hb).2.2.1 with h | ⟨y,o',hy,hby⟩
      · exact .inl h
      · rcases GL hy with rfl | rfl
        · exact absurd (r.inj x ah b o o' hx hib hb (e0.trans hby)) hne
        · exact .inr ⟨o',hby⟩
     refine⟨wV cs,Cm g1,cs,bD M1 β1 S,rfl,⟨β1,look st.heap,ps,p1,hps⟩,fun b h=>.inl (r.oD b h),fun b h=>?_,fun b h=>?_,fun b hb h1 h2=>?_,r.size,r.os,r.tape,r.output,e3,?_⟩
     · rcases h with h | ⟨s',o',hs',hb'⟩
       · rcases r.jQ b h with h' | ⟨_,h' | ⟨y,o',hy,hby⟩⟩
         · exact .inl h'
         · exact .inr (.inl h')
         · rcases GL hy with rfl | rfl
           · exact absurd h (r.own ah b o' hib (e0.trans hby)).1
           · exact .inr (.inr ⟨o',hby⟩)
       · exact .inr (hPr s' b o' (hS2 s' hs').1 hb' (hS2 s' hs').2.1)
     · rcases h with h | ⟨s',o',hs',hb'⟩
       · exact r.fB b h
       · exact(r.own s' b o' (hS2 s' hs').1 hb').2.1
     · refine r.keep b hb fun ⟨y,o,hy,hby⟩=>?_
       rcases GL hy with rfl | rfl
       · exact h1 o hby
       · exact h2 o hby
     · have hB:=r.heap ah _ hbox
       have hA:=r.heap X _ harr
       cases hB with
       | box _ bb bo C e fr k1 k2 k3 k4 k5 k6 =>
       have hcell:=k6 0 _ rfl
       have hz:z1=ks1.length:=by
        generalize C.getD (bo+0) undef=u at hcell
        cases hcell with
        | slice _ _ _ a' ks' xs' b' o' cap h1 hl hb hcap hr=>rw[harr]at h1;cases h1;rfl
        | sliceE _ _ a' ks' xs' base h1 hl=>rw[harr]at h1;cases h1;rfl
       subst hz
       refine⟨off,len,ys,bb,bo,C,e,fr,β1 X,rfl,e0▸k1,hnS ah bb bo hib k1 (.inl rfl),k2,by simpa using k3,k4,?_,hA.Gj hup rfl,fun b o hb=>?_,fun hkp=>?_⟩
       · exact hcell.jv harr rfl rfl
       · refine⟨hnS X b o hiX hb (.inr rfl),(r.own X b o hiX hb).2.1,?_,hPr X b o hiX hb abD⟩
         rintro rfl
         exact abD (r.inj X ah b o bo hiX hib hb k1)
       · rw[hkp]at hXs
         have hXs:X=100001:=by simpa using hXs
         have hXv:X=bV true:=hXs
         have hge:ah≤X:=by rw[hXs];simp[ah]
         have eX:β1 X=β X:=e1 X hge
         refine⟨by rw[eX,hXv],?_,fun b o n hb hr=>?_⟩
         · obtain⟨b0,m1,m2⟩:=e2 X hge _ harr
           have m1:look (jd fi.cfg.vkeep [.box [.slice (bV fi.cfg.vkeep) z Yb len0],.arr a1 ks1 xs]) X=some b0:=m1
           rw[BZ,if_neg abD,hkp,if_pos hXv]at m1
           cases m1
           exact m2.2.2
         · have hlv : (look (jd fi.cfg.vkeep [.box [.slice (bV fi.cfg.vkeep) z Yb len0],.arr a1 ks1 xs]) X).isSome = true := by
             rw[BZ,if_neg abD,hkp,if_pos hXv];rfl
           have hlt:=(hp.own X b o hlv (eX▸hb)).2
           refine r.room b n ?_ ⟨X,o,hlv,eX▸hb⟩ hr
           show b<cond fi.cfg.vkeep w.heap.size 0
           rw[hkp];exact hlt
    rcases hex with rfl | rfl
    · exact goal
    · exact goal
end
end Go.Skm
namespace Go.Skm
open Go.RowKit
section
variable {P:Program} {T:Tab} {C:aA} {G:Gv}
theorem abE (n i:Nat):((Array.replicate n undef)[i]?).getD undef=undef:=by
 by_cases h:i<n<;>simp[h]
theorem abG {A:Array Value} {i:Nat} (h:i<A.toList.length):A.toList[i]?=some (A.getD i undef):=by
 rw[qLd h]
 simp only[Array.length_toList]at h
 simp[h]
theorem QS {gl:Option (List (Nat × Obj))} {wd:World} {Mk:Nat→Prop} {on:Bool} {done:List PV} {t0:Array Value} {ys:List Nat} {yv:Value} {o:Oper} (h:yOp ys o=true):wX (gcx gl wd Mk on done t0 ys yv) o:=by
 refine⟨fun _ _=>trivial,fun t ht hy=>?_⟩
 have hy:t∈ys:=hy
 simp only[yOp,ht,qBa]at h
 have h1:=h.1
 simp only[jr.2 hy,cond_true]at h1
 split at h1
 · rename_i s hs;exact⟨s,jr.1 h1,.inl hs⟩
 · rename_i s hs;exact⟨s,jr.1 h1,.inr hs⟩
 · cases h1
theorem MZ {n:Nat}:∀ {l:List Nat},Qp n l=true→∀ t∈l,t=0∨n<t
 | [],_,t,ht=>by simp at ht
 | x::r,h,t,ht=>by
  simp only[Qp,qBa,Bool.or_eq_true]at h
  rcases List.mem_cons.1 ht with rfl | ht
  · exact h.1.imp Nat.eq_of_beq_eq_true Nat.le_of_ble_eq_true
  · exact MZ h.2 t ht
theorem TT {ys:List Nat}:∀ {l:List Oper},abj ys l=true→∀ o∈l,yOp ys o=true
 | [],_,o,ho=>by simp at ho
 | x::r,h,o,ho=>by
  simp only[abj,qBa]at h
  rcases List.mem_cons.1 ho with rfl | ho
  · exact h.1
  · exact TT h.2 o ho
theorem Ik (ok : bJ P T) (hC : fZ P T G.gl C) (hG : G.Ok P) {hd : List (List Nat)} {ops : Array Oper} {k : St → Option (List AV × List aJ)} (hk : ∀ st x,k st = some x → Has x st) {Q : Exit → Act → World → Prop}
    (hQ:∀ x st' a' w',k st'=some x→GI G x st' a' w'→Q .normal a' w'):∀ (l:List Oper) (j:Nat) (st:St) (a:Act) (w:World) (x:List AV × List aJ),(∀ o∈l,yOp G.ys o=true)→dA T C false hd ops.toList l j st k=some x→GI G x st a w →
    wpListIn (FW none) 0 P ops Q l a w
  | [],j,st,a,w,x,_,h,i=>hQ x st a w h i
  | o::rest,j,st,a,w,x,hw,h,gi=>by
   have ih:=fun st' a' w' x' h i=>Ik (hd:=hd) (ops:=ops) ok hC hG hk hQ rest (j+1) st' a' w' x' (fun o ho=>hw o (by simp[ho])) h i
   have step:∀ st1,step1 T C false (hd.getD j []) ops.toList o st=some st1→dA T C false hd ops.toList rest (j+1) st1 k=some x→wpListIn (FW none) 0 P ops Q (o::rest) a w:=by
    intro st1 h1 h
    obtain⟨wd,Mk,on,done,i,g1,g2⟩:=gi
    have:=abx ok hC rfl (QS (hw o (by simp))) i h1 (rd:=none) (n:=0) (K:=wpListIn (FW none) 0 P ops Q rest) (fun a' w' i'=>ih st1 a' w' x h ⟨wd,Mk,on,done,i',fun b zs hb=>g1 b zs (Pm h1 b zs hb),g2⟩) (Q:=Q)
    unfold wpListIn
    split
    · rename_i hw;rw[if_pos hw]at this;exact this
    · rename_i hw;rw[if_neg hw]at this;exact⟨fun _ _=>trivial,this⟩
   cases hy:ny false st o with
   | none =>
    rw[mP _ _ hy]at h
    cases h1:step1 T C false (hd.getD j []) ops.toList o st with
    | none=>rw[h1]at h;cases h
    | some st1=>rw[h1]at h;exact step st1 h1 h
   | some p =>
    obtain⟨xs,vs⟩:=p
    rw[nD _ _ hy]at h
    cases hg:guardOf ops.toList o st.env with
    | none=>rw[hg]at h;cases h
    | some b =>
     rw[hg]at h
     cases b with
     | false=>exact step _ (by unfold step1;rw[MG,hg]) h
     | true =>
      obtain⟨no,hno,hyes⟩:=Dp h
      obtain⟨c,ss,ty,_,hop,hce,hyl,Zj,hdp⟩:=Ji hy
      obtain⟨wd,Mk,on,done,i,g1,g2,g3,g4⟩:=gi
      obtain⟨rfl,rfl⟩:=g1 _ _ Zj
      have hwant:=QO rfl i hg
      rcases g4 with ⟨_,afn,O,k1,k2,k3⟩ | ⟨hf,_⟩
      case inr=>cases hf
      have i0:=i
      obtain⟨M,β,L,ds,r,i1,i2,i3,fx⟩:=i0
      have hgrow:nN G.gl wd w:=r.turns i3
      have hgs:wd.heap.size≤w.heap.size:=r.size
      obtain⟨b',zs,q1,ys,q2⟩:=Dw hk rest (j+1) _ x hyes
      rw[sK]at q1
      cases q1
      have hrest:afn=.agg vs::ys:=by
       rw[q2,List.append_assoc]at k1
       exact(List.append_cancel_left k1).symm
      subst hrest
      unfold wpListIn
      rw[hwant,if_pos rfl]
      refine uG (fun c' hc'=>by rw[hop]at hc';cases hc') ?_
      obtain⟨dst,op,type,pos,after,guard⟩:=o
      simp only at hop
      subst hop
      obtain⟨callee,args,ts⟩:=c
      simp only at hce hdp
      subst hce
      have hyo:=hw _ List.mem_cons_self
      simp only[yOp,qBa]at hyo
      have hty:ty∈G.ys:=jr.1 hyo.2
      have hdst:∀ t,dst=some t→t ∉ G.ys:=fun t e ht=>by
       subst e
       have:=hyo.1
       simp only[jr.2 ht,cond_true]at this
       cases this
      have hev:a.eval (.tmp ty)=.func (.yield G.l) #[] #[]:=by
       show a.tmps.getD ty undef=_
       rcases fx.yl ty hty with h | h
       · exact h
       · have hs:=r.slot ty
         rw[hyl,h]at hs
         cases hs
      rw[Vu hev]
      have hls:lV w M β (look st.heap) (jK st.env args.toList) (args.map a.eval).toList:=by
       rw[Array.toList_map]
       exact r.jK _
      obtain⟨d1,d2,d3⟩:=Gf r.heap (fun _ _ h=>h) hdp hls
      have hlt:=hG.lt _ _ _ k2
      obtain⟨fn,tmps,asg,body,hrun,adu⟩:=hG.y vs ys O w (bD M β ss) (args.map a.eval) (hG.j _ _ _ _ k2 hgrow) (by omega) (fun b hb=>by
       have out:∀ b,wd.heap.size≤b→¬ O b∧(G.M0 b∨G.W0.heap.size≤b):=fun b hb=>⟨fun ho=>by have:=hlt b ho;omega,by right;omega⟩
       rcases hb with hb | ⟨s,o',hs,hb⟩
       · refine⟨r.fB b hb,?_⟩
         rcases r.jQ b hb with h | ⟨h,_⟩
         · exact⟨k3 b h,(g3 b h).2⟩
         · exact out b h
       · obtain⟨o1,o2,o3,_⟩:=r.own s b o' (d3 s hs) hb
         refine⟨o2,?_⟩
         rcases o3 with h | h
         · exact out b h
         · exact h.elim) (by rw[← Array.length_toList];exact d1.symm) (fun i c hc=>by
       have hi:i<(args.map a.eval).toList.length:=by rw[← d1];exact(qLa.1 hc).1
       exact d2 i c _ hc (abG hi))
      rw[hrun,Oper.uponIn_round]
      refine⟨yB none,RoundIn.mono adu fun e W' hR=>?_⟩
      obtain⟨ht,(⟨rfl,O',hJ,hO⟩ | ⟨rfl,hJx⟩)⟩:=hR
      · exact ih _ _ W' x hyes (GI.after hG i Zj g2 g3 k2 k3 ht hdst true (.inl ⟨rfl,⟨O',hJ,hO⟩,ys,q2,rfl⟩))
      · exact ih _ _ W' no hno (GI.after hG i Zj g2 g3 k2 k3 ht hdst false (.inr ⟨rfl,hJx⟩))
theorem TU (ok:bJ P T) (hC:fZ P T G.gl C) (hG:G.Ok P) {F:FI} {n:Nat} (sJ:F.cfg.nvars≤ah):QM T C F n P 0 KP (fun _:Unit=>none) (fun _ o=>yOp G.ys o=true) (fun _ x st a w=>GI G x st a w) where
 reg:=by
  intro _ id ops draw st a w k x Q hk h hd hw gi hQ
  have hw':∀ o∈ops.toList,yOp G.ys o=true:=hw
  have hk':∀ st x,(dU (settle F.cfg ops.toList st) fun st'=>k .normal st')=some x→Has x st:=fun st x h=>by
   rw[aC]at h
   exact(hk .normal _ x h).sub (mV sJ _ _)
  simp only[aK]at h
  obtain⟨h,-⟩:=iJ h
  cases draw with
  | false =>
   refine wpIn_region_list (Ik ok hC hG hk' (fun x' st' a' w' h1 g=>?_) ops.toList 0 st a w x hw' h gi)
   rw[aC]at h1
   exact hQ x' _ a' w' h1 (g.map (fun _ i=>i.settle sJ _) (mV sJ _ _))
  | true =>
   simp only[iK]at hd
   cases hh:bI F.hides id with
   | none=>rw[hh]at h;cases h
   | some hid =>
    rw[hh]at h hd
    simp only[qBa]at hd
    simp only[aC]at h
    obtain⟨wd,Mk,on,done,i,g1,g2⟩:=gi.map (st':=st.strike (present st.heap (pW ops.toList ops.toList))) (fun _ i=>i.strike _) (oH _ _)
    have back:∀ {k2:St→Option (List AV × List aJ)} {st':St} {a':Act} {w':World},Skm.nS (look (st.strike (present st.heap (pW ops.toList ops.toList))).heap ah) st' k2=some x→Inv (gcx G.gl wd Mk on done G.t0 G.ys G.yv) st' a' w'→∃ st2,k2 st2=some x∧GI G x st2 a' w':=by
     intro k2 st' a' w' h1 i'
     obtain⟨st2,h2,i2,hl2⟩:=i'.nS (fun on' xs he=>by
      obtain⟨rfl,rfl⟩:=g1 _ _ he
      exact⟨xs,by simp[gcx,look]⟩) h1
     exact⟨st2,h2,wd,Mk,on,done,i2,fun b zs hb=>g1 b zs (hl2 b zs hb),g2⟩
    cases hy:UY F.cfg.ys ops.toList with
    | none =>
     rw[hy]at h
     refine TN ok hC hd.1 hd.2 h (fun o ho=>QS (hw' o ho)) i fun st' a' w' h1 i'=>?_
     obtain⟨st2,h2,gi2⟩:=back h1 i'
     exact hQ x _ a' w' h2 (GI.map gi2 (fun _ i=>i.settle sJ _) (mV sJ _ _))
    | some jc =>
     rw[hy]at h
     refine WS ok hC hd.1 hd.2 (MP hy) h (fun o ho=>QS (hw' o ho)) i fun st' a' w' h1 i' _=>?_
     obtain⟨st2,h2,gi2⟩:=back h1 i'
     refine Ik ok hC hG (fun st x h=>(hk .normal _ x h).sub (mV sJ _ _)) (fun x' st3 a3 w3 h3 g3=>hQ x' _ a3 w3 h3 (g3.map (fun _ i=>i.settle sJ _) (mV sJ _ _))) (ops.toList.drop jc) jc st2 a' w' x (fun o ho=>hw' o (List.mem_of_mem_drop ho)) h2 gi2
 forget:=fun _ x st a w c g=>g.map (fun _ i=>i.aB _ _) (iO _ _ _)
 cond:=by
  intro _ x st a w c b g hv
  obtain⟨wd,Mk,on,done,⟨M,β,L,ds,r,_⟩,_⟩:=g
  have hc:=r.aP c
  rw[hv]at hc
  exact hc.zT
 kseq:=fun z k hk=>hk.seq sJ z
 kblock:=fun id k hk=>hk.block id
 kloop:=fun c j k hk=>hk.loop sJ c j
theorem aae (ok:bJ P T) {X:Ext} {gl:Option (List (Nat × Obj))} (hX:Ae P T gl X) {n:Nat} (hC:fZ P T gl (jZ T X n)):Fe P T gl (jZ T X (n+1)):=by
 intro g fi caps x hf hpb h
 simp only[jZ,hf]at h
 cases hx:X g with
 | some s =>
  rw[hx]at h
  obtain⟨rs,pG⟩:=x
  obtain⟨_,h1,_⟩:=hX.2 g fi s _ _ rs pG hf hx h
  have:=h1 _ (List.mem_singleton.2 rfl)
  simp[dS]at this
 | none =>
  rw[hx]at h
  simp only at h
  cases hb:fi.fn.body with
  | none=>rw[hb]at h;cases h
  | some c =>
   rw[hb]at h
   simp only at h
   have adv:iT c=true∧(∀ o∈opsOf c,yOp fi.cfg.ys o=true)∧∀ t∈fi.cfg.ys,t=0∨caps.length<t:=by
    unfold jm at hpb
    rw[hb]at hpb
    simp only[qBa]at hpb
    exact⟨hpb.1,TT hpb.2.2.1,MZ hpb.2.1⟩
   have D7:fi.cfg.vcall=false:=by
    unfold jm at hpb
    rw[hb]at hpb
    simp only[qBa,qBb]at hpb
    exact hpb.2.2.2
   have hcb:DX fi.cfg [.log true []]=true:=by simp[DX,D7]
   rw[hcb]at h
   simp only[cond_true,fJ,iM,aC,Le,Xy,D7]at h
   obtain⟨hfn,hname,hdr,hret⟩:=ok.funcs g fi hf
   refine⟨hfn,?_⟩
   intro W0 M0 l lb J Jx O0 hgl hlb hlv hM0 hJ hJx hlt hY h0
   let aF:Array Value:=#[.func (.yield l) #[] #[]]++lb
   let t0:Array Value:=aF++Array.replicate (fi.fn.ntmps-aF.size) undef
   let G:Gv:={ W0,M0,J,Jx,t0,l,gl,ys:=fi.cfg.ys }
   have hc0:aF[0]?=some (.func (.yield l) #[] #[]):=by
    show (#[Value.func (.yield l) #[] #[]]++lb)[0]?=_
    rw[Array.getElem?_append_left (by simp)];rfl
   have hcs:0<aF.size:=by
    show 0<(#[Value.func (.yield l) #[] #[]]++lb).size
    rw[Array.size_append]
    show 0<1+lb.size
    omega
   have hG:G.Ok P:=⟨hJ,hJx,hlt,hY⟩
   have hrep:∀ i,((Array.replicate (fi.fn.ntmps-aF.size) undef)[i]?).getD undef=undef:=fun i=>abE _ i
   have hp:tX W0 M0 (fun _=>none) (.zq::caps.map .p) [.log true []] aF:=by
    refine⟨by simp[aF,hlb];omega,fun i v hi=>?_,fun i b0 hi=>?_,fun i b o hi hb=>(by cases hb),fun i j b o o' hi hj hb=>(by cases hb),fun b hb=>(hM0 b hb).1⟩
    · cases i with
      | zero =>
       simp at hi;subst hi
       have:aF.getD 0 undef=.func (.yield l) #[] #[]:=by rw[qAb,hc0];rfl
       rw[this];exact .zq l
      | succ i =>
       simp only[List.getElem?_cons_succ,List.getElem?_map,Option.map_eq_some_iff]at hi
       obtain⟨c,hc,rfl⟩:=hi
       have:aF.getD (i+1) undef=lb.getD i undef:=by
        simp only[aF,qAb]
        rw[Array.getElem?_append_right (by simp)]
        simp
       rw[this];exact .p _ _ (hlv i c hc)
    · cases i with
      | zero=>simp at hi;subst hi;exact .log _ _
      | succ i=>simp at hi
   have hr:Rel ⟨W0,W0.heap.size,Nat.le_refl _,gl⟩ (fun _=>False) M0 M0 (fun _=>none) (tK fi.fn (.zq::caps.map .p) [.log true []]) { tmps:=t0,defers:=[] } W0:=by
    have:=Rel.start hp hgl fi.fn
    rwa[show (fun b=>∃ i o,i<[aJ.log true []].length∧(none:Option (Nat × Nat))=some (b,o))=fun _=>False from funext fun b=>propext ⟨fun ⟨_,_,_,h⟩=>(by cases h),fun h=>h.elim⟩]at this
   have hlk:look (tK fi.fn (.zq::caps.map .p) [.log true []]).heap ah=some (.log true []):=by
    show look (dM 0 [.log true []]) (ah+0)=_
    rw[vT];rfl
   have hgi:GI G x (tK fi.fn (.zq::caps.map .p) [.log true []]) { tmps:=t0,defers:=[] } W0:=by
    refine⟨W0,M0,true,[],⟨M0,fun _=>none,[],[],hr,fun _ _=>rfl,fun s _ blk hb=>⟨blk,?_,Like.refl _⟩,.refl _ _,⟨fun p hp=>by simp at hp,fun p hp=>hp,rfl,List.nodup_nil,fun D hD=>by simp at hD,fun l hl=>(by cases hl),rfl,fun _ _=>rfl,fun _=>rfl,fun t ht=>?_,Nat.le_refl _⟩⟩,fun b zs hb=>?_,Nat.le_refl _,fun b hb=>⟨(hM0 b hb).1,.inl hb⟩,.inl ⟨rfl,sQ x.2,O0,rfl,h0,fun b hb=>(hM0 b hb).2⟩⟩
    · exact hb
    · rcases adv.2.2 t ht with rfl | hlt
      · left
        show t0.getD 0 undef=_
        rw[qAb]
        show ((aF++Array.replicate (fi.fn.ntmps-aF.size) undef)[0]?).getD undef=_
        rw[Array.getElem?_append_left hcs,hc0];rfl
      · right
        show t0.getD t undef=_
        have hsz:aF.size=1+lb.size:=by
         show (#[Value.func (.yield l) #[] #[]]++lb).size=_
         rw[Array.size_append];rfl
        rw[qAb]
        show ((aF++Array.replicate (fi.fn.ntmps-aF.size) undef)[t]?).getD undef=_
        rw[Array.getElem?_append_right (by omega)]
        exact hrep _
    · rw[hlk]at hb;cases hb;exact⟨rfl,rfl⟩
   let kf:Ex→St→Option (List AV × List aJ):=fun ex st=>match ex with
    | .exit _=>none
    | _=>SG T fi.cfg fi.fn [.log true []] st
   have hlast:∀ st x',SG T fi.cfg fi.fn [.log true []] st=some x'→∃ b zs vs,look st.heap ah=some (.log b zs)∧sQ x'.2=zs∧EC T st.env (look st.heap) fi.fn.results.toList=some vs:=by
    intro st x' hk
    unfold SG at hk
    split at hk
    · cases hk
    · rename_i vs hvs
      split at hk
      · rename_i rs' abC hrv hab
        simp only[fJ,iM,qOa]at hk
        subst hk
        simp only[y9]at hab
        split at hab
        · rename_i b bs h1 h2
          cases h2
          cases hc:Df b&&backOk (.log true []) b with
          | false=>rw[hc]at hab;cases hab
          | true =>
           rw[hc]at hab
           simp only[cond_true,qOa]at hab
           subst hab
           simp only[qBa]at hc
           cases b with
           | box=>simp[backOk]at hc
           | arr=>simp[backOk]at hc
           | tb=>simp[backOk]at hc
           | mp=>simp[backOk]at hc
           | br=>simp[backOk]at hc
           | log on zs=>exact⟨on,zs,vs,h1,rfl,hvs⟩
        · cases hab
      · cases hk
   have hkp:KP kf:=by
    intro ex st x' hk
    have hk:SG T fi.cfg fi.fn [.log true []] st=some x':=by
     cases ex with
     | normal=>exact hk
     | exit id=>cases hk
     | ret=>exact hk
    obtain⟨b,zs,_,h1,h2,_⟩:=hlast st x' hk
    exact⟨b,zs,h1,[],by rw[h2];simp⟩
   refine lX (rd:=none) (n:=0) (callsIn_of_wp_marks hfn hb trivial ?_)
   refine jA (ng:=true) (TU ok hC hG (ok.nvars g fi hf)) (fun h=>by cases h) c () _ _ W0 kf x _ hkp h (hdr c hb) (fun _=>adv.1) adv.2.1 hgi fun ex x' st a w1 hk gi=>?_
   have hk':SG T fi.cfg fi.fn [.log true []] st=some x'∧(ex=.normal∨ex=.ret):=by
    cases ex with
    | normal=>exact⟨hk,.inl rfl⟩
    | exit id=>cases hk
    | ret=>exact⟨hk,.inr rfl⟩
   obtain⟨hk,hex⟩:=hk'
   obtain⟨b,zs,vs,q1,q2,q3⟩:=hlast st x' hk
   obtain⟨wd,Mk,on,done,⟨M,β,L,ds,r,i1,i2,i3,fx⟩,g1,g2,g3,g4⟩:=gi
   obtain⟨rfl,rfl⟩:=g1 _ _ q1
   have goal:LeavesInM (FW none) 0 P fi.fn a.tmps (fun e W'=>(∃ v,e=.returned v)∧((∃ O,J [] O W')∨Jx W')) a.defers .returning w1:=by
    rw[fx.marks]
    refine pK ds w1 fx.nodup (fun D hD=>(fx.lies _ (fx.mark D hD).1).1) fun w' k1 k2 k3 k4 k5 k6=>?_
    have r':=Inv.shut r fx rfl k1 k2 k3 k4 k5
    obtain⟨cs,e1,e2⟩:=Dv ok r' q3
    have hgrow:nN G.gl wd w':=r'.turns (by rw[k6];exact i3)
    refine⟨wV cs,Cm e1,⟨_,rfl⟩,?_⟩
    rcases g4 with ⟨_,rest,O,p1,p2,_⟩ | ⟨_,p1⟩
    · rw[q2]at p1
      have:rest=[]:=by
       have:=congrArg List.length p1
       simp at this
       exact this
      subst this
      exact .inl ⟨O,hJ _ _ _ _ p2 hgrow⟩
    · exact .inr (hJx _ _ p1 hgrow)
   rcases hex with rfl | rfl
   · exact goal
   · exact goal
theorem kT (ok:bJ P T) {X:Ext} {gl:Option (List (Nat × Obj))} (hX:Ae P T gl X):∀ n,fZ P T gl (jZ T X n)∧Fe P T gl (jZ T X n)
 | 0=>⟨⟨fun f fi args bl rs pG _ _ h=>by simp[jZ]at h,fun f fi args z off len a ks xs rs pG _ _ h=>by simp[jZ]at h,hX.1⟩,fun g fi caps r _ _ h=>by simp[jZ]at h⟩
 | n+1=>⟨⟨X8 ok hX (kT ok hX n).1 (kT ok hX n).2,Vw ok hX (kT ok hX n).1 (kT ok hX n).2,hX.1⟩,aae ok hX (kT ok hX n).1⟩
theorem Jj (ok:bJ P T) {X:Ext} {gl:Option (List (Nat × Obj))} (hX:Ae P T gl X) (n:Nat):fZ P T gl (jZ T X n):=(kT ok hX n).1
end
end Go.Skm
