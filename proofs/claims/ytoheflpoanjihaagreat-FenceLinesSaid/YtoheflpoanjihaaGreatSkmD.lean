import Derived.Test.YtoheflpoanjihaaGreatSkmC
import Derived.RangeFuncNested
import Derived.RangeFuncLeaves
set_option linter.all false
namespace Go.Skm
section
open Go.RowKit
variable {gl:Option (List (Nat × Obj))}{O:Nat->Prop}
structure Turns (gl:Option (List (Nat × Obj))) (O:Nat->Prop) (W W':World):Prop where
 size:W.heap.size<=W'.heap.size
 keep:∀ b,b<W.heap.size->¬ O b->W'.heap[b]?=W.heap[b]?
 os:W'.os=W.os
 tape:W'.tape=W.tape
 output:W'.output=W.output
 drawn:DrawnLe gl W.drawn W'.drawn
abbrev Grows(gl:Option (List (Nat × Obj)))(W W':World):Prop:=Turns gl (λ_=>False) W W'
theorem Turns.refl(gl:Option (List (Nat × Obj)))(O:Nat->Prop)(W:World):Turns gl O W W:=⟨qNr _,λ_ _ _=>rfl,rfl,rfl,rfl,.refl _ _⟩
theorem Turns.trans{gl:Option (List (Nat × Obj))}{O O':Nat->Prop}{A B C:World}(h:Turns gl O A B)(k:Turns gl O' B C)(e:∀ b,b<A.heap.size->O' b->O b):Turns gl O A C:=
 ⟨Nat.le_trans h.size k.size,λb d c=>by rw[k.keep b (by have:=h.size;omega) λh'=>c (e b d h'),h.keep b d c],k.os.trans h.os,k.tape.trans h.tape,k.output.trans h.output,h.drawn.trans k.drawn⟩
theorem Turns.weaken{O':Nat->Prop}{A B:World}(h:Turns gl O A B)(e:∀ b,b<A.heap.size->O b->O' b):Turns gl O' A B:=
 ⟨h.size,λb c d=>h.keep b c λh'=>d (e b c h'),h.os,h.tape,h.output,h.drawn⟩
theorem Grows.alloc{gl:Option (List (Nat × Obj))}(W:World)(o:Obj):Grows gl W (W.alloc o):=
 ⟨by simp,λb c _=>Below.heap_alloc W o b c,rfl,rfl,rfl,.refl _ _⟩
theorem Turns.putObj{gl:Option (List (Nat × Obj))}(W:World)(l:Nat)(o:Obj):Turns gl (λb=>b=l) W (W.putObj l o):=
 ⟨by simp,λb _ h=>World.putObj_heap_other h,rfl,rfl,rfl,.refl _ _⟩
def YldOk(P:Program)(gl:Option (List (Nat × Obj)))(l:Nat)(cargs:Array Value)(W:World)(J Jx:(Nat->Prop)->(Nat->Prop)->World->Prop)(O K M:Nat->Prop):Prop:=
 YieldAt (FW none) 0 P l cargs W λe W'=>Turns gl O W W'/\∃ O' K':Nat->Prop,((e=.returned (.bool true)/\J O' K' W')\/(e=.returned (.bool false)/\Jx O' K' W'))/\(∀ b,O' b->O b\/W.heap.size<=b)/\∀ b,K' b->K b\/M b\/O b\/(W.heap.size<=b/\b<W'.heap.size)
def Bears(gl:Option (List (Nat × Obj)))(W0:World)(J:(Nat->Prop)->(Nat->Prop)->World->Prop):Prop:=
 ∀(O K:Nat->Prop) (W W':World) (S:Nat->Prop),J O K W->Turns gl S W W'->(∀ b,S b->W0.heap.size<=b/\¬ O b/\¬ K b)->J O K W'
def IterOk(P:Program)(gl:Option (List (Nat × Obj)))(g:Nat)(caps xs:List PV):Prop:=
 ∀(W0:World) (M0:Nat->Prop) (l:Nat) (lb:Array Value) (J:List PV->(Nat->Prop)->(Nat->Prop)->World->Prop) (Jx:(Nat->Prop)->(Nat->Prop)->World->Prop) (O0:Nat->Prop),
  (∀ p∈gl.getD [],M0 p.1/\W0.heap[p.1]?=some p.2)->lb.size=caps.length->(∀ i c,caps[i]?=some c->VR W0 M0 c (lb.getD i undef))->(∀ b,M0 b->b<W0.heap.size/\¬ O0 b) ->
  (∀ r,Bears gl W0 (J r))->Bears gl W0 Jx->(∀ r O K W,J r O K W->∀ b,O b\/K b->b<W.heap.size) ->
  (∀ vs r O K W (M:Nat->Prop) cargs,J (.agg vs::r) O K W->W0.heap.size<=W.heap.size->(∀ b,M b->b<W.heap.size/\¬ O b/\(M0 b\/W0.heap.size<=b))->cargs.size=vs.length->(∀ i c,vs[i]?=some c->VR W M c (cargs.getD i undef)) ->
    YldOk P gl l cargs W (J r) Jx O K M) ->
 J xs O0 (λ_=>False) W0->Calls P g (#[.func (.yield l) #[] #[]]++lb) W0 λe W'=>(∃ v,e=.returned v)/\∃ O K:Nat->Prop,J [] O K W'\/Jx O K W'
theorem Bears.grows{W0:World}{J:(Nat->Prop)->(Nat->Prop)->World->Prop}(h:Bears gl W0 J){K:Nat->Prop}{W W':World}(c:J O K W)(g:Grows gl W W'):J O K W':=h O K W W' _ c g λ_ h=>h.elim
def SeqOk(P:Program)(T:Tab)(gl:Option (List (Nat × Obj)))(C:CallF):Prop:=
 ∀ g fi caps r,tlook T.funcs g=some fi->bodyPlain fi caps.length=true->C g (.yld::caps.map .p) [.log true []]=some r->P.funcs[g]?=some fi.fn/\IterOk P gl g caps (logOf r.2)
section
variable {w0 w0':Base} {Pr Pr' M0 M0' M M':Nat->Prop} {β β':Nat->Option (Nat × Nat)} {st st':St} {a a':Act} {w w':World}
theorem Rel.to(r:Rel w0 Pr M0 M β st a w)(H:w0'.gl=w0.gl)(D:∀ b,M b->M' b/\w'.heap[b]?=w.heap[b]?)
    (E:∀ s b o,(look st.heap s).isSome=true->β s=some (b,o)->w'.heap[b]?=w.heap[b]?/\¬ M' b/\b<w'.heap.size/\((w0'.heap.size<=b\/Pr' b)/\(w0'.n0<=b\/argSite<=s)))
    (g:∀ b,M' b->b<w'.heap.size)(u:∀ b,M' b->M0' b\/(w0'.n0<=b/\(w0'.heap.size<=b\/Pr' b)))(q:∀ b,M0' b->M' b)
    (z:∀ b,b<w0'.heap.size->¬ Pr' b->w'.heap[b]?=w0'.heap[b]?)(d:∀ b n,b<w0'.n0->Pr' b->Room w0'.wd b n->Room w' b n)
    (size:w0'.heap.size<=w'.heap.size)(os:w'.os=w0'.os)(tape:w'.tape=w0'.tape)(output:w'.output=w0'.output):Rel w0' Pr' M0' M' β st a w':=by
  have y:∀(v:AV) (c:Value),AR w M β (look st.heap) v c->AR w' M' β (look st.heap) v c:=λv c h =>h.mono D λs blk _ A=>⟨blk,A,Like.refl _,rfl,λb o n h3 Y=>Y.of_block (E s b o (by rw[A];rfl) h3).1⟩;refine⟨r.tsize,λt v h=>y _ _ (r.env t v h),?_,λs b o V Z=>(E s b o V Z).2,r.inj,g,u,q,z,d,size,os,tape,output,λp hp=>by rw[H]at hp;exact⟨(D _ (r.glob p hp).1).1,(D _ (r.glob p hp).1).2.trans (r.glob p hp).2⟩⟩;intro s blk A;have S:(look st.heap s).isSome=true:=by rw[A];rfl
  cases r.heap s blk A with
  | box cs b o C e fr B R Q N L J=>exact .box _ b o C e fr B (by rw[(E s b o S B).1];exact R) Q N L λj c I=>y _ _ (J j c I)
  | arrE a ks=>exact .arrE a ks
  | log on ys=>exact .log on ys
  | arr a ks xs b o C e fr B R Q N L J=>exact .arr a ks xs b o C e fr B (by rw[(E s b o S B).1];exact R) Q N L λi x j c U I=>(J i x j c U I).mono D
theorem Rel.slots(r:Rel w0 Pr M0 M β st a w){env:List AV}(c:env.length<=a'.tmps.size)(h:∀ t v,env[t]?=some v->AR w M β (look st.heap) v (a'.tmps.getD t undef)):Rel w0 Pr M0 M β {st with env:=env} a' w:=
 ⟨c,h,r.heap,r.own,r.inj,r.msub,r.mnew,r.mold,r.keep,r.room,r.size,r.os,r.tape,r.output,r.glob⟩
theorem Rel.turns(r:Rel w0 Pr M0 M β st a w)(hd:DrawnLe w0.gl w0.drawn w.drawn):Turns w0.gl Pr w0.wd w:=⟨r.size,r.keep,r.os,r.tape,r.output,hd⟩
end
theorem dropEnv_get{c:List Nat}:∀(l:List AV) (k i:Nat) (v:AV),(dropEnv c k l)[i]?=some v->v=.undef\/(l[i]?=some v/\(k+i) ∉ c)
 |[],k,i,v,h=>by simp[dropEnv]at h
 | u::r,k,0,v,h=>by
  simp only[dropEnv,List.getElem?_cons_zero,qOa]at h;cases d:memN k c with
  | true=>rw[d]at h;left;simpa using h.symm
  | false=>rw[d]at h;right;exact⟨by simpa using h,λe=>by rw[memN_iff.2 (show k∈c from e)]at d;cases d⟩
 | u::r,k,i+1,v,h=>by simp only[dropEnv,List.getElem?_cons_succ]at h;have:=dropEnv_get r (k+1) i v h;grind
theorem dropEnv_length{c:List Nat}:∀(l:List AV) (k:Nat),(dropEnv c k l).length=l.length
 |[],_=>rfl
 | u::r,k=>by simp[dropEnv,dropEnv_length r]
theorem etaArg_ok{w:World}{M:Nat->Prop}{s:Bool × List Kd}{v:PV}{c:Value}(d:shapeOk s.1 s.2 v=true)(h:VR w M v c):VR w M (etaArg s v) c:=by
 obtain⟨a,ks⟩:=s;cases a with
 | true=>exact h.written d
 | false =>
  match ks,d with
  |[k],d=>exact eta_ok (by simpa[shapeOk] using d) h
  |[],d=>simp[shapeOk]at d
  | _::_::_,d=>simp[shapeOk]at d
theorem setPs_len:∀{ss:List (Bool × List Kd)} {ps:List Nat} {vs:List PV} {i:Nat} {env c:List AV},setPs ss ps (.agg vs) i env=some c->vs.length=i+ps.length
 |[],[],vs,i,env,c,hs=>by
  simp only[setPs]at hs;cases d:Nat.beq (PV.agg vs).cells.length i with
  | false=>rw[d]at hs;cases hs
  | true=>exact Nat.eq_of_beq_eq_true d
 | s::ss,t::ps,vs,i,env,c,hs=>by
  simp only[setPs]at hs;cases d:shapeOk s.1 s.2 ((PV.agg vs).cell i)with
  | false=>rw[d]at hs;cases hs
  | true =>rw[d]at hs;have:=setPs_len hs;grind
 |[],_::_,vs,i,env,c,hs=>by simp[setPs]at hs
 | _::_,[],vs,i,env,c,hs=>by simp[setPs]at hs
theorem setPs_ok{w:World}{M:Nat->Prop}{β:Nat->Option (Nat × Nat)}{h:Nat->Option Blk}:∀{ss:List (Bool × List Kd)} {ps:List Nat} {vs:List PV} {i:Nat} {env g:List AV} {cs:List Value} {tmps:Array Value},
    setPs ss ps (.agg vs) i env=some g->cs.length=vs.length-i->i<=vs.length->(∀ j c,vs[i+j]?=some c->VR w M c (cs.getD j undef)) ->
    env.length<=tmps.size->(∀ t v,env[t]?=some v->AR w M β h v (tmps.getD t undef)) ->
    cs.length=ps.length/\g.length=env.length/\(((ps.zip cs).foldl (λtmps (t,a)=>tmps.setIfInBounds t a) tmps).size=tmps.size) /\
    (∀ t v,g[t]?=some v->AR w M β h v (((ps.zip cs).foldl (λtmps (t,a)=>tmps.setIfInBounds t a) tmps).getD t undef)) /\
    (∀ t,t ∉ ps->((ps.zip cs).foldl (λtmps (t,a)=>tmps.setIfInBounds t a) tmps).getD t undef=tmps.getD t undef)
  |[],[],vs,i,env,g,cs,tmps,hs,hc,hi,hv,hl,he=>by
   simp only[setPs]at hs;cases y:Nat.beq (PV.agg vs).cells.length i with
   | false=>rw[y]at hs;cases hs
   | true =>rw[y]at hs;cases hs;have:vs.length=i:=Nat.eq_of_beq_eq_true y;simp_all
  | s::ss,t::ps,vs,i,env,g,cs,tmps,hs,hc,hi,hv,hl,he=>by
   simp only[setPs]at hs;cases y:shapeOk s.1 s.2 ((PV.agg vs).cell i)with
   | false=>rw[y]at hs;cases hs
   | true =>
    rw[y]at hs;simp only[qCt]at hs;have B:i<vs.length:=by have:=setPs_len hs;omega
    match cs,hc with
     |[],hc=>simp at hc;omega
     | c::cs,hc =>
      have z:=hv 0 vs[i] (by simp);simp only[qLb,List.getElem?_cons_zero,Option.getD_some]at z;have hcell:(PV.agg vs).cell i=vs[i]:=by simp[PV.cell,List.getD,B]
      rw[hcell]at hs y;have D:AR w M β h (.p (etaArg s vs[i])) c:=.p _ _ (etaArg_ok y z);obtain⟨L,J,I,H,E⟩:=setPs_ok (w:=w) (M:=M) (β:=β) (h:=h) (cs:=cs) (tmps:=tmps.setIfInBounds t c) hs (by simp at hc;omega) (by omega) (λj d hd=>by
       have:=hv (j+1) d (by rw[<- hd];congr 1;omega);simpa using this) (by simpa using hl) (λu v q=>by
       by_cases e:u=t
       . subst e;have A:u<env.length:=by have:=(qLa.1 q).1;simpa using this
         rw[List.getElem?_set_self A]at q;cases q;have:(tmps.setIfInBounds u c).getD u undef=c:=by
          have:u<tmps.size:=by omega
          simp[this]
         grind
       . rw[List.getElem?_set_ne (Ne.symm e)]at q;have:(tmps.setIfInBounds t c).getD u undef=tmps.getD u undef:=by simp[qAb,qAe (Ne.symm e)]
         grind)
      refine⟨by simp[L],by simpa using J,by simpa using I,H,λu q=>?_⟩;simp only[List.mem_cons,not_or]at q;refine(E u q.2).trans ?_;simp[qAb,qAe (Ne.symm q.1)]
  |[],_::_,vs,i,env,g,cs,tmps,hs,hc,hi,hv,hl,he=>by simp[setPs]at hs
  | _::_,[],vs,i,env,g,cs,tmps,hs,hc,hi,hv,hl,he=>by simp[setPs]at hs
end
section
open Go.RowKit
variable {M:Nat->Prop}{β:Nat->Option (Nat × Nat)}
section
variable {w0:Base} {Pr M0 M:Nat->Prop} {β:Nat->Option (Nat × Nat)} {st:St} {a:Act} {w:World}
theorem forgetAt_rel(r:Rel w0 Pr M0 M β st a w)(F:FCfg)(c:Code):Rel w0 Pr M0 M β (forgetAt F c st) a w/\ArgsLike st.heap (forgetAt F c st).heap/\∀ b,Owned β (forgetAt F c st).heap b->Owned β st.heap b:=by
 unfold Skm.forgetAt;split
 . exact⟨r,λs _ b h=>⟨b,h,Like.refl _⟩,λ_ h=>h⟩
 . split
   . exact⟨r,λs _ b h=>⟨b,h,Like.refl _⟩,λ_ h=>h⟩
   . rename_i d sites _;have e:=r.lessEnv (env:=keepEnv d 0 st.env) (keepEnv_length _ _) (λt v h=>keepEnv_get _ _ _ _ h);exact⟨e.strike _ (λb h=>h) λb h=>.inl h,strike_like _ _,λb h=>strike_owned (st:={st with env:=keepEnv d 0 st.env}) h⟩
end
def InvL(cx:Cx)(a':Act)(Ln:List (Nat × Obj))(dsn:List Nat)(l:Nat)(W1:World)(st:St)(O K:Nat->Prop)(W:World)(lp:Loop):Prop:=
 ∃ M β,Rel cx.w0 cx.Pr cx.M0 M β st a' W/\(∀ s,argSite<=s->β s=cx.β0 s)/\ArgsLike cx.hp0 st.heap/\DrawnLe cx.w0.gl cx.w0.drawn W.drawn/\Fix cx M β st.heap a' W Ln dsn /\
  (W.heap[l]?=some (.loop lp)/\¬ M l/\¬ Owned β st.heap l/\(∀ p∈Ln,p.1≠l)/\cx.w0.heap.size<=l/\W1.heap.size<=W.heap.size)/\(∀ b,O b↔(Owned β st.heap b\/b=l)) /\
  ((∀ b,M b->b<W1.heap.size\/K b)/\(∀ p∈Ln,p.1<W1.heap.size)/\l<W1.heap.size/\∀ b,K b->b<W.heap.size)
section
variable {cx:Cx} {a':Act} {Ln:List (Nat × Obj)} {dsn:List Nat} {l:Nat} {W1 W W':World} {st:St} {O K:Nat->Prop} {lp:Loop}
theorem Rel.owned_lt{w0:Base}{Pr M0:Nat->Prop}{a:Act}{w:World}(r:Rel w0 Pr M0 M β st a w){b:Nat}(h:Owned β st.heap b):¬ M b/\b<w.heap.size/\(w0.heap.size<=b\/Pr b):=by obtain⟨s,o,c,d⟩:=h;obtain⟨i,g,e,_⟩:=r.own s b o c d;grind
theorem InvL.lt(i:InvL cx a' Ln dsn l W1 st O K W lp):∀ b,O b->b<W.heap.size:=by
 obtain⟨M,β,r,z,y,u,t,⟨q,j,g,h4,h5,e⟩,d,A⟩:=i;intro b c;rcases(d b).1 c with h | rfl
 . exact(r.owned_lt h).2.1
 omega
theorem InvL.seen(i:InvL cx a' Ln dsn l W1 st O K W lp):∀ b,K b->b<W.heap.size:=by obtain⟨M,β,r,j,g,e,d,_,c,_,_,_,h⟩:=i;exact h
theorem InvL.bears{S:Nat->Prop}(i:InvL cx a' Ln dsn l W1 st O K W lp)(g:Turns cx.w0.gl S W W')(u:∀ b,S b->W1.heap.size<=b/\¬ O b/\¬ K b):InvL cx a' Ln dsn l W1 st O K W' lp:=by
 obtain⟨M,β,r,e1,e2,e3,H,⟨D,V,U,h4,h5,R⟩,B,YE⟩:=i;obtain⟨A,z,y,I⟩:=YE;have q:∀ b,b<W.heap.size->¬ S b->W'.heap[b]?=W.heap[b]?:=λb c e=>g.keep b c e;have d:∀ b,b<W1.heap.size->¬ S b:=λb c e=>by have:=(u b e).1;omega
 have t:∀ b,O b->¬ S b:=λb c e=>(u b e).2.1 c;have Q:∀ b,M b->¬ S b:=λb c e=>(A b c).elim (λh=>d b h e) λh=>(u b e).2.2 h;have N:l<W.heap.size:=(qAa.1 D).1;have j:=g.size;have J:=r.size
 refine⟨M,β,r.to rfl (λb c=>⟨c,q b (r.msub b c) (Q b c)⟩) (λs b o e c=>?_) (λb c=>Nat.lt_of_lt_of_le (r.msub b c) j) r.mnew r.mold (λb c hp=>?_) (λb n c hp L=>?_) (Nat.le_trans r.size j) (g.os.trans r.os) (g.tape.trans r.tape) (g.output.trans r.output),
  e1,e2,e3.trans g.drawn,H.less (λp hp=>q p.1 (qAa.1 (H.lies p hp).1).1 (d _ (z p hp))) λ_ h=>h,⟨(q l N (d l y)).trans D,V,U,h4,h5,Nat.le_trans R j⟩,B,A,z,y,λb c=>Nat.lt_of_lt_of_le (I b c) j⟩
 . obtain⟨Z,E,Y⟩:=r.own s b o e c;exact⟨q b E (t b ((B b).2 (.inl ⟨s,o,e,c⟩))),Z,Nat.lt_of_lt_of_le E j,Y⟩
 . rw[q b (by omega) (d b (by omega))];exact r.keep b c hp
 . exact(r.room b n c hp L).of_block (q b (by have:=cx.w0.le';omega) (d b (by have:=cx.w0.le';omega)))
theorem InvL.forgetAt(i:InvL cx a' Ln dsn l W1 st O K W lp)(F:FCfg)(c:Code):∃ O',InvL cx a' Ln dsn l W1 (Skm.forgetAt F c st) O' K W lp/\∀ b,O' b->O b:=by obtain⟨M,β,r,D,B,A,z,⟨y,u,t,h4,h5,q⟩,j,H⟩:=i;obtain⟨e,E,d⟩:=forgetAt_rel r F c;exact⟨λb=>Owned β (Skm.forgetAt F c st).heap b\/b=l,⟨M,β,e,D,B.trans E,A,z.less (λ_ _=>rfl) d,⟨y,u,λh=>t (d l h),h4,h5,q⟩,λb=>Iff.rfl,H⟩,λb g=>(j b).2 (g.imp (d b) id)⟩
theorem InvL.close(i:InvL cx a' Ln dsn l W1 st O K W lp)(o:Obj):Inv cx st a' (W.putObj l o):=by
 obtain⟨M,β,r,J,I,H,E,⟨Q,z,y,h4,h5,N⟩,L,R⟩:=i;have g:∀ b,b≠l->(W.putObj l o).heap[b]?=W.heap[b]?:=λb c=>World.putObj_heap_other c;have d:(W.putObj l o).heap.size=W.heap.size:=World.putObj_size;have t:=r.size
 refine⟨M,β,Ln,dsn,r.to rfl (λb c=>⟨c,g b λe=>z (e▸c)⟩) (λs b j q c=>?_) (λb c=>by rw[d];exact r.msub b c) r.mnew r.mold (λb c hp=>?_) (λb n c hp u=>?_) (by rw[d];exact r.size) r.os r.tape r.output,
  J,I,H,E.less (λp hp=>g p.1 (h4 p hp)) λ_ h=>h⟩
 . obtain⟨D,B,A⟩:=r.own s b j q c;exact⟨g b λe=>y (e▸⟨s,j,q,c⟩),D,by rw[d];exact B,A⟩
 . rw[g b (by omega)];exact r.keep b c hp
 . exact(r.room b n c hp u).of_block (g b (by have:=cx.w0.le';omega))
structure SubCx (cx cx':Cx) (M:Nat->Prop) (a':Act) (Ln:List (Nat × Obj)) (ws:List Nat) (l:Nat) (W:World) (O:Nat->Prop):Prop where
 n0:cx'.w0.n0=cx.w0.n0
 gl:cx'.w0.gl=cx.w0.gl
 turns:Turns cx.w0.gl O W cx'.w0.wd
 pr:∀ b,cx'.Pr b->O b\/W.heap.size<=b
 mnew:∀ b,cx'.M0 b->cx.M0 b\/(cx.w0.n0<=b/\(cx.w0.heap.size<=b\/cx.Pr b))
 room:∀ b n,b<cx.w0.n0->O b->Room W b n->Room cx'.w0.wd b n
 mold:∀ b,M b->cx'.M0 b
 β0:cx'.β0=cx.β0
 hp0:cx'.hp0=cx.hp0
 wr:cx'.Wr=λt=>t∈ws
 size:cx'.t0.size=a'.tmps.size
 t0:∀ t,t ∉ ws->cx'.t0.getD t undef=a'.tmps.getD t undef
 L0:∀ p∈Ln,p∈cx'.L0
theorem InvL.round(r:Rel cx.w0 cx.Pr cx.M0 M β st a' W)(A:Fix cx M β st.heap a' W Ln dsn)(hcd:DrawnLe cx.w0.gl cx.w0.drawn W.drawn)(h4:∀ p∈Ln,p.1≠l)(h5:cx.w0.heap.size<=l)(h6:W1.heap.size<=W.heap.size)
    (hO:∀ b,O b↔(Owned β st.heap b\/b=l)){d:Cx}{L:List Nat}(g:SubCx cx d M a' Ln L l W O){lb:Obj}(hlb:(l,lb)∈d.L0){y:St}{R:Act}{W3:World}(i:Inv d y R W3)(j:Loop)
    (hL1:∀ p∈Ln,p.1<W1.heap.size)(hl1:l<W1.heap.size){K':Nat->Prop}(hK1:∀ b,d.M0 b->b<W1.heap.size\/K' b)(hK2:∀ b,O b->K' b)(hK3:∀ b,W.heap.size<=b->b<W3.heap.size->K' b)(hK4:∀ b,K' b->b<W3.heap.size) :
    W3.heap[l]?=some lb/\∃ O',InvL cx a' Ln dsn l W1 (back L y) O' K' (W3.putObj l (.loop j)) j/\(∀ b,O' b->O b\/W.heap.size<=b)/\Turns cx.w0.gl O W (W3.putObj l (.loop j)):=by
  obtain⟨M3,D,L3,ds3,u,i1,i2,i3,H⟩:=i;obtain⟨k1,k2,k3⟩:=H.lies _ (H.sub _ hlb);have hl3:l<W3.heap.size:=(qAa.1 k1).1;have J:∀ b,b≠l->(W3.putObj l (.loop j)).heap[b]?=W3.heap[b]?:=λb c=>World.putObj_heap_other c;have z:(W3.putObj l (.loop j)).heap.size=W3.heap.size:=World.putObj_size;have hrs:=r.size;have Y:=g.turns.size;have hr3:=u.size;have hts':W.heap.size<=d.w0.heap.size:=Y;have q:Turns cx.w0.gl O W W3:=g.turns.trans (g.gl▸u.turns i3) λb c hp=>by rcases g.pr b hp with h | h;all_goals omega
  have V:Turns cx.w0.gl O W (W3.putObj l (.loop j)):=q.trans (Turns.putObj W3 l _) λb _ c=>(hO b).2 (.inr c);have B:∀ b,(d.w0.heap.size<=b\/d.Pr b)->O b\/W.heap.size<=b:=λb h=>by
   rcases h with h | h
   . right;omega
   . exact g.pr b h
  have hO':∀ b,O b->cx.w0.heap.size<=b\/cx.Pr b:=λb h=>by
   rcases(hO b).1 h with h | rfl
   . exact(r.owned_lt h).2.2
   omega
  have U:∀ b,(d.w0.heap.size<=b\/d.Pr b)->cx.w0.heap.size<=b\/cx.Pr b:=λb h=>by grind
  have S:Rel cx.w0 cx.Pr cx.M0 M3 D y R (W3.putObj l (.loop j)):=by
   refine u.to g.gl.symm (λb c=>⟨c,J b λe=>k3 (e▸c)⟩) (λs b o N c=>?_) (λb c=>by rw[z];exact u.msub b c) (λb c=>?_) (λb c=>u.mold b (g.mold b (r.mold b c))) (λb c hp=>?_) (λb n c hp hr=>?_) (by rw[z];omega)
    (q.os.trans r.os) (q.tape.trans r.tape) (q.output.trans r.output)
   . obtain⟨g1,g2,g3,g4⟩:=u.own s b o N c;exact⟨J b λe=>k2 (e▸⟨s,o,N,c⟩),g1,by rw[z];exact g2,U b g3,by rw[<- g.n0];exact g4⟩
   . rcases u.mnew b c with h |⟨h,h'⟩
     . exact g.mnew b h
     grind[g.n0]
   . have Z:¬ O b:=λh=>by grind
     rw[J b (by omega),q.keep b (by omega) Z];exact r.keep b c hp
   . have h0:=r.room b n c hp hr;have hle:=cx.w0.le';have Q:Room d.w0.wd b n:=by
      by_cases ho:O b
      . exact g.room b n c ho h0
      . exact h0.of_block (g.turns.keep b (by omega) ho)
     have E:Room W3 b n:=by
      by_cases I:d.Pr b
      . exact u.room b n (by rw[g.n0];exact c) I Q
      . exact Q.of_block (u.keep b (by omega) I)
     exact E.of_block (J b (by omega))
  have hsize:R.tmps.size=a'.tmps.size:=H.size.trans g.size;have rs:=S.slots (a':=a') (env:=dropEnv L 0 y.env) (by rw[dropEnv_length,<- hsize];exact S.tsize) λt v hv=>by
   rcases dropEnv_get _ _ _ _ hv with rfl |⟨Q,E⟩
   . exact .undef _
   . have E:t ∉ L:=by simpa using E
     have e:R.tmps.getD t undef=a'.tmps.getD t undef:=(H.tmps t (by rw[g.wr];exact E)).trans (g.t0 t E);rw[<- e];exact S.env t v Q
  refine⟨k1,λb=>Owned D y.heap b\/b=l,⟨M3,D,rs,λs N=>(i1 s N).trans (by rw[g.β0]),by rw[<- g.hp0];exact i2,hcd.trans q.drawn,⟨λp hp=>?_,A.sub,A.marks,A.nodup,A.mark,A.rd,A.size,A.tmps,A.one,A.yl,A.nml⟩,
   ⟨World.putObj_heap_same hl3,k3,k2,h4,h5,Nat.le_trans h6 (by rw[z];omega)⟩,λb=>Iff.rfl,λb c=>?_,hL1,hl1,λb c=>by rw[z];exact hK4 b c⟩,λb c=>?_,V⟩
  . obtain⟨g1,g2,g3⟩:=H.lies p (H.sub p (g.L0 p hp));exact⟨(J p.1 (h4 p hp)).trans g1,g2,g3⟩
  . rcases u.mnew b c with h |⟨_,h⟩
    . exact hK1 b h
    . rcases B b h with h | h
      . grind
      . exact .inr (hK3 b h (u.msub b c))
  . rcases c with h | rfl
    . exact B b (u.owned_lt h).2.2
    grind
end
end
section
open Go.RowKit
variable {ps:Array Tmp}
section
variable {T:Tab} {C:CallF} {F:FI} {n:Option Nat} {α:Type}
theorem plain_k:∀ c:Code,plainCode c=true->∀(st:St) (k d:Ex->St->Option α),k .normal=d .normal->runCode T C F n c st k=runCode T C F n c st d
 | .skip,_,st,k,d,h=>by simp only[runCode,h]
 | .region id ops draw,_,st,k,d,h=>by cases draw<;>simp only[runCode,h]
 | .seq y z,hp,st,k,d,h=>by simp only[plainCode,qBa]at hp;rw[runCode_seq,runCode_seq];refine plain_k y hp.1 st _ _ ?_;funext st';exact plain_k z hp.2 _ k d h
 | .cond ..,hp,_,_,_,_ | .block ..,hp,_,_,_,_ | .loop ..,hp,_,_,_,_ | .exit ..,hp,_,_,_,_ | .ret,hp,_,_,_,_ | .label ..,hp,_,_,_,_
 | .rangeFunc ..,hp,_,_,_,_ | .scope ..,hp,_,_,_,_ | .goto ..,hp,_,_,_,_ | .refuse ..,hp,_,_,_,_=>by simp[plainCode]at hp
noncomputable def roundC(T:Tab)(C:CallF)(F:FI)(n:Option Nat)(y z:Code)(st:St)(k:Ex->St->Option α):Option α:=runCode T C F n y st (seqK T C F n z k)
def rngWs(ps:Array Tmp)(y z:Code):List Nat:=ps.toList++(codeDsts y++codeDsts z)
theorem runCode_range{f:Operand}{y z:Code}{st:St}{k:Ex->St->Option α}{x:α}(h:runCode T C F n (.rangeFunc f ps y z) st k=some x) :
    ∃ g c fi r,evalO st.env f=.p (.fn g c)/\tlook T.funcs g=some fi/\plainCode y=true/\bodyPlain fi c.length=true/\C g (.yld::c.map .p) [.log true []]=some r /\
     rangeL (forgetAt F.cfg (.seq y z)) fi.cfg.yk ps.toList (rngWs ps y z) (roundC T C F n y z) (logOf r.2) (forgetAt F.cfg (.seq y z) st) k=some x:=by
  simp only[runCode]at h;split at h
  . rename_i g c e;split at h
    . rename_i fi j hp;cases d:bodyPlain fi c.length with
      | false=>rw[d]at h;cases h
      | true =>
       rw[d]at h;simp only[qCt]at h;split at h
       . rename_i r i;exact⟨g,c,fi,r,e,j,hp,d,i,h⟩
       . cases h
    . cases h
  . cases h
theorem zip_foldl{cs:Array Value}{t:Array Value}:(ps.zip cs).foldl (λtmps (t,a)=>tmps.setIfInBounds t a) t=(ps.toList.zip cs.toList).foldl (λtmps (t,a)=>tmps.setIfInBounds t a) t:=by rw[<- Array.foldl_toList,Array.toList_zip]
end
section
variable {cx:Cx} {a':Act} {Ln:List (Nat × Obj)} {dsn:List Nat} {l:Nat} {W1 W W':World} {st:St} {O:Nat->Prop} {lp:Loop} {P:Program}
def cx1(cx:Cx)(le:cx.w0.n0<=W.heap.size)(O M1:Nat->Prop)(ws:List Nat)(tmps:Array Value)(l:Nat)(L0:List (Nat × Obj)):Cx:=
 {w0:=⟨W,cx.w0.n0,le,cx.w0.gl⟩,Pr:=O,M0:=M1,β0:=cx.β0,hp0:=cx.hp0,Wr:=λt=>t∈ws,t0:=tmps,rd:=some l,L0:=L0,nm:=cx.nm}
theorem Inv.busy{c:Cx}{A:St}{Y:Act}{j:World}{lo:Obj}(i:Inv c A Y j)(hl:(l,lo)∈c.L0)(ho:∀ ds,lo≠.deferred ds)(hrd:c.rd=some l)(lp:Loop)(R:∀ p∈Ln,p∈c.L0/\p.1≠l)(Z:List Nat)(_hw:c.Wr=λt=>t∈Z)(I:c.Pr l)(hlt:l<c.w0.heap.size) :
    j.heap[l]?=some lo/\∃ d:Cx,Inv d A Y (j.putObj l (.loop lp))/\d.w0.n0=c.w0.n0/\d.w0.gl=c.w0.gl/\d.w0.wd=j.putObj l (.loop lp)/\Turns c.w0.gl c.Pr c.w0.wd d.w0.wd/\(∀ b,d.Pr b->c.w0.heap.size<=b\/c.Pr b)/\(∀ b,d.M0 b->c.M0 b\/(c.w0.n0<=b/\(c.w0.heap.size<=b\/c.Pr b))) /\
     (∀ b n,b<c.w0.n0->c.Pr b->b≠l->Room c.w0.wd b n->Room d.w0.wd b n)/\(∀ b,c.M0 b->d.M0 b)/\d.β0=c.β0/\d.hp0=c.hp0/\d.Wr=c.Wr/\d.t0=c.t0/\d.rd=some l/\(l,Obj.loop lp)∈d.L0/\(∀ p∈Ln,p∈d.L0)/\(d.Ys=λ_=>False):=by
  obtain⟨M,β,L,ds,r,i1,i2,i3,u⟩:=i;obtain⟨V,U,S⟩:=u.lies _ (u.sub _ hl);refine⟨V,?_⟩;have N:l<j.heap.size:=(qAa.1 V).1;have Q:∀ b,b≠l->(j.putObj l (.loop lp)).heap[b]?=j.heap[b]?:=λb g=>World.putObj_heap_other g;have z:(j.putObj l (.loop lp)).heap.size=j.heap.size:=World.putObj_size;have hrs:=r.size;have hn:=c.w0.le';have ht:Turns c.w0.gl c.Pr c.w0.wd (j.putObj l (.loop lp)):=(r.turns i3).trans (Turns.putObj j l _) λb _ g=>by rw[show b=l from g];exact I
  let L2:List (Nat × Obj):=(l,.loop lp)::L.filter λp=>p.1 != l;have y:∀ p,p∈L->p.1≠l->p∈L2:=λp hp q=>List.mem_cons_of_mem _ (List.mem_filter.2 ⟨hp,by simpa using q⟩);refine⟨{w0:=⟨j.putObj l (.loop lp),c.w0.n0,by rw[z];omega,c.w0.gl⟩,Pr:=λb=>Owned β A.heap b\/b=l,M0:=M,β0:=c.β0,hp0:=c.hp0,Wr:=c.Wr,t0:=c.t0,rd:=some l,L0:=L2,nm:=c.nm},?_,rfl,rfl,rfl,ht,λb g=>?_,r.mnew,λb n g hp q hr=>(r.room b n g hp hr).of_block (Q b q),r.mold,rfl,rfl,rfl,rfl,rfl,by simp[L2],λp hp=>?_,rfl⟩
  . refine⟨M,β,L2,ds,r.to rfl (λb g=>⟨g,Q b λe=>S (e▸g)⟩) (λs b o H g=>?_) (λb g=>by rw[z];exact r.msub b g) (λb g=>.inl g) (λb g=>g) (λ_ _ _=>rfl) (λ_ _ _ _ h=>h) (qNr _) rfl rfl rfl,i1,i2,.refl _ _,⟨λp hp=>?_,λp hp=>hp,u.marks,u.nodup,λD hD=>?_,λl' hl'=>?_,u.size,u.tmps,u.one,λ_ h=>h.elim,by show c.nm<=(j.putObj l (.loop lp)).heap.size;rw[z];have:=u.nml;omega⟩⟩
    . obtain⟨B,E,g3,g4⟩:=r.own s b o H g;exact⟨Q b λe=>U (e▸⟨s,o,H,g⟩),B,by rw[z];exact E,.inr (.inl ⟨s,o,H,g⟩),g4⟩
    . rcases List.mem_cons.1 hp with rfl | hp
      . exact⟨World.putObj_heap_same N,U,S⟩
      . obtain⟨J,hp2⟩:=List.mem_filter.1 hp;obtain⟨B,E,g3⟩:=u.lies p J;grind
    . obtain⟨B,E,_⟩:=u.mark D hD;suffices q:D≠l from⟨y _ B q,E,.inl (y _ B q)⟩;intro e;have:=(u.lies _ B).1;grind
    grind
  . rcases g with h | rfl
    . exact(r.owned_lt h).2.2
    grind
  . obtain⟨h1,h2⟩:=R p hp;exact y p (u.sub p h1) h2
end
end
section
open Go.RowKit
section
variable {P:Program} {T:Tab} {C:CallF} {F:FI} {n:Option Nat} {m:Nat} {α:Type} {cx:Cx} {st:St} {a:Act} {w:World}
theorem opsOf_dst:∀{c:Code} {o:Oper} {d:Nat},o∈opsOf c->o.dst=some d->d∈codeDsts c
 | .region id ops draw,o,d,ho,hd=>by simp only[codeDsts,List.mem_filterMap];exact⟨o,ho,hd⟩
 | .seq a b,o,d,ho,hd=>by simp only[opsOf,List.mem_append]at ho;simp only[codeDsts,List.mem_append];exact ho.imp (λh=>opsOf_dst h hd) λh=>opsOf_dst h hd
 | .cond _ a b,o,d,ho,hd=>by simp only[opsOf,List.mem_append]at ho;simp only[codeDsts,List.mem_append];exact ho.imp (λh=>opsOf_dst h hd) λh=>opsOf_dst h hd
 | .block _ c,o,d,ho,hd=>by simp only[opsOf]at ho;simp only[codeDsts];exact opsOf_dst ho hd
 | .loop c,o,d,ho,hd=>by simp only[opsOf]at ho;simp only[codeDsts];exact opsOf_dst ho hd
 | .scope c,o,d,ho,hd=>by simp only[opsOf]at ho;simp only[codeDsts];exact opsOf_dst ho hd
 | .rangeFunc _ ps a b,o,d,ho,hd=>by simp only[opsOf,List.mem_append]at ho;simp only[codeDsts,List.mem_append];exact .inr (ho.imp (λh=>opsOf_dst h hd) λh=>opsOf_dst h hd)
 | .skip,o,d,ho,_ | .exit _,o,d,ho,_ | .ret,o,d,ho,_ | .label _,o,d,ho,_ | .goto ..,o,d,ho,_ | .refuse ..,o,d,ho,_=>by simp[opsOf]at ho
theorem enter_loop{M:Nat->Prop}{β:Nat->Option (Nat × Nat)}{L:List (Nat × Obj)}{ds:List Nat}(r:Rel cx.w0 cx.Pr cx.M0 M β st a w)(i1:∀ s,argSite<=s->β s=cx.β0 s)(i2:ArgsLike cx.hp0 st.heap)(i3:DrawnLe cx.w0.gl cx.w0.drawn w.drawn)(d:Fix cx M β st.heap a w L ds)(S:NoLog cx.hp0)(fn:FuncId)(ps:Array Tmp)(y z:Code) :
    ∃(l:Nat) (mark:List Deferred) (W1:World) (dB:Nat) (Ln:List (Nat × Obj)) (dsn:List Nat),(Instr.enterLoop fn a.tmps ps y z cx.rd).run P w=.ok (l,mark) W1/\Grows cx.w0.gl w W1 /\
     ∀(F:FCfg) (c:Code),∃ O,InvL cx {a with defers:=mark++a.defers} Ln dsn l W1 (forgetAt F c st) O (λ_=>False) W1 {state:=.ready,pending:=none,fn,tmps:=a.tmps,params:=ps,assign:=y,body:=z,defers:=dB}/\(∀ b,M b->¬ O b)/\∀ p∈Ln,p.1<W1.heap.size/\¬ M p.1:=by
  have Q:=r.size;have hn:=cx.w0.le'
  have I:∀(W1:World) (l:Nat) (mark:List Deferred) (Ln:List (Nat × Obj)) (dsn:List Nat) (lp:Loop),Grows cx.w0.gl w W1->w.heap.size<=l->W1.heap[l]?=some (.loop lp)->(∀ p∈Ln,W1.heap[p.1]?=some p.2/\p.1≠l/\(p∈L\/w.heap.size<=p.1))->(∀ p∈L,p∈Ln) ->
      mark++a.defers=dsn.map markOf->dsn.Nodup->(∀ D∈dsn,(D,Obj.deferred (some []))∈Ln/\cx.nm<=D/\((D,Obj.deferred (some []))∈cx.L0\/cx.w0.heap.size<=D))->∀(F:FCfg) (c:Code),∃ O,InvL cx {a with defers:=mark++a.defers} Ln dsn l W1 (forgetAt F c st) O (λ_=>False) W1 lp/\(∀ b,M b->¬ O b)/\∀ p∈Ln,p.1<W1.heap.size/\¬ M p.1:=by
    intro W1 l mark Ln dsn lp g hl B q u hm U V F c;have E:=g.size;have Z:∀ b,b<w.heap.size->W1.heap[b]?=w.heap[b]?:=λb e=>g.keep b e λh=>h;have N:Rel cx.w0 cx.Pr cx.M0 M β st a W1:=by
     refine r.to rfl (λb e=>⟨e,Z b (r.msub b e)⟩) (λs b o hs e=>?_) (λb e=>Nat.lt_of_lt_of_le (r.msub b e) E) r.mnew r.mold (λb e hp=>?_) (λb n e hp hr=>?_) (Nat.le_trans r.size E) (g.os.trans r.os) (g.tape.trans r.tape) (g.output.trans r.output)
     . obtain⟨H,g2,i⟩:=r.own s b o hs e;grind
     . rw[Z b (by omega)];exact r.keep b e hp
     . exact(r.room b n e hp hr).of_block (Z b (by omega))
    have ra:=N.slots (a':={a with defers:=mark++a.defers}) (env:=st.env) N.tsize N.env;obtain⟨rf,af,j⟩:=forgetAt_rel ra F c;have hMl:¬ M l:=λh=>by have:=r.msub l h;omega
    have hOl:¬ Owned β st.heap l:=λh=>by have:=(r.owned_lt h).2.1;omega
    refine⟨λb=>Owned β (forgetAt F c st).heap b\/b=l,⟨M,β,rf,i1,i2.trans af,i3.trans g.drawn,⟨λp hp=>?_,λp hp=>u p (d.sub p hp),hm,U,V,λl' Y=>?_,d.size,d.tmps,λh=>absurd S h,d.yl,d.nml⟩,⟨B,hMl,λh=>hOl (j l h),λp hp=>(q p hp).2.1,by omega,qNr _⟩,λb=>Iff.rfl,λb e=>.inl (by have:=r.msub b e;omega),λp hp=>(qAa.1 (q p hp).1).1,(qAa.1 B).1,λ_ h=>h.elim⟩,λb e ho=>?_,λp hp=>?_⟩
    . obtain⟨H,g2,i⟩:=q p hp;rcases i with i | i
      . obtain⟨k1,k2,k3⟩:=d.lies p i;exact⟨H,λh=>k2 (j _ h),k3⟩
      . exact⟨H,λh=>by have:=(r.owned_lt (j _ h)).2.1;omega,λh=>by have:=r.msub _ h;omega⟩
    . obtain⟨r0,A⟩:=d.rd l' Y;grind
    . rcases ho with h | rfl
      . exact(r.owned_lt (j b h)).1 e
      grind
    . obtain⟨H,g2,i⟩:=q p hp;refine⟨(qAa.1 H).1,λh=>?_⟩;rcases i with i | i
      . exact(d.lies p i).2.2 h
      . have:=r.msub _ h;omega
  have t:∀ p∈L,p.1<w.heap.size:=λp hp=>(qAa.1 (d.lies p hp).1).1;cases R:cx.rd with
  | none =>
   refine⟨_,_,_,w.heap.size,(w.heap.size,.deferred (some []))::L,w.heap.size::ds,run_enterLoop_outer fn a.tmps ps y z,(Grows.alloc w _).trans (Grows.alloc _ _) (λ_ _ h=>h),?_⟩;refine I _ _ _ _ _ _ ((Grows.alloc w _).trans (Grows.alloc _ _) (λ_ _ h=>h)) (by omega) ?_ (λp hp=>?_) (λp hp=>List.mem_cons_of_mem _ hp) (by rw[d.marks];rfl) ?_ λD J=>?_
   . have:=World.alloc_heap_new (w.alloc (.deferred (some []))) (.loop {state:=.ready,pending:=none,fn,tmps:=a.tmps,params:=ps,assign:=y,body:=z,defers:=w.heap.size});grind[World.size_alloc]
   . rcases List.mem_cons.1 hp with rfl | hp
     . exact⟨(Below.heap_alloc _ _ _ (by simp)).trans (World.alloc_heap_new w _),by simp,.inr (qNr _)⟩
     . have:=t p hp;refine⟨?_,by omega,.inl hp⟩;rw[Below.heap_alloc _ _ _ (by simp;omega),Below.heap_alloc _ _ _ this];exact(d.lies p hp).1
   . refine List.nodup_cons.2 ⟨λh=>?_,d.nodup⟩;have:=t _ (d.mark _ h).1;omega
   . rcases List.mem_cons.1 J with rfl | J
     . exact⟨by simp,by have:=d.nml;omega,.inr Q⟩
     . exact⟨List.mem_cons_of_mem _ (d.mark D J).1,(d.mark D J).2⟩
  | some l0 =>obtain⟨r0,A⟩:=d.rd l0 R;refine⟨_,_,_,r0.defers,L,ds,run_enterLoop_inner (d.lies _ A).1 fn a.tmps ps y z,Grows.alloc w _,?_⟩;refine I _ _ _ _ _ _ (Grows.alloc w _) (qNr _) (World.alloc_heap_new w _) (λp hp=>?_) (λp hp=>hp) (by rw[d.marks];rfl) d.nodup d.mark;have:=t p hp;exact⟨(Below.heap_alloc _ _ _ this).trans (d.lies p hp).1,by omega,.inl hp⟩
def Ex.code:Ex->Code
 | .normal=>.skip
 | .exit id=>.exit id
 | .ret=>.ret
theorem sim_range(ok:TabOk P T){gl:Option (List (Nat × Obj))}(hS:SeqOk P T gl C){x0:α}{f:Operand}{ps:Array Tmp}{y z:Code}
    (hy:SimC T C F n false P 0 (λ_:Ex->St->Option α=>True) (λi:CxN gl=>i.1.rd) (λi=>OpFit i.1) (λi x st a w=>x=x0/\Inv i.1 st a w) y)
    (hz:SimC T C F n false P 0 (λ_:Ex->St->Option α=>True) (λi:CxN gl=>i.1.rd) (λi=>OpFit i.1) (λi x st a w=>x=x0/\Inv i.1 st a w) z) :
    SimC T C F n false P 0 (λ_:Ex->St->Option α=>True) (λi:CxN gl=>i.1.rd) (λi=>OpFit i.1) (λi x st a w=>x=x0/\Inv i.1 st a w) (.rangeFunc f ps y z):=by
  intro ⟨cx,hnl,B⟩ st a w k x Q _ h hd _ hw hi hQ;simp only at hw hi hQ ⊢;obtain⟨g,V,fi,res,hv,hf,hpy,hpb,hcall,h⟩:=runCode_range h;simp only[drawsOk,qBa]at hd;obtain⟨hfun,hit⟩:=hS g fi V res hf hpb hcall;obtain⟨hx0,M,β,L,ds,r,i1,i2,i3,fx⟩:=hi;subst hx0;have hev:=r.evalO f;rw[hv]at hev;obtain⟨lb,hlb,hlbn,hlbv⟩:∃ lb:Array Value,a.eval f=.func (.func g) #[] lb/\lb.size=V.length/\∀ i c,V[i]?=some c->VR w M c (lb.getD i undef):=by
   generalize a.eval f=c at hev;cases hev with
   | p _ _ hvr=>cases hvr with | fn _ _ vs hn hc=>exact⟨vs,rfl,hn,hc⟩
  have hbody:∃ c,fi.fn.body=some c:=by grind[bodyPlain]
  refine wpIn_rangeFunc λfn _=>?_;obtain⟨l,mark,W1,dB,Ln,dsn,hrun,hg,hfin⟩:=enter_loop (P:=P) r i1 i2 i3 fx hnl fn ps y z;obtain⟨O0,hI0,hMO,hLnM⟩:=hfin F.cfg (.seq y z);refine⟨l,mark,W1,{target:=.fn (.func g) lb,args:=#[.func (.yield l) #[] #[]]},W1,g,#[.func (.yield l) #[] #[]]++lb,W1,hrun,?_,λ_ _=>trivial,?_,FW_depth cx.rd,?_⟩
  . simp_all[resolve,go_sem]
  . simp only[invoke];exact enter_run ok hf hbody _
  refine callsIn_fw _ ?_;generalize u:({state:=.ready,pending:=none,fn,tmps:=a.tmps,params:=ps,assign:=y,body:=z,defers:=dB}:Loop)=rec at hI0;generalize ha':({a with defers:=mark++a.defers}:Act)=a' at hI0;have hat:a'.tmps=a.tmps:=by rw[<- ha']
  let J:List PV->(Nat->Prop)->(Nat->Prop)->World->Prop:=λr O K W=>∃ st,rangeL (forgetAt F.cfg (.seq y z)) fi.cfg.yk ps.toList (rngWs ps y z) (roundC T C F n y z) r st k=some x/\InvL cx a' Ln dsn l W1 st O K W rec;let Jx:(Nat->Prop)->(Nat->Prop)->World->Prop:=λO K W=>∃(I:Ex) (st:St),k I st=some x/\(I=.ret\/∃ id,I=.exit id)/\InvL cx a' Ln dsn l W1 st O K W {rec with state:=.done,pending:=some I.code};have hW1:cx.w0.n0<=W1.heap.size:=by have:=hg.size;have:=r.size;have:=cx.w0.le';omega
  refine Calls.mono (hit W1 M l lb J Jx O0 (λp hp=>by rw[<- B]at hp;exact⟨(r.glob p hp).1,(hg.keep _ (r.msub _ (r.glob p hp).1) λh=>h).trans (r.glob p hp).2⟩) hlbn (λi c hc=>(hlbv i c hc).mono λb q=>⟨q,hg.keep b (r.msub b q) λh=>h⟩) (λb q=>⟨Nat.lt_of_lt_of_le (r.msub b q) hg.size,hMO b q⟩)
   (λr O K W W' S ⟨st,A,E⟩ g hS=>⟨st,A,E.bears (B▸g) hS⟩) (λO K W W' S ⟨I,st,A,E,h3⟩ g hS=>⟨I,st,A,E,h3.bears (B▸g) hS⟩) (λr O K W ⟨st,A,E⟩ b q=>q.elim (E.lt b) (E.seen b)) ?_ ⟨_,h,hI0⟩) ?_
  . -- one round
    rintro vs xs O K W Mi cargs ⟨st,A,E⟩ hWsz hMi hcn hcv;clear h hI0 hlbv i1 i2 i3 fx hv;simp only[rangeL]at A;split at A
    . cases A
    rename_i env henv;rw[forceSt_eq]at A;obtain⟨M',β',r',e1,e2,e3,f',⟨k1,k2,k3,k4,k5,k6⟩,hO,nK1,nK2,nK3,nK4⟩:=E;have hl:l<W.heap.size:=(qAa.1 k1).1;have hrs':=r'.size;have hOlt:∀ b,O b->b<W.heap.size:=λb q=>by
     rcases(hO b).1 q with h | rfl
     . exact(r'.owned_lt h).2.1
     . exact hl
    let M1:Nat->Prop:=λb=>M' b\/Mi b;have hM1O:∀ b,M1 b->¬ O b:=λb q Y=>by
     rcases q with q | q
     . rcases(hO b).1 Y with h | rfl
       . exact(r'.owned_lt h).1 q
       . exact k2 q
     grind
    have hle:cx.w0.n0<=W.heap.size:=by have:=cx.w0.le';omega
    have r1:Rel ⟨W,cx.w0.n0,hle,cx.w0.gl⟩ O M1 M1 β' st a' W:=by
     refine r'.to rfl (λb q=>⟨.inl q,rfl⟩) (λs b o hs q=>?_) (λb q=>?_) (λb q=>.inl q) (λb q=>q) (λ_ _ _=>rfl) (λ_ _ _ _ h=>h) (qNr _) rfl rfl rfl
     . obtain⟨g1,g2,g3,g4⟩:=r'.own s b o hs q;have Y:O b:=(hO b).2 (.inl ⟨s,o,hs,q⟩);grind
     grind
    obtain⟨p1,p2,p3,p4,p5⟩:=setPs_ok (w:=W) (M:=M1) (β:=β') (h:=look st.heap) (cs:=cargs.toList) (tmps:=a'.tmps) henv (by simp[hcn]) (Nat.zero_le _) (λj c hc=>by
     have:=hcv j c (by simpa using hc);have e:cargs.toList.getD j undef=cargs.getD j undef:=by simp[qLb,qAb]
     rw[e];exact this.mono λb q=>⟨.inr q,rfl⟩) r1.tsize r1.env
    have Z:=run_yield (P:=P) (args:=cargs) k1 (by rw[<- u];simpa using p1);rw[<- zip_foldl]at p3 p4 p5;have etm:rec.tmps=a'.tmps:=by rw[<- u,hat]
    have eps:rec.params=ps:=by rw[<- u]
    rw[eps,etm]at Z;generalize htm:(ps.zip cargs).foldl (λtmps (t,a)=>tmps.setIfInBounds t a) a'.tmps=tmps at p3 p4 p5 Z;have eas:rec.assign=y:=by rw[<- u]
    have ebo:rec.body=z:=by rw[<- u]
    have est:rec.state=.ready:=by rw[<- u]
    have epe:rec.pending=none:=by rw[<- u]
    rw[eas,ebo]at Z;refine⟨rec.fn,tmps,y,z,Z,roundIn_of_wpIn trivial ?_⟩;let cA:Cx:=cx1 cx hle O M1 (rngWs ps y z) tmps l ((l,.loop rec)::Ln);have hIA:Inv cA {st with env:=env} {tmps:=tmps,defers:=[]} W:=by
     refine⟨M1,β',(l,.loop rec)::Ln,[],r1.slots (a':={tmps:=tmps,defers:=[]}) (by rw[p2];show st.env.length<=tmps.size;rw[p3];exact r1.tsize) p4,e1,e2,.refl _ _,⟨λp hp=>?_,λp hp=>hp,rfl,List.nodup_nil,λD hD=>by simp at hD,λl' hl'=>?_,rfl,λ_ _=>rfl,λ_=>rfl,λ_ h=>h.elim,Nat.le_trans f'.nml hrs'⟩⟩
     . rcases List.mem_cons.1 hp with rfl | hp
       . grind
       . obtain⟨g1,g2,g3⟩:=f'.lies p hp;grind
     . cases hl';simp
    have hdst:(∀ o∈opsOf y,OpFit cA o)/\∀ o∈opsOf z,∀ d,o.dst=some d->d∈rngWs ps y z:=⟨λo Y=>⟨λd hd=>by have:=opsOf_dst Y hd;show d∈rngWs ps y z;simp[rngWs,this],λ_ _ h=>h.elim⟩,λo Y d hd=>by have:=opsOf_dst Y hd;simp[rngWs,this]⟩;let kr:Ex->St->Option α:=rnext (forgetAt F.cfg (.seq y z)) (rngWs ps y z) (λst=>rangeL (forgetAt F.cfg (.seq y z)) fi.cfg.yk ps.toList (rngWs ps y z) (roundC T C F n y z) xs st k) k;let kn:Ex->St->Option α:=λI st'=>match I with
        | .normal=>seqK T C F n z kr .normal st'
        | _=>none
    have h1':runCode T C F n y {st with env:=env} kn=some _:=(plain_k y hpy _ kn (seqK T C F n z kr) rfl).trans A;clear A;refine hy ⟨cA,hnl,B⟩ _ _ W _ _ _ trivial h1' hd.1 (λh=>by cases h) hdst.1 ⟨rfl,hIA⟩ ?_;intro I x' st' a1 w1 N ⟨hx1,hI1⟩;subst hx1;cases I with
    | exit id=>cases N
    | ret=>cases N
    | normal =>
    have N:runCode T C F n z (Skm.forgetAt F.cfg z st') kr=some x':=N;have hI1':=hI1.forgetAt F.cfg z;obtain⟨q1,cB,hIB,n0B,gB,wB,tB,prB,mB,roomB,moB,b0B,hpB,wrB,t0B,rdB,lB,LnB,ysB⟩:=Inv.busy (Ln:=Ln) hI1' (l:=l) (lo:=.loop rec) (by simp[cA,cx1]) (by simp) rfl {rec with state:=.busy} (λp hp=>⟨List.mem_cons_of_mem _ hp,k4 p hp⟩) (rngWs ps y z) rfl ((hO l).2 (.inr rfl)) hl;refine⟨_,run_beginRound q1 est,?_⟩;have hO':∀ b,O b->cx.w0.heap.size<=b\/cx.Pr b:=λb h=>by
     rcases(hO b).1 h with h | rfl
     . exact(r'.owned_lt h).2.2
     omega
    have sb:SubCx cx cB M' a' Ln (rngWs ps y z) l W O:=by
     refine⟨n0B,gB,tB,λb q=>(prB b q).symm,λb q=>?_,λb j q Y hr=>roomB b j q Y (λe=>?_) hr,λb q=>moB b (.inl q),b0B,hpB,wrB,by rw[t0B];exact p3,λt ht=>by rw[t0B];exact p5 t λh=>ht (by simp only[rngWs,List.mem_append];exact .inl h),LnB⟩
     . rcases mB b q with (h | h) |⟨h,h'⟩
       . exact r'.mnew b h
       . rcases(hMi b h).2.2 with h | h
         . exact r.mnew b h
         omega
       . refine .inr ⟨h,?_⟩;rcases h' with h' | h'
         . have h':W.heap.size<=b:=h';left;omega
         . exact hO' b h'
     . obtain⟨Cs,e',fr,hc,_⟩:=hr;grind
    have hzz:=hz ⟨cB,by rw[hpB];exact hnl,gB.trans B⟩ _ a1 _ _ _ (roundPost P l λe W'=>Turns gl O W W'/\∃ O' K':Nat->Prop,((e=.returned (.bool true)/\J xs O' K' W')\/(e=.returned (.bool false)/\Jx O' K' W'))/\(∀ b,O' b->O b\/W.heap.size<=b)/\∀ b,K' b->K b\/Mi b\/O b\/(W.heap.size<=b/\b<W'.heap.size)) trivial N hd.2 (λh=>by cases h) (λo Y=>⟨λd hd=>by show cB.Wr d;rw[wrB];exact hdst.2 o Y d hd,λt _ h=>by rw[ysB]at h;exact h.elim⟩) ⟨rfl,hIB⟩ ?_
    . simp only[rdB]at hzz;exact hzz
    intro ex2 x2 st3 a3 W3 H ⟨hx2,hI3⟩;subst hx2;have hgrow3:W.heap.size<=W3.heap.size:=by obtain⟨_,_,_,_,r3,_⟩:=hI3;have A:=r3.size;have E:=sb.turns.size;grind
    have aek:∀ b,cB.M0 b->b<W3.heap.size:=by obtain⟨_,_,_,_,r3,_⟩:=hI3;exact λb q=>r3.msub b (r3.mold b q)
    let K':Nat->Prop:=λb=>K b\/Mi b\/O b\/(W.heap.size<=b/\b<W3.heap.size);have key:=λlp'=>InvL.round (W1:=W1) r' f' e3 k4 k5 k6 hO sb lB hI3 lp' nK2 nK3 (K':=K') (λb q=>by
     rcases mB b q with (h | h) |⟨_,h⟩
     . grind
     . grind
     . rcases h with h | h
       . have h:W.heap.size<=b:=h;grind
       . exact .inr (.inr (.inr (.inl h)))) (λb q=>.inr (.inr (.inl q))) (λb A E=>.inr (.inr (.inr ⟨A,E⟩))) (λb q=>by
     grind)
    have hput:∀ o:Obj,(W3.putObj l o).heap.size=W3.heap.size:=λo=>World.putObj_size;have hKs:∀(o:Obj) (b:Nat),K' b->K b\/Mi b\/O b\/(W.heap.size<=b/\b<(W3.putObj l o).heap.size):=λo b q=>by rw[hput];exact q
    cases ex2 with
    | normal =>
     obtain⟨q3,O',U,R,ht⟩:=key rec;obtain⟨O'',hI'',hsub⟩:=U.forgetAt F.cfg (.seq y z);have he:=run_endRound (P:=P) none q3;have erec:({{rec with state:=.busy}with state:=if(none:Option Code).isNone then .ready else .done,pending:=none}:Loop)=rec:=by grind
     simp only[kr,rnext,forceSt_eq]at H;refine⟨_,_,he,?_⟩;rw[erec];exact⟨B▸ht,O'',K',.inl ⟨rfl,_,H,hI''⟩,λb q=>R b (hsub b q),hKs _⟩
    | exit id =>obtain⟨q3,O',U,R,ht⟩:=key {rec with state:=.done,pending:=some (.exit id)};simp only[kr,rnext,forceSt_eq]at H;exact⟨_,_,run_endRound (P:=P) (some (.exit id)) q3,B▸ht,O',K',.inr ⟨rfl,.exit id,_,H,.inr ⟨id,rfl⟩,U⟩,R,hKs _⟩
    | ret =>obtain⟨q3,O',U,R,ht⟩:=key {rec with state:=.done,pending:=some .ret};simp only[kr,rnext,forceSt_eq]at H;exact⟨_,_,run_endRound (P:=P) (some .ret) q3,B▸ht,O',K',.inr ⟨rfl,.ret,_,H,.inl rfl,U⟩,R,hKs _⟩
  . -- behind the sequence
    rintro e W2 ⟨⟨v,rfl⟩,O,K,(⟨st,A,E⟩ |⟨I,st,A,E,h3⟩)⟩
    . simp only[rangeL]at A;have hl:W2.heap[l]?=some (.loop rec):=by obtain⟨_,_,_,_,_,_,_,⟨h,_⟩,_⟩:=E;exact h
      have hend:=run_endLoop (P:=P) hl (by rw[<- u];simp);rw[show rec.pending=none by rw[<- u]]at hend;refine⟨none,_,hend,?_⟩;exact hQ .normal _ st a' _ A ⟨rfl,E.close _⟩
    . have hl:W2.heap[l]?=some (.loop {rec with state:=.done,pending:=some I.code}):=by obtain⟨_,_,_,_,_,_,_,⟨h,_⟩,_⟩:=h3;exact h
      refine⟨some I.code,_,run_endLoop (P:=P) hl (by simp),?_⟩;rcases E with rfl |⟨id,rfl⟩
      . exact wpIn_ret (hQ .ret _ st a' _ A ⟨rfl,h3.close _⟩)
      . exact wpIn_exit (hQ (.exit id) _ st a' _ A ⟨rfl,h3.close _⟩)
end
end
section
variable {x:PV}{v:AV}{ss:List Nat}{n s:Nat}{b:Blk}{h:Nat->Option Blk}{bl:List Blk}{cargs:Array Value}{gl:Option (List (Nat × Obj))}{X:Ext}
section
variable {P:Program} {T:Tab} {w0:Base} {Pr M0 M:Nat->Prop} {β β0:Nat->Option (Nat × Nat)} {hp0:Heap} {st st':St} {a:Act} {w:World}
def resultOf(tmps:Array Value):ResultVar->Sem Value
 | .tmp t=>pure (tmps.getD t undef)
 | .cell a t=>do loadVar t (<- asAddr (tmps.getD a undef))
theorem resOf_ok(ok:TabOk P T)(r:Rel w0 Pr M0 M β st a w){x:ResultVar}(h:resOf T st.env (look st.heap) x=some v):∃ c,(resultOf a.tmps x).run P w=.ok c w/\AR w M β (look st.heap) v c:=by
 cases x with
 | tmp t =>simp only[resOf,qOa]at h;subst h;exact⟨_,by simp[resultOf],r.slot t⟩
 | cell t ty =>
  simp only[resOf]at h;split at h
  . rename_i s n q u;split at h
    . rename_i cs i;have d:=r.slot t;rw[q]at d;have g:(stepLoad T (look st.heap) ty (.ptr s 0 0)).run some=some {val:=v}:=by simp only[stepLoad,u,i,h];rfl
      obtain⟨D,c,A,z,y⟩:=(sim_load ok (h':=look st.heap) (λ_ _ h=>h) r.heap d).sim Eff some _ g;cases A;refine⟨c,?_,z⟩;generalize H:a.tmps.getD t undef=p at d y;cases d with
      | ptrB _ _ B b o e j=>grind[Instr.loadAt,Instr.sureAddr,resultOf,asAddr]
      | ptrA _ _ _ sa ks xs b o e j E=>rw[i]at e;cases e
    . cases h
  . cases h
theorem resAll_ok(ok:TabOk P T)(r:Rel w0 Pr M0 M β st a w):∀{l:List ResultVar} {vs:List AV},resAll T st.env (look st.heap) l=some vs->∃ cs,(l.mapM (resultOf a.tmps)).run P w=.ok cs w/\ListR w M β (look st.heap) vs cs
 |[],vs,h=>by simp[resAll]at h;subst h;exact⟨[],by simp,rfl,λi x c h=>by simp at h⟩
 | x::l,vs,h=>by
  simp only[resAll]at h;split at h
  . rename_i v j t q;cases h;obtain⟨c,A,z⟩:=resOf_ok ok r t;obtain⟨cs,u,g⟩:=resAll_ok ok r q;refine⟨c::cs,by simp[A,u],by simp[g.1],λi y d e hd=>?_⟩;cases i with
    | zero=>simp at e hd;subst e hd;exact z
    | succ i=>simp at e hd;exact g.2 i y d e hd
  . cases h
theorem run_results{fn:Func}{tmps:Array Value}{cs:List Value}(h:(fn.results.toList.mapM (resultOf tmps)).run P w=.ok cs w):(results fn tmps).run P w=.ok (wrapV cs) w:=by
 have e:results fn tmps=(do let vs <- fn.results.mapM (resultOf tmps);pure (if h:vs.size=1 then vs[0]else .tuple vs)):=rfl;rw[e,Array.mapM_eq_mapM_toList];simp only[map_eq_pure_bind,bind_assoc,pure_bind,Sem.run_bind,h,qRa,Sem.run_pure];congr 1
 match cs with
 |[]=>rfl
 |[c]=>rfl
 | _::_::_=>rfl
theorem dropAll_sub{hp:Heap}(h:look (dropAll hp ss) s=some b):look hp s=some b/\s ∉ ss:=by grind[look_dropAll]
theorem deep1_sites(hd:deep1 h v=some (x,ss)):∀ s∈ss,(h s).isSome=true:=by unfold deep1 at hd;grind
theorem deeps1_sites{h:Nat->Option Blk}:∀{vs:List AV} {xs:List PV} {ss:List Nat},deeps1 h vs=some (xs,ss)->∀ s∈ss,(h s).isSome=true
 |[],xs,ss,hd=>by simp[deeps1]at hd;obtain⟨_,rfl⟩:=hd;simp
 | v::r,xs,ss,hd=>by
  simp only[deeps1]at hd;split at hd
  . rename_i e d;cases hd;intro s c;rcases List.mem_append.1 c with c | c
    . exact deep1_sites e s c
    . exact deeps1_sites d s c
  . cases hd
theorem deepC_sites(hd:deepC h v=some (x,ss)):∀ s∈ss,(h s).isSome=true:=by
 unfold deepC at hd;split at hd
 . split at hd
   . rename_i d;split at hd
     . rename_i e;cases hd;intro s c;rcases List.mem_cons.1 c with rfl | c
       . rw[d];rfl
       . exact deeps1_sites e s c
     . cases hd
   . cases hd
 . exact deep1_sites hd
theorem deepCs_sites{h:Nat->Option Blk}:∀{vs:List AV} {xs:List PV} {ss:List Nat},deepCs h vs=some (xs,ss)->∀ s∈ss,(h s).isSome=true
 |[],xs,ss,hd=>by simp[deepCs]at hd;obtain⟨_,rfl⟩:=hd;simp
 | v::r,xs,ss,hd=>by
  simp only[deepCs]at hd;split at hd
  . rename_i e d;cases hd;intro s c;rcases List.mem_append.1 c with c | c
    . exact deepC_sites e s c
    . exact deepCs_sites d s c
  . cases hd
theorem deep_sites(hd:deep h v=some (x,ss)):∀ s∈ss,(h s).isSome=true:=by
 unfold deep at hd;split at hd
 . split at hd
   . rename_i c;cases hd;exact deeps1_sites c
   . cases hd
 . split at hd
   . rename_i c;cases hd;exact deepCs_sites c
   . cases hd
 . exact deepC_sites hd
theorem retVals_ok(r:Rel w0 Pr M0 M β st a w){hA:Nat->Option Blk}{βA:Nat->Option (Nat × Nat)}(Z:∀ j blk,look st.heap (argSite+j)=some blk->hA (argSite+j)=some blk/\βA (argSite+j)=β (argSite+j)) :
    ∀{ts:List TypeId} {q:List RetMode} {vs:List AV} {cs:List Value} {Y:List AV} {hp:Heap},retVals T hp q ts vs=some Y->(∀ s b,look hp s=some b->look st.heap s=some b)->ListR w M β (look st.heap) vs cs ->
    ∃(S:List Nat) (ps:List (Option (Nat × Nat))),ResL T w (Mplus M β S) βA hA q ts Y cs ps/\(∀ s∈S,(look hp s).isSome=true/\s<argSite) /\
     (∀ b o,some (b,o)∈ps->∃ s o0,(look hp s).isSome=true/\s ∉ S/\s<argSite/\β s=some (b,o0))/\(retsFlat T q ts=true->ResL T w (Mplus (λ_=>False) β S) βA hA q ts Y cs ps)
  |[],q,[],cs,Y,hp,h,_,hl=>by
   simp[retVals]at h;subst h;have:cs=[]:=by have:=hl.1;simpa using this.symm
   subst this;exact⟨[],[],.nil q,by simp,by simp,λ_=>.nil q⟩
  | t::ts,q,v::vs,[],Y,hp,h,_,hl=>by have:=hl.1;simp at this
  | t::ts,q,v::vs,c::cs,Y,hp,h,hsub,hl=>by
   simp only[retVals]at h;obtain⟨U,hls⟩:=hl.cons;split at h
   . rename_i x ss d;split at h
     . rename_i xs hxs;cases h;have hsub':∀ s b,look (dropAll hp ss) s=some b->look st.heap s=some b:=λs b h=>hsub s b (dropAll_sub h).1;obtain⟨S,ps,k1,k2,k3,k4⟩:=retVals_ok r Z hxs hsub' hls;have upF:∀(ss:List Nat) b,Mplus (λ_=>False) β S b->Mplus (λ_=>False) β (ss++S) b:=λss b u=>u.imp id λ⟨s,o,I,Q⟩=>⟨s,o,by simp[I],Q⟩;have J:∀ s,(look (dropAll hp ss) s).isSome=true->(look hp s).isSome=true/\s ∉ ss:=λs h=>by obtain⟨b,u⟩:=Option.isSome_iff_exists.1 h;obtain⟨g1,g2⟩:=dropAll_sub u;grind
       revert d;generalize hm:q.headD .deep=m;intro d
       have plain:∀(x':AV),x=x'->ResR T w (Mplus M β S) βA hA (q.headD .deep) t x' c none->(retFlat T (q.headD .deep) t=true->ResR T w (Mplus (λ_=>False) β S) βA hA (q.headD .deep) t x' c none)->∃(S:List Nat) (ps:List (Option (Nat × Nat))),ResL T w (Mplus M β S) βA hA q (t::ts) (x::xs) (c::cs) ps/\(∀ s∈S,(look hp s).isSome=true/\s<argSite) /\
           (∀ b o,some (b,o)∈ps->∃ s o0,(look hp s).isSome=true/\s ∉ S/\s<argSite/\β s=some (b,o0))/\(retsFlat T q (t::ts)=true->ResL T w (Mplus (λ_=>False) β S) βA hA q (t::ts) (x::xs) (c::cs) ps):=by
         intro x' e hr hrF;subst e;refine⟨S,none::ps,.cons q t ts x xs c cs none ps hr k1 (λb o R h=>by cases h),λs D=>⟨(J s (k2 s D).1).1,(k2 s D).2⟩,λb o u=>?_,λH=>by simp only[retsFlat,qBa]at H;exact .cons q t ts x xs c cs none ps (hrF H.1) (k4 H.2) (λb o R h=>by cases h)⟩;rcases List.mem_cons.1 u with u | u
         . cases u
         . grind
       cases m with
       | deep =>
        simp only[retVal]at d;split at d
        . rename_i y A hd;cases B:shapeOk (shapeT T t).1 (shapeT T t).2 y&&A.all (λs=>Nat.blt s 100000)with
          | false=>rw[B]at d;cases d
          | true =>
           rw[B]at d;simp only[qCt,qOa,Prod.mk.injEq]at d;obtain⟨rfl,rfl⟩:=d;simp only[qBa]at B;obtain⟨d1,d2⟩:=deep_ok (M:=M) (β:=β) (λs b h=>r.heap s b (hsub s b h)) hsub hd U;have V:∀ s∈A,s<argSite:=λs D=>Nat.le_of_ble_eq_true (List.all_eq_true.1 B.2 s D);have hlive:∀ s∈A,(look hp s).isSome=true:=deep_sites hd;have up:∀ b,Mplus M β S b->Mplus M β (A++S) b:=λb u=>u.imp id λ⟨s,o,I,Q⟩=>⟨s,o,by simp[I],Q⟩;have hd1:ResR T w (Mplus M β (A++S)) βA hA .deep t (.p y) c none:=.deep t y c B.1 (d1.mono λb u=>⟨u.imp id λ⟨s,o,I,Q⟩=>⟨s,o,by simp[I],Q⟩,rfl⟩);refine⟨A++S,none::ps,.cons q t ts _ xs c cs none ps ?_ (k1.mono up) (λb o R h=>by cases h),λs D=>?_,λb o u=>?_,λH=>?_⟩
           . grind
           . grind
           . grind
           . simp only[retsFlat,qBa]at H;refine .cons q t ts _ xs c cs none ps ?_ ((k4 H.2).mono (upF _)) (λb o R h=>by cases h);have N:=H.1;rw[hm]at N ⊢;exact hd1.flat N
        . cases d
       | fresh =>
        simp only[retVal]at d;split at d
        . rename_i e hu;split at d
          . rename_i s z off len;split at d
            . rename_i sa ks ys D;cases B:sa==(shapeT T e).1&&Kd.beqs ks (shapeT T e).2&&Nat.blt s 100000 with
              | false=>rw[B]at d;cases d
              | true =>
               rw[B]at d;simp only[qCt,qOa,Prod.mk.injEq]at d;obtain⟨rfl,rfl⟩:=d;simp only[qBa,beq_iff_eq]at B;obtain⟨⟨rfl,hks⟩,V⟩:=B;have hks:=Kd.beqs_eq _ _ hks;subst hks;have V:s<argSite:=Nat.le_of_ble_eq_true V;have E:=hsub _ _ D;have hbr:=r.heap s _ E
               obtain ⟨p,hp1,hp2,hp3⟩:∃ p:Option (Nat × Nat),BR w (Mplus M β S) (λ_=>p) (λ_=>some (.arr (shapeT T e).1 (shapeT T e).2 ((ys.drop off).take len))) 0 (.arr (shapeT T e).1 (shapeT T e).2 ((ys.drop off).take len)) /\
                   AR w (Mplus M β S) (λ_=>p) (λ_=>some (.arr (shapeT T e).1 (shapeT T e).2 ((ys.drop off).take len))) (.slice 0 (shapeT T e).2.length 0 ((ys.drop off).take len).length) c/\(∀ b o,p=some (b,o)->∃ o0,β s=some (b,o0)):=by
                 cases U with
                 | sliceE _ _ a' ks' xs' base I Q =>
                  refine⟨none,?_,?_,λb o h=>by cases h⟩
                  . simp only[List.take_zero];exact .arrE _ _
                  . simp only[List.take_zero,List.length_nil];exact .sliceE 0 0 _ _ [] base rfl (by simp)
                 | slice _ _ _ a' ks' xs' b o cap I Q h3 h4 h5 =>
                  rw[E]at I;cases I;have L:((ys.drop off).take len).length=len:=by simp;omega
                  refine⟨some (b,o+off*(shapeT T e).2.length),?_,?_,λb' R h=>by cases h;exact⟨o,h3⟩⟩
                  . cases hbr with
                    | arrE=>simp only[List.drop_nil,List.take_nil];exact .arrE _ _
                    | arr _ _ _ b' R C e' fr g1 g2 g3 g4 g5 g6 =>
                     rw[h3]at g1;cases g1;refine .arr _ _ _ b _ C e' fr rfl g2 ?_ g4 (λx d=>g5 x (List.mem_of_mem_drop (List.mem_of_mem_take d))) λi x j c d hj=>?_
                     . rw[L,Nat.add_assoc,<- Nat.add_mul];exact Nat.le_trans (Nat.add_le_add_left (Nat.mul_le_mul_right _ (by omega)) _) g3
                     . have hi:i<len:=by grind
                       rw[List.getElem?_take,if_pos hi,List.getElem?_drop]at d;have:=(g6 (off+i) x j c d hj).mono (M':=Mplus M β S) λb u=>⟨.inl u,rfl⟩;grind
                  . rw[L];have:=AR.slice (M:=Mplus M β S) (β:=λ_=>some (b,o+off*(shapeT T e).2.length)) (h:=λ_=>some (.arr (shapeT T e).1 (shapeT T e).2 ((ys.drop off).take len))) 0 0 len (shapeT T e).1 (shapeT T e).2 ((ys.drop off).take len) b (o+off*(shapeT T e).2.length) cap rfl (by rw[L];omega) rfl h4 (by refine h5.mono ?_;grind);grind
               have hsl:(look hp s).isSome=true:=by rw[D];rfl
               have hfr:ResR T w (Mplus M β S) βA hA .fresh t (.fresh (shapeT T e).1 (shapeT T e).2 ((ys.drop off).take len)) c p:=.fresh t e _ c p hu hp1 hp2;have hap:∀ b o R,p=some (b,o)->some (b,R) ∉ ps:=λb o R e1 e2=>by obtain⟨o0,q0⟩:=hp3 b o e1;obtain⟨s',o0',q1,q2,q3,q4⟩:=k3 b R e2;obtain⟨g1,g2⟩:=J s' q1;obtain⟨blk,u⟩:=Option.isSome_iff_exists.1 g1;have:=r.inj s' s b o0' o0 (by rw[hsub _ _ u];rfl) (by rw[E];rfl) q4 q0;grind
               refine⟨S,p::ps,.cons q t ts _ xs c cs p ps ?_ k1 hap,λs' E=>⟨(J s' (k2 s' E).1).1,(k2 s' E).2⟩,λb o u=>?_,λH=>?_⟩
               . grind
               . grind
               . simp only[retsFlat,qBa]at H;refine .cons q t ts _ xs c cs p ps ?_ (k4 H.2) hap;have N:=H.1;rw[hm]at N ⊢;exact hfr.flat N
            . cases d
          . simp only[qOa,Prod.mk.injEq]at d;obtain⟨rfl,rfl⟩:=d;have B:c=.slice none 0 0:=by cases U;rename_i U;cases U;rfl
            subst B;have hne:∀ M,ResR T w M βA hA (q.headD .deep) t (.fresh (shapeT T e).1 (shapeT T e).2 []) (.slice none 0 0) none:=λM=>by rw[hm];exact .fresh t e [] _ none hu (.arrE _ _) (.sliceE 0 0 _ _ [] none rfl (by simp))
            grind
          . cases d
        . cases d
       | func g qs =>
        simp only[retVal]at d;split at d
        . rename_i f ys A hd;cases B:(f==g&&capsOk qs ys)&&A.all (λs=>Nat.blt s 100000)with
          | false=>rw[B]at d;cases d
          | true =>
           rw[B]at d;simp only[qCt,qOa,Prod.mk.injEq]at d;obtain⟨rfl,rfl⟩:=d;simp only[qBa,beq_iff_eq]at B;obtain⟨⟨rfl,hcq⟩,hcs⟩:=B;obtain⟨d1,d2⟩:=deep_ok (M:=M) (β:=β) (λs b h=>r.heap s b (hsub s b h)) hsub hd U;have V:∀ s∈A,s<argSite:=λs D=>Nat.le_of_ble_eq_true (List.all_eq_true.1 hcs s D);have hlive:∀ s∈A,(look hp s).isSome=true:=deep_sites hd;have up:∀ b,Mplus M β S b->Mplus M β (A++S) b:=λb u=>u.imp id λ⟨s,o,I,Q⟩=>⟨s,o,by simp[I],Q⟩;refine⟨A++S,none::ps,.cons q t ts _ xs c cs none ps ?_ (k1.mono up) (λb o R h=>by cases h),λs D=>?_,λb o u=>?_,λH=>?_⟩
           . rw[hm];exact .func f qs t ys c hcq (d1.mono λb u=>⟨u.imp id λ⟨s,o,I,Q⟩=>⟨s,o,by simp[I],Q⟩,rfl⟩)
           . grind
           . grind
           . simp only[retsFlat,qBa,hm,retFlat]at H;grind
        . cases d
       | alias j =>
        simp only[retVal]at d;split at d
        . rename_i s z off len e hu;cases B:s==argSite+j&&z==(shapeT T e).2.length with
          | false=>rw[B]at d;cases d
          | true =>
           rw[B]at d;simp only[qCt,qOa,Prod.mk.injEq]at d;obtain⟨rfl,rfl⟩:=d;simp only[qBa,beq_iff_eq]at B;obtain⟨rfl,rfl⟩:=B;have:∃ blk,look st.heap (argSite+j)=some blk:=by
            generalize (shapeT T e).2.length=z at U;cases U with
            | slice _ _ _ a ks xs b o cap D hl u hcap hr=>exact⟨_,D⟩
            | sliceE _ _ a ks xs base D hl=>exact⟨_,D⟩
           obtain⟨blk,u⟩:=this;obtain⟨g1,g2⟩:=Z j blk u;have hne:∀ M,ResR T w M βA hA (q.headD .deep) t (.slice (argSite+j) (shapeT T e).2.length off len) c none:=λM=>by rw[hm];exact .alias j t e off len c hu (U.slice_move u g1 g2)
           grind
        . cases d
     . cases h
   . cases h
  |[],q,v::vs,cs,Y,hp,h,_,_=>by simp[retVals]at h
  | t::ts,q,[],cs,Y,hp,h,_,_=>by simp[retVals]at h
theorem back_pure{b0:Blk}(e:pureBlk b0=true)(d:backBlkOk b=true)(c:backOk b0 b=true):pureBlk b=true:=by
 cases b with
 | log=>cases b0<;>simp[backOk,pureBlk]at e c
 | _=>exact d
theorem argsBack_ok{hp:Heap}:∀{bl bl':List Blk} {k:Nat},(∀ b∈bl,pureBlk b=true)->argsBack hp k bl=some bl'->bl'.length=bl.length/\∀(i:Nat) (b0 b1:Blk),bl[i]?=some b0->bl'[i]?=some b1->look hp (argSite+(k+i))=some b1/\pureBlk b1=true/\backOk b0 b1=true
 |[],bl',k,_,h=>by grind[argsBack]
 | b0::r,bl',k,hbl,h=>by
  simp only[argsBack]at h;split at h
  . rename_i b z q j;cases c:backBlkOk b&&backOk b0 b with
    | false=>rw[c]at h;cases h
    | true =>
     rw[c]at h;simp only[qCt,qOa]at h;subst h;simp only[qBa]at c;obtain⟨t,u⟩:=argsBack_ok (λb g=>hbl b (by simp[g])) j;refine⟨by simp[t],λi y c1 e d=>?_⟩;cases i with
     | zero=>simp at e d;subst e d;exact⟨q,back_pure (hbl b0 (by simp)) c.1 c.2,c.2⟩
     | succ i=>grind
  . cases h
theorem BR.pure_mono{M':Nat->Prop}{β':Nat->Option (Nat × Nat)}{h':Nat->Option Blk}{J:Nat}{blk:Blk}(Q:∀ b,M b->M' b)(N:BR w M β h s blk)(hp:pureBlk blk=true)(e:β' J=β s):BR w M' β' h' J blk:=by
 have g:∀ b,M b->M' b/\w.heap[b]?=w.heap[b]?:=λb h=>⟨Q b h,rfl⟩;have y:=N.pure_move (β':=β') (h':=h') hp e;cases y with
 | log=>simp[pureBlk]at hp
 | arrE=>exact .arrE _ _
 | arr _ _ _ b o C I fr H E D B A z=>exact .arr _ _ _ b o C I fr H E D B A λi x j c S R=>(z i x j c S R).mono g
 | box cs b o C I fr H E D B A z =>
  refine .box cs b o C I fr H E D B A λj c t=>?_;simp only[pureBlk,Option.isSome_iff_exists]at hp;obtain⟨vs,hp⟩:=hp;have q:=pures_ok hp;subst q;have d:=z j c t;simp only[List.getElem?_map,Option.map_eq_some_iff]at t;obtain⟨x,_,rfl⟩:=t;generalize C.getD (o+j) undef=u at d;cases d with
  | p _ _ L=>exact .p _ _ (L.mono g)
theorem Rel.start{args:List AV}(hp:CallPre w M β args bl cargs)(u:∀ p∈gl.getD [],M p.1/\w.heap[p.1]?=some p.2)(fn:Func) :
    Rel ⟨w,w.heap.size,qNr _,gl⟩ (λb=>∃ i o,i<bl.length/\β (argSite+i)=some (b,o)) M M β (startSt fn args bl) {tmps:=cargs++Array.replicate (fn.ntmps-cargs.size) undef,defers:=[]} w:=by
  have H:=hp.num;refine⟨?_,λt v E=>?_,λs blk c=>?_,λs b o c z=>?_,λs L b o D c d z y=>?_,hp.msub,λb h=>.inl h,λb h=>h,λb _ _=>rfl,λb n _ _ h=>h,qNr _,rfl,rfl,rfl,u⟩
  . simp[startSt,H]
  . by_cases I:t<args.length
    . have q:args[t]?=some v:=by grind[startSt]
      have:=hp.args t v q;have e:(cargs++Array.replicate (fn.ntmps-cargs.size) undef).getD t undef=cargs.getD t undef:=by rw[qAb,qAb,Array.getElem?_append_left (by omega)]
      rw[e];exact this
    . have:v=.undef:=by simp only[startSt]at E;grind
      subst this;exact .undef _
  . obtain⟨i,g,rfl,A⟩:=init_key0 c;exact hp.blk i blk A
  . obtain⟨blk,c⟩:=Option.isSome_iff_exists.1 c;obtain⟨i,g,rfl,A⟩:=init_key0 c;obtain⟨Q,N⟩:=hp.own i b o g z;grind
  . obtain⟨blk,c⟩:=Option.isSome_iff_exists.1 c;obtain⟨blk',d⟩:=Option.isSome_iff_exists.1 d;obtain⟨i,g,rfl,A⟩:=init_key0 c;obtain⟨j,B,rfl,J⟩:=init_key0 d;rw[hp.inj i j b o D g B z y]
def ExtOk(P:Program)(T:Tab)(gl:Option (List (Nat × Obj)))(X:Ext):Prop:=(∀ w:World,(∀ p∈gl.getD [],w.heap[p.1]?=some p.2)->T.glob gl.isSome w)/\(∀ f fi s args bl rs bl',tlook T.funcs f=some fi->fi.cfg.gext=false->X f=some s->s args bl=some (rs,bl')->(∃ c,fi.fn.body=some c)/\(∀ b∈bl,pureBlk b=true) /\
    ∀(w:World) (M:Nat->Prop) (β:Nat->Option (Nat × Nat)) (cargs:Array Value),(∀ p∈gl.getD [],M p.1/\w.heap[p.1]?=some p.2)->CallPre w M β args bl cargs ->
     Calls P f cargs w λe w'=>∃ cs ps M',e=.returned (wrapV cs)/\CallPost gl T fi w M β bl rs bl' w' M' cs ps) /\
  ∀ f fi s args bl r,tlook T.funcs f=some fi->fi.cfg.gext=true->X f=some s->s args bl=some r->∃ caps,args=.yld::caps.map .p/\bl=[.log true []]/\P.funcs[f]?=some fi.fn/\IterOk P gl f caps (logOf r.2)
theorem NG(h:∀ b∈bl,pureBlk b=true)(e:bl=[.log true []]):False:=by simp_all[pureBlk]
theorem leaves_marks{fn:Func}{tmps:Array Value}{R:Ending->World->Prop}{n:Nat}:∀(ds:List Nat) (w:World),ds.Nodup->(∀ D∈ds,w.heap[D]?=some (.deferred (some []))) ->
    (∀ w',(∀ b,b ∉ ds->w'.heap[b]?=w.heap[b]?)->w'.heap.size=w.heap.size->w'.os=w.os->w'.tape=w.tape->w'.output=w.output->w'.drawn=w.drawn->∃ v,(results fn tmps).run P w'=.ok v w'/\R (.returned v) w') ->
    LeavesInM (FW none) n P fn tmps R (ds.map markOf) .returning w
  |[],w,_,_,h=>h w (λ_ _=>rfl) rfl rfl rfl rfl rfl
  | D::ds,w,hnd,hl,h=>by
   obtain⟨z,y⟩:=List.nodup_cons.1 hnd;refine⟨by simp,.inl ⟨D,w.putObj D (.deferred none),rfl,run_takeDeferred (hl D (by simp)),?_⟩⟩;refine leaves_marks ds _ y (λD' d=>?_) λw' u t q j i g=>?_
   . rw[World.putObj_heap_other (show D'≠D from λe=>z (e▸d))];grind
   . refine h w' (λb c=>?_) (by rw[t,World.putObj_size]) q j i g;simp only[List.mem_cons,not_or]at c;rw[u b c.2,World.putObj_heap_other c.1]
theorem Inv.shut{cx:Cx}{M:Nat->Prop}{β:Nat->Option (Nat × Nat)}{st:St}{a:Act}{w w':World}{L:List (Nat × Obj)}{ds:List Nat}(r:Rel cx.w0 cx.Pr cx.M0 M β st a w)(d:Fix cx M β st.heap a w L ds)(H:cx.nm=cx.w0.heap.size)
    (e:∀ b,b ∉ ds->w'.heap[b]?=w.heap[b]?)(g:w'.heap.size=w.heap.size)(u:w'.os=w.os)(t:w'.tape=w.tape)(q:w'.output=w.output):Rel cx.w0 cx.Pr cx.M0 M β st a w':=by
  have A:∀ b,M b->b ∉ ds:=λb c hd=>(d.lies _ (d.mark b hd).1).2.2 c;have z:∀ b,Owned β st.heap b->b ∉ ds:=λb c hd=>(d.lies _ (d.mark b hd).1).2.1 c;have i:∀ b,b<cx.w0.heap.size->b ∉ ds:=λb c hd=>by have:=(d.mark b hd).2.1;omega
  refine r.to rfl (λb c=>⟨c,e b (A b c)⟩) (λs b o j c=>?_) (λb c=>by rw[g];exact r.msub b c) r.mnew r.mold (λb c hp=>?_) (λb n c hp y=>?_) (by rw[g];exact r.size) (u.trans r.os) (t.trans r.tape) (q.trans r.output)
  . obtain⟨E,D,B⟩:=r.own s b o j c;exact⟨e b (z b ⟨s,o,j,c⟩),E,by rw[g];exact D,B⟩
  . rw[e b (i b c)];exact r.keep b c hp
  . exact(r.room b n c hp y).of_block (e b (i b (by have:=cx.w0.le';omega)))
theorem noLog_args(h:∀ b∈bl,pureBlk b=true):NoLog (initHeap 0 bl):=by intro xs c;have:look (initHeap 0 bl) (argSite+0)=some (.log true xs):=c;rw[look_init0]at this;have:=h _ (qLe this);grind[pureBlk]
theorem yG(ok:TabOk P T)(hC:CallOk P T gl (acall T X n))(hS:SeqOk P T gl (acall T X n)){f:Nat}{fi:FI}{c:Code}(N:tlook T.funcs f=some fi)(t:fi.fn.body=some c)
    {w:World}{j:Nat}{le:j<=w.heap.size}{Pr M:Nat->Prop}{β:Nat->Option (Nat × Nat)}{st:St}(hr:Rel ⟨w,j,le,gl⟩ Pr M M β st {tmps:=cargs++Array.replicate (fi.fn.ntmps-cargs.size) undef,defers:=[]} w)(u:NoLog st.heap)
    {G:St->Option (List AV × List Blk)}{x:List AV × List Blk}(h:runCode T (acall T X n) fi (some n) c st (λH st=>match H with | .exit _=>none | _=>G st)=some x){R:Ending->World->Prop}
    (hR:∀(st':St) (a:Act) (w':World) (M1:Nat->Prop) (e:Nat->Option (Nat × Nat)),Rel ⟨w,j,le,gl⟩ Pr M M1 e st' a w'->(∀ s,argSite<=s->e s=β s)->(∀ s,argSite<=s->∀ b,look st'.heap s=some b->∃ b0,look st.heap s=some b0/\Like b0 b)->DrawnLe gl w.drawn w'.drawn->G st'=some x->LeavesInM (FW none) 0 P fi.fn a.tmps R [] .returning w') :
    Calls P f cargs w R:=by
  obtain⟨A,hname,B,L⟩:=ok.funcs f fi N;let cx:Cx:={w0:=⟨w,j,le,gl⟩,Pr:=Pr,M0:=M,β0:=β,hp0:=st.heap,Wr:=λ_=>True,t0:=cargs++Array.replicate (fi.fn.ntmps-cargs.size) undef,rd:=none,L0:=[],nm:=w.heap.size}
  have hi:Inv cx st {tmps:=cargs++Array.replicate (fi.fn.ntmps-cargs.size) undef,defers:=[]} w:=
   ⟨M,β,[],[],hr,λ_ _=>rfl,λs _ b t=>⟨b,t,Like.refl b⟩,.refl _ _,⟨λp hp=>by simp at hp,λp hp=>by simp[cx]at hp,rfl,List.nodup_nil,λD E=>by simp at E,λl u=>(by cases u),rfl,λ_ _=>rfl,λ_=>rfl,λ_ h=>h.elim,qNr _⟩⟩
  refine calls_of_fw (rd:=none) (n:=0) (callsIn_of_wp_marks A t trivial ?_);refine sim_codeG (ng:=false) (codeSim_inv (m:=0) ok hC (ok.nvars f fi N) x) (λ_ f ps y z hy hz=>sim_range ok hS hy hz) c ⟨cx,u,rfl⟩ _ _ w _ _ _ trivial h (B c t) (λh=>by cases h) (λ_ _=>⟨λ_ _=>trivial,λ_ _ h=>h.elim⟩) ⟨rfl,hi⟩ λH Q st' a J q i=>?_;obtain⟨rfl,M1,e,L1,I,S,e1,e2,e3,d⟩:=i;have g:G st'=some Q->LeavesInM (FW none) 0 P fi.fn a.tmps R a.defers .returning J:=λq=>by rw[d.marks];exact leaves_marks I J d.nodup (λD E=>(d.lies _ (d.mark D E).1).1) λw' q1 q2 Z Y V U=>hR st' a w' M1 e (Inv.shut S d rfl q1 q2 Z Y V) e1 e2 (by rw[U];exact e3) q
  cases H with
  | exit id=>cases q
  | _=>exact g q
theorem call_step(ok:TabOk P T)(hX:ExtOk P T gl X)(hC:CallOk P T gl (acall T X n))(hS:SeqOk P T gl (acall T X n)) :
    ∀ f fi args bl Z bl',tlook T.funcs f=some fi->(∀ b∈bl,pureBlk b=true)->acall T X (n+1) f args bl=some (Z,bl')->(∃ c,fi.fn.body=some c) /\
    ∀(w:World) (M:Nat->Prop) (β:Nat->Option (Nat × Nat)) (cargs:Array Value),(∀ p∈gl.getD [],M p.1/\w.heap[p.1]?=some p.2)->CallPre w M β args bl cargs ->
     Calls P f cargs w λe w'=>∃ cs ps M',e=.returned (wrapV cs)/\CallPost gl T fi w M β bl Z bl' w' M' cs ps:=by
  intro f fi args bl Z bl' U I h;simp only[acall,U]at h;cases hx:X f with
  | some s =>
   rw[hx]at h;cases R:fi.cfg.gext with
   | false =>obtain⟨h1,_,h2⟩:=hX.2.1 f fi s args bl Z bl' U R hx h;grind
   | true =>obtain⟨_,_,h2,_⟩:=hX.2.2 f fi s args bl _ U R hx h;exact(NG I h2).elim
  | none =>
   rw[hx]at h;simp only at h;cases t:fi.fn.body with
   | none=>rw[t]at h;cases h
   | some c =>
    rw[t]at h;have d:callB fi.cfg bl=true:=by grind
    have A:fi.cfg.vcall=false:=by
     cases A:fi.cfg.vcall with
     | false=>rfl
     | true =>
      unfold callB at d;split at d
      . cases d
      rw[A]at d;simp only at d;split at d;all_goals simp_all[pureBlk,pures]
    have H:fi.cfg.take=false:=by
     cases H:fi.cfg.take with
     | false=>rfl
     | true =>
      unfold callB at d;split at d
      . cases d
      rw[A]at d;simp only[H]at d;split at d;all_goals simp_all[pureBlk]
    rw[d]at h;simp only[qCt,forceAVs_eq,forceBlks_eq,forceSt_eq,startF,retF,A,H]at h;refine⟨⟨c,rfl⟩,λw M β cargs hgl hp=>?_⟩;obtain⟨_,_,_,N⟩:=ok.funcs f fi U;refine yG ok hC hS U t (Rel.start hp hgl fi.fn) (noLog_args I) h λst a w' M1 z r e1 e2 e3 J=>?_;have e2:∀ s,argSite<=s->∀ b,look st.heap s=some b->∃ b0,look (initHeap 0 bl) s=some b0/\Like b0 b:=e2;unfold retK at J;split at J
    . cases J
    . rename_i vs hvs;split at J
      . rename_i rs' Y hrv hab;simp only[forceAVs_eq,forceBlks_eq,qOa,Prod.mk.injEq]at J;obtain⟨rfl,rfl⟩:=J;obtain⟨cs,g1,g2⟩:=resAll_ok ok r hvs;obtain⟨ab1,ab2⟩:=argsBack_ok I hab;have E:∀ j blk,look st.heap (argSite+j)=some blk->∃ b0,bl[j]?=some b0/\Like b0 blk:=by intro j blk hj;obtain⟨b0,y,D⟩:=e2 (argSite+j) (by omega) blk hj;grind[look_init0]
        have V:∀ j blk,look st.heap (argSite+j)=some blk->look (initHeap 0 Y) (argSite+j)=some blk/\β (argSite+j)=z (argSite+j):=by intro j blk hj;obtain⟨b0,y,D⟩:=E j blk hj;refine⟨?_,(e1 (argSite+j) (by omega)).symm⟩;rw[look_init0];grind
        obtain⟨S,ps,q1,q2,q3,q4⟩:=retVals_ok r V hrv (λ_ _ h=>h) g2;have hup:∀ b,M1 b->Mplus M1 z S b:=λb h=>.inl h;refine⟨wrapV cs,run_results g1,cs,ps,Mplus M1 z S,rfl,⟨q1,λb o t=>?_,λhb1 hs1=>⟨Mplus (λ_=>False) z S,λb t=>?_,q4 (N hb1 hs1)⟩,λb h=>.inl (r.mold b h),λb h=>?_,λb h=>?_,λb t hn=>?_,λb n t hr=>?_,r.size,r.os,r.tape,r.output,e3,ab1,λi b0 b1 h1 h2=>?_⟩⟩
        . obtain⟨s,o0,y,D,k3,L⟩:=q3 b o t;obtain⟨o1,o2,o3⟩:=r.own s b o0 y L;refine⟨λh=>?_,o2,?_⟩
          . rcases h with h |⟨u,B,g,q⟩
            . exact o1 h
            . exact D (by rw[r.inj s u b o0 B y (q2 u g).1 L q];exact g)
          grind
        . rcases t with t |⟨u,B,g,q⟩
          . exact t.elim
          . refine⟨.inr ⟨u,B,g,q⟩,?_⟩;obtain⟨y,D⟩:=q2 u g;rcases(r.own u b B y q).2.2.2 with o3 | o3;all_goals omega
        . rcases h with h |⟨u,B,g,q⟩
          . exact(r.mnew b h).imp id And.left
          . obtain⟨y,D⟩:=q2 u g;rcases(r.own u b B y q).2.2.2 with o3 | o3;all_goals grind
        . rcases h with h |⟨u,B,g,q⟩
          . exact r.msub b h
          . exact(r.own u b B (q2 u g).1 q).2.1
        . exact r.keep b t λ⟨i,o,hi,h⟩=>hn i o hi h
        . by_cases Q:∃ i o,i<bl.length/\β (argSite+i)=some (b,o)
          . exact r.room b n t Q hr
          . exact hr.of_block (r.keep b t Q)
        . obtain⟨y,D,k3⟩:=ab2 i b0 b1 h1 h2;rw[qNz]at y;obtain⟨b0',L,k5⟩:=E i b1 y;rw[h1]at L;cases L;exact⟨(r.heap _ _ y).pure_mono hup D (e1 (argSite+i) (by omega)).symm,k5,k3,D⟩
      . cases J
end
end
section
variable {x:List AV × List Blk}{st st':St}{o:Oper}{draw:Bool}{k:Ex->St->Option (List AV × List Blk)}
def LogSub(st st':St):Prop:=∀ b zs,look st'.heap argSite=some (.log b zs)->look st.heap argSite=some (.log b zs)
theorem LogSub.refl(st:St):LogSub st st:=λ_ _ h=>h
theorem LogSub.trans{a b c:St}(h:LogSub a b)(k:LogSub b c):LogSub a c:=λx d e=>h x d (k x d e)
theorem kill_is_log{ss:List Nat}{x:Option Blk}{b:Bool}{c:List PV}(h:x.map (Blk.kill ss)=some (.log b c)):x=some (.log b c):=by
 cases x with
 | none=>cases h
 | some y =>
  cases y with
  | box=>simp[Blk.kill]at h
  | arr=>simp[Blk.kill]at h
  | log=>simpa[Blk.kill] using h
theorem strike_log(st:St)(ss:List Nat):LogSub st (st.strike ss):=by
 intro b c h;rw[look_strike]at h;split at h
 . cases h
 . exact kill_is_log h
theorem kill_log(st:St)(ss:List Nat):LogSub st (st.kill ss):=by
 intro b c h;cases ss with
 | nil=>exact h
 | cons s r =>have h:look (killHeap (s::r) st.heap) argSite=some (.log b c):=h;rw[look_killHeap]at h;exact kill_is_log h
theorem chgOk_log{h:Heap}:∀{c:List (Nat × Blk)},chgOk h c=true->∀ s b d,(s,Blk.log b d) ∉ c
 |[],_,s,b,d=>by simp
 |(t,.log _ _)::r,hc,s,b,d=>by simp[chgOk]at hc
 |(t,.box cs)::r,hc,s,b,d=>by
  have:chgOk h r=true:=by simp only[chgOk]at hc;grind
  simp[chgOk_log this s b d]
 |(t,.arr a ks xs)::r,hc,s,b,d=>by
  have:chgOk h r=true:=by simp only[chgOk]at hc;grind
  simp[chgOk_log this s b d]
theorem apply_log{h:Heap}{d:Option Nat}{e:Eff}(i:chgOk h e.chg=true):LogSub st (st.apply d e):=by
 intro b g c;have c:look (putAll ((st.strike (present st.heap e.new++e.frz)).kill e.cut).heap e.chg) argSite=some (.log b g):=c;rcases look_putAll _ _ _ _ c with c | c
 . exact strike_log _ _ _ _ (kill_log _ _ _ _ c)
 . exact absurd c (chgOk_log i _ _ _)
theorem forgetAt_log(F:FCfg)(c:Code)(st:St):LogSub st (forgetAt F c st):=by
 unfold Skm.forgetAt;split
 . exact LogSub.refl _
 . split
   . exact LogSub.refl _
   . exact strike_log {st with env:=_} _
theorem rehome_log{s d:Nat}(c:s≠d)(j:s<argSite)(hd:d<argSite):LogSub st (st.rehome s d):=by
 intro b e h;have i:look (st.strike [d]).heap d=none:=by rw[look_strike];simp
 have h:look (renHeap s d (st.strike [d]).heap) argSite=some (.log b e):=h;rw[look_renHeap c argSite i,if_neg (by omega),if_neg (by omega)]at h;refine strike_log st [d] b e ?_;cases g:look (st.strike [d]).heap argSite with
 | none=>rw[g]at h;cases h
 | some y =>
  rw[g]at h;cases y with
  | box=>simp[Blk.ren]at h
  | arr=>simp[Blk.ren]at h
  | log=>simpa[Blk.ren] using h
theorem rehomes_log(nv:Nat)(c:nv<=argSite):∀(l:List Oper) (st:St),LogSub st (rehomes nv l st)
 |[],st=>LogSub.refl _
 | o::r,st=>by
  simp only[Skm.rehomes];split
  . rename_i d _ _;split
    . rename_i s _ _ _ _;cases g:Nat.ble nv s&&(Nat.blt d nv&&Nat.blt s 100000)with
      | false=>exact rehomes_log nv c r st
      | true =>
       simp only[qBa]at g;have i:d<nv:=Nat.le_of_ble_eq_true g.2.1;have q:s≠d:=by intro e;exact absurd (Nat.le_of_ble_eq_true g.1) (Nat.not_le_of_lt (by rw[e];exact i))
       have j:s<100000:=Nat.le_of_ble_eq_true g.2.2;have t:argSite=100000:=rfl;exact(rehome_log q j (Nat.lt_of_lt_of_le i c)).trans (rehomes_log nv c r _)
    . exact rehomes_log nv c r st
  . exact rehomes_log nv c r st
def Has(x:List AV × List Blk)(st:St):Prop:=∃ b zs,look st.heap argSite=some (.log b zs)/\∃ ys,logOf x.2=zs++ys
theorem Has.sub(h:LogSub st st'):Has x st'->Has x st:=λ⟨b,c,e,d⟩=>⟨b,c,h b c e,d⟩
def KP(k:Ex->St->Option (List AV × List Blk)):Prop:=∀ ex st x,k ex st=some x->Has x st
section
variable {T:Tab} {C:CallF} {F:FI} {n:Option Nat}
theorem step1_log{hd:List Nat}{all:List Oper}(h:step1 T C false hd all o st=some st'):LogSub st st':=by
 unfold step1 at h;split at h
 . cases h
 . cases h;exact λ_ _ h=>h
 . split at h
   . rename_i c;simp only[qBa]at c;cases h;exact apply_log c.2
   . cases h
theorem yieldAt_log{xs vs:List PV}(h:yieldAt draw st o=some (xs,vs)):∃ c ss t,draw=false/\o.op=.call c/\c.callee=.value (.tmp t)/\st.env.getD t .undef=.yld/\look st.heap argSite=some (.log true xs)/\deeps (look st.heap) (evalOs st.env c.args.toList)=some (vs,ss):=by
 cases draw with
 | true=>cases h
 | false =>have h:yieldOf st o=some (xs,vs):=h;grind[yieldOf]
theorem afterYield_look(st:St)(d:Option Nat)(xs vs:List PV)(b:Bool):look (afterYield st d xs vs b).heap argSite=some (.log b (xs++[.agg vs])):=by show look (put _ argSite _) argSite=_;simp[look_put]
theorem has_ops{hd:List (List Nat)}{all:List Oper}{k:St->Option (List AV × List Blk)}(c:∀ st x,k st=some x->Has x st):∀(l:List Oper) (j:Nat) (st:St) (x:List AV × List Blk),runOps T C false hd all l j st k=some x->Has x st
 |[],j,st,x,h=>c st x h
 | o::rest,j,st,x,h=>by
  cases e:yieldAt false st o with
  | none =>
   rw[runOps_cons _ _ e]at h;cases g:step1 T C false (hd.getD j []) all o st with
   | none=>rw[g]at h;cases h
   | some d =>rw[g]at h;exact(has_ops c rest (j+1) d x h).sub (step1_log g)
  | some p =>
   obtain⟨xs,vs⟩:=p;rw[runOps_yield _ _ e]at h;obtain⟨_,_,_,_,_,_,_,q,_⟩:=yieldAt_log e;cases i:guardOf all o st.env with
   | none=>rw[i]at h;cases h
   | some b =>
    rw[i]at h;cases b with
    | false=>exact(has_ops c rest (j+1) _ x h).sub λ_ _ h=>h
    | true =>obtain⟨r,_,t⟩:=fork_some h;obtain⟨b,u,h4,ys,h5⟩:=has_ops c rest (j+1) _ x t;rw[afterYield_look]at h4;cases h4;exact⟨true,xs,q,.agg vs::ys,by rw[h5];simp⟩
theorem has_relog{b:Option Blk}{k:St->Option (List AV × List Blk)}(d:∀ st x,k st=some x->Has x st)(h:relog b st k=some x):∃ on c,b=some (.log on c)/\∃ ys,logOf x.2=c++ys:=by
 unfold relog at h;split at h
 . split at h
   . rename_i on xs;obtain⟨j,c,i,g⟩:=d _ _ h;grind[look_put]
   . cases h
 . rename_i e;obtain⟨j,c,i,g⟩:=d _ _ h;grind
theorem uZ:∀(xs:List Nat) (st:St),LogSub st (mM xs st)
 |[],st=>LogSub.refl _
 | x::r,st=>by
  simp only[mM];split
  . rename_i v ss _;cases d:frzOk ss with
    | false=>exact uZ r st
    | true =>refine LogSub.trans ?_ (uZ r _);exact λb c h=>strike_log st ss b c h
  . exact uZ r st
theorem freezes_log(ts:List Nat):∀(l:List Oper) (st:St),LogSub st (freezes ts l st)
 |[],st=>LogSub.refl _
 | o::r,st=>by
  simp only[freezes];split
  . exact LogSub.trans (uZ _ st) (freezes_log ts r _)
  . exact freezes_log ts r st
theorem settle_log{F:FCfg}(c:F.nvars<=argSite)(l:List Oper)(st:St):LogSub st (settle F l st):=by exact(rehomes_log _ c l st).trans (freezes_log _ l _)
theorem has_region(c:F.cfg.nvars<=argSite){id:Nat}{ops:Array Oper}(g:KP k)(st:St)(x:List AV × List Blk)(h:runCode T C F n (.region id ops draw) st k=some x):Has x st:=by
 have e:∀ st x,(forceSt (settle F.cfg ops.toList st) λst'=>k .normal st')=some x->Has x st:=λst x h=>by rw[forceSt_eq]at h;exact(g .normal _ x h).sub (settle_log c _ _)
 simp only[runCode]at h;cases draw with
 | false =>exact has_ops e _ _ _ _ h
 | true =>
  simp only at h;split at h
  . simp only[forceSt_eq]at h;split at h
    . obtain⟨q,_,j⟩:=runsL_of h;obtain⟨on,d,i,h4⟩:=has_relog (λst x h=>(g .normal _ x h).sub (settle_log c _ _)) j;exact⟨on,d,strike_log _ _ _ _ i,h4⟩
    . obtain⟨q,_,j⟩:=runsL_of h;obtain⟨on,d,i,h4⟩:=has_relog (λst x h=>has_ops (λst x h=>(g .normal _ x h).sub (settle_log c _ _)) _ _ _ _ h) j;exact⟨on,d,strike_log _ _ _ _ i,h4⟩
  . cases h
theorem Gt{c:Code}(e:∀ k,KP k->∀ st x,runCode T C F n c st k=some x->Has x st){k:Ex->St->Option (List AV × List Blk)}(d:KP k):∀(m:Nat) (st:St) (x:List AV × List Blk),loopN (forgetAt F.cfg c) (λst' g=>runCode T C F n c st' g) m st k=some x->Has x st
 | 0,st,x,h=>by simp[loopN]at h
 | m+1,st,x,h=>by
  rw[loopN_loopK]at h;refine e _ (λi st x h=>?_) st x h;cases i with
  | normal =>simp only[loopK,forceSt_eq]at h;exact(Gt e d m _ x h).sub (forgetAt_log _ _ _)
  | exit id=>exact d (.exit id) st x h
  | ret=>exact d .ret st x h
theorem has_code(d:F.cfg.nvars<=argSite):∀(c:Code) (k:Ex->St->Option (List AV × List Blk)),KP k->∀ st x,runCode T C F n c st k=some x->Has x st
 | .skip,k,hk,st,x,h=>hk .normal st x h
 | .region id ops draw,k,hk,st,x,h=>has_region d hk st x h
 | .seq y z,k,hk,st,x,h=>by
  rw[runCode_seq]at h;refine has_code d y _ (λi st x h=>?_) st x h;cases i with
  | normal=>exact(has_code d z k hk _ x h).sub (forgetAt_log _ _ _)
  | exit id=>exact hk (.exit id) st x h
  | ret=>exact hk .ret st x h
 | .cond c y z,k,hk,st,x,h=>by
  simp only[runCode]at h;split at h
  . rename_i b _;cases b with
    | true=>exact has_code d y k hk st x h
    | false=>exact has_code d z k hk st x h
  . cases h
 | .block id c,k,hk,st,x,h=>by
  rw[runCode_block]at h;refine has_code d c _ (λi st x h=>?_) st x h;cases i with
  | normal=>exact hk .normal st x h
  | exit j =>
   simp only[blockK]at h;cases t:(j==id)with
   | true=>rw[t]at h;exact hk .normal st x h
   | false=>rw[t]at h;exact hk (.exit j) st x h
  | ret=>exact hk .ret st x h
 | .loop c,k,hk,st,x,h=>by obtain⟨m,_,h⟩:=zZ h;exact(Gt (has_code d c) hk m _ x h).sub (forgetAt_log _ _ _)
 | .exit id,k,hk,st,x,h=>hk (.exit id) st x h
 | .ret,k,hk,st,x,h=>hk .ret st x h
 | .label _,k,hk,st,x,h=>hk .normal st x h
 | .rangeFunc f ps y z,k,hk,st,x,h=>by
  obtain⟨g,u,fi,r,_,_,_,_,_,h⟩:=runCode_range h;have q:∀(l:List PV) (st:St) (x:List AV × List Blk),rangeL (forgetAt F.cfg (.seq y z)) fi.cfg.yk ps.toList (rngWs ps y z) (roundC T C F n y z) l st k=some x->Has x st:=by
   intro l;induction l with
   | nil=>intro st x h;exact hk .normal st x h
   | cons v l A =>
    intro st x h;simp only[rangeL]at h;split at h
    . cases h
    . rename_i env _;rw[forceSt_eq]at h;have e:KP (rnext (forgetAt F.cfg (.seq y z)) (rngWs ps y z) (λst=>rangeL (forgetAt F.cfg (.seq y z)) fi.cfg.yk ps.toList (rngWs ps y z) (roundC T C F n y z) l st k) k):=by
       intro i st x h;cases i with
       | normal =>simp only[rnext,forceSt_eq]at h;exact((A _ x h).sub (forgetAt_log _ _ _)).sub λ_ _ h=>h
       | exit id =>simp only[rnext,forceSt_eq]at h;exact(hk (.exit id) _ x h).sub λ_ _ h=>h
       | ret =>simp only[rnext,forceSt_eq]at h;exact(hk .ret _ x h).sub λ_ _ h=>h
      refine(has_code d y (seqK T C F n z _) (λi st x h=>?_) {st with env:=env} x h).sub λ_ _ h=>h;cases i with
      | normal=>exact(has_code d z _ e _ x h).sub (forgetAt_log _ _ _)
      | exit id=>exact e (.exit id) st x h
      | ret=>exact e .ret st x h
  exact(q _ _ x h).sub (forgetAt_log _ _ _)
 | .scope c,k,hk,st,x,h=>has_code d c k hk st x h
 | .goto ..,_,_,_,_,h | .refuse ..,_,_,_,_,h=>by simp[runCode]at h
theorem KP.seq(c:F.cfg.nvars<=argSite)(d:KP k)(z:Code):KP (seqK T C F n z k):=by
 intro e st x h;cases e with
 | normal=>exact(has_code c z k d _ x h).sub (forgetAt_log _ _ _)
 | exit id=>exact d (.exit id) st x h
 | ret=>exact d .ret st x h
theorem KP.block(c:KP k)(id:Nat):KP (blockK id k):=by
 intro e st x h;cases e with
 | normal=>exact c .normal st x h
 | exit j =>
  simp only[blockK]at h;cases d:(j==id)with
  | true=>rw[d]at h;exact c .normal st x h
  | false=>rw[d]at h;exact c (.exit j) st x h
 | ret=>exact c .ret st x h
theorem KP.loop(d:F.cfg.nvars<=argSite)(e:KP k)(c:Code)(m:Nat):KP (loopK T C F n c m k):=by
 intro g st x h;cases g with
 | normal =>simp only[loopK,forceSt_eq]at h;exact(Gt (has_code d c) e m _ x h).sub (forgetAt_log _ _ _)
 | exit id=>exact e (.exit id) st x h
 | ret=>exact e .ret st x h
end
end
section
open Go.RowKit
variable {M M0 Pr:Nat->Prop}{β:Nat->Option (Nat × Nat)}{v:AV}{w0:Base}
def gcx(gl:Option (List (Nat × Obj)))(wd:World)(M0:Nat->Prop)(on:Bool)(done:List PV)(t0:Array Value)(ys:List Nat)(yv:Value):Cx:=
 {w0:=⟨wd,wd.heap.size,qNr _,gl⟩,Pr:=λ_=>False,M0:=M0,β0:=λ_=>none,hp0:=[(argSite,.log on done)],Wr:=λ_=>True,t0,rd:=none,L0:=[],nm:=wd.heap.size,Ys:=λt=>t∈ys,yv:=yv}
structure Gv where
 W0:World
 M0:Nat->Prop
 J:List PV->(Nat->Prop)->(Nat->Prop)->World->Prop
 Jx:(Nat->Prop)->(Nat->Prop)->World->Prop
 t0:Array Value
 l:Nat
 gl:Option (List (Nat × Obj))
 ys:List Nat
abbrev Gv.yv(G:Gv):Value:=.func (.yield G.l) #[] #[]
structure Gv.Ok (G:Gv) (P:Program):Prop where
 j:∀ r O K W W',G.J r O K W->Grows G.gl W W'->G.J r O K W'
 jx:∀ O K W W',G.Jx O K W->Grows G.gl W W'->G.Jx O K W'
 lt:∀ r O K W,G.J r O K W->∀ b,O b\/K b->b<W.heap.size
 y:∀ vs r O K W (M:Nat->Prop) cargs,G.J (.agg vs::r) O K W->G.W0.heap.size<=W.heap.size->(∀ b,M b->b<W.heap.size/\¬ O b/\(G.M0 b\/G.W0.heap.size<=b))->cargs.size=vs.length->(∀ i c,vs[i]?=some c->VR W M c (cargs.getD i undef))->YldOk P G.gl G.l cargs W (G.J r) G.Jx O K M
def GI(G:Gv)(x:List AV × List Blk)(st:St)(a:Act)(w:World):Prop:=
 ∃ wd Mk on done,Inv (gcx G.gl wd Mk on done G.t0 G.ys G.yv) st a w/\(∀ b zs,look st.heap argSite=some (.log b zs)->b=on/\zs=done)/\G.W0.heap.size<=wd.heap.size/\(∀ b,Mk b->b<wd.heap.size/\(G.M0 b\/G.W0.heap.size<=b)) /\
  ((on=true/\∃ rest O K,logOf x.2=done++rest/\G.J rest O K wd/\∀ b,Mk b->¬ O b)\/(on=false/\∃ O K,G.Jx O K wd))
section
variable {P:Program} {G:Gv} {x:List AV × List Blk} {st st':St} {a a':Act} {w w':World}
theorem GI.map(g:GI G x st a w)(h:∀ cx,Inv cx st a w->Inv cx st' a' w')(j:LogSub st st'):GI G x st' a' w':=by obtain⟨e,Mk,on,c,i,y,u,t,h4⟩:=g;exact⟨e,Mk,on,c,h _ i,λb d q=>y b d (j b d q),u,t,h4⟩
theorem AR.swap{w:World}{h h':Nat->Option Blk}(j:∀ s blk,h s=some blk->(∀ b z,blk≠.log b z)->h' s=some blk){c:Value}(t:AR w M β h v c):AR w M β h' v c:=by
 induction t with
 | undef c=>exact .undef c
 | p v c t=>exact .p v c t
 | slice s off len a ks xs b o cap e g i d B=>exact .slice s off len a ks xs b o cap (j _ _ e (by simp)) g i d B
 | sliceE s off a ks xs base e g=>exact .sliceE s off a ks xs base (j _ _ e (by simp)) g
 | bslice s off len cs b o cap e g i d=>exact .bslice s off len cs b o cap (j _ _ e (by simp)) g i d
 | bsliceE s off cs base e g=>exact .bsliceE s off cs base (j _ _ e (by simp)) g
 | ptrB s off cs b o e i=>exact .ptrB s off cs b o (j _ _ e (by simp)) i
 | ptrA s y off a ks xs b o e D i=>exact .ptrA s y off a ks xs b o (j _ _ e (by simp)) D i
 | lptr a ks x off b o f H A E t=>exact .lptr a ks x off b o f H A E t
 | fn f cs vs u _ q=>exact .fn f cs vs u q
 | agg cs vs u g _ q=>exact .agg cs vs u g q
 | tup cs vs u _ q=>exact .tup cs vs u q
 | yld l=>exact .yld l
theorem Rel.relist(r:Rel w0 Pr M0 M β st a w){b0:Bool}{zs0:List PV}(S:look st.heap argSite=some (.log b0 zs0))(b:Bool)(i:List PV):Rel w0 Pr M0 M β {st with heap:=put st.heap argSite (.log b i)} a w:=by
 have I:∀ s,look (put st.heap argSite (.log b i)) s=if s=argSite then some (.log b i)else look st.heap s:=λs=>look_put _ _ _ _
 have q:∀{v:AV} {c:Value},AR w M β (look st.heap) v c->AR w M β (look (put st.heap argSite (.log b i))) v c:=λE=>E.swap λs blk d R=>by grind
 have g:∀ s,(look (put st.heap argSite (.log b i)) s).isSome=true->(look st.heap s).isSome=true:=by grind
 refine⟨r.tsize,λt v E=>q (r.env t v E),λs blk d=>?_,λs b o d Q=>r.own s b o (g s d) Q,λs J b o L d H=>r.inj s J b o L (g s d) (g J H),r.msub,r.mnew,r.mold,r.keep,r.room,r.size,r.os,r.tape,r.output,r.glob⟩;have d:look (put st.heap argSite (.log b i)) s=some blk:=d;rw[I]at d;by_cases e:s=argSite
 . rw[if_pos e]at d;cases d;exact .log _ _
 . rw[if_neg e]at d;cases r.heap s blk d with
   | box cs b o C e fr D B A z y u=>exact .box cs b o C e fr D B A z y λj c N=>q (u j c N)
   | arrE a ks=>exact .arrE a ks
   | log on ys=>exact .log on ys
   | arr a ks xs b o C e fr D B A z y u=>exact .arr a ks xs b o C e fr D B A z y u
theorem keysBut_mem{s k:Nat}:∀{h:Heap},k∈keysBut s h↔k≠s/\(look h k).isSome=true
 |[]=>by simp[keysBut,look]
 |(t,c)::h=>by have d:=keysBut_mem (s:=s) (k:=k) (h:=h);simp only[keysBut,look];grind
theorem refEnv_length{h:Nat->Option Blk}{ss:List Nat}:∀(l:List AV),(refEnv h ss l).length=l.length
 |[]=>rfl
 | v::r=>by simp[refEnv,refEnv_length r]
theorem refEnv_get{h:Nat->Option Blk}{ss:List Nat}:∀(l:List AV) (t:Nat),(refEnv h ss l)[t]?=(l[t]?).map (refKill h ss)
 |[],t=>by simp[refEnv]
 | v::r,0=>by simp[refEnv]
 | v::r,t+1=>by simp[refEnv,refEnv_get r t]
theorem refOf_ok(r:Rel w0 Pr M0 M β st a w){y:PV}{c:Value}(h:refOf (hideH [argSite] (look st.heap)) v=some y)(q:AR w M β (look st.heap) v c):VR w (Mplus M β (keysBut argSite st.heap)) y c:=by
 unfold refOf at h;split at h
 . rename_i s;split at h
   . rename_i cs B;split at h
     . rename_i vs hp;cases h;have e:s≠argSite:=by grind[hideH,memN]
       have d:look st.heap s=some (.box cs):=by grind[hideH]
       have hd:deepC (look st.heap) (.ptr s 0 0)=some (.ref vs,[s]):=by
        have t:=pures_ok hp;have:∀ l:List PV,deeps1 (look st.heap) (l.map .p)=some (l,[]):=by
         intro l;induction l with
         | nil=>rfl
         | cons x l j=>simp only[List.map_cons,deeps1,deep1,j];rfl
        simp_all[deepC,this]
       obtain⟨A,_,_⟩:=deepC_ok r.heap (λ_ _ h=>h) hd q;refine A.mono λb u=>⟨u.imp id λ⟨i,o,g,z⟩=>⟨i,o,?_,z⟩,rfl⟩;simp only[List.mem_singleton]at g;subst g;exact keysBut_mem.2 ⟨e,by rw[d];rfl⟩
     . cases h
   . cases h
 . cases h
theorem GI.after{B:World}{Mk:Nat->Prop}{g:List PV}(hG:G.Ok P)(i:Inv (gcx G.gl B Mk true g G.t0 G.ys G.yv) st a w)(hl:look st.heap argSite=some (.log true g))(h2:G.W0.heap.size<=B.heap.size)(h3:∀ b,Mk b->b<B.heap.size/\(G.M0 b\/G.W0.heap.size<=b)){O K:Nat->Prop}{vs q:List PV}
    (hJ:G.J (.agg vs::q) O K B)(hMO:∀ b,Mk b->¬ O b){W':World}(H:Turns G.gl O w W'){d:Option Nat}(hd:∀ t,d=some t->t ∉ G.ys)(b:Bool)
    (h4:(b=true/\(∃ O' K',G.J q O' K' W'/\∀ c,O' c->O c\/w.heap.size<=c)/\∃ ys,logOf x.2=(g++[.agg vs])++ys/\ys=q)\/(b=false/\∃ O K,G.Jx O K W')):GI G x (afterYield st d g vs b) (a.put d (.bool b)) W':=by
  obtain⟨M,β,L,ds,r,i1,i2,i3,S⟩:=i;have hds:ds=[]:=S.one λh=>h g (by simp[gcx,look]);subst hds;have hgs:B.heap.size<=w.heap.size:=r.size;have Q:=H.size;have R:∀ b,O b->b<B.heap.size:=λb E=>hG.lt _ _ _ _ hJ b (.inl E);have hn0:∀ c s o,s∈keysBut argSite st.heap->β s=some (c,o)->B.heap.size<=c:=λc s o z E=>by
   rcases(r.own s c o (keysBut_mem.1 z).2 E).2.2.1 with h | h
   . exact h
   . exact h.elim
  have N:=r.strike (keysBut argSite st.heap) (M':=Mplus M β (keysBut argSite st.heap)) (λ_ h=>.inl h) (λc h=>by
   rcases h with h |⟨s,o,h1,h2⟩
   . exact .inl h
   . exact .inr ⟨hn0 c s o h1 h2,s,o,h1,(keysBut_mem.1 h1).2,h2⟩)
  have r1:Rel _ _ _ (Mplus M β (keysBut argSite st.heap)) β {env:=refEnv (hideH [argSite] (look st.heap)) (keysBut argSite st.heap) st.env,heap:=(st.strike (keysBut argSite st.heap)).heap} a w:=N.slots (by rw[refEnv_length];exact r.tsize) λt v A=>by
   rw[refEnv_get]at A;cases he:st.env[t]? with
   | none=>rw[he]at A;cases A
   | some u =>
    rw[he]at A;simp only[Option.map_some,qOa]at A;have hu:=r.env t u he;unfold refKill at A;cases V:refOf (hideH [argSite] (look st.heap)) u with
    | some y =>rw[V]at A;subst A;exact .p _ _ (refOf_ok r V hu)
    | none =>
     rw[V]at A;subst A;refine N.env t _ ?_;have z:∀ ss:List Nat,(st.strike ss).env=killEnv ss st.env:=λss=>by
      cases ss with
      | nil=>show st.env=_;rw[killEnv_nil]
      | cons _ _=>rfl
     grind[killEnv_get]
  have hls:look (st.strike (keysBut argSite st.heap)).heap argSite=some (.log true g):=by rw[look_strike,if_neg (λh=>(keysBut_mem.1 h).1 rfl),hl];rfl
  have Y:∀ s,(look (st.strike (keysBut argSite st.heap)).heap s).isSome=true->s=argSite:=λs z=>by
   rw[look_strike]at z;by_cases h:s∈keysBut argSite st.heap
   . grind
   . rw[if_neg h]at z;by_cases e:s=argSite
     . exact e
     . exact absurd (keysBut_mem.2 ⟨e,by simpa using z⟩) h
  have I:∀ c,Mplus M β (keysBut argSite st.heap) c->c<w.heap.size/\¬ O c/\(G.M0 c\/G.W0.heap.size<=c):=λc j=>by
   refine⟨N.msub c j,λho=>?_,?_⟩
   . rcases N.mnew c j with h |⟨h,_⟩
     . exact hMO c h ho
     . have:=R c ho;have h:B.heap.size<=c:=h;omega
   . rcases N.mnew c j with h |⟨h,_⟩
     . exact(h3 c h).2
     . have h:B.heap.size<=c:=h;right;omega
  let Mn:Nat->Prop:=λc=>c<w.heap.size/\¬ O c/\(G.M0 c\/G.W0.heap.size<=c);have U:∀ c o,β argSite≠some (c,o):=λc o h=>by rw[i1 argSite (qNr _)]at h;cases h
  have Z:∀ s c o,(look (st.strike (keysBut argSite st.heap)).heap s).isSome=true->β s≠some (c,o):=λs c o z h=>by rw[Y s z]at h;exact U c o h
  have r2:Rel ⟨W',W'.heap.size,qNr _,G.gl⟩ (λ_=>False) Mn Mn β {env:=refEnv (hideH [argSite] (look st.heap)) (keysBut argSite st.heap) st.env,heap:=(st.strike (keysBut argSite st.heap)).heap} a W':=
   r1.to rfl (λc j=>⟨I c j,H.keep c (I c j).1 (I c j).2.1⟩) (λs c o z h=>absurd h (Z s c o z)) (λc j=>Nat.lt_of_lt_of_le j.1 Q) (λc j=>.inl j) (λc j=>j) (λ_ _ _=>rfl) (λ_ _ _ h=>h.elim) (qNr _) rfl rfl rfl
  have r3:=(r2.setEnv d (v:=.p (.bool b)) (c:=.bool b) (.p _ _ (.bool b))).relist (b0:=true) (zs0:=g) hls b (g++[.agg vs]);refine⟨W',Mn,b,g++[.agg vs],⟨Mn,β,[],[],r3,i1,λs z blk E=>?_,.refl _ _,⟨λp hp=>by simp at hp,λp hp=>hp,?_,List.nodup_nil,λD hD=>by simp at hD,λl hl=>(by cases hl),(put_size _ _ _).trans S.size,λt H=>absurd trivial H,λ_=>rfl,λt H=>?_,qNr _⟩⟩,λc zs j=>?_,by omega,λc j=>⟨Nat.lt_of_lt_of_le j.1 Q,j.2.2⟩,?_⟩
  . have E:look (put (st.strike (keysBut argSite st.heap)).heap argSite (.log b (g++[.agg vs]))) s=some blk:=E;rw[look_put]at E;by_cases e:s=argSite
    . subst e;rw[if_pos rfl]at E;cases E;exact⟨.log b (g++[.agg vs]),by simp[gcx,look],rfl⟩
    grind
  . rw[put_defers];exact S.marks
  . rw[put_get λe=>hd t e H];exact S.yl t H
  . grind[afterYield_look]
  . grind
theorem wanted_guard{all:List Oper}{ops:Array Oper}(q:ops.toList=all){cx:Cx}(i:Inv cx st a w){o:Oper}{b:Bool}(h:guardOf all o st.env=some b):Region.wanted o (yielded ops a.tmps)=b:=by
 unfold guardOf at h;cases d:o.guard with
 | none=>rw[d]at h;cases h;simp[Region.wanted,d]
 | some y =>
  obtain⟨g,j⟩:=y;rw[d]at h;simp only at h;cases hd:dstOf all g with
  | none=>rw[hd]at h;cases h
  | some t =>
   rw[hd]at h;simp only at h;split at h
   . rename_i c e;cases h;have u:=yielded_of q hd i e;grind[Region.wanted]
   . rename_i e;cases h;have u:=yielded_hole q hd i e;grind[Region.wanted]
   . cases h
theorem exec_yield{c:Operand->Value}{e:Option Tmp}{g:Operand}{args:Array Operand}{ts:Array TypeId}{type:TypeId}{d:String}{after:Array Edge}{guard:Option (Nat × Bool)}{l:Nat}(h:c g=.func (.yield l) #[] #[]) :
    (execOp c ⟨e,.call ⟨.value g,args,ts⟩,type,d,after,guard⟩)=Instr.yield l (args.map c):=by
  simp only[execOp,resolve,h,Deferred.ofValue];simp[invoke]
end
end
section
variable {b0 b1:Blk}{n x:Nat}{args:List AV}{cargs:Array Value}{gl:Option (List (Nat × Obj))}{sa:Bool}{ks:List Kd}{xs:List PV}{X:Ext}
section
variable {P:Program} {T:Tab} {w0:Base} {Pr M0 M:Nat->Prop} {β β0:Nat->Option (Nat × Nat)} {hp0:Heap} {st st':St} {a:Act} {w:World}
theorem var_live(c:(look (varHeap [b0,b1]) x).isSome=true):x=argSite\/x=99999:=by grind[look_var]
theorem Rel.startV(hp:VarPre w M β args [b0,b1] cargs)(g:∀ p∈gl.getD [],M p.1/\w.heap[p.1]?=some p.2)(fn:Func) :
    Rel ⟨w,0,Nat.zero_le _,gl⟩ (λb=>∃ x o,(look (varHeap [b0,b1]) x).isSome=true/\β x=some (b,o)) M M β {env:=args++List.replicate (fn.ntmps-args.length) .undef,heap:=varHeap [b0,b1]} {tmps:=cargs++Array.replicate (fn.ntmps-cargs.size) undef,defers:=[]} w:=by
  have j:=hp.num;refine⟨?_,λt v z=>?_,λs blk c=>hp.blk s blk c,λs b o c i=>?_,hp.inj,hp.msub,λb h=>.inl h,λb h=>h,λb _ _=>rfl,λb n _ _ h=>h,qNr _,rfl,rfl,rfl,g⟩
  . simp[j]
  . by_cases q:t<args.length
    . have d:args[t]?=some v:=by grind
      have:=hp.args t v d;have e:(cargs++Array.replicate (fn.ntmps-cargs.size) undef).getD t undef=cargs.getD t undef:=by rw[qAb,qAb,Array.getElem?_append_left (by omega)]
      grind
    . have:v=.undef:=by grind
      subst this;exact .undef _
  . obtain⟨y,u⟩:=hp.own s b o c i;refine⟨y,u,.inr ⟨s,o,c,i⟩,?_⟩;rcases var_live c with rfl | rfl;all_goals grind[argSite]
theorem deepRets_none{h:Nat->Option Blk}{d:List RetMode}{ts:List TypeId}{i:List AV}{cs:List Value}{ps:List (Option (Nat × Nat))}(j:ResL T w M β h d ts i cs ps)(hd:deepRets d=true):∀ p∈ps,p=none:=by
 induction j with
 | nil d=>intro p hp;simp at hp
 | cons d t ts v vs c cs p ps g A z y =>
  have u:d.headD .deep=.deep/\deepRets d.tail=true:=by
   cases d with
   | nil=>exact⟨rfl,rfl⟩
   | cons m d =>cases m<;>simp[deepRets]at hd;grind
  intro q e;rcases List.mem_cons.1 e with rfl | e
  . rw[u.1]at g;cases g;rfl
  grind
theorem noLog_var{z off len:Nat}:NoLog (varHeap [.box [.slice 99999 z off len],.arr sa ks xs]):=by intro ys c;grind[look_var]
theorem call_stepV(ok:TabOk P T)(hX:ExtOk P T gl X)(hC:CallOk P T gl (acall T X n))(hS:SeqOk P T gl (acall T X n)) :
    ∀ f fi args z off len sa ks xs rs bl',tlook T.funcs f=some fi->fi.cfg.vcall=true->acall T X (n+1) f args [.box [.slice 99999 z off len],.arr sa ks xs]=some (rs,bl')->(∃ c,fi.fn.body=some c) /\
    ∀(w:World) (M:Nat->Prop) (β:Nat->Option (Nat × Nat)) (cargs:Array Value),(∀ p∈gl.getD [],M p.1/\w.heap[p.1]?=some p.2)->VarPre w M β args [.box [.slice 99999 z off len],.arr sa ks xs] cargs ->
     Calls P f cargs w λe w'=>∃ cs M',e=.returned (wrapV cs)/\VarPost gl T fi w M β sa ks xs rs bl' w' M' cs:=by
  intro f fi args z off0 len0 sa ks xs rs bl' hf hvc h;simp only[acall,hf]at h;cases B:X f with
  | some s =>
   rw[B]at h;cases H:fi.cfg.gext with
   | false =>obtain⟨_,R,_⟩:=hX.2.1 f fi s args _ rs bl' hf H B h;simp_all[pureBlk,pures]
   | true =>obtain⟨_,_,h2,_⟩:=hX.2.2 f fi s args _ _ hf H B h;simp at h2
  | none =>
   rw[B]at h;simp only at h;cases g:fi.fn.body with
   | none=>rw[g]at h;cases h
   | some c =>
    rw[g]at h;have H:fi.cfg.gext=false:=by grind[callB]
    simp only[callB,H,hvc,qCt,forceAVs_eq,forceBlks_eq,forceSt_eq,startF,retF]at h;refine⟨⟨c,rfl⟩,λw M β cargs hgl hp=>?_⟩;refine yG ok hC hS hf g (Rel.startV hp hgl fi.fn) noLog_var h λst a w' M1 i r e1 e2 e3 q=>?_;unfold retV at q;split at q
    case h_2=>cases q
    rename_i vs b0 a0 ks0 xs0 hvs hbl;simp only[List.cons.injEq,Blk.arr.injEq,and_true]at hbl;obtain⟨_,rfl,rfl,rfl⟩:=hbl;split at q
    case h_2=>cases q
    rename_i X z1 off len t;split at q
    case h_2=>cases q
    rename_i a1 V ys d;cases I:(a1==sa&&Kd.beqs V ks)&&(deepRets fi.cfg.rets&&Nat.blt X 100000)with
    | false=>rw[I]at q;cases q
    | true =>
    rw[I]at q;simp only[qBa,beq_iff_eq]at I;obtain⟨⟨rfl,hks⟩,hdeep,hXs⟩:=I;have:=Kd.beqs_eq _ _ hks;subst this;simp only[qCt]at q;split at q
    case h_2=>cases q
    rename_i rs' hrv;simp only[forceAVs_eq,forceBlks_eq,qOa,Prod.mk.injEq]at q;obtain⟨rfl,rfl⟩:=q;obtain⟨cs,g1,g2⟩:=resAll_ok ok r hvs;have Z:∀ s b,look (dropAll st.heap [argSite,X]) s=some b->look st.heap s=some b:=λs b g=>(dropAll_sub g).1;obtain⟨S,ps,p1,p2,p3,p4⟩:=retVals_ok r (hA:=look st.heap) (βA:=i) (λj blk hj=>⟨hj,rfl⟩) hrv Z g2;have hps:=deepRets_none p1 hdeep;have hS2:∀ s∈S,(look st.heap s).isSome=true/\s≠argSite/\s≠X:=by intro s hs;obtain⟨b,g⟩:=Option.isSome_iff_exists.1 (p2 s hs).1;obtain⟨k1,k2⟩:=dropAll_sub g;grind
    have hup:∀ b,M1 b->Mplus M1 i S b:=λb h=>.inl h;have e0:i argSite=β argSite:=e1 argSite (qNr _);have hnS:∀ x b o,(look st.heap x).isSome=true->i x=some (b,o)->(x=argSite\/x=X)->¬ Mplus M1 i S b:=by
     intro x b o B g hxx hm;rcases hm with hm |⟨U,A,D,J⟩
     . exact(r.own x b o B g).1 hm
     . have:=r.inj x U b o A B (hS2 U D).1 g J;grind
    have N:(look st.heap argSite).isSome=true:=by rw[t];rfl
    have E:(look st.heap X).isSome=true:=by rw[d];rfl
    have L:X≠argSite:=by rintro rfl;rw[t]at d;cases d
    have hPr:∀ x b o,(look st.heap x).isSome=true->i x=some (b,o)->x≠argSite->w.heap.size<=b\/∃ A,β 99999=some (b,A):=by
     intro x b o B g hne;rcases(r.own x b o B g).2.2.1 with h |⟨y,A,Y,Q⟩
     . exact .inl h
     . rcases var_live Y with rfl | rfl
       . exact absurd (r.inj x argSite b o A B N g (e0.trans Q)) hne
       grind
    refine⟨wrapV cs,run_results g1,cs,Mplus M1 i S,rfl,⟨i,look st.heap,ps,p1,hps⟩,λb h=>.inl (r.mold b h),λb h=>?_,λb h=>?_,λb g R h2=>?_,r.size,r.os,r.tape,r.output,e3,?_⟩
    . rcases h with h |⟨U,A,D,J⟩
      . rcases r.mnew b h with h' |⟨_,h' |⟨y,A,Y,Q⟩⟩
        . exact .inl h'
        . grind
        . rcases var_live Y with rfl | rfl;all_goals grind
      grind
    . rcases h with h |⟨U,A,D,J⟩
      . exact r.msub b h
      . exact(r.own U b A (hS2 U D).1 J).2.1
    . refine r.keep b g λ⟨y,o,Y,Q⟩=>?_;rcases var_live Y with rfl | rfl
      . grind
      grind
    . have hB:=r.heap argSite _ t;have hA:=r.heap X _ d;cases hB with
      | box _ bb bo C e fr k1 k2 k3 k4 k5 k6 =>
      have hcell:=k6 0 _ rfl;have hz:z1=V.length:=by
       generalize C.getD (bo+0) undef=u at hcell;cases hcell with
       | slice _ _ _ a' ks' xs' b' A cap R hl g hcap hr=>rw[d]at R;cases R;rfl
       | sliceE _ _ a' ks' xs' base R hl=>rw[d]at R;cases R;rfl
      subst hz;refine⟨off,len,ys,bb,bo,C,e,fr,i X,rfl,e0▸k1,hnS argSite bb bo N k1 (.inl rfl),k2,by simpa using k3,k4,?_,hA.arr_mono hup rfl,λb o g=>?_⟩
      . exact hcell.slice_move d rfl rfl
      . refine⟨hnS X b o E g (.inr rfl),(r.own X b o E g).2.1,?_,hPr X b o E g L⟩;rintro rfl;exact L (r.inj X argSite b o bo E N g k1)
theorem NH:NoLog [(99999,Blk.arr sa ks xs)]:=by intro ys c;grind[zl]
theorem tV(c:(look [(99999,b1)] x).isSome=true):x=99999:=by grind[zl]
theorem Rel.WG(hp:Ew w M β args b1 cargs)(A:∀ p∈gl.getD [],M p.1/\w.heap[p.1]?=some p.2)(fn:Func) :
    Rel ⟨w,0,Nat.zero_le _,gl⟩ (λb=>∃ o,β 99999=some (b,o)) M M (λx=>if argSite<=x then none else β x) {env:=args++List.replicate (fn.ntmps-args.length) .undef,heap:=[(99999,b1)]} {tmps:=cargs++Array.replicate (fn.ntmps-cargs.size) undef,defers:=[]} w:=by
  have L:=hp.num;have g:(if argSite<=99999 then none else β 99999)=β 99999:=if_neg (by decide);refine⟨?_,λt v S=>?_,λs blk d=>?_,λs b o d B=>?_,λs J b o R d z _ _=>?_,hp.msub,λb h=>.inl h,λb h=>h,λb _ _=>rfl,λb n _ _ h=>h,qNr _,rfl,rfl,rfl,A⟩
  . simp[L]
  . by_cases N:t<args.length
    . have y:args[t]?=some v:=by grind
      have:=hp.args t v y;have e:(cargs++Array.replicate (fn.ntmps-cargs.size) undef).getD t undef=cargs.getD t undef:=by rw[qAb,qAb,Array.getElem?_append_left (by omega)]
      rw[e];refine this.mono (λb h=>⟨h,rfl⟩) λs blk _ i=>⟨blk,i,Like.refl _,?_,λ_ _ _ _ h=>h⟩;have:=tV (x:=s) (by rw[i];rfl);grind
    . have:v=.undef:=by grind
      subst this;exact .undef _
  . have d:look [(99999,b1)] s=some blk:=d;have e:=tV (x:=s) (by rw[d];rfl);subst e;rw[zl,if_pos rfl]at d;cases d;cases hp.blk with
    | arrE a ks=>exact .arrE a ks
    | arr a ks xs b o C e fr u q I H E D=>exact .arr a ks xs b o C e fr (g.trans u) q I H E D
    | log on xs=>exact .log on xs
    | box cs b o C e fr u q I H E D =>refine .box cs b o C e fr (g.trans u) q I H E λj c Q=>(D j c Q).mono (λb h=>⟨h,rfl⟩) λs blk _ i=>⟨blk,i,Like.refl _,?_,λ_ _ _ _ h=>h⟩;have:=tV (x:=s) (by rw[i];rfl);grind
  . have e:=tV (x:=s) d;subst e;have B:β 99999=some (b,o):=by rw[<- g];exact B
    obtain⟨u,q⟩:=hp.own b o B;grind
  . rw[tV (x:=s) d,tV (x:=J) z]
theorem NI(ok:TabOk P T)(V:ExtOk P T gl X)(hC:CallOk P T gl (acall T X n))(hS:SeqOk P T gl (acall T X n)) :
    ∀ f fi args sa ks xs A bl',tlook T.funcs f=some fi->fi.cfg.take=true->acall T X (n+1) f args [.log false [],.arr sa ks xs]=some (A,bl')->(∃ c,fi.fn.body=some c) /\
    ∀(w:World) (M:Nat->Prop) (β:Nat->Option (Nat × Nat)) (cargs:Array Value),(∀ p∈gl.getD [],M p.1/\w.heap[p.1]?=some p.2)->Ew w M β args (.arr sa ks xs) cargs ->
     Calls P f cargs w λe w'=>∃ cs ps M',e=.returned (wrapV cs)/\LK gl T fi w M β A w' M' cs ps:=by
  intro f fi args sa ks xs A bl' D J h;simp only[acall,D]at h;cases B:X f with
  | some s =>
   rw[B]at h;cases i:fi.cfg.gext with
   | false =>obtain⟨_,Y,_⟩:=V.2.1 f fi s args _ A bl' D i B h;simp_all[pureBlk]
   | true =>obtain⟨_,_,h2,_⟩:=V.2.2 f fi s args _ _ D i B h;simp at h2
  | none =>
   rw[B]at h;simp only at h;cases y:fi.fn.body with
   | none=>rw[y]at h;cases h
   | some c =>
    rw[y]at h;have i:fi.cfg.gext=false:=by grind[callB]
    have I:fi.cfg.vcall=false:=by grind[callB]
    simp only[callB,i,I,J,qCt,forceAVs_eq,forceBlks_eq,forceSt_eq,startF,retF,LJ]at h;refine⟨⟨c,rfl⟩,λw M β cargs N hp=>?_⟩;refine yG ok hC hS D y (Rel.WG hp N fi.fn) NH h λst a w' M1 t r e1 e2 e3 u=>?_;unfold YD at u;split at u
    . cases u
    rename_i vs H;split at u
    case h_2=>cases u
    rename_i Z L;simp only[forceAVs_eq,qOa,Prod.mk.injEq]at u;obtain⟨rfl,rfl⟩:=u;obtain⟨cs,g1,g2⟩:=resAll_ok ok r H;obtain⟨S,ps,p1,E,p3,p4⟩:=retVals_ok r (hA:=look st.heap) (βA:=t) (λj blk hj=>⟨hj,rfl⟩) L (λ_ _ h=>h) g2;refine⟨wrapV cs,run_results g1,cs,ps,Mplus M1 t S,rfl,⟨⟨t,look st.heap,p1⟩,λb o y=>?_,λb h=>.inl (r.mold b h),λb h=>?_,λb h=>?_,λb y Y=>?_,r.size,r.os,r.tape,r.output,e3⟩⟩
    . obtain⟨s,Q,U,k2,k3,R⟩:=p3 b o y;obtain⟨o1,o2,o3⟩:=r.own s b Q U R;refine⟨λh=>?_,o2,o3.1⟩;rcases h with h |⟨q,z,d,g⟩
      . exact o1 h
      . exact k2 (by rw[r.inj s q b Q z U (E q d).1 R g];exact d)
    . rcases h with h |⟨q,z,d,g⟩
      . rcases r.mnew b h with h' |⟨_,h'⟩;all_goals grind
      . exact .inr (r.own q b z (E q d).1 g).2.2.1
    . rcases h with h |⟨q,z,d,g⟩
      . exact r.msub b h
      . exact(r.own q b z (E q d).1 g).2.1
    . exact r.keep b y λ⟨o,h⟩=>Y o h
end
end
section
open Go.RowKit
variable {gl:Option (List (Nat × Obj))}{X:Ext}
section
variable {P:Program} {T:Tab} {C:CallF} {G:Gv}
theorem rep_get(n i:Nat):((Array.replicate n undef)[i]?).getD undef=undef:=by grind
theorem arr_get{A:Array Value}{i:Nat}(h:i<A.toList.length):A.toList[i]?=some (A.getD i undef):=by simp_all
theorem yOp_fit{i:World}{Mk:Nat->Prop}{on:Bool}{d:List PV}{t0:Array Value}{ys:List Nat}{yv:Value}{o:Oper}(h:yOp ys o=true):OpFit (gcx gl i Mk on d t0 ys yv) o:=by
 refine⟨λ_ _=>trivial,λt j e=>?_⟩;have e:t∈ys:=e;simp only[yOp,j,qBa]at h;have c:=h.1;simp only[memN_iff.2 e,qCt]at c;split at c
 . rename_i s g;exact⟨s,memN_iff.1 c,.inl g⟩
 . rename_i s g;exact⟨s,memN_iff.1 c,.inr g⟩
 . cases c
theorem ysFrom_mem{n:Nat}:∀{l:List Nat},ysFrom n l=true->∀ t∈l,t=0\/n<t
 |[],_,t,c=>by simp at c
 | x::r,h,t,c=>by
  simp only[ysFrom,qBa,Bool.or_eq_true]at h;rcases List.mem_cons.1 c with rfl | c
  . simp_all
  . exact ysFrom_mem h.2 t c
theorem yOps_mem{ys:List Nat}:∀{l:List Oper},yOps ys l=true->∀ o∈l,yOp ys o=true
 |[],_,o,c=>by simp at c
 | x::r,h,o,c=>by
  simp only[yOps,qBa]at h;rcases List.mem_cons.1 c with rfl | c
  . exact h.1
  . exact yOps_mem h.2 o c
theorem sim_textG(ok:TabOk P T)(hC:CallOk P T G.gl C)(H:G.Ok P){hd:List (List Nat)}{ops:Array Oper}{k:St->Option (List AV × List Blk)}(hk:∀ st x,k st=some x->Has x st){Q:Exit->Act->World->Prop}
    (hQ:∀ x st' a' w',k st'=some x->GI G x st' a' w'->Q .normal a' w'):∀(l:List Oper) (j:Nat) (st:St) (a:Act) (w:World) (x:List AV × List Blk),(∀ o∈l,yOp G.ys o=true)->runOps T C false hd ops.toList l j st k=some x->GI G x st a w ->
    wpListIn (FW none) 0 P ops Q l a w
  |[],j,st,a,w,x,_,h,i=>hQ x st a w h i
  | o::rest,j,st,a,w,x,N,h,gi=>by
   have ih:=λst' a' w' x' h i=>sim_textG (hd:=hd) (ops:=ops) ok hC H hk hQ rest (j+1) st' a' w' x' (λo ho=>N o (by simp[ho])) h i;have step:∀ d,step1 T C false (hd.getD j []) ops.toList o st=some d->runOps T C false hd ops.toList rest (j+1) d k=some x->wpListIn (FW none) 0 P ops Q (o::rest) a w:=by
    intro d I h;obtain⟨E,Mk,on,A,i,g1,g2⟩:=gi;have:=sim1 ok hC rfl (yOp_fit (N o (by simp))) i I (rd:=none) (n:=0) (K:=wpListIn (FW none) 0 P ops Q rest) (λa' w' i'=>ih d a' w' x h ⟨E,Mk,on,A,i',λb zs q=>g1 b zs (step1_log I b zs q),g2⟩) (Q:=Q);unfold wpListIn;split
    . grind
    . rename_i N;rw[if_neg N]at this;exact⟨λ_ _=>trivial,this⟩
   cases hy:yieldAt false st o with
   | none =>
    rw[runOps_cons _ _ hy]at h;cases I:step1 T C false (hd.getD j []) ops.toList o st with
    | none=>rw[I]at h;cases h
    | some d=>rw[I]at h;exact step d I h
   | some p =>
    obtain⟨xs,vs⟩:=p;rw[runOps_yield _ _ hy]at h;cases hg:guardOf ops.toList o st.env with
    | none=>rw[hg]at h;cases h
    | some b =>
     rw[hg]at h;cases b with
     | false=>exact step _ (by unfold step1;rw[act1_guard,hg]) h
     | true =>
      obtain⟨no,hno,u⟩:=fork_some h;obtain⟨c,ss,ty,_,D,U,hyl,g,S⟩:=yieldAt_log hy;obtain⟨E,Mk,on,A,i,g1,g2,g3,g4⟩:=gi;obtain⟨rfl,rfl⟩:=g1 _ _ g;have hwant:=wanted_guard rfl i hg;rcases g4 with⟨_,restL,O,K,k1,Y,k3⟩ |⟨hf,_⟩
      case inr=>cases hf
      have i0:=i;obtain⟨M,β,L,ds,r,i1,i2,i3,fx⟩:=i0;have hgrow:Grows G.gl E w:=r.turns i3;have hgs:E.heap.size<=w.heap.size:=r.size;obtain⟨b',zs,q1,ys,q2⟩:=has_ops hk rest (j+1) _ x u;rw[afterYield_look]at q1;cases q1;have hrest:restL=.agg vs::ys:=by rw[q2,List.append_assoc]at k1;exact(List.append_cancel_left k1).symm
      subst hrest;unfold wpListIn;rw[hwant,if_pos rfl];refine wpIn_exec (λc' V=>by rw[D]at V;cases V) ?_;obtain⟨dst,op,type,pos,after,guard⟩:=o;simp only at D;subst D;obtain⟨callee,args,ts⟩:=c;simp only at U S;subst U;have B:=N _ List.mem_cons_self;simp only[yOp,qBa]at B;have hty:ty∈G.ys:=memN_iff.1 B.2;have z:∀ t,dst=some t->t ∉ G.ys:=λt e Z=>by subst e;have:=B.1;simp only[memN_iff.2 Z,qCt]at this;cases this
      have hev:a.eval (.tmp ty)=.func (.yield G.l) #[] #[]:=by
       show a.tmps.getD ty undef=_;rcases fx.yl ty hty with h | h
       . exact h
       . have hs:=r.slot ty;rw[hyl,h]at hs;cases hs
      rw[exec_yield hev];have hls:ListR w M β (look st.heap) (evalOs st.env args.toList) (args.map a.eval).toList:=by rw[Array.toList_map];exact r.evalOs _
      obtain⟨d1,d2,d3⟩:=deeps_ok r.heap (λ_ _ h=>h) S hls;have hlt:∀ b,O b->b<E.heap.size:=λb q=>H.lt _ _ _ _ Y b (.inl q);obtain⟨fn,tmps,asg,body,R,hround⟩:=H.y vs ys O K w (Mplus M β ss) (args.map a.eval) (H.j _ _ _ _ _ Y hgrow) (by omega) (λb q=>by
       have J:∀ b,E.heap.size<=b->¬ O b/\(G.M0 b\/G.W0.heap.size<=b):=λb q=>⟨λho=>by have:=hlt b ho;omega,by right;omega⟩;rcases q with q |⟨s,o',hs,q⟩
       . refine⟨r.msub b q,?_⟩;rcases r.mnew b q with h |⟨h,_⟩
         . exact⟨k3 b h,(g3 b h).2⟩
         . exact J b h
       . obtain⟨o1,o2,o3,_⟩:=r.own s b o' (d3 s hs) q;refine⟨o2,?_⟩;rcases o3 with h | h
         . exact J b h
         . exact h.elim) (by rw[<- Array.length_toList];exact d1.symm) (λi c hc=>by
       have hi:i<(args.map a.eval).toList.length:=by rw[<- d1];exact(qLa.1 hc).1
       exact d2 i c _ hc (arr_get hi))
      rw[R,Oper.uponIn_round];refine⟨FW_depth none,RoundIn.mono hround λe W' hR=>?_⟩;obtain⟨Z,O',K',(⟨rfl,hJ⟩ |⟨rfl,hJx⟩),hO,_⟩:=hR
      . exact ih _ _ W' x u (GI.after H i g g2 g3 Y k3 Z z true (.inl ⟨rfl,⟨O',K',hJ,hO⟩,ys,q2,rfl⟩))
      . exact ih _ _ W' no hno (GI.after H i g g2 g3 Y k3 Z z false (.inr ⟨rfl,O',K',hJx⟩))
theorem codeSim_gen(ok:TabOk P T)(H:CallOk P T G.gl C)(hG:G.Ok P){F:FI}{n:Option Nat}(d:F.cfg.nvars<=argSite):CodeSim T C F n P 0 KP (λ_:Unit=>none) (λ_ o=>yOp G.ys o=true) (λ_ x st a w=>GI G x st a w) where
 reg:=by
  intro _ id ops draw st a w k x Q u h hd hw gi V;have t:∀ o∈ops.toList,yOp G.ys o=true:=hw;have U:∀ st x,(forceSt (settle F.cfg ops.toList st) λst'=>k .normal st')=some x->Has x st:=λst x h=>by rw[forceSt_eq]at h;exact(u .normal _ x h).sub (settle_log d _ _)
  simp only[runCode]at h;cases draw with
  | false =>refine wpIn_region_list (sim_textG ok H hG U (λI st' a' w' y g=>?_) ops.toList 0 st a w x t h gi);rw[forceSt_eq]at y;exact V I _ a' w' y (g.map (λ_ i=>i.settle d _) (settle_log d _ _))
  | true =>
   simp only[drawsOk]at hd;cases hh:tlook F.hides id with
   | none=>rw[hh]at h;cases h
   | some hid =>
    rw[hh]at h hd;simp only[qBa]at hd;simp only[forceSt_eq]at h;obtain⟨J,Mk,on,q,i,g1,g2⟩:=gi.map (st':=st.strike (present st.heap (allSites ops.toList ops.toList))) (λ_ i=>i.strike _) (strike_log _ _);have back:∀{N:St->Option (List AV × List Blk)} {st':St} {a':Act} {w':World},Skm.relog (look (st.strike (present st.heap (allSites ops.toList ops.toList))).heap argSite) st' N=some x->Inv (gcx G.gl J Mk on q G.t0 G.ys G.yv) st' a' w'->∃ e,N e=some x/\GI G x e a' w':=by intro N st' a' w' y B;obtain⟨e,E,i2,S⟩:=B.relog (λon' xs he=>by obtain⟨rfl,rfl⟩:=g1 _ _ he;exact⟨xs,by simp[gcx,look]⟩) y;exact⟨e,E,J,Mk,on,q,i2,λb Y hb=>g1 b Y (S b Y hb),g2⟩
    cases R:yCut F.cfg.ys ops.toList with
    | none =>rw[R]at h;refine sim_draw ok H hd.1 hd.2 h (λo D=>yOp_fit (t o D)) i λst' a' w' y B=>?_;obtain⟨e,E,A⟩:=back y B;exact V x _ a' w' E (GI.map A (λ_ i=>i.settle d _) (settle_log d _ _))
    | some Z =>rw[R]at h;refine sim_cut ok H hd.1 hd.2 (yCut_chain R) h (λo D=>yOp_fit (t o D)) i λst' a' w' y B _=>?_;obtain⟨e,E,A⟩:=back y B;refine sim_textG ok H hG (λst x h=>(u .normal _ x h).sub (settle_log d _ _)) (λI st3 a3 w3 h3 g3=>V I _ a3 w3 h3 (g3.map (λ_ i=>i.settle d _) (settle_log d _ _))) (ops.toList.drop Z) Z e a' w' x (λo D=>t o (List.mem_of_mem_drop D)) E A
 forget:=λ_ x st a w c g=>g.map (λ_ i=>i.forgetAt _ _) (forgetAt_log _ _ _)
 cond:=by intro _ x st a w c b g hv;obtain⟨J,Mk,on,q,⟨M,β,L,ds,r,_⟩,_⟩:=g;have hc:=r.evalO c;rw[hv]at hc;exact hc.p_bool
 kseq:=λz k u=>u.seq d z
 kblock:=λid k u=>u.block id
 kloop:=λc j k u=>u.loop d c j
theorem seq_step(ok:TabOk P T)(hX:ExtOk P T gl X){n:Nat}(hC:CallOk P T gl (acall T X n)):SeqOk P T gl (acall T X (n+1)):=by
 intro g fi d x hf u h;simp only[acall,hf]at h;cases hx:X g with
 | some s =>
  rw[hx]at h;obtain⟨rs,bl'⟩:=x;cases B:fi.cfg.gext with
  | false =>obtain⟨_,S,_⟩:=hX.2.1 g fi s _ _ rs bl' hf B hx h;simp_all[pureBlk]
  | true =>
   obtain⟨YF,S,_,h3,h4⟩:=hX.2.2 g fi s _ _ _ hf B hx h;have N:d=YF:=by simp only[List.cons.injEq,true_and]at S;exact List.map_inj_right (λ_ _ e=>AV.p.inj e) |>.1 S
   grind
 | none =>
  rw[hx]at h;simp only at h;cases q:fi.fn.body with
  | none=>rw[q]at h;cases h
  | some c =>
   rw[q]at h;simp only at h;have B:fi.cfg.gext=false:=by grind[callB]
   have A:noRange c=true/\(∀ o∈opsOf c,yOp fi.cfg.ys o=true)/\∀ t∈fi.cfg.ys,t=0\/d.length<t:=by unfold bodyPlain at u;rw[q,B]at u;simp only[Bool.false_or,qBa]at u;exact⟨u.1,yOps_mem u.2.2.1,ysFrom_mem u.2.1⟩
   have Y:fi.cfg.vcall=false:=by unfold bodyPlain at u;grind
   have Z:fi.cfg.take=false:=by unfold bodyPlain at u;grind
   have hcb:callB fi.cfg [.log true []]=true:=by simp[callB,B,Y,Z]
   rw[hcb]at h;simp only[qCt,forceAVs_eq,forceBlks_eq,forceSt_eq,startF,retF,Y,Z]at h;obtain⟨hfn,hname,hdr,hret⟩:=ok.funcs g fi hf;refine⟨hfn,?_⟩;intro W0 M0 l lb J Jx O0 hgl hlb hlv R hJ hJx hlt hY h0;let cargs:Array Value:=#[.func (.yield l) #[] #[]]++lb;let t0:Array Value:=cargs++Array.replicate (fi.fn.ntmps-cargs.size) undef;let G:Gv:={W0,M0,J,Jx,t0,l,gl,ys:=fi.cfg.ys};have hc0:cargs[0]?=some (.func (.yield l) #[] #[]):=by grind
   have hcs:0<cargs.size:=by grind
   have hG:G.Ok P:=⟨λr _ _ _ _ h g=>(hJ r).grows h g,λ_ _ _ _ h g=>hJx.grows h g,hlt,hY⟩;have hrep:∀ i,((Array.replicate (fi.fn.ntmps-cargs.size) undef)[i]?).getD undef=undef:=λi=>rep_get _ i;have hp:CallPre W0 M0 (λ_=>none) (.yld::d.map .p) [.log true []] cargs:=by
    refine⟨by simp[cargs,hlb];omega,λi v E=>?_,λi b0 E=>?_,λi b o E q=>(by cases q),λi j b o o' E hj q=>(by cases q),λb q=>(R b q).1⟩
    . cases i with
      | zero =>
       simp at E;subst E;have:cargs.getD 0 undef=.func (.yield l) #[] #[]:=by rw[qAb,hc0];rfl
       rw[this];exact .yld l
      | succ i =>
       simp only[List.getElem?_cons_succ,List.getElem?_map,Option.map_eq_some_iff]at E;obtain⟨c,N,rfl⟩:=E;have:cargs.getD (i+1) undef=lb.getD i undef:=by simp only[cargs,qAb];rw[Array.getElem?_append_right (by simp)];simp
       rw[this];exact .p _ _ (hlv i c N)
    . cases i with
      | zero=>simp at E;subst E;exact .log _ _
      | succ i=>simp at E
   have hr:Rel ⟨W0,W0.heap.size,qNr _,gl⟩ (λ_=>False) M0 M0 (λ_=>none) (startSt fi.fn (.yld::d.map .p) [.log true []]) {tmps:=t0,defers:=[]} W0:=by have:=Rel.start hp hgl fi.fn;grind
   have hlk:look (startSt fi.fn (.yld::d.map .p) [.log true []]).heap argSite=some (.log true []):=by rfl
   have hgi:GI G x (startSt fi.fn (.yld::d.map .p) [.log true []]) {tmps:=t0,defers:=[]} W0:=by
    refine⟨W0,M0,true,[],⟨M0,λ_=>none,[],[],hr,λ_ _=>rfl,λs _ blk q=>⟨blk,?_,Like.refl _⟩,.refl _ _,⟨λp hp=>by simp at hp,λp hp=>hp,rfl,List.nodup_nil,λD hD=>by simp at hD,λl hl=>(by cases hl),rfl,λ_ _=>rfl,λ_=>rfl,λt ht=>?_,qNr _⟩⟩,λb I q=>?_,qNr _,λb q=>⟨(R b q).1,.inl q⟩,.inl ⟨rfl,logOf x.2,O0,_,rfl,h0,λb q=>(R b q).2⟩⟩
    . exact q
    . rcases A.2.2 t ht with rfl | hlt
      . left;show t0.getD 0 undef=_;rw[qAb];show((cargs++Array.replicate (fi.fn.ntmps-cargs.size) undef)[0]?).getD undef=_;rw[Array.getElem?_append_left hcs,hc0];rfl
      . right;show t0.getD t undef=_;have hsz:cargs.size=1+lb.size:=by grind
        rw[qAb];grind
    grind
   let kf:Ex->St->Option (List AV × List Blk):=λU st=>match U with
    | .exit _=>none
    | _=>retK T fi.cfg fi.fn [.log true []] st
   have hlast:∀ st H,retK T fi.cfg fi.fn [.log true []] st=some H->∃ b I vs,look st.heap argSite=some (.log b I)/\logOf H.2=I/\resAll T st.env (look st.heap) fi.fn.results.toList=some vs:=by
    intro st H z;unfold retK at z;split at z
    . cases z
    . rename_i vs hvs;split at z
      . rename_i rs' bl'' hrv y;simp only[forceAVs_eq,forceBlks_eq,qOa]at z;subst z;simp only[argsBack]at y;split at y
        . rename_i b bs S h2;cases h2;cases N:backBlkOk b&&backOk (.log true []) b with
          | false=>rw[N]at y;cases y
          | true =>
           rw[N]at y;simp only[qCt,qOa]at y;subst y;simp only[qBa]at N;cases b with
           | box=>simp[backOk]at N
           | arr=>simp[backOk]at N
           | log on I=>exact⟨on,I,vs,S,rfl,hvs⟩
        . cases y
      . cases z
   have hkp:KP kf:=by
    intro U st H z;have z:retK T fi.cfg fi.fn [.log true []] st=some H:=by grind
    obtain⟨b,I,_,S,h2,_⟩:=hlast st H z;exact⟨b,I,S,[],by rw[h2];simp⟩
   refine calls_of_fw (rd:=none) (n:=0) (callsIn_of_wp_marks hfn q trivial ?_);refine sim_codeG (ng:=true) (codeSim_gen ok hC hG (ok.nvars g fi hf)) (λh=>by cases h) c () _ _ W0 kf x _ hkp h (hdr c q) (λ_=>A.1) A.2.1 hgi λU H st a w1 z gi=>?_;have hk':retK T fi.cfg fi.fn [.log true []] st=some H/\(U=.normal\/U=.ret):=by
    cases U with
    | normal=>exact⟨z,.inl rfl⟩
    | exit id=>cases z
    | ret=>exact⟨z,.inr rfl⟩
   obtain⟨z,hex⟩:=hk';obtain⟨b,I,vs,q1,q2,q3⟩:=hlast st H z;obtain⟨wd,Mk,on,done,⟨M,β,L,ds,r,i1,i2,i3,fx⟩,g1,g2,g3,g4⟩:=gi;obtain⟨rfl,rfl⟩:=g1 _ _ q1;have Q:LeavesInM (FW none) 0 P fi.fn a.tmps (λe W'=>(∃ v,e=.returned v)/\∃ O K:Nat->Prop,J [] O K W'\/Jx O K W') a.defers .returning w1:=by
    rw[fx.marks];refine leaves_marks ds w1 fx.nodup (λD hD=>(fx.lies _ (fx.mark D hD).1).1) λw' k1 k2 k3 k4 k5 k6=>?_;have r':=Inv.shut r fx rfl k1 k2 k3 k4 k5;obtain⟨cs,e1,e2⟩:=resAll_ok ok r' q3;have hgrow:Grows G.gl wd w':=r'.turns (by rw[k6];exact i3);refine⟨wrapV cs,run_results e1,⟨_,rfl⟩,?_⟩;rcases g4 with⟨_,V,O,K,p1,p2,_⟩ |⟨_,O,K,p1⟩
    . rw[q2]at p1;have:V=[]:=by have:=congrArg List.length p1;simp at this;exact this
      subst this;exact⟨O,K,.inl ((hJ _).grows p2 hgrow)⟩
    . exact⟨O,K,.inr (hJx.grows p1 hgrow)⟩
   rcases hex with rfl | rfl
   . exact Q
   . exact Q
theorem acall_sound2(ok:TabOk P T){X:Ext}{gl:Option (List (Nat × Obj))}(c:ExtOk P T gl X):∀ n,CallOk P T gl (acall T X n)/\SeqOk P T gl (acall T X n)
 | 0=>⟨⟨λf fi args bl d bl' _ _ h=>by simp[acall]at h,λf fi args z off len a ks xs d bl' _ _ h=>by simp[acall]at h,λf fi args a ks xs d bl' _ _ h=>by simp[acall]at h,c.1⟩,λg fi e r _ _ h=>by simp[acall]at h⟩
 | n+1=>⟨⟨call_step ok c (acall_sound2 ok c n).1 (acall_sound2 ok c n).2,call_stepV ok c (acall_sound2 ok c n).1 (acall_sound2 ok c n).2,NI ok c (acall_sound2 ok c n).1 (acall_sound2 ok c n).2,c.1⟩,seq_step ok c (acall_sound2 ok c n).1⟩
theorem acall_sound(ok:TabOk P T)(c:ExtOk P T gl X)(n:Nat):CallOk P T gl (acall T X n):=(acall_sound2 ok c n).1
end
end
section
variable {p:Nat->Prop}{r:List AV × List Blk}{fg:St->St}{st:St}{o:Oper}{F fi:FI}{f:Nat}{X:Ext}{args:List AV}{bl:List Blk}
section
variable {α:Type}
abbrev Ev(p:Nat->Prop):Prop:=∃ n,∀ m,n<=m->p m
theorem Ev.map{r:Nat->Prop}(h:Ev p)(f:∀ m,p m->r m):Ev r:=⟨_,λm c=>f m (h.choose_spec m c)⟩
theorem Ev.and{q r:Nat->Prop}(h:Ev p)(k:Ev q)(f:∀ m,p m->q m->r m):Ev r:=
 ⟨max h.choose k.choose,λm c=>f m (h.choose_spec m (by omega)) (k.choose_spec m (by omega))⟩
theorem Ev.all(h:∀ m,p m):Ev p:=⟨0,λm _=>h m⟩
theorem Ev.now{p:Prop}(h:Ev λ_=>p):p:=h.choose_spec _ (qNr _)
abbrev EvS(kn:Nat->St->Option α)(k:St->Option α):Prop:=∀ st x,k st=some x->Ev λm=>kn m st=some x
abbrev Qv(kn:Nat->Ex->St->Option α)(k:Ex->St->Option α):Prop:=∀ ex st x,k ex st=some x->Ev λm=>kn m ex st=some x
abbrev EvB(bn:Nat->St->(Ex->St->Option α)->Option α)(b:St->(Ex->St->Option α)->Option α):Prop:=∀ kn k st x,Qv kn k->b st k=some x->Ev λm=>bn m st (kn m)=some x
abbrev EvC(Cn:Nat->CallF)(C:CallF):Prop:=∀ f a b x,C f a b=some x->Ev λm=>Cn m f a b=some x
abbrev LeQ(j:Nat)(q:Option Nat):Prop:=∀ i,q=some i->j<=i
abbrev EvQ(qn:Nat->Option Nat)(q:Option Nat):Prop:=∀ j,LeQ j q->Ev λm=>LeQ j (qn m)
theorem Qv.refl(k:Ex->St->Option α):Qv (λ_=>k) k:=λ_ _ _ h=>.all λ_=>h
theorem EvC.refl(C:CallF):EvC (λ_=>C) C:=λ_ _ _ _ h=>.all λ_=>h
theorem EvQ.refl(q:Option Nat):EvQ (λ_=>q) q:=λ_ h=>.all λ_=>h
def Mono(f:Nat->Option α):Prop:=∀ n m x,n<=m->f n=some x->f m=some x
theorem lim_some{f:Nat->Option α}{x:α}(h:lim f=some x):∃ n,f n=some x:=by unfold lim at h;split at h;all_goals grind
theorem lim_of{f:Nat->Option α}(e:Mono f){x:α}{n:Nat}(h:f n=some x):lim f=some x:=by have c:∃ x n,f n=some x:=⟨x,n,h⟩;unfold lim;rw[dif_pos c];obtain⟨m,d⟩:=c.choose_spec;have i:=e n (max n m) x (by omega) h;have g:=e m (max n m) _ (by omega) d;grind
theorem Tf{f:Nat->Option α}(d:Mono f){x:α}(h:lim f=some x):Ev λm=>f m=some x:=by obtain⟨n,h⟩:=lim_some h;exact⟨n,λm c=>d n m x c h⟩
def next(fg:St->St)(L:St->Option α)(k:Ex->St->Option α):Ex->St->Option α
 | .normal,st=>forceSt (fg st) L
 | .exit id,st=>k (.exit id) st
 | .ret,st=>k .ret st
theorem loopN_succ{body:St->(Ex->St->Option α)->Option α}{m:Nat}{k:Ex->St->Option α}:loopN fg body (m+1) st k=body st (next fg (λst'=>loopN fg body m st' k) k):=by simp only[loopN];congr 1;funext ex st';cases ex<;>rfl
variable {fg:St->St} {bn:Nat->St->(Ex->St->Option α)->Option α} {b:St->(Ex->St->Option α)->Option α}
theorem OY{Ln:Nat->St->Option α}{L:St->Option α}{kn:Nat->Ex->St->Option α}{k:Ex->St->Option α}(d:EvS Ln L)(c:Qv kn k):Qv (λm=>next fg (Ln m) (kn m)) (next fg L k)
 | .normal,st,x,h=>by simp only[next,forceSt_eq]at h ⊢;exact d _ _ h
 | .exit _,_,_,h=>c _ _ _ h
 | .ret,_,_,h=>c _ _ _ h
theorem Gu(d:EvB bn b){kn:Nat->Ex->St->Option α}{k:Ex->St->Option α}(c:Qv kn k):∀{j:Nat} {st:St} {x:α} {jn:Nat->Nat},(Ev λm=>j<=jn m)->loopN fg b j st k=some x->Ev λm=>loopN fg (bn m) (jn m) st (kn m)=some x
 | 0,_,_,_,_,h=>by simp[loopN]at h
 | j+1,st,x,jn,hj,h=>by rw[loopN_succ]at h;refine(d _ _ _ _ (OY (fg:=fg) (Ln:=λm st=>loopN fg (bn m) (jn m-1) st (kn m)) (λst x h=>Gu d c (hj.map λm h=>by omega) h) c) h).and hj λm e q=>?_;obtain⟨i,g⟩:∃ i,jn m=i+1:=⟨jn m-1,by omega⟩;rw[g]at e ⊢;rw[loopN_succ];exact e
theorem loopN_mono(d:EvB (λ_=>b) b){k:Ex->St->Option α}:Mono λm=>loopN fg b m st k:=λ_ m _ c h=>(Gu d (Qv.refl k) (jn:=λ_=>m) (.all λ_=>c) h).now
theorem Ti{qn:Nat->Option Nat}{q:Option Nat}(e:EvQ qn q)(u:EvB bn b)(d:∀ m,EvB (λ_=>bn m) (bn m)){kn:Nat->Ex->St->Option α}{k:Ex->St->Option α}(g:Qv kn k){x:α}(h:DR fg b q st k=some x):Ev λm=>DR fg (bn m) (qn m) st (kn m)=some x:=by
 obtain⟨j,t,h⟩:=zZ h;refine(Gu u g (jn:=λm=>(qn m).getD j) ((e j t).map λm h=>?_) h).map λm h=>?_
 . cases c:qn m with
   | none=>exact qNr j
   | some i=>exact h i c
 . cases c:qn m with
   | none=>rw[c]at h;exact lim_of (loopN_mono (d m)) h
   | some i=>rw[c]at h;exact h
theorem Il(d:EvB bn b){ss:List (Bool × List Kd)}{ps c:List Nat}:∀{xs:List PV} {st:St} {kn:Nat->Ex->St->Option α} {k:Ex->St->Option α} {x:α},Qv kn k->rangeL fg ss ps c b xs st k=some x->Ev λm=>rangeL fg ss ps c (bn m) xs st (kn m)=some x
 |[],_,_,_,_,hk,h=>hk _ _ _ h
 | v::xs,st,kn,k,x,hk,h=>by
  simp only[rangeL]at h ⊢;split at h
  . cases h
  . simp only[forceSt_eq]at h ⊢;refine d _ _ _ _ (λe st x h=>?_) h;cases e with
    | normal =>simp only[rnext,forceSt_eq]at h ⊢;exact Il d hk h
    | _ =>simp only[rnext,forceSt_eq]at h ⊢;exact hk _ _ _ h
end
section
variable (T:Tab)
def retC(F:FI)(bl:List Blk):Ex->St->Option (List AV × List Blk)
 | .exit _,_=>none
 | .normal,st=>retF T F.cfg F.fn bl st
 | .ret,st=>retF T F.cfg F.fn bl st
noncomputable def acallI(C:CallF):CallF:=λf args bl =>
 match tlook T.funcs f with
 | none=>none
 | some fi =>
  match fi.fn.body with
  | none=>none
  | some c=>bif callB fi.cfg bl then forceAVs T.strict args λargs=>forceBlks T.strict bl λbl=>forceSt (startF fi.cfg fi.fn args bl) λst=>runCode T C fi none c st (retC T fi bl)else none
noncomputable def run(X:Ext):CallF:=λf args bl=>lim λn=>acall T X n f args bl
end
section
variable {α:Type} {T:Tab} {C:CallF} {Cn:Nat->CallF}
theorem stepOp_shape(env:List AV)(h:Nat->Option Blk)(o:Oper):(∃ D,∀ C,stepOp T C env h o=D)\/∃ f e bl g,∀ C,stepOp T C env h o=.call (C f e bl) g:=by
 have call:∀(d:Option Nat) (f:Nat) (args:List AV),(∃ D,∀ C,stepCall T C h d f args=D)\/∃ j e bl g,∀ C,stepCall T C h d f args=.call (C j e bl) g:=by
  intro d f args;unfold stepCall;cases (cfgOf T f).prim.is with
  | true=>exact .inl ⟨_,λC=>rfl⟩
  | false =>
  simp only[qCf];have t:∀(d:Nat) (fi:FI) (i:List AV) (s A:Nat) (a:Bool) (ks:List Kd) (off len:Nat) (xs:List PV),(∃ D,∀ C,varGo T C h d f fi i s A a ks off len xs=D)\/∃ j e bl g,∀ C,varGo T C h d f fi i s A a ks off len xs=.call (C j e bl) g:=by
   intro d fi i s A a ks off len xs;unfold varGo;split
   . rename_i vs ss hd;cases (Nat.blt s 100000&&(Nat.blt A 100000&&!(A==s)))&&(!(memN s ss)&&!(memN A ss))with
     | true=>exact .inr ⟨_,_,_,_,λC=>rfl⟩
     | false=>exact .inl ⟨_,λC=>rfl⟩
   simp
  cases (cfgOf T f).vcall with
  | true =>
   simp only[qCt];unfold stepVar;split
   . split
     . split
       . exact t ..
       simp
     simp
   simp
  | false =>
  simp only[qCf];cases (cfgOf T f).take with
  | true =>
   simp only[qCt];unfold BK;split
   . split
     . split
       . exact .inr ⟨_,_,_,_,λC=>rfl⟩
       simp
     simp
   simp
  | false =>
  simp only[qCf];unfold stepCall0;split
  . split
    . split
      . exact .inr ⟨_,_,_,_,λC=>rfl⟩
      simp
    . simp only;split
      . exact .inr ⟨_,_,_,_,λC=>rfl⟩
      simp
  simp
 obtain⟨u,op,type,q,after,guard⟩:=o;cases op with
 | call c =>
  obtain⟨callee,args,ts⟩:=c;cases callee with
  | builtin b=>cases b<;>exact .inl ⟨_,λC=>rfl⟩
  | invoke r n=>exact .inl ⟨_,λC=>rfl⟩
  | value f =>simp only[stepOp];split;all_goals simp_all
 | _=>exact .inl ⟨_,λC=>rfl⟩
theorem UU(q:EvC Cn C){all:List Oper}{env:List AV}{h:Nat->Option Blk}{y:Option Eff}(c:act1 T C all o env h=some y):Ev λm=>act1 T (Cn m) all o env h=some y:=by
 rcases stepOp_shape (T:=T) env h o with⟨D,i⟩ |⟨f,d,bl,g,i⟩
 . exact .all λm=>by simp_all[act1]
 . cases e:C f d bl with
   | some r=>exact(q _ _ _ _ e).map λm t=>by simp_all[act1]
   | none =>
    refine .all λm=>?_;unfold act1 at c ⊢;rw[i,e]at c;cases j:o.guard with
    | none=>rw[j]at c;simp[DT.run]at c
    | some u=>grind[DT.run]
theorem Tj(e:EvC Cn C){draw:Bool}{hd:List Nat}{all:List Oper}{st':St}(c:step1 T C draw hd all o st=some st'):Ev λm=>step1 T (Cn m) draw hd all o st=some st':=by
 unfold step1 at c;cases d:act1 T C all o st.env (hideH hd (look st.heap))with
 | none=>rw[d]at c;cases c
 | some y=>exact(UU e d).map λm g=>by grind[step1]
theorem LM{b:Option Blk}{kn:Nat->St->Option α}{k:St->Option α}{x:α}(c:EvS kn k)(h:relog b st k=some x):Ev λm=>relog b st (kn m)=some x:=by
 unfold relog at h ⊢;split at h
 . split at h
   . exact c _ _ h
   . cases h
 . exact c _ _ h
theorem oL(e:EvC Cn C){draw:Bool}{hd:List (List Nat)}{all:List Oper}{kn:Nat->St->Option α}{k:St->Option α}(d:EvS kn k):∀{l:List Oper} {j:Nat} {st:St} {x:α},runOps T C draw hd all l j st k=some x->Ev λm=>runOps T (Cn m) draw hd all l j st (kn m)=some x
 |[],j,st,x,h=>d _ _ h
 | o::r,j,st,x,h=>by
  cases c:yieldAt draw st o with
  | none =>
   rw[runOps_cons _ _ c]at h;cases g:step1 T C draw (hd.getD j []) all o st with
   | none=>rw[g]at h;cases h
   | some q =>rw[g]at h;exact(Tj e g).and (oL e d (l:=r) h) λm a b=>by rw[runOps_cons _ _ c,a];exact b
  | some p =>
   obtain⟨xs,vs⟩:=p;rw[runOps_yield _ _ c]at h;cases i:guardOf all o st.env with
   | none=>rw[i]at h;cases h
   | some b =>
    rw[i]at h;cases b with
    | false=>exact(oL e d (l:=r) h).map λm a=>by rw[runOps_yield _ _ c,i];exact a
    | true =>obtain⟨u,g,t⟩:=fork_some h;exact(oL e d (l:=r) g).and (oL e d (l:=r) t) λm a b=>by rw[runOps_yield _ _ c,i];exact fork_of a b
theorem range_of{n:Option Nat}{f:Operand}{ps:Array Tmp}{y z:Code}{k:Ex->St->Option α}{x:α}{g:Nat}{c:List PV}(i:evalO st.env f=.p (.fn g c))(e:tlook T.funcs g=some fi)(d:plainCode y=true)(h4:bodyPlain fi c.length=true)(h5:C g (.yld::c.map .p) [.log true []]=some r)
    (h:rangeL (forgetAt F.cfg (.seq y z)) fi.cfg.yk ps.toList (rngWs ps y z) (roundC T C F n y z) (logOf r.2) (forgetAt F.cfg (.seq y z) st) k=some x):runCode T C F n (.rangeFunc f ps y z) st k=some x:=by
  simp only[runCode];simp only[i,e,d,h4,h5,qCt];exact h
theorem gW{F:FI}:∀{c:Code} {C:CallF} {Cn:Nat->CallF} {qn:Nat->Option Nat} {q:Option Nat} {st:St} {kn:Nat->Ex->St->Option α} {k:Ex->St->Option α} {x:α},EvC Cn C->EvQ qn q->Qv kn k->runCode T C F q c st k=some x->Ev λm=>runCode T (Cn m) F (qn m) c st (kn m)=some x
 | .skip,_,_,_,_,_,_,_,_,_,_,d,h=>d _ _ _ h
 | .region id ops draw,_,Cn,_,_,st,kn,k,x,hC,_,d,h=>by
  have t:EvS (λm st'=>kn m .normal (settle F.cfg ops.toList st')) λst'=>k .normal (settle F.cfg ops.toList st'):=λst x h=>d _ _ _ h;simp only[runCode,forceSt_eq]at h ⊢;cases draw with
  | false=>exact oL hC t h
  | true =>
   simp only at h ⊢;cases B:tlook F.hides id with
   | none=>rw[B]at h;cases h
   | some hd =>
    rw[B]at h;simp only at h ⊢;cases u:yCut F.cfg.ys ops.toList with
    | none =>rw[u]at h;exact oL hC (λst x h=>LM t h) h
    | some j =>rw[u]at h;exact oL hC (λst x h=>LM (λst x h=>oL hC t h) h) h
 | .seq y z,_,_,_,_,_,kn,k,_,hC,hq,d,h=>gW (c:=y) (kn:=λm=>seqK T _ F _ z (kn m)) (k:=seqK T _ F _ z k) hC hq (λe st x h=>by
  cases e with
  | normal=>exact gW (c:=z) hC hq d h
  | _=>exact d _ _ _ h) h
 | .cond c y z,_,_,_,_,st,_,_,_,hC,hq,d,h=>by
  simp only[runCode]at h ⊢;split at h
  . rename_i b J;cases b with
    | true=>exact gW (c:=y) hC hq d h
    | false=>exact gW (c:=z) hC hq d h
  . cases h
 | .block id c,_,_,_,_,_,kn,k,_,hC,hq,d,h=>gW (c:=c) (kn:=λm=>blockK id (kn m)) (k:=blockK id k) hC hq (λe st x h=>by
  cases e with
  | exit i =>
   simp only[blockK]at h ⊢;cases A:i==id with
   | true=>rw[A]at h;exact d _ _ _ h
   | false=>rw[A]at h;exact d _ _ _ h
  | _=>exact d _ _ _ h) h
 | .loop c,_,_,_,_,_,_,_,_,hC,hq,d,h=>Ti hq (λ_ _ _ _ d h=>gW (c:=c) hC hq d h) (λm _ _ _ _ d h=>gW (c:=c) (EvC.refl _) (EvQ.refl _) d h) d h
 | .exit _,_,_,_,_,_,_,_,_,_,_,d,h=>d _ _ _ h
 | .ret,_,_,_,_,_,_,_,_,_,_,d,h=>d _ _ _ h
 | .label _,_,_,_,_,_,_,_,_,_,_,d,h=>d _ _ _ h
 | .rangeFunc f ps y z,_,Cn,qn,_,_,_,_,_,hC,hq,d,h=>by
  obtain⟨g,D,fi,r,I,H,E,h4,h5,h⟩:=runCode_range h;exact(hC _ _ _ _ h5).and (Il (bn:=λm=>roundC T (Cn m) F (qn m) y z) (λkn k st x d h=>gW (c:=y) (kn:=λm=>seqK T _ F _ z (kn m)) (k:=seqK T _ F _ z k) hC hq (λe st x h=>by
   cases e with
   | normal=>exact gW (c:=z) hC hq d h
   | _=>exact d _ _ _ h) h) d h) λm h5 h=>range_of I H E h4 h5 h
 | .scope c,_,_,_,_,_,_,_,_,hC,hq,d,h=>gW (c:=c) hC hq d h
 | .goto ..,_,_,_,_,_,_,_,_,_,_,_,h | .refuse ..,_,_,_,_,_,_,_,_,_,_,_,h=>by simp[runCode]at h
theorem loop_of{c:Code}{k:Ex->St->Option α}{x:α}(h:runCode T C F none c st (next fg (λst'=>DR fg (λst' d=>runCode T C F none c st' d) none st' k) k)=some x):DR fg (λst' d=>runCode T C F none c st' d) none st k=some x:=by have e:EvB (λ_ st' d=>runCode (α:=α) T C F none c st' d) (λst' d=>runCode T C F none c st' d):=λ_ _ _ _ i h=>gW (EvC.refl C) (EvQ.refl none) i h;obtain⟨n,g⟩:=gW (EvC.refl C) (EvQ.refl none) (OY (fg:=fg) (λst x h=>Tf (loopN_mono e) h) (Qv.refl k)) h;exact lim_of (n:=n+1) (loopN_mono e) (by rw[loopN_succ];exact g n (qNr n))
theorem acall_mono{a:List AV}{b:List Blk}:Mono λn=>acall T X n f a b:=by
 have c:∀ n m,n<=m->∀ f a b x,acall T X n f a b=some x->acall T X m f a b=some x:=by
  intro n;induction n with
  | zero=>intro m _ f a b x h;simp[acall]at h
  | succ n q =>
   intro m y f a b x h;obtain⟨m,rfl⟩:∃ i,m=i+1:=⟨m-1,by omega⟩;simp only[acall]at h ⊢;cases e:tlook T.funcs f with
   | none=>rw[e]at h;cases h
   | some fi =>
    rw[e]at h;simp only at h ⊢;split at h
    . exact h
    . split at h
      . cases h
      . cases g:callB fi.cfg b with
        | false=>rw[g]at h;cases h
        | true =>rw[g]at h;simp only[qCt,forceAVs_eq,forceBlks_eq,forceSt_eq]at h ⊢;exact(gW (Cn:=λ_=>acall T X m) (qn:=λ_=>some m) (λf a b x h=>.all λ_=>q m (by omega) f a b x h) (λj t=>.all λ_ i u=>by cases u;exact Nat.le_trans (t n rfl) (by omega)) (Qv.refl _) h).now
 exact λn m x d h=>c n m d f a b x h
theorem run_of(y:X f=none)(h:acallI T (run T X) f args bl=some r):run T X f args bl=some r:=by
 unfold acallI at h;split at h
 . cases h
 . rename_i fi t;split at h
   . cases h
   . rename_i c u;cases d:callB fi.cfg bl with
     | false=>rw[d]at h;cases h
     | true =>
     rw[d]at h;simp only[qCt,forceAVs_eq,forceBlks_eq,forceSt_eq]at h;obtain⟨n,e⟩:=gW (Cn:=acall T X) (qn:=some) (λ_ _ _ _ h=>Tf acall_mono h) (λj _=>⟨j,λm g i q=>by cases q;exact g⟩) (Qv.refl _) h;refine lim_of (n:=n+1) acall_mono ?_;simp only[acall,t,y,u,d,qCt,forceAVs_eq,forceBlks_eq,forceSt_eq];rw[<- e n (qNr n)];congr 1;funext ex st;cases ex<;>rfl
theorem run_ext{s:List AV->List Blk->Option (List AV × List Blk)}(c:tlook T.funcs f=some fi)(d:X f=some s)(h:s args bl=some r):run T X f args bl=some r:=
 lim_of (n:=1) acall_mono (by simp only[acall,c,d];exact h)
theorem run_sound{P:Program}(ok:TabOk P T){gl:Option (List (Nat × Obj))}(g:ExtOk P T gl X):CallOk P T gl (run T X):=by
 refine⟨λf fi args bl c bl' e j h=>?_,λf fi args z off len a ks xs c bl' e i h=>?_,λf fi args a ks xs c bl' e i h=>?_,g.1⟩
 . obtain⟨n,d⟩:=lim_some h;exact(acall_sound ok g n).plain f fi args bl c bl' e j d
 . obtain⟨n,d⟩:=lim_some h;exact(acall_sound ok g n).var f fi args z off len a ks xs c bl' e i d
 . obtain⟨n,d⟩:=lim_some h;exact(acall_sound ok g n).take f fi args a ks xs c bl' e i d
end
inductive Wy where
 | lp (p:List Nat)
 | rg (p:List Nat) (ss:List (Bool × List Kd)) (xs:List PV)
section
variable {α:Type} (T:Tab) (C:CallF) (F:FI)
def codeAt:Code->List Nat->Code
 | c,[]=>c
 | .seq a _,0::p=>codeAt a p
 | .seq _ b,_::p=>codeAt b p
 | .cond _ a _,0::p=>codeAt a p
 | .cond _ _ b,_::p=>codeAt b p
 | .block _ c,_::p=>codeAt c p
 | .scope c,_::p=>codeAt c p
 | .loop c,_::p=>codeAt c p
 | c,_=>c
def bodyAt(c:Code)(p:List Nat):Code:=match codeAt c p with
 | .loop b=>b
 | .rangeFunc _ _ a b=>.seq a b
 | _=>.skip
def psAt(c:Code)(p:List Nat):List Nat:=match codeAt c p with
 | .rangeFunc _ ps _ _=>ps.toList
 | _=>[]
def wsAt(c:Code)(p:List Nat):List Nat:=match codeAt c p with
 | .rangeFunc _ ps a b=>rngWs ps a b
 | _=>[]
noncomputable def contAt:Code->List Nat->(Ex->St->Option α)->Ex->St->Option α
 | .seq a b,0::p,k=>contAt a p λex st' =>
  match ex with
  | .normal=>runCode T C F none b (forgetAt F.cfg b st') k
  | .exit id=>k (.exit id) st'
  | .ret=>k .ret st'
 | .seq _ b,_::p,k=>contAt b p k
 | .cond _ a _,0::p,k=>contAt a p k
 | .cond _ _ b,_::p,k=>contAt b p k
 | .block id c,_::p,k=>contAt c p λex st' =>
  match ex with
  | .normal=>k .normal st'
  | .exit i=>bif i==id then k .normal st' else k (.exit i) st'
  | .ret=>k .ret st'
 | .scope c,_::p,k=>contAt c p k
 | _,_,k=>k
noncomputable def lpAt(c:Code)(p:List Nat)(k:Ex->St->Option α)(st:St):Option α:=DR (forgetAt F.cfg (bodyAt c p)) (λst' k'=>runCode T C F none (bodyAt c p) st' k') none st (contAt T C F c p k)
noncomputable def lpNext(c:Code)(p:List Nat)(k:Ex->St->Option α):Ex->St->Option α:=next (forgetAt F.cfg (bodyAt c p)) (lpAt T C F c p k) (contAt T C F c p k)
noncomputable def rgAt(c:Code)(p:List Nat)(ss:List (Bool × List Kd))(k:Ex->St->Option α)(xs:List PV)(st:St):Option α:=
 rangeL (forgetAt F.cfg (bodyAt c p)) ss (psAt c p) (wsAt c p) (λst k=>runCode T C F none (bodyAt c p) st k) xs st (contAt T C F c p k)
noncomputable def rgNext(c:Code)(p:List Nat)(ss:List (Bool × List Kd))(xs:List PV)(k:Ex->St->Option α):Ex->St->Option α:=rnext (forgetAt F.cfg (bodyAt c p)) (wsAt c p) (rgAt T C F c p ss k xs) (contAt T C F c p k)
noncomputable def loopAt:Code->(Ex->St->Option α)->List Wy->St->Option α
 | _,_,[],_=>none
 | c,k,[.lp p],st=>lpAt T C F c p k st
 | c,k,[.rg p ss xs],st=>rgAt T C F c p ss k xs st
 | c,k,.lp p::q::r,st=>loopAt (bodyAt c p) (lpNext T C F c p k) (q::r) st
 | c,k,.rg p ss xs::q::r,st=>loopAt (bodyAt c p) (rgNext T C F c p ss xs k) (q::r) st
noncomputable def roundAt:Code->(Ex->St->Option α)->List Wy->St->Option α
 | _,_,[],_=>none
 | c,k,[.lp p],st=>runCode T C F none (bodyAt c p) st (lpNext T C F c p k)
 | c,k,[.rg p ss xs],st=>rgAt T C F c p ss k xs st
 | c,k,.lp p::q::r,st=>roundAt (bodyAt c p) (lpNext T C F c p k) (q::r) st
 | c,k,.rg p ss xs::q::r,st=>roundAt (bodyAt c p) (rgNext T C F c p ss xs k) (q::r) st
variable {T C F}
theorem loopAt_of{x:α}:∀{l:List Wy} {c:Code} {k:Ex->St->Option α} {st:St},roundAt T C F c k l st=some x->loopAt T C F c k l st=some x
 |[],_,_,_,h=>by simp[roundAt]at h
 |[.lp p],c,k,st,h=>loop_of h
 |[.rg p ss xs],c,k,st,h=>h
 | .lp p::q::r,c,k,st,h=>loopAt_of (l:=q::r) h
 | .rg p ss xs::q::r,c,k,st,h=>loopAt_of (l:=q::r) h
end
section
variable (T:Tab) (C:CallF) (f:Nat) (bl:List Blk)
noncomputable def fiOf:FI:=match tlook T.funcs f with | some fi=>fi | none=>⟨default,{},[]⟩
def codeOf(F:FI):Code:=match F.fn.body with | some c=>c | none=>.skip
noncomputable def L(l:List Wy)(st:St):Option (List AV × List Blk):=loopAt T C (fiOf T f) (codeOf (fiOf T f)) (retC T (fiOf T f) bl) l st
noncomputable def R(l:List Wy)(st:St):Option (List AV × List Blk):=roundAt T C (fiOf T f) (codeOf (fiOf T f)) (retC T (fiOf T f) bl) l st
variable {T C f bl}
theorem L_of{l:List Wy}{x:List AV × List Blk}(h:R T C f bl l st=some x):L T C f bl l st=some x:=loopAt_of h
end
end
end Go.Skm
