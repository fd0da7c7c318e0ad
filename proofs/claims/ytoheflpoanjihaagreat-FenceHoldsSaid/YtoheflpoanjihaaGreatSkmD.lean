import Derived.Test.YtoheflpoanjihaaGreatSkmC
import Derived.RangeFuncNested
import Derived.RangeFuncLeaves
import Derived.ProofKit
set_option linter.all false
namespace Go.Skm
section
open Go.RowKit
variable {gl:Option (List (Nat × Obj))}{O:Nat->Prop}
structure Turns (gl:Option (List (Nat × Obj))) (O:Nat->Prop) (W W':World):Prop where
 size:W.heap.size<=W'.heap.size
 keep:∀ b,b<W.heap.size->¬ O b->W'.heap[b]?=W.heap[b]?
 os:W'.os=W.os
 tape:W'.tape=W.tape
 output:W'.output=W.output
 drawn:mF gl W.drawn W'.drawn
abbrev uZ(gl:Option (List (Nat × Obj)))(W W':World):Prop:=Turns gl (λ_=>False) W W'
theorem Turns.refl(gl:Option (List (Nat × Obj)))(O:Nat->Prop)(W:World):Turns gl O W W:=⟨qNr _,λ_ _ _=>rfl,rfl,rfl,rfl,.refl _ _⟩
theorem Turns.trans{gl:Option (List (Nat × Obj))}{O O':Nat->Prop}{A B C:World}(h:Turns gl O A B)(k:Turns gl O' B C)(e:∀ b,b<A.heap.size->O' b->O b):Turns gl O A C:=
 ⟨Nat.le_trans h.size k.size,λb d c=>by rw[k.keep b (by have:=h.size;omega) λh'=>c (e b d h'),h.keep b d c],k.os.trans h.os,k.tape.trans h.tape,k.output.trans h.output,h.drawn.trans k.drawn⟩
theorem Turns.weaken{O':Nat->Prop}{A B:World}(h:Turns gl O A B)(e:∀ b,b<A.heap.size->O b->O' b):Turns gl O' A B:=
 ⟨h.size,λb c d=>h.keep b c λh'=>d (e b c h'),h.os,h.tape,h.output,h.drawn⟩
theorem uZ.alloc{gl:Option (List (Nat × Obj))}(W:World)(o:Obj):uZ gl W (W.alloc o):=
 ⟨by simp,λb c _=>Below.heap_alloc W o b c,rfl,rfl,rfl,.refl _ _⟩
theorem Turns.putObj{gl:Option (List (Nat × Obj))}(W:World)(l:Nat)(o:Obj):Turns gl (λb=>b=l) W (W.putObj l o):=
 ⟨by simp,λb _ h=>World.putObj_heap_other h,rfl,rfl,rfl,.refl _ _⟩
def Yo(P:Program)(gl:Option (List (Nat × Obj)))(l:Nat)(bF:Array Value)(W:World)(J Jx:(Nat->Prop)->(Nat->Prop)->World->Prop)(O K M:Nat->Prop):Prop:=
 YieldAt (FW none) 0 P l bF W λe W'=>Turns gl O W W'/\∃ O' K':Nat->Prop,((e=.returned (.bool true)/\J O' K' W')\/(e=.returned (.bool false)/\Jx O' K' W'))/\(∀ b,O' b->O b\/W.heap.size<=b)/\∀ b,K' b->K b\/M b\/O b\/(W.heap.size<=b/\b<W'.heap.size)
def Bears(gl:Option (List (Nat × Obj)))(W0:World)(J:(Nat->Prop)->(Nat->Prop)->World->Prop):Prop:=
 ∀(O K:Nat->Prop) (W W':World) (S:Nat->Prop),J O K W->Turns gl S W W'->(∀ b,S b->W0.heap.size<=b/\¬ O b/\¬ K b)->J O K W'
def QL(P:Program)(gl:Option (List (Nat × Obj)))(g:Nat)(caps xs:List PV):Prop:=
 ∀(W0:World) (M0:Nat->Prop) (l:Nat) (lb:Array Value) (J:List PV->(Nat->Prop)->(Nat->Prop)->World->Prop) (Jx:(Nat->Prop)->(Nat->Prop)->World->Prop) (O0:Nat->Prop),
  (∀ p∈gl.getD [],M0 p.1/\W0.heap[p.1]?=some p.2)->lb.size=caps.length->(∀ i c,caps[i]?=some c->VR W0 M0 c (lb.getD i undef))->(∀ b,M0 b->b<W0.heap.size/\¬ O0 b) ->
  (∀ r,Bears gl W0 (J r))->Bears gl W0 Jx->(∀ r O K W,J r O K W->∀ b,O b\/K b->b<W.heap.size) ->
  (∀ vs r O K W (M:Nat->Prop) bF,J (.agg vs::r) O K W->W0.heap.size<=W.heap.size->(∀ b,M b->b<W.heap.size/\¬ O b/\(M0 b\/W0.heap.size<=b))->bF.size=vs.length->(∀ i c,vs[i]?=some c->VR W M c (bF.getD i undef)) ->
    Yo P gl l bF W (J r) Jx O K M) ->
 J xs O0 (λ_=>False) W0->Calls P g (#[.func (.yield l) #[] #[]]++lb) W0 λe W'=>(∃ v,e=.returned v)/\∃ O K:Nat->Prop,J [] O K W'\/Jx O K W'
theorem Bears.grows{W0:World}{J:(Nat->Prop)->(Nat->Prop)->World->Prop}(h:Bears gl W0 J){K:Nat->Prop}{W W':World}(c:J O K W)(g:uZ gl W W'):J O K W':=h O K W W' _ c g λ_ h=>h.elim
def Jj(P:Program)(T:Tab)(gl:Option (List (Nat × Obj)))(C:aH):Prop:=
 ∀ g fi caps r,dZ T.funcs g=some fi->rP fi caps.length=true->C g (.yL::caps.map .p) [.log true []]=some r->P.funcs[g]?=some fi.fn/\QL P gl g caps (uY r.2)
section
variable {w0 w0':Base} {Pr Pr' M0 M0' M M':Nat->Prop} {β β':Nat->Option (Nat × Nat)} {st st':St} {a a':Act} {w w':World}
theorem Rel.to(r:Rel w0 Pr M0 M β st a w)(B:w0'.gl=w0.gl)(z:∀ b,M b->M' b/\w'.heap[b]?=w.heap[b]?)
    (A:∀ s b o,(look st.heap s).isSome=true->β s=some (b,o)->w'.heap[b]?=w.heap[b]?/\¬ M' b/\b<w'.heap.size/\((w0'.heap.size<=b\/Pr' b)/\(w0'.n0<=b\/ah<=s)))
    (U:∀ b,M' b->b<w'.heap.size)(S:∀ b,M' b->M0' b\/(w0'.n0<=b/\(w0'.heap.size<=b\/Pr' b)))(R:∀ b,M0' b->M' b)
    (q:∀ b,b<w0'.heap.size->¬ Pr' b->w'.heap[b]?=w0'.heap[b]?)(d:∀ b n,b<w0'.n0->Pr' b->Room w0'.wd b n->Room w' b n)
    (size:w0'.heap.size<=w'.heap.size)(os:w'.os=w0'.os)(tape:w'.tape=w0'.tape)(output:w'.output=w0'.output):Rel w0' Pr' M0' M' β st a w':=by
  have g:∀(v:AV) (c:Value),AR w M β (look st.heap) v c->AR w' M' β (look st.heap) v c:=λv c h =>h.mono z λs blk _ u=>⟨blk,u,Like.refl _,rfl,λb o n h3 Z=>Z.of_block (A s b o (by rw[u];rfl) h3).1⟩;refine⟨r.qK,λt v h=>g _ _ (r.env t v h),?_,λs b o Y hb=>(A s b o Y hb).2,r.inj,U,S,R,q,d,size,os,tape,output,λp hp=>by rw[B]at hp;exact⟨(z _ (r.glob p hp).1).1,(z _ (r.glob p hp).1).2.trans (r.glob p hp).2⟩⟩;intro s blk u;have Q:(look st.heap s).isSome=true:=by rw[u];rfl
  cases r.heap s blk u with
  | box cs b o C e fr y N L J I E=>exact .box _ b o C e fr y (by rw[(A s b o Q y).1];exact N) L J I λj c D=>g _ _ (E j c D)
  | lU a ks=>exact .lU a ks
  | log on ys=>exact .log on ys
  | arr a ks xs b o C e fr y N L J I E=>exact .arr a ks xs b o C e fr y (by rw[(A s b o Q y).1];exact N) L J I λi x j c V D=>(E i x j c V D).mono z
theorem Rel.slots(r:Rel w0 Pr M0 M β st a w){env:List AV}(c:env.length<=a'.tmps.size)(h:∀ t v,env[t]?=some v->AR w M β (look st.heap) v (a'.tmps.getD t undef)):Rel w0 Pr M0 M β {st with env:=env} a' w:=
 ⟨c,h,r.heap,r.own,r.inj,r.iU,r.oD,r.vW,r.keep,r.room,r.size,r.os,r.tape,r.output,r.glob⟩
theorem Rel.turns(r:Rel w0 Pr M0 M β st a w)(hd:mF w0.gl w0.drawn w.drawn):Turns w0.gl Pr w0.wd w:=⟨r.size,r.keep,r.os,r.tape,r.output,hd⟩
end
theorem TA{c:List Nat}:∀(l:List AV) (k i:Nat) (v:AV),(CY c k l)[i]?=some v->v=.undef\/(l[i]?=some v/\(k+i) ∉ c)
 |[],k,i,v,h=>by simp[CY]at h
 | u::r,k,0,v,h=>by
  simp only[CY,List.getElem?_cons_zero,qOa]at h;cases d:l7 k c with
  | true=>rw[d]at h;left;simpa using h.symm
  | false=>rw[d]at h;right;exact⟨by simpa using h,λe=>by rw[oV.2 (show k∈c from e)]at d;cases d⟩
 | u::r,k,i+1,v,h=>by simp only[CY,List.getElem?_cons_succ]at h;have:=TA r (k+1) i v h;grind
theorem KE{c:List Nat}:∀(l:List AV) (k:Nat),(CY c k l).length=l.length
 |[],_=>rfl
 | u::r,k=>by simp[CY,KE r]
theorem ahT{w:World}{M:Nat->Prop}{s:Bool × List Kd}{v:PV}{c:Value}(d:bY s.1 s.2 v=true)(h:VR w M v c):VR w M (aeH s v) c:=by
 obtain⟨a,ks⟩:=s;cases a with
 | true=>exact h.written d
 | false =>
  match ks,d with
  |[k],d=>exact IB (by simpa[bY] using d) h
  |[],d=>simp[bY]at d
  | _::_::_,d=>simp[bY]at d
theorem Zd:∀{ss:List (Bool × List Kd)} {ps:List Nat} {vs:List PV} {i:Nat} {env c:List AV},IX ss ps (.agg vs) i env=some c->vs.length=i+ps.length
 |[],[],vs,i,env,c,hs=>by
  simp only[IX]at hs;cases d:Nat.beq (PV.agg vs).cells.length i with
  | false=>rw[d]at hs;cases hs
  | true=>exact Nat.eq_of_beq_eq_true d
 | s::ss,t::ps,vs,i,env,c,hs=>by
  simp only[IX]at hs;cases d:bY s.1 s.2 ((PV.agg vs).cell i)with
  | false=>rw[d]at hs;cases hs
  | true =>rw[d]at hs;have:=Zd hs;grind
 |[],_::_,vs,i,env,c,hs=>by simp[IX]at hs
 | _::_,[],vs,i,env,c,hs=>by simp[IX]at hs
theorem adq{w:World}{M:Nat->Prop}{β:Nat->Option (Nat × Nat)}{h:Nat->Option bZ}:∀{ss:List (Bool × List Kd)} {ps:List Nat} {vs:List PV} {i:Nat} {env g:List AV} {cs:List Value} {tmps:Array Value},
    IX ss ps (.agg vs) i env=some g->cs.length=vs.length-i->i<=vs.length->(∀ j c,vs[i+j]?=some c->VR w M c (cs.getD j undef)) ->
    env.length<=tmps.size->(∀ t v,env[t]?=some v->AR w M β h v (tmps.getD t undef)) ->
    cs.length=ps.length/\g.length=env.length/\(((ps.zip cs).foldl (λtmps (t,a)=>tmps.setIfInBounds t a) tmps).size=tmps.size) /\
    (∀ t v,g[t]?=some v->AR w M β h v (((ps.zip cs).foldl (λtmps (t,a)=>tmps.setIfInBounds t a) tmps).getD t undef)) /\
    (∀ t,t ∉ ps->((ps.zip cs).foldl (λtmps (t,a)=>tmps.setIfInBounds t a) tmps).getD t undef=tmps.getD t undef)
  |[],[],vs,i,env,g,cs,tmps,hs,hc,hi,hv,hl,he=>by
   simp only[IX]at hs;cases y:Nat.beq (PV.agg vs).cells.length i with
   | false=>rw[y]at hs;cases hs
   | true =>rw[y]at hs;cases hs;have:vs.length=i:=Nat.eq_of_beq_eq_true y;simp_all
  | s::ss,t::ps,vs,i,env,g,cs,tmps,hs,hc,hi,hv,hl,he=>by
   simp only[IX]at hs;cases y:bY s.1 s.2 ((PV.agg vs).cell i)with
   | false=>rw[y]at hs;cases hs
   | true =>
    rw[y]at hs;simp only[qCt]at hs;have B:i<vs.length:=by have:=Zd hs;omega
    match cs,hc with
     |[],hc=>simp at hc;omega
     | c::cs,hc =>
      have z:=hv 0 vs[i] (by simp);simp only[qLb,List.getElem?_cons_zero,Option.getD_some]at z;have hcell:(PV.agg vs).cell i=vs[i]:=by simp[PV.cell,List.getD,B]
      rw[hcell]at hs y;have D:AR w M β h (.p (aeH s vs[i])) c:=.p _ _ (ahT y z);obtain⟨N,L,J,I,E⟩:=adq (w:=w) (M:=M) (β:=β) (h:=h) (cs:=cs) (tmps:=tmps.setIfInBounds t c) hs (by simp at hc;omega) (by omega) (λj d hd=>by
       have:=hv (j+1) d (by rw[<- hd];congr 1;omega);simpa using this) (by simpa using hl) (λu v q=>by
       by_cases e:u=t
       . subst e;have A:u<env.length:=by have:=(qLa.1 q).1;simpa using this
         rw[List.getElem?_set_self A]at q;cases q;have:(tmps.setIfInBounds u c).getD u undef=c:=by
          have:u<tmps.size:=by omega
          simp[this]
         grind
       . rw[List.getElem?_set_ne (Ne.symm e)]at q;have:(tmps.setIfInBounds t c).getD u undef=tmps.getD u undef:=by simp[qAb,qAe (Ne.symm e)]
         grind)
      refine⟨by simp[N],by simpa using L,by simpa using J,I,λu q=>?_⟩;simp only[List.mem_cons,not_or]at q;refine(E u q.2).trans ?_;simp[qAb,qAe (Ne.symm q.1)]
  |[],_::_,vs,i,env,g,cs,tmps,hs,hc,hi,hv,hl,he=>by simp[IX]at hs
  | _::_,[],vs,i,env,g,cs,tmps,hs,hc,hi,hv,hl,he=>by simp[IX]at hs
end
section
open Go.RowKit
variable {M:Nat->Prop}{β:Nat->Option (Nat × Nat)}
section
variable {w0:Base} {Pr M0 M:Nat->Prop} {β:Nat->Option (Nat × Nat)} {st:St} {a:Act} {w:World}
theorem Qj(r:Rel w0 Pr M0 M β st a w)(F:Jc)(c:Code):Rel w0 Pr M0 M β (dQ F c st) a w/\nZ st.heap (dQ F c st).heap/\∀ b,oQ β (dQ F c st).heap b->oQ β st.heap b:=by
 unfold Skm.dQ;split
 . exact⟨r,λs _ b h=>⟨b,h,Like.refl _⟩,λ_ h=>h⟩
 . split
   . exact⟨r,λs _ b h=>⟨b,h,Like.refl _⟩,λ_ h=>h⟩
   . rename_i d sites _;have e:=r.agf (env:=zS d 0 st.env) (En _ _) (λt v h=>KD _ _ _ _ h);exact⟨e.strike _ (λb h=>h) λb h=>.inl h,ET _ _,λb h=>Qh (st:={st with env:=zS d 0 st.env}) h⟩
end
def IK(cx:Cx)(a':Act)(Ln:List (Nat × Obj))(UE:List Nat)(l:Nat)(W1:World)(st:St)(O K:Nat->Prop)(W:World)(lp:Loop):Prop:=
 ∃ M β,Rel cx.w0 cx.Pr cx.M0 M β st a' W/\(∀ s,ah<=s->β s=cx.XR s)/\nZ cx.hp0 st.heap/\mF cx.w0.gl cx.w0.drawn W.drawn/\Fix cx M β st.heap a' W Ln UE /\
  (W.heap[l]?=some (.loop lp)/\¬ M l/\¬ oQ β st.heap l/\(∀ p∈Ln,p.1≠l)/\cx.w0.heap.size<=l/\W1.heap.size<=W.heap.size)/\(∀ b,O b↔(oQ β st.heap b\/b=l)) /\
  ((∀ b,M b->b<W1.heap.size\/K b)/\(∀ p∈Ln,p.1<W1.heap.size)/\l<W1.heap.size/\∀ b,K b->b<W.heap.size)
section
variable {cx:Cx} {a':Act} {Ln:List (Nat × Obj)} {UE:List Nat} {l:Nat} {W1 W W':World} {st:St} {O K:Nat->Prop} {lp:Loop}
theorem Rel.oU{w0:Base}{Pr M0:Nat->Prop}{a:Act}{w:World}(r:Rel w0 Pr M0 M β st a w){b:Nat}(h:oQ β st.heap b):¬ M b/\b<w.heap.size/\(w0.heap.size<=b\/Pr b):=by obtain⟨s,o,c,d⟩:=h;obtain⟨i,g,e,_⟩:=r.own s b o c d;grind
theorem IK.lt(i:IK cx a' Ln UE l W1 st O K W lp):∀ b,O b->b<W.heap.size:=by
 obtain⟨M,β,r,B,A,z,y,⟨u,q,j,h4,h5,g⟩,d,e⟩:=i;intro b c;rcases(d b).1 c with h | rfl
 . exact(r.oU h).2.1
 omega
theorem IK.seen(i:IK cx a' Ln UE l W1 st O K W lp):∀ b,K b->b<W.heap.size:=by obtain⟨M,β,r,j,g,e,d,_,c,_,_,_,h⟩:=i;exact h
theorem IK.bears{S:Nat->Prop}(i:IK cx a' Ln UE l W1 st O K W lp)(g:Turns cx.w0.gl S W W')(y:∀ b,S b->W1.heap.size<=b/\¬ O b/\¬ K b):IK cx a' Ln UE l W1 st O K W' lp:=by
 obtain⟨M,β,r,e1,e2,e3,L,⟨I,h2,Z,h4,h5,Y⟩,E,z⟩:=i;obtain⟨D,B,A,N⟩:=z;have q:∀ b,b<W.heap.size->¬ S b->W'.heap[b]?=W.heap[b]?:=λb c e=>g.keep b c e;have d:∀ b,b<W1.heap.size->¬ S b:=λb c e=>by have:=(y b e).1;omega
 have u:∀ b,O b->¬ S b:=λb c e=>(y b e).2.1 c;have V:∀ b,M b->¬ S b:=λb c e=>(D b c).elim (λh=>d b h e) λh=>(y b e).2.2 h;have U:l<W.heap.size:=(qAa.1 I).1;have j:=g.size;have Q:=r.size
 refine⟨M,β,r.to rfl (λb c=>⟨c,q b (r.iU b c) (V b c)⟩) (λs b o e c=>?_) (λb c=>Nat.lt_of_lt_of_le (r.iU b c) j) r.oD r.vW (λb c hp=>?_) (λb n c hp R=>?_) (Nat.le_trans r.size j) (g.os.trans r.os) (g.tape.trans r.tape) (g.output.trans r.output),
  e1,e2,e3.trans g.drawn,L.less (λp hp=>q p.1 (qAa.1 (L.lies p hp).1).1 (d _ (B p hp))) λ_ h=>h,⟨(q l U (d l A)).trans I,h2,Z,h4,h5,Nat.le_trans Y j⟩,E,D,B,A,λb c=>Nat.lt_of_lt_of_le (N b c) j⟩
 . obtain⟨g1,J,g3⟩:=r.own s b o e c;exact⟨q b J (u b ((E b).2 (.inl ⟨s,o,e,c⟩))),g1,Nat.lt_of_lt_of_le J j,g3⟩
 . rw[q b (by omega) (d b (by omega))];exact r.keep b c hp
 . exact(r.room b n c hp R).of_block (q b (by have:=cx.w0.le';omega) (d b (by have:=cx.w0.le';omega)))
theorem IK.dQ(i:IK cx a' Ln UE l W1 st O K W lp)(F:Jc)(c:Code):∃ O',IK cx a' Ln UE l W1 (Skm.dQ F c st) O' K W lp/\∀ b,O' b->O b:=by obtain⟨M,β,r,I,E,D,B,⟨A,z,y,h4,h5,u⟩,q,e⟩:=i;obtain⟨g,J,d⟩:=Qj r F c;exact⟨λb=>oQ β (Skm.dQ F c st).heap b\/b=l,⟨M,β,g,I,E.trans J,D,B.less (λ_ _=>rfl) d,⟨A,z,λh=>y (d l h),h4,h5,u⟩,λb=>Iff.rfl,e⟩,λb j=>(q b).2 (j.imp (d b) id)⟩
theorem IK.close(i:IK cx a' Ln UE l W1 st O K W lp)(o:Obj):Inv cx st a' (W.putObj l o):=by
 obtain⟨M,β,r,Q,N,L,J,⟨U,B,A,h4,h5,S⟩,R,z⟩:=i;have g:∀ b,b≠l->(W.putObj l o).heap[b]?=W.heap[b]?:=λb c=>World.putObj_heap_other c;have d:(W.putObj l o).heap.size=W.heap.size:=World.putObj_size;have u:=r.size
 refine⟨M,β,Ln,UE,r.to rfl (λb c=>⟨c,g b λe=>B (e▸c)⟩) (λs b j q c=>?_) (λb c=>by rw[d];exact r.iU b c) r.oD r.vW (λb c hp=>?_) (λb n c hp y=>?_) (by rw[d];exact r.size) r.os r.tape r.output,
  Q,N,L,J.less (λp hp=>g p.1 (h4 p hp)) λ_ h=>h⟩
 . obtain⟨I,E,D⟩:=r.own s b j q c;exact⟨g b λe=>A (e▸⟨s,j,q,c⟩),I,by rw[d];exact E,D⟩
 . rw[g b (by omega)];exact r.keep b c hp
 . exact(r.room b n c hp y).of_block (g b (by have:=cx.w0.le';omega))
structure amS (cx Ny:Cx) (M:Nat->Prop) (a':Act) (Ln:List (Nat × Obj)) (ws:List Nat) (l:Nat) (W:World) (O:Nat->Prop):Prop where
 n0:Ny.w0.n0=cx.w0.n0
 gl:Ny.w0.gl=cx.w0.gl
 turns:Turns cx.w0.gl O W Ny.w0.wd
 pr:∀ b,Ny.Pr b->O b\/W.heap.size<=b
 oD:∀ b,Ny.M0 b->cx.M0 b\/(cx.w0.n0<=b/\(cx.w0.heap.size<=b\/cx.Pr b))
 room:∀ b n,b<cx.w0.n0->O b->Room W b n->Room Ny.w0.wd b n
 vW:∀ b,M b->Ny.M0 b
 XR:Ny.XR=cx.XR
 hp0:Ny.hp0=cx.hp0
 wr:Ny.Wr=λt=>t∈ws
 size:Ny.t0.size=a'.tmps.size
 t0:∀ t,t ∉ ws->Ny.t0.getD t undef=a'.tmps.getD t undef
 L0:∀ p∈Ln,p∈Ny.L0
theorem IK.round(r:Rel cx.w0 cx.Pr cx.M0 M β st a' W)(A:Fix cx M β st.heap a' W Ln UE)(hcd:mF cx.w0.gl cx.w0.drawn W.drawn)(h4:∀ p∈Ln,p.1≠l)(h5:cx.w0.heap.size<=l)(h6:W1.heap.size<=W.heap.size)
    (hO:∀ b,O b↔(oQ β st.heap b\/b=l)){z:Cx}{N:List Nat}(d:amS cx z M a' Ln N l W O){lb:Obj}(hlb:(l,lb)∈z.L0){u:St}{S:Act}{W3:World}(i:Inv z u S W3)(g:Loop)
    (hL1:∀ p∈Ln,p.1<W1.heap.size)(hl1:l<W1.heap.size){K':Nat->Prop}(hK1:∀ b,z.M0 b->b<W1.heap.size\/K' b)(hK2:∀ b,O b->K' b)(hK3:∀ b,W.heap.size<=b->b<W3.heap.size->K' b)(hK4:∀ b,K' b->b<W3.heap.size) :
    W3.heap[l]?=some lb/\∃ O',IK cx a' Ln UE l W1 (back N u) O' K' (W3.putObj l (.loop g)) g/\(∀ b,O' b->O b\/W.heap.size<=b)/\Turns cx.w0.gl O W (W3.putObj l (.loop g)):=by
  obtain⟨M3,D,L3,ds3,q,i1,i2,i3,I⟩:=i;obtain⟨k1,k2,k3⟩:=I.lies _ (I.sub _ hlb);have hl3:l<W3.heap.size:=(qAa.1 k1).1;have L:∀ b,b≠l->(W3.putObj l (.loop g)).heap[b]?=W3.heap[b]?:=λb c=>World.putObj_heap_other c;have y:(W3.putObj l (.loop g)).heap.size=W3.heap.size:=World.putObj_size;have hrs:=r.size;have Z:=d.turns.size;have hr3:=q.size;have aAR:W.heap.size<=z.w0.heap.size:=Z;have j:Turns cx.w0.gl O W W3:=d.turns.trans (d.gl▸q.turns i3) λb c hp=>by rcases d.pr b hp with h | h;all_goals omega
  have Y:Turns cx.w0.gl O W (W3.putObj l (.loop g)):=j.trans (Turns.putObj W3 l _) λb _ c=>(hO b).2 (.inr c);have B:∀ b,(z.w0.heap.size<=b\/z.Pr b)->O b\/W.heap.size<=b:=λb h=>by
   rcases h with h | h
   . right;omega
   . exact d.pr b h
  have hO':∀ b,O b->cx.w0.heap.size<=b\/cx.Pr b:=λb h=>by
   rcases(hO b).1 h with h | rfl
   . exact(r.oU h).2.2
   omega
  have V:∀ b,(z.w0.heap.size<=b\/z.Pr b)->cx.w0.heap.size<=b\/cx.Pr b:=λb h=>by grind
  have U:Rel cx.w0 cx.Pr cx.M0 M3 D u S (W3.putObj l (.loop g)):=by
   refine q.to d.gl.symm (λb c=>⟨c,L b λe=>k3 (e▸c)⟩) (λs b o Q c=>?_) (λb c=>by rw[y];exact q.iU b c) (λb c=>?_) (λb c=>q.vW b (d.vW b (r.vW b c))) (λb c hp=>?_) (λb n c hp hr=>?_) (by rw[y];omega)
    (j.os.trans r.os) (j.tape.trans r.tape) (j.output.trans r.output)
   . obtain⟨g1,g2,g3,g4⟩:=q.own s b o Q c;exact⟨L b λe=>k2 (e▸⟨s,o,Q,c⟩),g1,by rw[y];exact g2,V b g3,by rw[<- d.n0];exact g4⟩
   . rcases q.oD b c with h |⟨h,h'⟩
     . exact d.oD b h
     grind[d.n0]
   . have hno:¬ O b:=λh=>by grind
     rw[L b (by omega),j.keep b (by omega) hno];exact r.keep b c hp
   . have h0:=r.room b n c hp hr;have hle:=cx.w0.le';have R:Room z.w0.wd b n:=by
      by_cases ho:O b
      . exact d.room b n c ho h0
      . exact h0.of_block (d.turns.keep b (by omega) ho)
     have E:Room W3 b n:=by
      by_cases J:z.Pr b
      . exact q.room b n (by rw[d.n0];exact c) J R
      . exact R.of_block (q.keep b (by omega) J)
     exact E.of_block (L b (by omega))
  have hsize:S.tmps.size=a'.tmps.size:=I.size.trans d.size;have rs:=U.slots (a':=a') (env:=CY N 0 u.env) (by rw[KE,<- hsize];exact U.qK) λt v hv=>by
   rcases TA _ _ _ _ hv with rfl |⟨R,E⟩
   . exact .undef _
   . have E:t ∉ N:=by simpa using E
     have e:S.tmps.getD t undef=a'.tmps.getD t undef:=(I.tmps t (by rw[d.wr];exact E)).trans (d.t0 t E);rw[<- e];exact U.env t v R
  refine⟨k1,λb=>oQ D u.heap b\/b=l,⟨M3,D,rs,λs Q=>(i1 s Q).trans (by rw[d.XR]),by rw[<- d.hp0];exact i2,hcd.trans j.drawn,⟨λp hp=>?_,A.sub,A.marks,A.nodup,A.mark,A.rd,A.size,A.tmps,A.one,A.yl,A.nml⟩,
   ⟨World.putObj_heap_same hl3,k3,k2,h4,h5,Nat.le_trans h6 (by rw[y];omega)⟩,λb=>Iff.rfl,λb c=>?_,hL1,hl1,λb c=>by rw[y];exact hK4 b c⟩,λb c=>?_,Y⟩
  . obtain⟨g1,g2,g3⟩:=I.lies p (I.sub p (d.L0 p hp));exact⟨(L p.1 (h4 p hp)).trans g1,g2,g3⟩
  . rcases q.oD b c with h |⟨_,h⟩
    . exact hK1 b h
    . rcases B b h with h | h
      . grind
      . exact .inr (hK3 b h (q.iU b c))
  . rcases c with h | rfl
    . exact B b (q.oU h).2.2
    grind
end
end
section
open Go.RowKit
variable {ps:Array Tmp}
section
variable {T:Tab} {C:aH} {F:FI} {n:Option Nat} {α:Type}
theorem aa2:∀ c:Code,xG c=true->∀(st:St) (k d:Ex->St->Option α),k .normal=d .normal->dH T C F n c st k=dH T C F n c st d
 | .skip,_,st,k,d,h=>by simp only[dH,h]
 | .region id ops draw,_,st,k,d,h=>by cases draw<;>simp only[dH,h]
 | .seq y z,hp,st,k,d,h=>by simp only[xG,qBa]at hp;rw[EY,EY];refine aa2 y hp.1 st _ _ ?_;funext st';exact aa2 z hp.2 _ k d h
 | .cond ..,hp,_,_,_,_ | .block ..,hp,_,_,_,_ | .loop ..,hp,_,_,_,_ | .exit ..,hp,_,_,_,_ | .ret,hp,_,_,_,_ | .label ..,hp,_,_,_,_
 | .rangeFunc ..,hp,_,_,_,_ | .scope ..,hp,_,_,_,_ | .goto ..,hp,_,_,_,_ | .refuse ..,hp,_,_,_,_=>by simp[xG]at hp
noncomputable def Om(T:Tab)(C:aH)(F:FI)(n:Option Nat)(y z:Code)(st:St)(k:Ex->St->Option α):Option α:=dH T C F n y st (XD T C F n z k)
def Bg(ps:Array Tmp)(y z:Code):List Nat:=ps.toList++(jM y++jM z)
theorem FV{f:Operand}{y z:Code}{st:St}{k:Ex->St->Option α}{x:α}(h:dH T C F n (.rangeFunc f ps y z) st k=some x) :
    ∃ g c fi r,dP st.env f=.p (.fn g c)/\dZ T.funcs g=some fi/\xG y=true/\rP fi c.length=true/\C g (.yL::c.map .p) [.log true []]=some r /\
     wO (dQ F.cfg (.seq y z)) fi.cfg.yk ps.toList (Bg ps y z) (Om T C F n y z) (uY r.2) (dQ F.cfg (.seq y z) st) k=some x:=by
  simp only[dH]at h;split at h
  . rename_i g c e;split at h
    . rename_i fi j hp;cases d:rP fi c.length with
      | false=>rw[d]at h;cases h
      | true =>
       rw[d]at h;simp only[qCt]at h;split at h
       . rename_i r i;exact⟨g,c,fi,r,e,j,hp,d,i,h⟩
       . cases h
    . cases h
  . cases h
theorem Yp{cs:Array Value}{t:Array Value}:(ps.zip cs).foldl (λtmps (t,a)=>tmps.setIfInBounds t a) t=(ps.toList.zip cs.toList).foldl (λtmps (t,a)=>tmps.setIfInBounds t a) t:=by rw[<- Array.foldl_toList,Array.toList_zip]
end
section
variable {cx:Cx} {a':Act} {Ln:List (Nat × Obj)} {UE:List Nat} {l:Nat} {W1 W W':World} {st:St} {O:Nat->Prop} {lp:Loop} {P:Program}
def cx1(cx:Cx)(le:cx.w0.n0<=W.heap.size)(O M1:Nat->Prop)(ws:List Nat)(tmps:Array Value)(l:Nat)(L0:List (Nat × Obj)):Cx:=
 {w0:=⟨W,cx.w0.n0,le,cx.w0.gl⟩,Pr:=O,M0:=M1,XR:=cx.XR,hp0:=cx.hp0,Wr:=λt=>t∈ws,t0:=tmps,rd:=some l,L0:=L0,nm:=cx.nm}
theorem Inv.busy{c:Cx}{A:St}{Z:Act}{j:World}{lo:Obj}(i:Inv c A Z j)(hl:(l,lo)∈c.L0)(ho:∀ ds,lo≠.deferred ds)(hrd:c.rd=some l)(lp:Loop)(S:∀ p∈Ln,p∈c.L0/\p.1≠l)(ws:List Nat)(_hw:c.Wr=λt=>t∈ws)(J:c.Pr l)(hlt:l<c.w0.heap.size) :
    j.heap[l]?=some lo/\∃ d:Cx,Inv d A Z (j.putObj l (.loop lp))/\d.w0.n0=c.w0.n0/\d.w0.gl=c.w0.gl/\d.w0.wd=j.putObj l (.loop lp)/\Turns c.w0.gl c.Pr c.w0.wd d.w0.wd/\(∀ b,d.Pr b->c.w0.heap.size<=b\/c.Pr b)/\(∀ b,d.M0 b->c.M0 b\/(c.w0.n0<=b/\(c.w0.heap.size<=b\/c.Pr b))) /\
     (∀ b n,b<c.w0.n0->c.Pr b->b≠l->Room c.w0.wd b n->Room d.w0.wd b n)/\(∀ b,c.M0 b->d.M0 b)/\d.XR=c.XR/\d.hp0=c.hp0/\d.Wr=c.Wr/\d.t0=c.t0/\d.rd=some l/\(l,Obj.loop lp)∈d.L0/\(∀ p∈Ln,p∈d.L0)/\(d.Ys=λ_=>False):=by
  obtain⟨M,β,L,ds,r,i1,i2,i3,u⟩:=i;obtain⟨Y,V,U⟩:=u.lies _ (u.sub _ hl);refine⟨Y,?_⟩;have Q:l<j.heap.size:=(qAa.1 Y).1;have R:∀ b,b≠l->(j.putObj l (.loop lp)).heap[b]?=j.heap[b]?:=λb g=>World.putObj_heap_other g;have z:(j.putObj l (.loop lp)).heap.size=j.heap.size:=World.putObj_size;have hrs:=r.size;have hn:=c.w0.le';have ht:Turns c.w0.gl c.Pr c.w0.wd (j.putObj l (.loop lp)):=(r.turns i3).trans (Turns.putObj j l _) λb _ g=>by rw[show b=l from g];exact J
  let L2:List (Nat × Obj):=(l,.loop lp)::L.filter λp=>p.1 != l;have y:∀ p,p∈L->p.1≠l->p∈L2:=λp hp q=>List.mem_cons_of_mem _ (List.mem_filter.2 ⟨hp,by simpa using q⟩);refine⟨{w0:=⟨j.putObj l (.loop lp),c.w0.n0,by rw[z];omega,c.w0.gl⟩,Pr:=λb=>oQ β A.heap b\/b=l,M0:=M,XR:=c.XR,hp0:=c.hp0,Wr:=c.Wr,t0:=c.t0,rd:=some l,L0:=L2,nm:=c.nm},?_,rfl,rfl,rfl,ht,λb g=>?_,r.oD,λb n g hp q hr=>(r.room b n g hp hr).of_block (R b q),r.vW,rfl,rfl,rfl,rfl,rfl,by simp[L2],λp hp=>?_,rfl⟩
  . refine⟨M,β,L2,ds,r.to rfl (λb g=>⟨g,R b λe=>U (e▸g)⟩) (λs b o I g=>?_) (λb g=>by rw[z];exact r.iU b g) (λb g=>.inl g) (λb g=>g) (λ_ _ _=>rfl) (λ_ _ _ _ h=>h) (qNr _) rfl rfl rfl,i1,i2,.refl _ _,⟨λp hp=>?_,λp hp=>hp,u.marks,u.nodup,λD hD=>?_,λl' hl'=>?_,u.size,u.tmps,u.one,λ_ h=>h.elim,by show c.nm<=(j.putObj l (.loop lp)).heap.size;rw[z];have:=u.nml;omega⟩⟩
    . obtain⟨B,E,g3,g4⟩:=r.own s b o I g;exact⟨R b λe=>V (e▸⟨s,o,I,g⟩),B,by rw[z];exact E,.inr (.inl ⟨s,o,I,g⟩),g4⟩
    . rcases List.mem_cons.1 hp with rfl | hp
      . exact⟨World.putObj_heap_same Q,V,U⟩
      . obtain⟨N,hp2⟩:=List.mem_filter.1 hp;obtain⟨B,E,g3⟩:=u.lies p N;grind
    . obtain⟨B,E,_⟩:=u.mark D hD;suffices q:D≠l from⟨y _ B q,E,.inl (y _ B q)⟩;intro e;have:=(u.lies _ B).1;grind
    grind
  . rcases g with h | rfl
    . exact(r.oU h).2.2
    grind
  . obtain⟨h1,h2⟩:=S p hp;exact y p (u.sub p h1) h2
end
end
section
open Go.RowKit
section
variable {P:Program} {T:Tab} {C:aH} {F:FI} {n:Option Nat} {m:Nat} {α:Type} {cx:Cx} {st:St} {a:Act} {w:World}
theorem qH:∀{c:Code} {o:Oper} {d:Nat},o∈opsOf c->o.dst=some d->d∈jM c
 | .region id ops draw,o,d,ho,hd=>by simp only[jM,List.mem_filterMap];exact⟨o,ho,hd⟩
 | .seq a b,o,d,ho,hd=>by simp only[opsOf,List.mem_append]at ho;simp only[jM,List.mem_append];exact ho.imp (λh=>qH h hd) λh=>qH h hd
 | .cond _ a b,o,d,ho,hd=>by simp only[opsOf,List.mem_append]at ho;simp only[jM,List.mem_append];exact ho.imp (λh=>qH h hd) λh=>qH h hd
 | .block _ c,o,d,ho,hd=>by simp only[opsOf]at ho;simp only[jM];exact qH ho hd
 | .loop c,o,d,ho,hd=>by simp only[opsOf]at ho;simp only[jM];exact qH ho hd
 | .scope c,o,d,ho,hd=>by simp only[opsOf]at ho;simp only[jM];exact qH ho hd
 | .rangeFunc _ ps a b,o,d,ho,hd=>by simp only[opsOf,List.mem_append]at ho;simp only[jM,List.mem_append];exact .inr (ho.imp (λh=>qH h hd) λh=>qH h hd)
 | .skip,o,d,ho,_ | .exit _,o,d,ho,_ | .ret,o,d,ho,_ | .label _,o,d,ho,_ | .goto ..,o,d,ho,_ | .refuse ..,o,d,ho,_=>by simp[opsOf]at ho
theorem ae3{M:Nat->Prop}{β:Nat->Option (Nat × Nat)}{L:List (Nat × Obj)}{ds:List Nat}(r:Rel cx.w0 cx.Pr cx.M0 M β st a w)(i1:∀ s,ah<=s->β s=cx.XR s)(i2:nZ cx.hp0 st.heap)(i3:mF cx.w0.gl cx.w0.drawn w.drawn)(d:Fix cx M β st.heap a w L ds)(V:BO cx.hp0)(fn:FuncId)(ps:Array Tmp)(y z:Code) :
    ∃(l:Nat) (mark:List Deferred) (W1:World) (dB:Nat) (Ln:List (Nat × Obj)) (UE:List Nat),(Instr.enterLoop fn a.tmps ps y z cx.rd).run P w=.ok (l,mark) W1/\uZ cx.w0.gl w W1 /\
     ∀(F:Jc) (c:Code),∃ O,IK cx {a with defers:=mark++a.defers} Ln UE l W1 (dQ F c st) O (λ_=>False) W1 {state:=.ready,pending:=none,fn,tmps:=a.tmps,params:=ps,assign:=y,body:=z,defers:=dB}/\(∀ b,M b->¬ O b)/\∀ p∈Ln,p.1<W1.heap.size/\¬ M p.1:=by
  have S:=r.size;have hn:=cx.w0.le'
  have N:∀(W1:World) (l:Nat) (mark:List Deferred) (Ln:List (Nat × Obj)) (UE:List Nat) (lp:Loop),uZ cx.w0.gl w W1->w.heap.size<=l->W1.heap[l]?=some (.loop lp)->(∀ p∈Ln,W1.heap[p.1]?=some p.2/\p.1≠l/\(p∈L\/w.heap.size<=p.1))->(∀ p∈L,p∈Ln) ->
      mark++a.defers=UE.map Fj->UE.Nodup->(∀ D∈UE,(D,Obj.deferred (some []))∈Ln/\cx.nm<=D/\((D,Obj.deferred (some []))∈cx.L0\/cx.w0.heap.size<=D))->∀(F:Jc) (c:Code),∃ O,IK cx {a with defers:=mark++a.defers} Ln UE l W1 (dQ F c st) O (λ_=>False) W1 lp/\(∀ b,M b->¬ O b)/\∀ p∈Ln,p.1<W1.heap.size/\¬ M p.1:=by
    intro W1 l mark Ln UE lp g hl E q A hm Y Z F c;have I:=g.size;have hk:∀ b,b<w.heap.size->W1.heap[b]?=w.heap[b]?:=λb e=>g.keep b e λh=>h;have R:Rel cx.w0 cx.Pr cx.M0 M β st a W1:=by
     refine r.to rfl (λb e=>⟨e,hk b (r.iU b e)⟩) (λs b o hs e=>?_) (λb e=>Nat.lt_of_lt_of_le (r.iU b e) I) r.oD r.vW (λb e hp=>?_) (λb n e hp hr=>?_) (Nat.le_trans r.size I) (g.os.trans r.os) (g.tape.trans r.tape) (g.output.trans r.output)
     . obtain⟨J,g2,i⟩:=r.own s b o hs e;grind
     . rw[hk b (by omega)];exact r.keep b e hp
     . exact(r.room b n e hp hr).of_block (hk b (by omega))
    have ra:=R.slots (a':={a with defers:=mark++a.defers}) (env:=st.env) R.qK R.env;obtain⟨rf,af,j⟩:=Qj ra F c;have Uw:¬ M l:=λh=>by have:=r.iU l h;omega
    have hOl:¬ oQ β st.heap l:=λh=>by have:=(r.oU h).2.1;omega
    refine⟨λb=>oQ β (dQ F c st).heap b\/b=l,⟨M,β,rf,i1,i2.trans af,i3.trans g.drawn,⟨λp hp=>?_,λp hp=>A p (d.sub p hp),hm,Y,Z,λl' hl'=>?_,d.size,d.tmps,λh=>absurd V h,d.yl,d.nml⟩,⟨E,Uw,λh=>hOl (j l h),λp hp=>(q p hp).2.1,by omega,qNr _⟩,λb=>Iff.rfl,λb e=>.inl (by have:=r.iU b e;omega),λp hp=>(qAa.1 (q p hp).1).1,(qAa.1 E).1,λ_ h=>h.elim⟩,λb e ho=>?_,λp hp=>?_⟩
    . obtain⟨J,g2,i⟩:=q p hp;rcases i with i | i
      . obtain⟨k1,k2,k3⟩:=d.lies p i;exact⟨J,λh=>k2 (j _ h),k3⟩
      . exact⟨J,λh=>by have:=(r.oU (j _ h)).2.1;omega,λh=>by have:=r.iU _ h;omega⟩
    . obtain⟨r0,B⟩:=d.rd l' hl';grind
    . rcases ho with h | rfl
      . exact(r.oU (j b h)).1 e
      grind
    . obtain⟨J,g2,i⟩:=q p hp;refine⟨(qAa.1 J).1,λh=>?_⟩;rcases i with i | i
      . exact(d.lies p i).2.2 h
      . have:=r.iU _ h;omega
  have u:∀ p∈L,p.1<w.heap.size:=λp hp=>(qAa.1 (d.lies p hp).1).1;cases U:cx.rd with
  | none =>
   refine⟨_,_,_,w.heap.size,(w.heap.size,.deferred (some []))::L,w.heap.size::ds,run_enterLoop_outer fn a.tmps ps y z,(uZ.alloc w _).trans (uZ.alloc _ _) (λ_ _ h=>h),?_⟩;refine N _ _ _ _ _ _ ((uZ.alloc w _).trans (uZ.alloc _ _) (λ_ _ h=>h)) (by omega) ?_ (λp hp=>?_) (λp hp=>List.mem_cons_of_mem _ hp) (by rw[d.marks];rfl) ?_ λD Q=>?_
   . have:=World.alloc_heap_new (w.alloc (.deferred (some []))) (.loop {state:=.ready,pending:=none,fn,tmps:=a.tmps,params:=ps,assign:=y,body:=z,defers:=w.heap.size});grind[World.size_alloc]
   . rcases List.mem_cons.1 hp with rfl | hp
     . exact⟨(Below.heap_alloc _ _ _ (by simp)).trans (World.alloc_heap_new w _),by simp,.inr (qNr _)⟩
     . have:=u p hp;refine⟨?_,by omega,.inl hp⟩;rw[Below.heap_alloc _ _ _ (by simp;omega),Below.heap_alloc _ _ _ this];exact(d.lies p hp).1
   . refine List.nodup_cons.2 ⟨λh=>?_,d.nodup⟩;have:=u _ (d.mark _ h).1;omega
   . rcases List.mem_cons.1 Q with rfl | Q
     . exact⟨by simp,by have:=d.nml;omega,.inr S⟩
     . exact⟨List.mem_cons_of_mem _ (d.mark D Q).1,(d.mark D Q).2⟩
  | some l0 =>obtain⟨r0,B⟩:=d.rd l0 U;refine⟨_,_,_,r0.defers,L,ds,run_enterLoop_inner (d.lies _ B).1 fn a.tmps ps y z,uZ.alloc w _,?_⟩;refine N _ _ _ _ _ _ (uZ.alloc w _) (qNr _) (World.alloc_heap_new w _) (λp hp=>?_) (λp hp=>hp) (by rw[d.marks];rfl) d.nodup d.mark;have:=u p hp;exact⟨(Below.heap_alloc _ _ _ this).trans (d.lies p hp).1,by omega,.inl hp⟩
def Ex.code:Ex->Code
 | .normal=>.skip
 | .exit id=>.exit id
 | .ret=>.ret
theorem ahU(ok:fB P T){gl:Option (List (Nat × Obj))}(hS:Jj P T gl C){x0:α}{f:Operand}{ps:Array Tmp}{y z:Code}
    (hy:ae2 T C F n false P 0 (λ_:Ex->St->Option α=>True) (λi:CxN gl=>i.1.rd) (λi=>EW i.1) (λi x st a w=>x=x0/\Inv i.1 st a w) y)
    (hz:ae2 T C F n false P 0 (λ_:Ex->St->Option α=>True) (λi:CxN gl=>i.1.rd) (λi=>EW i.1) (λi x st a w=>x=x0/\Inv i.1 st a w) z) :
    ae2 T C F n false P 0 (λ_:Ex->St->Option α=>True) (λi:CxN gl=>i.1.rd) (λi=>EW i.1) (λi x st a w=>x=x0/\Inv i.1 st a w) (.rangeFunc f ps y z):=by
  intro ⟨cx,hnl,B⟩ st a w k x Q _ h hd _ hw hi hQ;simp only at hw hi hQ ⊢;obtain⟨g,Y,fi,res,hv,hf,hpy,hpb,hcall,h⟩:=FV h;simp only[gy,qBa]at hd;obtain⟨hfun,hit⟩:=hS g fi Y res hf hpb hcall;obtain⟨hx0,M,β,L,ds,r,i1,i2,i3,fx⟩:=hi;subst hx0;have hev:=r.dP f;rw[hv]at hev;obtain⟨lb,hlb,awc,aqj⟩:∃ lb:Array Value,a.eval f=.func (.func g) #[] lb/\lb.size=Y.length/\∀ i c,Y[i]?=some c->VR w M c (lb.getD i undef):=by
   generalize a.eval f=c at hev;cases hev with
   | p _ _ hvr=>cases hvr with | fn _ _ vs hn hc=>exact⟨vs,rfl,hn,hc⟩
  have hbody:∃ c,fi.fn.body=some c:=by grind[rP]
  refine wpIn_rangeFunc λfn _=>?_;obtain⟨l,mark,W1,dB,Ln,UE,hrun,hg,hfin⟩:=ae3 (P:=P) r i1 i2 i3 fx hnl fn ps y z;obtain⟨O0,hI0,hMO,aAS⟩:=hfin F.cfg (.seq y z);refine⟨l,mark,W1,{target:=.fn (.func g) lb,args:=#[.func (.yield l) #[] #[]]},W1,g,#[.func (.yield l) #[] #[]]++lb,W1,hrun,?_,λ_ _=>trivial,?_,Az cx.rd,?_⟩
  . simp_all[resolve,go_sem]
  . simp only[invoke];exact Hf ok hf hbody _
  refine zi _ ?_;generalize u:({state:=.ready,pending:=none,fn,tmps:=a.tmps,params:=ps,assign:=y,body:=z,defers:=dB}:Loop)=rec at hI0;generalize ha':({a with defers:=mark++a.defers}:Act)=a' at hI0;have hat:a'.tmps=a.tmps:=by rw[<- ha']
  let J:List PV->(Nat->Prop)->(Nat->Prop)->World->Prop:=λr O K W=>∃ st,wO (dQ F.cfg (.seq y z)) fi.cfg.yk ps.toList (Bg ps y z) (Om T C F n y z) r st k=some x/\IK cx a' Ln UE l W1 st O K W rec;let Jx:(Nat->Prop)->(Nat->Prop)->World->Prop:=λO K W=>∃(N:Ex) (st:St),k N st=some x/\(N=.ret\/∃ id,N=.exit id)/\IK cx a' Ln UE l W1 st O K W {rec with state:=.done,pending:=some N.code};have hW1:cx.w0.n0<=W1.heap.size:=by have:=hg.size;have:=r.size;have:=cx.w0.le';omega
  refine Calls.mono (hit W1 M l lb J Jx O0 (λp hp=>by rw[<- B]at hp;exact⟨(r.glob p hp).1,(hg.keep _ (r.iU _ (r.glob p hp).1) λh=>h).trans (r.glob p hp).2⟩) awc (λi c hc=>(aqj i c hc).mono λb q=>⟨q,hg.keep b (r.iU b q) λh=>h⟩) (λb q=>⟨Nat.lt_of_lt_of_le (r.iU b q) hg.size,hMO b q⟩)
   (λr O K W W' S ⟨st,A,E⟩ g hS=>⟨st,A,E.bears (B▸g) hS⟩) (λO K W W' S ⟨N,st,A,E,h3⟩ g hS=>⟨N,st,A,E,h3.bears (B▸g) hS⟩) (λr O K W ⟨st,A,E⟩ b q=>q.elim (E.lt b) (E.seen b)) ?_ ⟨_,h,hI0⟩) ?_
  . -- one round
    rintro vs xs O K W Mi bF ⟨st,A,E⟩ aAT hMi hcn hcv;clear h hI0 aqj i1 i2 i3 fx hv;simp only[wO]at A;split at A
    . cases A
    rename_i env henv;rw[dS]at A;obtain⟨M',β',r',e1,e2,e3,f',⟨k1,k2,k3,k4,k5,k6⟩,hO,nK1,nK2,nK3,nK4⟩:=E;have hl:l<W.heap.size:=(qAa.1 k1).1;have awe:=r'.size;have aiO:∀ b,O b->b<W.heap.size:=λb q=>by
     rcases(hO b).1 q with h | rfl
     . exact(r'.oU h).2.1
     . exact hl
    let M1:Nat->Prop:=λb=>M' b\/Mi b;have aAX:∀ b,M1 b->¬ O b:=λb q Z=>by
     rcases q with q | q
     . rcases(hO b).1 Z with h | rfl
       . exact(r'.oU h).1 q
       . exact k2 q
     grind
    have hle:cx.w0.n0<=W.heap.size:=by have:=cx.w0.le';omega
    have r1:Rel ⟨W,cx.w0.n0,hle,cx.w0.gl⟩ O M1 M1 β' st a' W:=by
     refine r'.to rfl (λb q=>⟨.inl q,rfl⟩) (λs b o hs q=>?_) (λb q=>?_) (λb q=>.inl q) (λb q=>q) (λ_ _ _=>rfl) (λ_ _ _ _ h=>h) (qNr _) rfl rfl rfl
     . obtain⟨g1,g2,g3,g4⟩:=r'.own s b o hs q;have Z:O b:=(hO b).2 (.inl ⟨s,o,hs,q⟩);grind
     grind
    obtain⟨p1,p2,p3,p4,p5⟩:=adq (w:=W) (M:=M1) (β:=β') (h:=look st.heap) (cs:=bF.toList) (tmps:=a'.tmps) henv (by simp[hcn]) (Nat.zero_le _) (λj c hc=>by
     have:=hcv j c (by simpa using hc);have e:bF.toList.getD j undef=bF.getD j undef:=by simp[qLb,qAb]
     rw[e];exact this.mono λb q=>⟨.inr q,rfl⟩) r1.qK r1.env
    have hyl:=run_yield (P:=P) (args:=bF) k1 (by rw[<- u];simpa using p1);rw[<- Yp]at p3 p4 p5;have etm:rec.tmps=a'.tmps:=by rw[<- u,hat]
    have eps:rec.params=ps:=by rw[<- u]
    rw[eps,etm]at hyl;generalize htm:(ps.zip bF).foldl (λtmps (t,a)=>tmps.setIfInBounds t a) a'.tmps=tmps at p3 p4 p5 hyl;have eas:rec.assign=y:=by rw[<- u]
    have ebo:rec.body=z:=by rw[<- u]
    have est:rec.state=.ready:=by rw[<- u]
    have epe:rec.pending=none:=by rw[<- u]
    rw[eas,ebo]at hyl;refine⟨rec.fn,tmps,y,z,hyl,roundIn_of_wpIn trivial ?_⟩;let cA:Cx:=cx1 cx hle O M1 (Bg ps y z) tmps l ((l,.loop rec)::Ln);have hIA:Inv cA {st with env:=env} {tmps:=tmps,defers:=[]} W:=by
     refine⟨M1,β',(l,.loop rec)::Ln,[],r1.slots (a':={tmps:=tmps,defers:=[]}) (by rw[p2];show st.env.length<=tmps.size;rw[p3];exact r1.qK) p4,e1,e2,.refl _ _,⟨λp hp=>?_,λp hp=>hp,rfl,List.nodup_nil,λD hD=>by simp at hD,λl' hl'=>?_,rfl,λ_ _=>rfl,λ_=>rfl,λ_ h=>h.elim,Nat.le_trans f'.nml awe⟩⟩
     . rcases List.mem_cons.1 hp with rfl | hp
       . grind
       . obtain⟨g1,g2,g3⟩:=f'.lies p hp;grind
     . cases hl';simp
    have hdst:(∀ o∈opsOf y,EW cA o)/\∀ o∈opsOf z,∀ d,o.dst=some d->d∈Bg ps y z:=⟨λo Z=>⟨λd hd=>by have:=qH Z hd;show d∈Bg ps y z;simp[Bg,this],λ_ _ h=>h.elim⟩,λo Z d hd=>by have:=qH Z hd;simp[Bg,this]⟩;let kr:Ex->St->Option α:=IY (dQ F.cfg (.seq y z)) (Bg ps y z) (λst=>wO (dQ F.cfg (.seq y z)) fi.cfg.yk ps.toList (Bg ps y z) (Om T C F n y z) xs st k) k;let kn:Ex->St->Option α:=λN st'=>match N with
        | .normal=>XD T C F n z kr .normal st'
        | _=>none
    have h1':dH T C F n y {st with env:=env} kn=some _:=(aa2 y hpy _ kn (XD T C F n z kr) rfl).trans A;clear A;refine hy ⟨cA,hnl,B⟩ _ _ W _ _ _ trivial h1' hd.1 (λh=>by cases h) hdst.1 ⟨rfl,hIA⟩ ?_;intro N x' st' a1 w1 R ⟨hx1,hI1⟩;subst hx1;cases N with
    | exit id=>cases R
    | ret=>cases R
    | normal =>
    have R:dH T C F n z (Skm.dQ F.cfg z st') kr=some x':=R;have awf:=hI1.dQ F.cfg z;obtain⟨q1,cB,hIB,n0B,gB,wB,tB,prB,mB,aqk,moB,b0B,hpB,wrB,t0B,rdB,lB,LnB,ysB⟩:=Inv.busy (Ln:=Ln) awf (l:=l) (lo:=.loop rec) (by simp[cA,cx1]) (by simp) rfl {rec with state:=.busy} (λp hp=>⟨List.mem_cons_of_mem _ hp,k4 p hp⟩) (Bg ps y z) rfl ((hO l).2 (.inr rfl)) hl;refine⟨_,run_beginRound q1 est,?_⟩;have hO':∀ b,O b->cx.w0.heap.size<=b\/cx.Pr b:=λb h=>by
     rcases(hO b).1 h with h | rfl
     . exact(r'.oU h).2.2
     omega
    have sb:amS cx cB M' a' Ln (Bg ps y z) l W O:=by
     refine⟨n0B,gB,tB,λb q=>(prB b q).symm,λb q=>?_,λb j q Z hr=>aqk b j q Z (λe=>?_) hr,λb q=>moB b (.inl q),b0B,hpB,wrB,by rw[t0B];exact p3,λt ht=>by rw[t0B];exact p5 t λh=>ht (by simp only[Bg,List.mem_append];exact .inl h),LnB⟩
     . rcases mB b q with (h | h) |⟨h,h'⟩
       . exact r'.oD b h
       . rcases(hMi b h).2.2 with h | h
         . exact r.oD b h
         omega
       . refine .inr ⟨h,?_⟩;rcases h' with h' | h'
         . have h':W.heap.size<=b:=h';left;omega
         . exact hO' b h'
     . obtain⟨Cs,e',fr,hc,_⟩:=hr;grind
    have hzz:=hz ⟨cB,by rw[hpB];exact hnl,gB.trans B⟩ _ a1 _ _ _ (roundPost P l λe W'=>Turns gl O W W'/\∃ O' K':Nat->Prop,((e=.returned (.bool true)/\J xs O' K' W')\/(e=.returned (.bool false)/\Jx O' K' W'))/\(∀ b,O' b->O b\/W.heap.size<=b)/\∀ b,K' b->K b\/Mi b\/O b\/(W.heap.size<=b/\b<W'.heap.size)) trivial R hd.2 (λh=>by cases h) (λo Z=>⟨λd hd=>by show cB.Wr d;rw[wrB];exact hdst.2 o Z d hd,λt _ h=>by rw[ysB]at h;exact h.elim⟩) ⟨rfl,hIB⟩ ?_
    . simp only[rdB]at hzz;exact hzz
    intro ex2 x2 st3 a3 W3 I ⟨hx2,hI3⟩;subst hx2;have hgrow3:W.heap.size<=W3.heap.size:=by obtain⟨_,_,_,_,r3,_⟩:=hI3;have A:=r3.size;have E:=sb.turns.size;grind
    have ay6:∀ b,cB.M0 b->b<W3.heap.size:=by obtain⟨_,_,_,_,r3,_⟩:=hI3;exact λb q=>r3.iU b (r3.vW b q)
    let K':Nat->Prop:=λb=>K b\/Mi b\/O b\/(W.heap.size<=b/\b<W3.heap.size);have key:=λlp'=>IK.round (W1:=W1) r' f' e3 k4 k5 k6 hO sb lB hI3 lp' nK2 nK3 (K':=K') (λb q=>by
     rcases mB b q with (h | h) |⟨_,h⟩
     . grind
     . grind
     . rcases h with h | h
       . have h:W.heap.size<=b:=h;grind
       . exact .inr (.inr (.inr (.inl h)))) (λb q=>.inr (.inr (.inl q))) (λb A E=>.inr (.inr (.inr ⟨A,E⟩))) (λb q=>by
     grind)
    have hput:∀ o:Obj,(W3.putObj l o).heap.size=W3.heap.size:=λo=>World.putObj_size;have hKs:∀(o:Obj) (b:Nat),K' b->K b\/Mi b\/O b\/(W.heap.size<=b/\b<(W3.putObj l o).heap.size):=λo b q=>by rw[hput];exact q
    cases ex2 with
    | normal =>
     obtain⟨q3,O',V,U,ht⟩:=key rec;obtain⟨O'',awh,hsub⟩:=V.dQ F.cfg (.seq y z);have he:=run_endRound (P:=P) none q3;have aiN:({{rec with state:=.busy}with state:=if(none:Option Code).isNone then .ready else .done,pending:=none}:Loop)=rec:=by grind
     simp only[kr,IY,dS]at I;refine⟨_,_,he,?_⟩;rw[aiN];exact⟨B▸ht,O'',K',.inl ⟨rfl,_,I,awh⟩,λb q=>U b (hsub b q),hKs _⟩
    | exit id =>obtain⟨q3,O',V,U,ht⟩:=key {rec with state:=.done,pending:=some (.exit id)};simp only[kr,IY,dS]at I;exact⟨_,_,run_endRound (P:=P) (some (.exit id)) q3,B▸ht,O',K',.inr ⟨rfl,.exit id,_,I,.inr ⟨id,rfl⟩,V⟩,U,hKs _⟩
    | ret =>obtain⟨q3,O',V,U,ht⟩:=key {rec with state:=.done,pending:=some .ret};simp only[kr,IY,dS]at I;exact⟨_,_,run_endRound (P:=P) (some .ret) q3,B▸ht,O',K',.inr ⟨rfl,.ret,_,I,.inl rfl,V⟩,U,hKs _⟩
  . -- behind the sequence
    rintro e W2 ⟨⟨v,rfl⟩,O,K,(⟨st,A,E⟩ |⟨N,st,A,E,h3⟩)⟩
    . simp only[wO]at A;have hl:W2.heap[l]?=some (.loop rec):=by obtain⟨_,_,_,_,_,_,_,⟨h,_⟩,_⟩:=E;exact h
      have hend:=run_endLoop (P:=P) hl (by rw[<- u];simp);rw[show rec.pending=none by rw[<- u]]at hend;refine⟨none,_,hend,?_⟩;exact hQ .normal _ st a' _ A ⟨rfl,E.close _⟩
    . have hl:W2.heap[l]?=some (.loop {rec with state:=.done,pending:=some N.code}):=by obtain⟨_,_,_,_,_,_,_,⟨h,_⟩,_⟩:=h3;exact h
      refine⟨some N.code,_,run_endLoop (P:=P) hl (by simp),?_⟩;rcases E with rfl |⟨id,rfl⟩
      . exact wpIn_ret (hQ .ret _ st a' _ A ⟨rfl,h3.close _⟩)
      . exact wpIn_exit (hQ (.exit id) _ st a' _ A ⟨rfl,h3.close _⟩)
end
end
section
variable {x:PV}{v:AV}{ss:List Nat}{n s:Nat}{b:bZ}{h:Nat->Option bZ}{bl:List bZ}{bF:Array Value}{gl:Option (List (Nat × Obj))}{X:Ext}
section
variable {P:Program} {T:Tab} {w0:Base} {Pr M0 M:Nat->Prop} {β XR:Nat->Option (Nat × Nat)} {hp0:Heap} {st st':St} {a:Act} {w:World}
def Hg(tmps:Array Value):ResultVar->Sem Value
 | .tmp t=>pure (tmps.getD t undef)
 | .cell a t=>do loadVar t (<- asAddr (tmps.getD a undef))
theorem akm(ok:fB P T)(r:Rel w0 Pr M0 M β st a w){x:ResultVar}(h:agd T st.env (look st.heap) x=some v):∃ c,(Hg a.tmps x).run P w=.ok c w/\AR w M β (look st.heap) v c:=by
 cases x with
 | tmp t =>simp only[agd,qOa]at h;subst h;exact⟨_,by simp[Hg],r.slot t⟩
 | cell t ty =>
  simp only[agd]at h;split at h
  . rename_i s n q u;split at h
    . rename_i cs i;have d:=r.slot t;rw[q]at d;have g:(JZ T (look st.heap) ty (.ptr s 0 0)).run some=some {val:=v}:=by simp only[JZ,u,i,h];rfl
      obtain⟨D,c,A,z,y⟩:=(acQ ok (h':=look st.heap) (λ_ _ h=>h) r.heap d).sim Eff some _ g;cases A;refine⟨c,?_,z⟩;generalize I:a.tmps.getD t undef=p at d y;cases d with
      | ptrB _ _ B b o e j=>grind[Instr.loadAt,Instr.sureAddr,Hg,asAddr]
      | ptrA _ _ _ sa ks xs b o e j E=>rw[i]at e;cases e
    . cases h
  . cases h
theorem Hl(ok:fB P T)(r:Rel w0 Pr M0 M β st a w):∀{l:List ResultVar} {vs:List AV},J6 T st.env (look st.heap) l=some vs->∃ cs,(l.mapM (Hg a.tmps)).run P w=.ok cs w/\oW w M β (look st.heap) vs cs
 |[],vs,h=>by simp[J6]at h;subst h;exact⟨[],by simp,rfl,λi x c h=>by simp at h⟩
 | x::l,vs,h=>by
  simp only[J6]at h;split at h
  . rename_i v j u q;cases h;obtain⟨c,B,A⟩:=akm ok r u;obtain⟨cs,z,g⟩:=Hl ok r q;refine⟨c::cs,by simp[B,z],by simp[g.1],λi y d e hd=>?_⟩;cases i with
    | zero=>simp at e hd;subst e hd;exact A
    | succ i=>simp at e hd;exact g.2 i y d e hd
  . cases h
theorem Aw{fn:Func}{tmps:Array Value}{cs:List Value}(h:(fn.results.toList.mapM (Hg tmps)).run P w=.ok cs w):(results fn tmps).run P w=.ok (BN cs) w:=by
 have e:results fn tmps=(do let vs <- fn.results.mapM (Hg tmps);pure (if h:vs.size=1 then vs[0]else .tuple vs)):=rfl;rw[e,Array.mapM_eq_mapM_toList];simp only[map_eq_pure_bind,bind_assoc,pure_bind,Sem.run_bind,h,qRa,Sem.run_pure];congr 1
 match cs with
 |[]=>rfl
 |[c]=>rfl
 | _::_::_=>rfl
theorem EZ{hp:Heap}(h:look (sG hp ss) s=some b):look hp s=some b/\s ∉ ss:=by grind[yI]
theorem TB(hd:SQ h v=some (x,ss)):∀ s∈ss,(h s).isSome=true:=by unfold SQ at hd;grind
theorem IL{h:Nat->Option bZ}:∀{vs:List AV} {xs:List PV} {ss:List Nat},Ea h vs=some (xs,ss)->∀ s∈ss,(h s).isSome=true
 |[],xs,ss,hd=>by simp[Ea]at hd;obtain⟨_,rfl⟩:=hd;simp
 | v::r,xs,ss,hd=>by
  simp only[Ea]at hd;split at hd
  . rename_i e d;cases hd;intro s c;rcases List.mem_append.1 c with c | c
    . exact TB e s c
    . exact IL d s c
  . cases hd
theorem TD(hd:PS h v=some (x,ss)):∀ s∈ss,(h s).isSome=true:=by
 unfold PS at hd;split at hd
 . split at hd
   . rename_i d;split at hd
     . rename_i e;cases hd;intro s c;rcases List.mem_cons.1 c with rfl | c
       . rw[d];rfl
       . exact IL e s c
     . cases hd
   . cases hd
 . exact TB hd
theorem Qk{h:Nat->Option bZ}:∀{vs:List AV} {xs:List PV} {ss:List Nat},JX h vs=some (xs,ss)->∀ s∈ss,(h s).isSome=true
 |[],xs,ss,hd=>by simp[JX]at hd;obtain⟨_,rfl⟩:=hd;simp
 | v::r,xs,ss,hd=>by
  simp only[JX]at hd;split at hd
  . rename_i e d;cases hd;intro s c;rcases List.mem_append.1 c with c | c
    . exact TD e s c
    . exact Qk d s c
  . cases hd
theorem XE(hd:deep h v=some (x,ss)):∀ s∈ss,(h s).isSome=true:=by
 unfold deep at hd;split at hd
 . split at hd
   . rename_i c;cases hd;exact IL c
   . cases hd
 . split at hd
   . rename_i c;cases hd;exact Qk c
   . cases hd
 . exact TD hd
theorem IQ(r:Rel w0 Pr M0 M β st a w){hA:Nat->Option bZ}{βA:Nat->Option (Nat × Nat)}(hend:∀ j blk,look st.heap (ah+j)=some blk->hA (ah+j)=some blk/\βA (ah+j)=β (ah+j)) :
    ∀{ts:List TypeId} {q:List nC} {vs:List AV} {cs:List Value} {Z:List AV} {hp:Heap},CZ T hp q ts vs=some Z->(∀ s b,look hp s=some b->look st.heap s=some b)->oW w M β (look st.heap) vs cs ->
    ∃(S:List Nat) (ps:List (Option (Nat × Nat))),FK T w (eG M β S) βA hA q ts Z cs ps/\(∀ s∈S,(look hp s).isSome=true/\s<ah) /\
     (∀ b o,some (b,o)∈ps->∃ s o0,(look hp s).isSome=true/\s ∉ S/\s<ah/\β s=some (b,o0))/\(vS T q ts=true->FK T w (eG (λ_=>False) β S) βA hA q ts Z cs ps)
  |[],q,[],cs,Z,hp,h,_,hl=>by
   simp[CZ]at h;subst h;have:cs=[]:=by have:=hl.1;simpa using this.symm
   subst this;exact⟨[],[],.nil q,by simp,by simp,λ_=>.nil q⟩
  | t::ts,q,v::vs,[],Z,hp,h,_,hl=>by have:=hl.1;simp at this
  | t::ts,q,v::vs,c::cs,Z,hp,h,hsub,hl=>by
   simp only[CZ]at h;obtain⟨V,hls⟩:=hl.cons;split at h
   . rename_i x ss d;split at h
     . rename_i xs hxs;cases h;have aqm:∀ s b,look (sG hp ss) s=some b->look st.heap s=some b:=λs b h=>hsub s b (EZ h).1;obtain⟨S,ps,k1,k2,k3,k4⟩:=IQ r hend hxs aqm hls;have upF:∀(ss:List Nat) b,eG (λ_=>False) β S b->eG (λ_=>False) β (ss++S) b:=λss b u=>u.imp id λ⟨s,o,J,R⟩=>⟨s,o,by simp[J],R⟩;have L:∀ s,(look (sG hp ss) s).isSome=true->(look hp s).isSome=true/\s ∉ ss:=λs h=>by obtain⟨b,u⟩:=Option.isSome_iff_exists.1 h;obtain⟨g1,g2⟩:=EZ u;grind
       revert d;generalize hm:q.headD .deep=m;intro d
       have plain:∀(x':AV),x=x'->He T w (eG M β S) βA hA (q.headD .deep) t x' c none->(PX T (q.headD .deep) t=true->He T w (eG (λ_=>False) β S) βA hA (q.headD .deep) t x' c none)->∃(S:List Nat) (ps:List (Option (Nat × Nat))),FK T w (eG M β S) βA hA q (t::ts) (x::xs) (c::cs) ps/\(∀ s∈S,(look hp s).isSome=true/\s<ah) /\
           (∀ b o,some (b,o)∈ps->∃ s o0,(look hp s).isSome=true/\s ∉ S/\s<ah/\β s=some (b,o0))/\(vS T q (t::ts)=true->FK T w (eG (λ_=>False) β S) βA hA q (t::ts) (x::xs) (c::cs) ps):=by
         intro x' e hr hrF;subst e;refine⟨S,none::ps,.cons q t ts x xs c cs none ps hr k1 (λb o U h=>by cases h),λs D=>⟨(L s (k2 s D).1).1,(k2 s D).2⟩,λb o u=>?_,λI=>by simp only[vS,qBa]at I;exact .cons q t ts x xs c cs none ps (hrF I.1) (k4 I.2) (λb o U h=>by cases h)⟩;rcases List.mem_cons.1 u with u | u
         . cases u
         . grind
       cases m with
       | deep =>
        simp only[WH]at d;split at d
        . rename_i y A hd;cases B:bY (dD T t).1 (dD T t).2 y&&A.all (λs=>Nat.blt s 100000)with
          | false=>rw[B]at d;cases d
          | true =>
           rw[B]at d;simp only[qCt,qOa,Prod.mk.injEq]at d;obtain⟨rfl,rfl⟩:=d;simp only[qBa]at B;obtain⟨d1,d2⟩:=LM (M:=M) (β:=β) (λs b h=>r.heap s b (hsub s b h)) hsub hd V;have Y:∀ s∈A,s<ah:=λs D=>Nat.le_of_ble_eq_true (List.all_eq_true.1 B.2 s D);have hlive:∀ s∈A,(look hp s).isSome=true:=XE hd;have up:∀ b,eG M β S b->eG M β (A++S) b:=λb u=>u.imp id λ⟨s,o,J,R⟩=>⟨s,o,by simp[J],R⟩;have hd1:He T w (eG M β (A++S)) βA hA .deep t (.p y) c none:=.deep t y c B.1 (d1.mono λb u=>⟨u.imp id λ⟨s,o,J,R⟩=>⟨s,o,by simp[J],R⟩,rfl⟩);refine⟨A++S,none::ps,.cons q t ts _ xs c cs none ps ?_ (k1.mono up) (λb o U h=>by cases h),λs D=>?_,λb o u=>?_,λI=>?_⟩
           . grind
           . grind
           . grind
           . simp only[vS,qBa]at I;refine .cons q t ts _ xs c cs none ps ?_ ((k4 I.2).mono (upF _)) (λb o U h=>by cases h);have Q:=I.1;rw[hm]at Q ⊢;exact hd1.flat Q
        . cases d
       | fresh =>
        simp only[WH]at d;split at d
        . rename_i e hu;split at d
          . rename_i s z off len;split at d
            . rename_i sa ks ys D;cases B:sa==(dD T e).1&&Kd.Fe ks (dD T e).2&&Nat.blt s 100000 with
              | false=>rw[B]at d;cases d
              | true =>
               rw[B]at d;simp only[qCt,qOa,Prod.mk.injEq]at d;obtain⟨rfl,rfl⟩:=d;simp only[qBa,beq_iff_eq]at B;obtain⟨⟨rfl,hks⟩,Y⟩:=B;have hks:=Kd.uD _ _ hks;subst hks;have Y:s<ah:=Nat.le_of_ble_eq_true Y;have E:=hsub _ _ D;have hbr:=r.heap s _ E
               obtain ⟨p,hp1,hp2,hp3⟩:∃ p:Option (Nat × Nat),BR w (eG M β S) (λ_=>p) (λ_=>some (.arr (dD T e).1 (dD T e).2 ((ys.drop off).take len))) 0 (.arr (dD T e).1 (dD T e).2 ((ys.drop off).take len)) /\
                   AR w (eG M β S) (λ_=>p) (λ_=>some (.arr (dD T e).1 (dD T e).2 ((ys.drop off).take len))) (.slice 0 (dD T e).2.length 0 ((ys.drop off).take len).length) c/\(∀ b o,p=some (b,o)->∃ o0,β s=some (b,o0)):=by
                 cases V with
                 | sliceE _ _ a' ks' xs' base J R =>
                  refine⟨none,?_,?_,λb o h=>by cases h⟩
                  . simp only[List.take_zero];exact .lU _ _
                  . simp only[List.take_zero,List.length_nil];exact .sliceE 0 0 _ _ [] base rfl (by simp)
                 | slice _ _ _ a' ks' xs' b o cap J R h3 h4 h5 =>
                  rw[E]at J;cases J;have N:((ys.drop off).take len).length=len:=by simp;omega
                  refine⟨some (b,o+off*(dD T e).2.length),?_,?_,λb' U h=>by cases h;exact⟨o,h3⟩⟩
                  . cases hbr with
                    | lU=>simp only[List.drop_nil,List.take_nil];exact .lU _ _
                    | arr _ _ _ b' U C e' fr g1 g2 g3 g4 g5 g6 =>
                     rw[h3]at g1;cases g1;refine .arr _ _ _ b _ C e' fr rfl g2 ?_ g4 (λx d=>g5 x (List.mem_of_mem_drop (List.mem_of_mem_take d))) λi x j c d hj=>?_
                     . rw[N,Nat.add_assoc,<- Nat.add_mul];exact Nat.le_trans (Nat.add_le_add_left (Nat.mul_le_mul_right _ (by omega)) _) g3
                     . have hi:i<len:=by grind
                       rw[List.getElem?_take,if_pos hi,List.getElem?_drop]at d;have:=(g6 (off+i) x j c d hj).mono (M':=eG M β S) λb u=>⟨.inl u,rfl⟩;grind
                  . rw[N];have:=AR.slice (M:=eG M β S) (β:=λ_=>some (b,o+off*(dD T e).2.length)) (h:=λ_=>some (.arr (dD T e).1 (dD T e).2 ((ys.drop off).take len))) 0 0 len (dD T e).1 (dD T e).2 ((ys.drop off).take len) b (o+off*(dD T e).2.length) cap rfl (by rw[N];omega) rfl h4 (by refine h5.mono ?_;grind);grind
               have hsl:(look hp s).isSome=true:=by rw[D];rfl
               have hfr:He T w (eG M β S) βA hA .fresh t (.fresh (dD T e).1 (dD T e).2 ((ys.drop off).take len)) c p:=.fresh t e _ c p hu hp1 hp2;have hap:∀ b o U,p=some (b,o)->some (b,U) ∉ ps:=λb o U e1 e2=>by obtain⟨o0,q0⟩:=hp3 b o e1;obtain⟨s',o0',q1,q2,q3,q4⟩:=k3 b U e2;obtain⟨g1,g2⟩:=L s' q1;obtain⟨blk,u⟩:=Option.isSome_iff_exists.1 g1;have:=r.inj s' s b o0' o0 (by rw[hsub _ _ u];rfl) (by rw[E];rfl) q4 q0;grind
               refine⟨S,p::ps,.cons q t ts _ xs c cs p ps ?_ k1 hap,λs' E=>⟨(L s' (k2 s' E).1).1,(k2 s' E).2⟩,λb o u=>?_,λI=>?_⟩
               . grind
               . grind
               . simp only[vS,qBa]at I;refine .cons q t ts _ xs c cs p ps ?_ (k4 I.2) hap;have Q:=I.1;rw[hm]at Q ⊢;exact hfr.flat Q
            . cases d
          . simp only[qOa,Prod.mk.injEq]at d;obtain⟨rfl,rfl⟩:=d;have B:c=.slice none 0 0:=by cases V;rename_i V;cases V;rfl
            subst B;have hne:∀ M,He T w M βA hA (q.headD .deep) t (.fresh (dD T e).1 (dD T e).2 []) (.slice none 0 0) none:=λM=>by rw[hm];exact .fresh t e [] _ none hu (.lU _ _) (.sliceE 0 0 _ _ [] none rfl (by simp))
            grind
          . cases d
        . cases d
       | func g qs =>
        simp only[WH]at d;split at d
        . rename_i f ys A hd;cases B:(f==g&&JU qs ys)&&A.all (λs=>Nat.blt s 100000)with
          | false=>rw[B]at d;cases d
          | true =>
           rw[B]at d;simp only[qCt,qOa,Prod.mk.injEq]at d;obtain⟨rfl,rfl⟩:=d;simp only[qBa,beq_iff_eq]at B;obtain⟨⟨rfl,hcq⟩,hcs⟩:=B;obtain⟨d1,d2⟩:=LM (M:=M) (β:=β) (λs b h=>r.heap s b (hsub s b h)) hsub hd V;have Y:∀ s∈A,s<ah:=λs D=>Nat.le_of_ble_eq_true (List.all_eq_true.1 hcs s D);have hlive:∀ s∈A,(look hp s).isSome=true:=XE hd;have up:∀ b,eG M β S b->eG M β (A++S) b:=λb u=>u.imp id λ⟨s,o,J,R⟩=>⟨s,o,by simp[J],R⟩;refine⟨A++S,none::ps,.cons q t ts _ xs c cs none ps ?_ (k1.mono up) (λb o U h=>by cases h),λs D=>?_,λb o u=>?_,λI=>?_⟩
           . rw[hm];exact .func f qs t ys c hcq (d1.mono λb u=>⟨u.imp id λ⟨s,o,J,R⟩=>⟨s,o,by simp[J],R⟩,rfl⟩)
           . grind
           . grind
           . simp only[vS,qBa,hm,PX]at I;grind
        . cases d
       | alias j =>
        simp only[WH]at d;split at d
        . rename_i s z off len e hu;cases B:s==ah+j&&z==(dD T e).2.length with
          | false=>rw[B]at d;cases d
          | true =>
           rw[B]at d;simp only[qCt,qOa,Prod.mk.injEq]at d;obtain⟨rfl,rfl⟩:=d;simp only[qBa,beq_iff_eq]at B;obtain⟨rfl,rfl⟩:=B;have:∃ blk,look st.heap (ah+j)=some blk:=by
            generalize (dD T e).2.length=z at V;cases V with
            | slice _ _ _ a ks xs b o cap D hl u hcap hr=>exact⟨_,D⟩
            | sliceE _ _ a ks xs base D hl=>exact⟨_,D⟩
           obtain⟨blk,u⟩:=this;obtain⟨g1,g2⟩:=hend j blk u;have hne:∀ M,He T w M βA hA (q.headD .deep) t (.slice (ah+j) (dD T e).2.length off len) c none:=λM=>by rw[hm];exact .alias j t e off len c hu (V.oz u g1 g2)
           grind
        . cases d
     . cases h
   . cases h
  |[],q,v::vs,cs,Z,hp,h,_,_=>by simp[CZ]at h
  | t::ts,q,[],cs,Z,hp,h,_,_=>by simp[CZ]at h
theorem ahW{b0:bZ}(e:iI b0=true)(d:LK b=true)(c:backOk b0 b=true):iI b=true:=by
 cases b with
 | log=>cases b0<;>simp[backOk,iI]at e c
 | _=>exact d
theorem TF{hp:Heap}:∀{bl nJ:List bZ} {k:Nat},(∀ b∈bl,iI b=true)->G8 hp k bl=some nJ->nJ.length=bl.length/\∀(i:Nat) (b0 b1:bZ),bl[i]?=some b0->nJ[i]?=some b1->look hp (ah+(k+i))=some b1/\iI b1=true/\backOk b0 b1=true
 |[],nJ,k,_,h=>by grind[G8]
 | b0::r,nJ,k,hbl,h=>by
  simp only[G8]at h;split at h
  . rename_i b A q j;cases c:LK b&&backOk b0 b with
    | false=>rw[c]at h;cases h
    | true =>
     rw[c]at h;simp only[qCt,qOa]at h;subst h;simp only[qBa]at c;obtain⟨u,y⟩:=TF (λb g=>hbl b (by simp[g])) j;refine⟨by simp[u],λi z c1 e d=>?_⟩;cases i with
     | zero=>simp at e d;subst e d;exact⟨q,ahW (hbl b0 (by simp)) c.1 c.2,c.2⟩
     | succ i=>grind
  . cases h
theorem BR.pure_mono{M':Nat->Prop}{β':Nat->Option (Nat × Nat)}{h':Nat->Option bZ}{N:Nat}{blk:bZ}(S:∀ b,M b->M' b)(R:BR w M β h s blk)(hp:iI blk=true)(e:β' N=β s):BR w M' β' h' N blk:=by
 have g:∀ b,M b->M' b/\w.heap[b]?=w.heap[b]?:=λb h=>⟨S b h,rfl⟩;have z:=R.RF (β':=β') (h':=h') hp e;cases z with
 | log=>simp[iI]at hp
 | lU=>exact .lU _ _
 | arr _ _ _ b o C L fr J I E D B A=>exact .arr _ _ _ b o C L fr J I E D B λi x j c V U=>(A i x j c V U).mono g
 | box cs b o C L fr J I E D B A =>
  refine .box cs b o C L fr J I E D B λj c y=>?_;simp only[iI,Option.isSome_iff_exists]at hp;obtain⟨vs,hp⟩:=hp;have q:=AQ hp;subst q;have d:=A j c y;simp only[List.getElem?_map,Option.map_eq_some_iff]at y;obtain⟨x,_,rfl⟩:=y;generalize C.getD (o+j) undef=u at d;cases d with
  | p _ _ Q=>exact .p _ _ (Q.mono g)
theorem Rel.start{args:List AV}(hp:wI w M β args bl bF)(u:∀ p∈gl.getD [],M p.1/\w.heap[p.1]?=some p.2)(fn:Func) :
    Rel ⟨w,w.heap.size,qNr _,gl⟩ (λb=>∃ i o,i<bl.length/\β (ah+i)=some (b,o)) M M β (ES fn args bl) {tmps:=bF++Array.replicate (fn.ntmps-bF.size) undef,defers:=[]} w:=by
  have I:=hp.num;refine⟨?_,λt v E=>?_,λs blk c=>?_,λs b o c z=>?_,λs N b o D c d z y=>?_,hp.iU,λb h=>.inl h,λb h=>h,λb _ _=>rfl,λb n _ _ h=>h,qNr _,rfl,rfl,rfl,u⟩
  . simp[ES,I]
  . by_cases J:t<args.length
    . have q:args[t]?=some v:=by grind[ES]
      have:=hp.args t v q;have e:(bF++Array.replicate (fn.ntmps-bF.size) undef).getD t undef=bF.getD t undef:=by rw[qAb,qAb,Array.getElem?_append_left (by omega)]
      rw[e];exact this
    . have:v=.undef:=by simp only[ES]at E;grind
      subst this;exact .undef _
  . obtain⟨i,g,rfl,A⟩:=LU c;exact hp.blk i blk A
  . obtain⟨blk,c⟩:=Option.isSome_iff_exists.1 c;obtain⟨i,g,rfl,A⟩:=LU c;obtain⟨R,Q⟩:=hp.own i b o g z;grind
  . obtain⟨blk,c⟩:=Option.isSome_iff_exists.1 c;obtain⟨blk',d⟩:=Option.isSome_iff_exists.1 d;obtain⟨i,g,rfl,A⟩:=LU c;obtain⟨j,B,rfl,L⟩:=LU d;rw[hp.inj i j b o D g B z y]
def vF(P:Program)(T:Tab)(gl:Option (List (Nat × Obj)))(X:Ext):Prop:=(∀ w:World,(∀ p∈gl.getD [],w.heap[p.1]?=some p.2)->T.glob gl.isSome w)/\(∀ f fi s args bl rs nJ,dZ T.funcs f=some fi->fi.cfg.gext=false->X f=some s->s args bl=some (rs,nJ)->(∃ c,fi.fn.body=some c)/\(∀ b∈bl,iI b=true) /\
    ∀(w:World) (M:Nat->Prop) (β:Nat->Option (Nat × Nat)) (bF:Array Value),(∀ p∈gl.getD [],M p.1/\w.heap[p.1]?=some p.2)->wI w M β args bl bF ->
     Calls P f bF w λe w'=>∃ cs ps M',e=.returned (BN cs)/\Ku gl T fi w M β bl rs nJ w' M' cs ps) /\
  ∀ f fi s args bl r,dZ T.funcs f=some fi->fi.cfg.gext=true->X f=some s->s args bl=some r->∃ caps,args=.yL::caps.map .p/\bl=[.log true []]/\P.funcs[f]?=some fi.fn/\QL P gl f caps (uY r.2)
theorem ae4(h:∀ b∈bl,iI b=true)(e:bl=[.log true []]):False:=by simp_all[iI]
theorem CV{fn:Func}{tmps:Array Value}{R:Ending->World->Prop}{n:Nat}:∀(ds:List Nat) (w:World),ds.Nodup->(∀ D∈ds,w.heap[D]?=some (.deferred (some []))) ->
    (∀ w',(∀ b,b ∉ ds->w'.heap[b]?=w.heap[b]?)->w'.heap.size=w.heap.size->w'.os=w.os->w'.tape=w.tape->w'.output=w.output->w'.drawn=w.drawn->∃ v,(results fn tmps).run P w'=.ok v w'/\R (.returned v) w') ->
    LeavesInM (FW none) n P fn tmps R (ds.map Fj) .returning w
  |[],w,_,_,h=>h w (λ_ _=>rfl) rfl rfl rfl rfl rfl
  | D::ds,w,hnd,hl,h=>by
   obtain⟨A,z⟩:=List.nodup_cons.1 hnd;refine⟨by simp,.inl ⟨D,w.putObj D (.deferred none),rfl,run_takeDeferred (hl D (by simp)),?_⟩⟩;refine CV ds _ z (λD' d=>?_) λw' y u q j i g=>?_
   . rw[World.putObj_heap_other (show D'≠D from λe=>A (e▸d))];grind
   . refine h w' (λb c=>?_) (by rw[u,World.putObj_size]) q j i g;simp only[List.mem_cons,not_or]at c;rw[y b c.2,World.putObj_heap_other c.1]
theorem Inv.shut{cx:Cx}{M:Nat->Prop}{β:Nat->Option (Nat × Nat)}{st:St}{a:Act}{w w':World}{L:List (Nat × Obj)}{ds:List Nat}(r:Rel cx.w0 cx.Pr cx.M0 M β st a w)(d:Fix cx M β st.heap a w L ds)(J:cx.nm=cx.w0.heap.size)
    (e:∀ b,b ∉ ds->w'.heap[b]?=w.heap[b]?)(g:w'.heap.size=w.heap.size)(y:w'.os=w.os)(u:w'.tape=w.tape)(q:w'.output=w.output):Rel cx.w0 cx.Pr cx.M0 M β st a w':=by
  have B:∀ b,M b->b ∉ ds:=λb c hd=>(d.lies _ (d.mark b hd).1).2.2 c;have A:∀ b,oQ β st.heap b->b ∉ ds:=λb c hd=>(d.lies _ (d.mark b hd).1).2.1 c;have i:∀ b,b<cx.w0.heap.size->b ∉ ds:=λb c hd=>by have:=(d.mark b hd).2.1;omega
  refine r.to rfl (λb c=>⟨c,e b (B b c)⟩) (λs b o j c=>?_) (λb c=>by rw[g];exact r.iU b c) r.oD r.vW (λb c hp=>?_) (λb n c hp z=>?_) (by rw[g];exact r.size) (y.trans r.os) (u.trans r.tape) (q.trans r.output)
  . obtain⟨I,E,D⟩:=r.own s b o j c;exact⟨e b (A b ⟨s,o,j,c⟩),I,by rw[g];exact E,D⟩
  . rw[e b (i b c)];exact r.keep b c hp
  . exact(r.room b n c hp z).of_block (e b (i b (by have:=cx.w0.le';omega)))
theorem ae5(h:∀ b∈bl,iI b=true):BO (iW 0 bl):=by intro xs c;have:look (iW 0 bl) (ah+0)=some (.log true xs):=c;rw[wS]at this;have:=h _ (qLe this);grind[iI]
theorem KF(ok:fB P T)(hC:jT P T gl (lK T X n))(hS:Jj P T gl (lK T X n)){f:Nat}{fi:FI}{c:Code}(S:dZ T.funcs f=some fi)(u:fi.fn.body=some c)
    {w:World}{j:Nat}{le:j<=w.heap.size}{Pr M:Nat->Prop}{β:Nat->Option (Nat × Nat)}{st:St}(hr:Rel ⟨w,j,le,gl⟩ Pr M M β st {tmps:=bF++Array.replicate (fi.fn.ntmps-bF.size) undef,defers:=[]} w)(A:BO st.heap)
    {G:St->Option (List AV × List bZ)}{x:List AV × List bZ}(h:dH T (lK T X n) fi (some n) c st (λJ st=>match J with | .exit _=>none | _=>G st)=some x){R:Ending->World->Prop}
    (hR:∀(st':St) (a:Act) (w':World) (M1:Nat->Prop) (e:Nat->Option (Nat × Nat)),Rel ⟨w,j,le,gl⟩ Pr M M1 e st' a w'->(∀ s,ah<=s->e s=β s)->(∀ s,ah<=s->∀ b,look st'.heap s=some b->∃ b0,look st.heap s=some b0/\Like b0 b)->mF gl w.drawn w'.drawn->G st'=some x->LeavesInM (FW none) 0 P fi.fn a.tmps R [] .returning w') :
    Calls P f bF w R:=by
  obtain⟨B,hname,E,Q⟩:=ok.funcs f fi S;let cx:Cx:={w0:=⟨w,j,le,gl⟩,Pr:=Pr,M0:=M,XR:=β,hp0:=st.heap,Wr:=λ_=>True,t0:=bF++Array.replicate (fi.fn.ntmps-bF.size) undef,rd:=none,L0:=[],nm:=w.heap.size}
  have hi:Inv cx st {tmps:=bF++Array.replicate (fi.fn.ntmps-bF.size) undef,defers:=[]} w:=
   ⟨M,β,[],[],hr,λ_ _=>rfl,λs _ b u=>⟨b,u,Like.refl b⟩,.refl _ _,⟨λp hp=>by simp at hp,λp hp=>by simp[cx]at hp,rfl,List.nodup_nil,λD I=>by simp at I,λl A=>(by cases A),rfl,λ_ _=>rfl,λ_=>rfl,λ_ h=>h.elim,qNr _⟩⟩
  refine Jt (rd:=none) (n:=0) (callsIn_of_wp_marks B u trivial ?_);refine oJ (ng:=false) (SA (m:=0) ok hC (ok.nvars f fi S) x) (λ_ f ps y z hy hz=>ahU ok hS hy hz) c ⟨cx,A,rfl⟩ _ _ w _ _ _ trivial h (E c u) (λh=>by cases h) (λ_ _=>⟨λ_ _=>trivial,λ_ _ h=>h.elim⟩) ⟨rfl,hi⟩ λJ U st' a N q i=>?_;obtain⟨rfl,M1,e,L1,L,V,e1,e2,e3,d⟩:=i;have g:G st'=some U->LeavesInM (FW none) 0 P fi.fn a.tmps R a.defers .returning N:=λq=>by rw[d.marks];exact CV L N d.nodup (λD I=>(d.lies _ (d.mark D I).1).1) λw' q1 q2 q3 q4 Z Y=>hR st' a w' M1 e (Inv.shut V d rfl q1 q2 q3 q4 Z) e1 e2 (by rw[Y];exact e3) q
  cases J with
  | exit id=>cases q
  | _=>exact g q
theorem ahX(ok:fB P T)(hX:vF P T gl X)(hC:jT P T gl (lK T X n))(hS:Jj P T gl (lK T X n)) :
    ∀ f fi args bl rs nJ,dZ T.funcs f=some fi->(∀ b∈bl,iI b=true)->lK T X (n+1) f args bl=some (rs,nJ)->(∃ c,fi.fn.body=some c) /\
    ∀(w:World) (M:Nat->Prop) (β:Nat->Option (Nat × Nat)) (bF:Array Value),(∀ p∈gl.getD [],M p.1/\w.heap[p.1]?=some p.2)->wI w M β args bl bF ->
     Calls P f bF w λe w'=>∃ cs ps M',e=.returned (BN cs)/\Ku gl T fi w M β bl rs nJ w' M' cs ps:=by
  intro f fi args bl rs nJ Y L h;simp only[lK,Y]at h;cases hx:X f with
  | some s =>
   rw[hx]at h;cases V:fi.cfg.gext with
   | false =>obtain⟨h1,_,h2⟩:=hX.2.1 f fi s args bl rs nJ Y V hx h;grind
   | true =>obtain⟨_,_,h2,_⟩:=hX.2.2 f fi s args bl _ Y V hx h;exact(ae4 L h2).elim
  | none =>
   rw[hx]at h;simp only at h;cases u:fi.fn.body with
   | none=>rw[u]at h;cases h
   | some c =>
    rw[u]at h;have d:Ee fi.cfg bl=true:=by grind
    have B:fi.cfg.vcall=false:=by
     cases B:fi.cfg.vcall with
     | false=>rfl
     | true =>
      unfold Ee at d;split at d
      . cases d
      rw[B]at d;simp only at d;split at d;all_goals simp_all[iI,JW]
    have J:fi.cfg.take=false:=by
     cases J:fi.cfg.take with
     | false=>rfl
     | true =>
      unfold Ee at d;split at d
      . cases d
      rw[B]at d;simp only[J]at d;split at d;all_goals simp_all[iI]
    rw[d]at h;simp only[qCt,iP,kS,dS,Rq,aeJ,B,J]at h;refine⟨⟨c,rfl⟩,λw M β bF hgl hp=>?_⟩;obtain⟨_,_,_,R⟩:=ok.funcs f fi Y;refine KF ok hC hS Y u (Rel.start hp hgl fi.fn) (ae5 L) h λst a w' M1 A r e1 e2 e3 N=>?_;have e2:∀ s,ah<=s->∀ b,look st.heap s=some b->∃ b0,look (iW 0 bl) s=some b0/\Like b0 b:=e2;unfold aeI at N;split at N
    . cases N
    . rename_i vs hvs;split at N
      . rename_i rs' aqo hrv hab;simp only[iP,kS,qOa,Prod.mk.injEq]at N;obtain⟨rfl,rfl⟩:=N;obtain⟨cs,g1,g2⟩:=Hl ok r hvs;obtain⟨ab1,ab2⟩:=TF L hab;have I:∀ j blk,look st.heap (ah+j)=some blk->∃ b0,bl[j]?=some b0/\Like b0 blk:=by intro j blk hj;obtain⟨b0,z,E⟩:=e2 (ah+j) (by omega) blk hj;grind[wS]
        have Z:∀ j blk,look st.heap (ah+j)=some blk->look (iW 0 aqo) (ah+j)=some blk/\β (ah+j)=A (ah+j):=by intro j blk hj;obtain⟨b0,z,E⟩:=I j blk hj;refine⟨?_,(e1 (ah+j) (by omega)).symm⟩;rw[wS];grind
        obtain⟨S,ps,q1,q2,q3,q4⟩:=IQ r Z hrv (λ_ _ h=>h) g2;have hup:∀ b,M1 b->eG M1 A S b:=λb h=>.inl h;refine⟨BN cs,Aw g1,cs,ps,eG M1 A S,rfl,⟨q1,λb o u=>?_,λhb1 hs1=>⟨eG (λ_=>False) A S,λb u=>?_,q4 (R hb1 hs1)⟩,λb h=>.inl (r.vW b h),λb h=>?_,λb h=>?_,λb u hn=>?_,λb n u hr=>?_,r.size,r.os,r.tape,r.output,e3,ab1,λi b0 b1 h1 h2=>?_⟩⟩
        . obtain⟨s,o0,z,E,k3,Q⟩:=q3 b o u;obtain⟨o1,o2,o3⟩:=r.own s b o0 z Q;refine⟨λh=>?_,o2,?_⟩
          . rcases h with h |⟨y,D,g,q⟩
            . exact o1 h
            . exact E (by rw[r.inj s y b o0 D z (q2 y g).1 Q q];exact g)
          grind
        . rcases u with u |⟨y,D,g,q⟩
          . exact u.elim
          . refine⟨.inr ⟨y,D,g,q⟩,?_⟩;obtain⟨z,E⟩:=q2 y g;rcases(r.own y b D z q).2.2.2 with o3 | o3;all_goals omega
        . rcases h with h |⟨y,D,g,q⟩
          . exact(r.oD b h).imp id And.left
          . obtain⟨z,E⟩:=q2 y g;rcases(r.own y b D z q).2.2.2 with o3 | o3;all_goals grind
        . rcases h with h |⟨y,D,g,q⟩
          . exact r.iU b h
          . exact(r.own y b D (q2 y g).1 q).2.1
        . exact r.keep b u λ⟨i,o,hi,h⟩=>hn i o hi h
        . by_cases U:∃ i o,i<bl.length/\β (ah+i)=some (b,o)
          . exact r.room b n u U hr
          . exact hr.of_block (r.keep b u U)
        . obtain⟨z,E,k3⟩:=ab2 i b0 b1 h1 h2;rw[qNz]at z;obtain⟨b0',Q,k5⟩:=I i b1 z;rw[h1]at Q;cases Q;exact⟨(r.heap _ _ z).pure_mono hup E (e1 (ah+i) (by omega)).symm,k5,k3,E⟩
      . cases N
end
end
section
variable {x:List AV × List bZ}{st st':St}{o:Oper}{draw:Bool}{k:Ex->St->Option (List AV × List bZ)}
def mQ(st st':St):Prop:=∀ b zs,look st'.heap ah=some (.log b zs)->look st.heap ah=some (.log b zs)
theorem mQ.refl(st:St):mQ st st:=λ_ _ h=>h
theorem mQ.trans{a b c:St}(h:mQ a b)(k:mQ b c):mQ a c:=λx d e=>h x d (k x d e)
theorem TG{ss:List Nat}{x:Option bZ}{b:Bool}{c:List PV}(h:x.map (bZ.kill ss)=some (.log b c)):x=some (.log b c):=by
 cases x with
 | none=>cases h
 | some y =>
  cases y with
  | box=>simp[bZ.kill]at h
  | arr=>simp[bZ.kill]at h
  | log=>simpa[bZ.kill] using h
theorem wV(st:St)(ss:List Nat):mQ st (st.strike ss):=by
 intro b c h;rw[iw]at h;split at h
 . cases h
 . exact TG h
theorem akn(st:St)(ss:List Nat):mQ st (st.kill ss):=by
 intro b c h;cases ss with
 | nil=>exact h
 | cons s r =>have h:look (jL (s::r) st.heap) ah=some (.log b c):=h;rw[jO]at h;exact TG h
theorem RI{h:Heap}:∀{c:List (Nat × bZ)},EP h c=true->∀ s b d,(s,bZ.log b d) ∉ c
 |[],_,s,b,d=>by simp
 |(t,.log _ _)::r,hc,s,b,d=>by simp[EP]at hc
 |(t,.box cs)::r,hc,s,b,d=>by
  have:EP h r=true:=by grind[EP]
  simp[RI this s b d]
 |(t,.arr a ks xs)::r,hc,s,b,d=>by
  have:EP h r=true:=by grind[EP]
  simp[RI this s b d]
theorem ahY{h:Heap}{d:Option Nat}{e:Eff}(i:EP h e.uz=true):mQ st (st.apply d e):=by
 intro b g c;have c:look (gZ ((st.strike (present st.heap e.new++e.Ip)).kill e.cut).heap e.uz) ah=some (.log b g):=c;rcases J9 _ _ _ _ c with c | c
 . exact wV _ _ _ _ (akn _ _ _ _ c)
 . exact absurd c (RI i _ _ _)
theorem nD(F:Jc)(c:Code)(st:St):mQ st (dQ F c st):=by
 unfold Skm.dQ;split
 . exact mQ.refl _
 . split
   . exact mQ.refl _
   . exact wV {st with env:=_} _
theorem ae6{s d:Nat}(c:s≠d)(j:s<ah)(hd:d<ah):mQ st (st.Q8 s d):=by
 intro b e h;have i:look (st.strike [d]).heap d=none:=by rw[iw];simp
 have h:look (wz s d (st.strike [d]).heap) ah=some (.log b e):=h;rw[yK c ah i,if_neg (by omega),if_neg (by omega)]at h;refine wV st [d] b e ?_;cases g:look (st.strike [d]).heap ah with
 | none=>rw[g]at h;cases h
 | some y =>
  rw[g]at h;cases y with
  | box=>simp[bZ.ren]at h
  | arr=>simp[bZ.ren]at h
  | log=>simpa[bZ.ren] using h
theorem Bh(nv:Nat)(c:nv<=ah):∀(l:List Oper) (st:St),mQ st (qW nv l st)
 |[],st=>mQ.refl _
 | o::r,st=>by
  simp only[Skm.qW];split
  . rename_i d _ _;split
    . rename_i s _ _ _ _;cases g:Nat.ble nv s&&(Nat.blt d nv&&Nat.blt s 100000)with
      | false=>exact Bh nv c r st
      | true =>
       simp only[qBa]at g;have i:d<nv:=Nat.le_of_ble_eq_true g.2.1;have q:s≠d:=by intro e;exact absurd (Nat.le_of_ble_eq_true g.1) (Nat.not_le_of_lt (by rw[e];exact i))
       have j:s<100000:=Nat.le_of_ble_eq_true g.2.2;have u:ah=100000:=rfl;exact(ae6 q j (Nat.lt_of_lt_of_le i c)).trans (Bh nv c r _)
    . exact Bh nv c r st
  . exact Bh nv c r st
def Has(x:List AV × List bZ)(st:St):Prop:=∃ b zs,look st.heap ah=some (.log b zs)/\∃ ys,uY x.2=zs++ys
theorem Has.sub(h:mQ st st'):Has x st'->Has x st:=λ⟨b,c,e,d⟩=>⟨b,c,h b c e,d⟩
def KP(k:Ex->St->Option (List AV × List bZ)):Prop:=∀ ex st x,k ex st=some x->Has x st
section
variable {T:Tab} {C:aH} {F:FI} {n:Option Nat}
theorem Ze{hd:List Nat}{all:List Oper}(h:step1 T C false hd all o st=some st'):mQ st st':=by
 unfold step1 at h;split at h
 . cases h
 . cases h;exact λ_ _ h=>h
 . split at h
   . rename_i c;simp only[qBa]at c;cases h;exact ahY c.2
   . cases h
theorem TJ{xs vs:List PV}(h:wG draw st o=some (xs,vs)):∃ c ss t,draw=false/\o.op=.call c/\c.callee=.value (.tmp t)/\st.env.getD t .undef=.yL/\look st.heap ah=some (.log true xs)/\JY (look st.heap) (og st.env c.args.toList)=some (vs,ss):=by
 cases draw with
 | true=>cases h
 | false =>have h:yieldOf st o=some (xs,vs):=h;grind[yieldOf]
theorem BI(st:St)(d:Option Nat)(xs vs:List PV)(b:Bool):look (mP st d xs vs b).heap ah=some (.log b (xs++[.agg vs])):=by show look (put _ ah _) ah=_;simp[eH]
theorem L9{hd:List (List Nat)}{all:List Oper}{k:St->Option (List AV × List bZ)}(c:∀ st x,k st=some x->Has x st):∀(l:List Oper) (j:Nat) (st:St) (x:List AV × List bZ),iY T C false hd all l j st k=some x->Has x st
 |[],j,st,x,h=>c st x h
 | o::rest,j,st,x,h=>by
  cases e:wG false st o with
  | none =>
   rw[xK _ _ e]at h;cases g:step1 T C false (hd.getD j []) all o st with
   | none=>rw[g]at h;cases h
   | some d =>rw[g]at h;exact(L9 c rest (j+1) d x h).sub (Ze g)
  | some p =>
   obtain⟨xs,vs⟩:=p;rw[yJ _ _ e]at h;obtain⟨_,_,_,_,_,_,_,q,_⟩:=TJ e;cases i:guardOf all o st.env with
   | none=>rw[i]at h;cases h
   | some b =>
    rw[i]at h;cases b with
    | false=>exact(L9 c rest (j+1) _ x h).sub λ_ _ h=>h
    | true =>obtain⟨r,_,u⟩:=RG h;obtain⟨b,y,h4,ys,h5⟩:=L9 c rest (j+1) _ x u;rw[BI]at h4;cases h4;exact⟨true,xs,q,.agg vs::ys,by rw[h5];simp⟩
theorem Zf{b:Option bZ}{k:St->Option (List AV × List bZ)}(d:∀ st x,k st=some x->Has x st)(h:ER b st k=some x):∃ on c,b=some (.log on c)/\∃ ys,uY x.2=c++ys:=by
 unfold ER at h;split at h
 . split at h
   . rename_i on xs;obtain⟨j,c,i,g⟩:=d _ _ h;grind[eH]
   . cases h
 . rename_i e;obtain⟨j,c,i,g⟩:=d _ _ h;grind
theorem E5:∀(xs:List Nat) (st:St),mQ st (uS xs st)
 |[],st=>mQ.refl _
 | x::r,st=>by
  simp only[uS];split
  . rename_i v ss _;cases d:kC ss with
    | false=>exact E5 r st
    | true =>refine mQ.trans ?_ (E5 r _);exact λb c h=>wV st ss b c h
  . exact E5 r st
theorem KG(ts:List Nat):∀(l:List Oper) (st:St),mQ st (freezes ts l st)
 |[],st=>mQ.refl _
 | o::r,st=>by
  simp only[freezes];split
  . exact mQ.trans (E5 _ st) (KG ts r _)
  . exact KG ts r st
theorem uw{F:Jc}(c:F.nvars<=ah)(l:List Oper)(st:St):mQ st (settle F l st):=by exact(Bh _ c l st).trans (KG _ l _)
theorem ae7(q:F.cfg.nvars<=ah){id:Nat}{ops:Array Oper}(e:KP k)(st:St)(x:List AV × List bZ)(h:dH T C F n (.region id ops draw) st k=some x):Has x st:=by
 have d:∀ st x,(jZ (settle F.cfg ops.toList st) λst'=>k .normal st')=some x->Has x st:=λst x h=>by rw[dS]at h;exact(e .normal _ x h).sub (uw q _ _)
 simp only[dH]at h;cases draw with
 | false =>exact L9 d _ _ _ _ h
 | true =>
  simp only at h;split at h
  . simp only[dS]at h;split at h
    . obtain⟨j,_,i⟩:=KC h;obtain⟨on,c,g,h4⟩:=Zf (λst x h=>(e .normal _ x h).sub (uw q _ _)) i;exact⟨on,c,wV _ _ _ _ g,h4⟩
    . obtain⟨j,_,i⟩:=KC h;obtain⟨on,c,g,h4⟩:=Zf (λst x h=>L9 (λst x h=>(e .normal _ x h).sub (uw q _ _)) _ _ _ _ h) i;exact⟨on,c,wV _ _ _ _ g,h4⟩
  . cases h
theorem XF{c:Code}(e:∀ k,KP k->∀ st x,dH T C F n c st k=some x->Has x st){k:Ex->St->Option (List AV × List bZ)}(d:KP k):∀(m:Nat) (st:St) (x:List AV × List bZ),yV (dQ F.cfg c) (λst' g=>dH T C F n c st' g) m st k=some x->Has x st
 | 0,st,x,h=>by simp[yV]at h
 | m+1,st,x,h=>by
  rw[Tv]at h;refine e _ (λi st x h=>?_) st x h;cases i with
  | normal =>simp only[Zc,dS]at h;exact(XF e d m _ x h).sub (nD _ _ _)
  | exit id=>exact d (.exit id) st x h
  | ret=>exact d .ret st x h
theorem uy(d:F.cfg.nvars<=ah):∀(c:Code) (k:Ex->St->Option (List AV × List bZ)),KP k->∀ st x,dH T C F n c st k=some x->Has x st
 | .skip,k,hk,st,x,h=>hk .normal st x h
 | .region id ops draw,k,hk,st,x,h=>ae7 d hk st x h
 | .seq y z,k,hk,st,x,h=>by
  rw[EY]at h;refine uy d y _ (λi st x h=>?_) st x h;cases i with
  | normal=>exact(uy d z k hk _ x h).sub (nD _ _ _)
  | exit id=>exact hk (.exit id) st x h
  | ret=>exact hk .ret st x h
 | .cond c y z,k,hk,st,x,h=>by
  simp only[dH]at h;split at h
  . rename_i b _;cases b with
    | true=>exact uy d y k hk st x h
    | false=>exact uy d z k hk st x h
  . cases h
 | .block id c,k,hk,st,x,h=>by
  rw[Nj]at h;refine uy d c _ (λi st x h=>?_) st x h;cases i with
  | normal=>exact hk .normal st x h
  | exit j =>
   simp only[IJ]at h;cases u:(j==id)with
   | true=>rw[u]at h;exact hk .normal st x h
   | false=>rw[u]at h;exact hk (.exit j) st x h
  | ret=>exact hk .ret st x h
 | .loop c,k,hk,st,x,h=>by obtain⟨m,_,h⟩:=Ol h;exact(XF (uy d c) hk m _ x h).sub (nD _ _ _)
 | .exit id,k,hk,st,x,h=>hk (.exit id) st x h
 | .ret,k,hk,st,x,h=>hk .ret st x h
 | .label _,k,hk,st,x,h=>hk .normal st x h
 | .rangeFunc f ps y z,k,hk,st,x,h=>by
  obtain⟨g,A,fi,r,_,_,_,_,_,h⟩:=FV h;have q:∀(l:List PV) (st:St) (x:List AV × List bZ),wO (dQ F.cfg (.seq y z)) fi.cfg.yk ps.toList (Bg ps y z) (Om T C F n y z) l st k=some x->Has x st:=by
   intro l;induction l with
   | nil=>intro st x h;exact hk .normal st x h
   | cons v l B =>
    intro st x h;simp only[wO]at h;split at h
    . cases h
    . rename_i env _;rw[dS]at h;have e:KP (IY (dQ F.cfg (.seq y z)) (Bg ps y z) (λst=>wO (dQ F.cfg (.seq y z)) fi.cfg.yk ps.toList (Bg ps y z) (Om T C F n y z) l st k) k):=by
       intro i st x h;cases i with
       | normal =>simp only[IY,dS]at h;exact((B _ x h).sub (nD _ _ _)).sub λ_ _ h=>h
       | exit id =>simp only[IY,dS]at h;exact(hk (.exit id) _ x h).sub λ_ _ h=>h
       | ret =>simp only[IY,dS]at h;exact(hk .ret _ x h).sub λ_ _ h=>h
      refine(uy d y (XD T C F n z _) (λi st x h=>?_) {st with env:=env} x h).sub λ_ _ h=>h;cases i with
      | normal=>exact(uy d z _ e _ x h).sub (nD _ _ _)
      | exit id=>exact e (.exit id) st x h
      | ret=>exact e .ret st x h
  exact(q _ _ x h).sub (nD _ _ _)
 | .scope c,k,hk,st,x,h=>uy d c k hk st x h
 | .goto ..,_,_,_,_,h | .refuse ..,_,_,_,_,h=>by simp[dH]at h
theorem KP.seq(e:F.cfg.nvars<=ah)(c:KP k)(z:Code):KP (XD T C F n z k):=by
 intro d st x h;cases d with
 | normal=>exact(uy e z k c _ x h).sub (nD _ _ _)
 | exit id=>exact c (.exit id) st x h
 | ret=>exact c .ret st x h
theorem KP.block(c:KP k)(id:Nat):KP (IJ id k):=by
 intro e st x h;cases e with
 | normal=>exact c .normal st x h
 | exit j =>
  simp only[IJ]at h;cases d:(j==id)with
  | true=>rw[d]at h;exact c .normal st x h
  | false=>rw[d]at h;exact c (.exit j) st x h
 | ret=>exact c .ret st x h
theorem KP.loop(g:F.cfg.nvars<=ah)(d:KP k)(c:Code)(m:Nat):KP (Zc T C F n c m k):=by
 intro e st x h;cases e with
 | normal =>simp only[Zc,dS]at h;exact(XF (uy g c) d m _ x h).sub (nD _ _ _)
 | exit id=>exact d (.exit id) st x h
 | ret=>exact d .ret st x h
end
end
section
open Go.RowKit
variable {M M0 Pr:Nat->Prop}{β:Nat->Option (Nat × Nat)}{v:AV}{w0:Base}
def gcx(gl:Option (List (Nat × Obj)))(wd:World)(M0:Nat->Prop)(on:Bool)(done:List PV)(t0:Array Value)(ys:List Nat)(yv:Value):Cx:=
 {w0:=⟨wd,wd.heap.size,qNr _,gl⟩,Pr:=λ_=>False,M0:=M0,XR:=λ_=>none,hp0:=[(ah,.log on done)],Wr:=λ_=>True,t0,rd:=none,L0:=[],nm:=wd.heap.size,Ys:=λt=>t∈ys,yv:=yv}
structure Gv where
 W0:World
 M0:Nat->Prop
 J:List PV->(Nat->Prop)->(Nat->Prop)->World->Prop
 Jx:(Nat->Prop)->(Nat->Prop)->World->Prop
 t0:Array Value
 l:Nat
 gl:Option (List (Nat × Obj))
 ys:List Nat
abbrev Gv.yv(G:Gv):Value:=.func (.yield G.l) #[] #[]
structure Gv.Ok (G:Gv) (P:Program):Prop where
 j:∀ r O K W W',G.J r O K W->uZ G.gl W W'->G.J r O K W'
 jx:∀ O K W W',G.Jx O K W->uZ G.gl W W'->G.Jx O K W'
 lt:∀ r O K W,G.J r O K W->∀ b,O b\/K b->b<W.heap.size
 y:∀ vs r O K W (M:Nat->Prop) bF,G.J (.agg vs::r) O K W->G.W0.heap.size<=W.heap.size->(∀ b,M b->b<W.heap.size/\¬ O b/\(G.M0 b\/G.W0.heap.size<=b))->bF.size=vs.length->(∀ i c,vs[i]?=some c->VR W M c (bF.getD i undef))->Yo P G.gl G.l bF W (G.J r) G.Jx O K M
def GI(G:Gv)(x:List AV × List bZ)(st:St)(a:Act)(w:World):Prop:=
 ∃ wd Mk on done,Inv (gcx G.gl wd Mk on done G.t0 G.ys G.yv) st a w/\(∀ b zs,look st.heap ah=some (.log b zs)->b=on/\zs=done)/\G.W0.heap.size<=wd.heap.size/\(∀ b,Mk b->b<wd.heap.size/\(G.M0 b\/G.W0.heap.size<=b)) /\
  ((on=true/\∃ rest O K,uY x.2=done++rest/\G.J rest O K wd/\∀ b,Mk b->¬ O b)\/(on=false/\∃ O K,G.Jx O K wd))
section
variable {P:Program} {G:Gv} {x:List AV × List bZ} {st st':St} {a a':Act} {w w':World}
theorem GI.map(g:GI G x st a w)(h:∀ cx,Inv cx st a w->Inv cx st' a' w')(j:mQ st st'):GI G x st' a' w':=by obtain⟨e,Mk,on,c,i,z,y,u,h4⟩:=g;exact⟨e,Mk,on,c,h _ i,λb d q=>z b d (j b d q),y,u,h4⟩
theorem AR.swap{w:World}{h h':Nat->Option bZ}(j:∀ s blk,h s=some blk->(∀ b A,blk≠.log b A)->h' s=some blk){c:Value}(u:AR w M β h v c):AR w M β h' v c:=by
 induction u with
 | undef c=>exact .undef c
 | p v c u=>exact .p v c u
 | slice s off len a ks xs b o cap e g i d D=>exact .slice s off len a ks xs b o cap (j _ _ e (by simp)) g i d D
 | sliceE s off a ks xs base e g=>exact .sliceE s off a ks xs base (j _ _ e (by simp)) g
 | bslice s off len cs b o cap e g i d=>exact .bslice s off len cs b o cap (j _ _ e (by simp)) g i d
 | bsliceE s off cs base e g=>exact .bsliceE s off cs base (j _ _ e (by simp)) g
 | ptrB s off cs b o e i=>exact .ptrB s off cs b o (j _ _ e (by simp)) i
 | ptrA s z off a ks xs b o e E i=>exact .ptrA s z off a ks xs b o (j _ _ e (by simp)) E i
 | rE a ks x off b o f J B I u=>exact .rE a ks x off b o f J B I u
 | fn f cs vs y _ q=>exact .fn f cs vs y q
 | agg cs vs y g _ q=>exact .agg cs vs y g q
 | vM cs vs y _ q=>exact .vM cs vs y q
 | yL l=>exact .yL l
theorem Rel.anZ(r:Rel w0 Pr M0 M β st a w){b0:Bool}{zs0:List PV}(U:look st.heap ah=some (.log b0 zs0))(b:Bool)(i:List PV):Rel w0 Pr M0 M β {st with heap:=put st.heap ah (.log b i)} a w:=by
 have J:∀ s,look (put st.heap ah (.log b i)) s=if s=ah then some (.log b i)else look st.heap s:=λs=>eH _ _ _ _
 have q:∀{v:AV} {c:Value},AR w M β (look st.heap) v c->AR w M β (look (put st.heap ah (.log b i))) v c:=λE=>E.swap λs blk d S=>by grind
 have g:∀ s,(look (put st.heap ah (.log b i)) s).isSome=true->(look st.heap s).isSome=true:=by grind
 refine⟨r.qK,λt v E=>q (r.env t v E),λs blk d=>?_,λs b o d R=>r.own s b o (g s d) R,λs L b o N d I=>r.inj s L b o N (g s d) (g L I),r.iU,r.oD,r.vW,r.keep,r.room,r.size,r.os,r.tape,r.output,r.glob⟩;have d:look (put st.heap ah (.log b i)) s=some blk:=d;rw[J]at d;by_cases e:s=ah
 . rw[if_pos e]at d;cases d;exact .log _ _
 . rw[if_neg e]at d;cases r.heap s blk d with
   | box cs b o C e fr D B A z y u=>exact .box cs b o C e fr D B A z y λj c Q=>q (u j c Q)
   | lU a ks=>exact .lU a ks
   | log on ys=>exact .log on ys
   | arr a ks xs b o C e fr D B A z y u=>exact .arr a ks xs b o C e fr D B A z y u
theorem xP{s k:Nat}:∀{h:Heap},k∈lC s h↔k≠s/\(look h k).isSome=true
 |[]=>by simp[lC,look]
 |(t,c)::h=>by have d:=xP (s:=s) (k:=k) (h:=h);simp only[lC,look];grind
theorem Nk{h:Nat->Option bZ}{ss:List Nat}:∀(l:List AV),(FH h ss l).length=l.length
 |[]=>rfl
 | v::r=>by simp[FH,Nk r]
theorem XG{h:Nat->Option bZ}{ss:List Nat}:∀(l:List AV) (t:Nat),(FH h ss l)[t]?=(l[t]?).map (aaG h ss)
 |[],t=>by simp[FH]
 | v::r,0=>by simp[FH]
 | v::r,t+1=>by simp[FH,XG r t]
theorem ako(r:Rel w0 Pr M0 M β st a w){y:PV}{c:Value}(h:agc (oh [ah] (look st.heap)) v=some y)(q:AR w M β (look st.heap) v c):VR w (eG M β (lC ah st.heap)) y c:=by
 unfold agc at h;split at h
 . rename_i s;split at h
   . rename_i cs D;split at h
     . rename_i vs hp;cases h;have e:s≠ah:=by grind[oh,l7]
       have d:look st.heap s=some (.box cs):=by grind[oh]
       have hd:PS (look st.heap) (.ptr s 0 0)=some (.ref vs,[s]):=by
        have u:=AQ hp;have:∀ l:List PV,Ea (look st.heap) (l.map .p)=some (l,[]):=by
         intro l;induction l with
         | nil=>rfl
         | cons x l j=>simp only[List.map_cons,Ea,SQ,j];rfl
        simp_all[PS,this]
       obtain⟨B,_,_⟩:=WZ r.heap (λ_ _ h=>h) hd q;refine B.mono λb z=>⟨z.imp id λ⟨i,o,g,A⟩=>⟨i,o,?_,A⟩,rfl⟩;simp only[List.mem_singleton]at g;subst g;exact xP.2 ⟨e,by rw[d];rfl⟩
     . cases h
   . cases h
 . cases h
theorem GI.after{B:World}{Mk:Nat->Prop}{g:List PV}(hG:G.Ok P)(i:Inv (gcx G.gl B Mk true g G.t0 G.ys G.yv) st a w)(hl:look st.heap ah=some (.log true g))(h2:G.W0.heap.size<=B.heap.size)(h3:∀ b,Mk b->b<B.heap.size/\(G.M0 b\/G.W0.heap.size<=b)){O K:Nat->Prop}{vs q:List PV}
    (hJ:G.J (.agg vs::q) O K B)(hMO:∀ b,Mk b->¬ O b){W':World}(I:Turns G.gl O w W'){d:Option Nat}(hd:∀ t,d=some t->t ∉ G.ys)(b:Bool)
    (h4:(b=true/\(∃ O' K',G.J q O' K' W'/\∀ c,O' c->O c\/w.heap.size<=c)/\∃ ys,uY x.2=(g++[.agg vs])++ys/\ys=q)\/(b=false/\∃ O K,G.Jx O K W')):GI G x (mP st d g vs b) (a.put d (.bool b)) W':=by
  obtain⟨M,β,L,ds,r,i1,i2,i3,S⟩:=i;have hds:ds=[]:=S.one λh=>h g (by simp[gcx,look]);subst hds;have hgs:B.heap.size<=w.heap.size:=r.size;have R:=I.size;have aiO:∀ b,O b->b<B.heap.size:=λb E=>hG.lt _ _ _ _ hJ b (.inl E);have Z:∀ c s o,s∈lC ah st.heap->β s=some (c,o)->B.heap.size<=c:=λc s o z E=>by
   rcases(r.own s c o (xP.1 z).2 E).2.2.1 with h | h
   . exact h
   . exact h.elim
  have Q:=r.strike (lC ah st.heap) (M':=eG M β (lC ah st.heap)) (λ_ h=>.inl h) (λc h=>by
   rcases h with h |⟨s,o,h1,h2⟩
   . exact .inl h
   . exact .inr ⟨Z c s o h1 h2,s,o,h1,(xP.1 h1).2,h2⟩)
  have r1:Rel _ _ _ (eG M β (lC ah st.heap)) β {env:=FH (oh [ah] (look st.heap)) (lC ah st.heap) st.env,heap:=(st.strike (lC ah st.heap)).heap} a w:=Q.slots (by rw[Nk];exact r.qK) λt v A=>by
   rw[XG]at A;cases he:st.env[t]? with
   | none=>rw[he]at A;cases A
   | some u =>
    rw[he]at A;simp only[Option.map_some,qOa]at A;have hu:=r.env t u he;unfold aaG at A;cases U:agc (oh [ah] (look st.heap)) u with
    | some y =>rw[U]at A;subst A;exact .p _ _ (ako r U hu)
    | none =>
     rw[U]at A;subst A;refine Q.env t _ ?_;have z:∀ ss:List Nat,(st.strike ss).env=jQ ss st.env:=λss=>by
      cases ss with
      | nil=>show st.env=_;rw[xM]
      | cons _ _=>rfl
     grind[l9]
  have hls:look (st.strike (lC ah st.heap)).heap ah=some (.log true g):=by rw[iw,if_neg (λh=>(xP.1 h).1 rfl),hl];rfl
  have V:∀ s,(look (st.strike (lC ah st.heap)).heap s).isSome=true->s=ah:=λs z=>by
   rw[iw]at z;by_cases h:s∈lC ah st.heap
   . grind
   . rw[if_neg h]at z;by_cases e:s=ah
     . exact e
     . exact absurd (xP.2 ⟨e,by simpa using z⟩) h
  have N:∀ c,eG M β (lC ah st.heap) c->c<w.heap.size/\¬ O c/\(G.M0 c\/G.W0.heap.size<=c):=λc j=>by
   refine⟨Q.iU c j,λho=>?_,?_⟩
   . rcases Q.oD c j with h |⟨h,_⟩
     . exact hMO c h ho
     . have:=aiO c ho;have h:B.heap.size<=c:=h;omega
   . rcases Q.oD c j with h |⟨h,_⟩
     . exact(h3 c h).2
     . have h:B.heap.size<=c:=h;right;omega
  let Mn:Nat->Prop:=λc=>c<w.heap.size/\¬ O c/\(G.M0 c\/G.W0.heap.size<=c);have AX:∀ c o,β ah≠some (c,o):=λc o h=>by rw[i1 ah (qNr _)]at h;cases h
  have Y:∀ s c o,(look (st.strike (lC ah st.heap)).heap s).isSome=true->β s≠some (c,o):=λs c o z h=>by rw[V s z]at h;exact AX c o h
  have r2:Rel ⟨W',W'.heap.size,qNr _,G.gl⟩ (λ_=>False) Mn Mn β {env:=FH (oh [ah] (look st.heap)) (lC ah st.heap) st.env,heap:=(st.strike (lC ah st.heap)).heap} a W':=
   r1.to rfl (λc j=>⟨N c j,I.keep c (N c j).1 (N c j).2.1⟩) (λs c o z h=>absurd h (Y s c o z)) (λc j=>Nat.lt_of_lt_of_le j.1 R) (λc j=>.inl j) (λc j=>j) (λ_ _ _=>rfl) (λ_ _ _ h=>h.elim) (qNr _) rfl rfl rfl
  have r3:=(r2.setEnv d (v:=.p (.bool b)) (c:=.bool b) (.p _ _ (.bool b))).anZ (b0:=true) (zs0:=g) hls b (g++[.agg vs]);refine⟨W',Mn,b,g++[.agg vs],⟨Mn,β,[],[],r3,i1,λs z blk E=>?_,.refl _ _,⟨λp hp=>by simp at hp,λp hp=>hp,?_,List.nodup_nil,λD hD=>by simp at hD,λl hl=>(by cases hl),(qp _ _ _).trans S.size,λt I=>absurd trivial I,λ_=>rfl,λt I=>?_,qNr _⟩⟩,λc zs j=>?_,by omega,λc j=>⟨Nat.lt_of_lt_of_le j.1 R,j.2.2⟩,?_⟩
  . have E:look (put (st.strike (lC ah st.heap)).heap ah (.log b (g++[.agg vs]))) s=some blk:=E;rw[eH]at E;by_cases e:s=ah
    . subst e;rw[if_pos rfl]at E;cases E;exact⟨.log b (g++[.agg vs]),by simp[gcx,look],rfl⟩
    grind
  . rw[put_defers];exact S.marks
  . rw[aaV λe=>hd t e I];exact S.yl t I
  . grind[BI]
  . grind
theorem aa3{all:List Oper}{ops:Array Oper}(q:ops.toList=all){cx:Cx}(i:Inv cx st a w){o:Oper}{b:Bool}(h:guardOf all o st.env=some b):Region.wanted o (yielded ops a.tmps)=b:=by
 unfold guardOf at h;cases d:o.guard with
 | none=>rw[d]at h;cases h;simp[Region.wanted,d]
 | some y =>
  obtain⟨g,j⟩:=y;rw[d]at h;simp only at h;cases hd:BX all g with
  | none=>rw[hd]at h;cases h
  | some t =>
   rw[hd]at h;simp only at h;split at h
   . rename_i c e;cases h;have u:=Xu q hd i e;grind[Region.wanted]
   . rename_i e;cases h;have u:=Qb q hd i e;grind[Region.wanted]
   . cases h
theorem Vm{c:Operand->Value}{e:Option Tmp}{g:Operand}{args:Array Operand}{ts:Array TypeId}{type:TypeId}{d:String}{after:Array Edge}{guard:Option (Nat × Bool)}{l:Nat}(h:c g=.func (.yield l) #[] #[]) :
    (execOp c ⟨e,.call ⟨.value g,args,ts⟩,type,d,after,guard⟩)=Instr.yield l (args.map c):=by
  simp only[execOp,resolve,h,Deferred.ofValue];simp[invoke]
end
end
section
variable {b0 b1:bZ}{n x:Nat}{args:List AV}{bF:Array Value}{gl:Option (List (Nat × Obj))}{sa:Bool}{ks:List Kd}{xs:List PV}{X:Ext}
section
variable {P:Program} {T:Tab} {w0:Base} {Pr M0 M:Nat->Prop} {β XR:Nat->Option (Nat × Nat)} {hp0:Heap} {st st':St} {a:Act} {w:World}
theorem Ql(c:(look (sH [b0,b1]) x).isSome=true):x=ah\/x=99999:=by grind[Xj]
theorem Rel.an0(hp:aaS w M β args [b0,b1] bF)(g:∀ p∈gl.getD [],M p.1/\w.heap[p.1]?=some p.2)(fn:Func) :
    Rel ⟨w,0,Nat.zero_le _,gl⟩ (λb=>∃ x o,(look (sH [b0,b1]) x).isSome=true/\β x=some (b,o)) M M β {env:=args++List.replicate (fn.ntmps-args.length) .undef,heap:=sH [b0,b1]} {tmps:=bF++Array.replicate (fn.ntmps-bF.size) undef,defers:=[]} w:=by
  have j:=hp.num;refine⟨?_,λt v z=>?_,λs blk c=>hp.blk s blk c,λs b o c i=>?_,hp.inj,hp.iU,λb h=>.inl h,λb h=>h,λb _ _=>rfl,λb n _ _ h=>h,qNr _,rfl,rfl,rfl,g⟩
  . simp[j]
  . by_cases q:t<args.length
    . have d:args[t]?=some v:=by grind
      have:=hp.args t v d;have e:(bF++Array.replicate (fn.ntmps-bF.size) undef).getD t undef=bF.getD t undef:=by rw[qAb,qAb,Array.getElem?_append_left (by omega)]
      grind
    . have:v=.undef:=by grind
      subst this;exact .undef _
  . obtain⟨y,u⟩:=hp.own s b o c i;refine⟨y,u,.inr ⟨s,o,c,i⟩,?_⟩;rcases Ql c with rfl | rfl;all_goals grind[ah]
theorem Yc{h:Nat->Option bZ}{d:List nC}{ts:List TypeId}{i:List AV}{cs:List Value}{ps:List (Option (Nat × Nat))}(j:FK T w M β h d ts i cs ps)(hd:G9 d=true):∀ p∈ps,p=none:=by
 induction j with
 | nil d=>intro p hp;simp at hp
 | cons d t ts v vs c cs p ps g A z y =>
  have u:d.headD .deep=.deep/\G9 d.tail=true:=by
   cases d with
   | nil=>exact⟨rfl,rfl⟩
   | cons m d =>cases m<;>simp[G9]at hd;grind
  intro q e;rcases List.mem_cons.1 e with rfl | e
  . rw[u.1]at g;cases g;rfl
  grind
theorem ahZ{z off len:Nat}:BO (sH [.box [.slice 99999 z off len],.arr sa ks xs]):=by intro ys c;grind[Xj]
theorem ae8(ok:fB P T)(hX:vF P T gl X)(hC:jT P T gl (lK T X n))(hS:Jj P T gl (lK T X n)) :
    ∀ f fi args z off len sa ks xs rs nJ,dZ T.funcs f=some fi->fi.cfg.vcall=true->lK T X (n+1) f args [.box [.slice 99999 z off len],.arr sa ks xs]=some (rs,nJ)->(∃ c,fi.fn.body=some c) /\
    ∀(w:World) (M:Nat->Prop) (β:Nat->Option (Nat × Nat)) (bF:Array Value),(∀ p∈gl.getD [],M p.1/\w.heap[p.1]?=some p.2)->aaS w M β args [.box [.slice 99999 z off len],.arr sa ks xs] bF ->
     Calls P f bF w λe w'=>∃ cs M',e=.returned (BN cs)/\agl gl T fi w M β sa ks xs rs nJ w' M' cs:=by
  intro f fi args z aBi len0 sa ks xs rs nJ hf hvc h;simp only[lK,hf]at h;cases D:X f with
  | some s =>
   rw[D]at h;cases J:fi.cfg.gext with
   | false =>obtain⟨_,U,_⟩:=hX.2.1 f fi s args _ rs nJ hf J D h;simp_all[iI,JW]
   | true =>obtain⟨_,_,h2,_⟩:=hX.2.2 f fi s args _ _ hf J D h;simp at h2
  | none =>
   rw[D]at h;simp only at h;cases g:fi.fn.body with
   | none=>rw[g]at h;cases h
   | some c =>
    rw[g]at h;have J:fi.cfg.gext=false:=by grind[Ee]
    simp only[Ee,J,hvc,qCt,iP,kS,dS,Rq,aeJ]at h;refine⟨⟨c,rfl⟩,λw M β bF hgl hp=>?_⟩;refine KF ok hC hS hf g (Rel.an0 hp hgl fi.fn) ahZ h λst a w' M1 i r e1 e2 e3 q=>?_;unfold ap2 at q;split at q
    case h_2=>cases q
    rename_i vs b0 a0 ks0 xs0 hvs hbl;simp only[List.cons.injEq,bZ.arr.injEq,and_true]at hbl;obtain⟨_,rfl,rfl,rfl⟩:=hbl;split at q
    case h_2=>cases q
    rename_i X z1 off len A;split at q
    case h_2=>cases q
    rename_i a1 Y ys d;cases L:(a1==sa&&Kd.Fe Y ks)&&(G9 fi.cfg.rets&&Nat.blt X 100000)with
    | false=>rw[L]at q;cases q
    | true =>
    rw[L]at q;simp only[qBa,beq_iff_eq]at L;obtain⟨⟨rfl,hks⟩,aqp,hXs⟩:=L;have:=Kd.uD _ _ hks;subst this;simp only[qCt]at q;split at q
    case h_2=>cases q
    rename_i rs' hrv;simp only[iP,kS,qOa,Prod.mk.injEq]at q;obtain⟨rfl,rfl⟩:=q;obtain⟨cs,g1,g2⟩:=Hl ok r hvs;have hsub:∀ s b,look (sG st.heap [ah,X]) s=some b->look st.heap s=some b:=λs b g=>(EZ g).1;obtain⟨S,ps,p1,p2,p3,p4⟩:=IQ r (hA:=look st.heap) (βA:=i) (λj blk hj=>⟨hj,rfl⟩) hrv hsub g2;have hps:=Yc p1 aqp;have hS2:∀ s∈S,(look st.heap s).isSome=true/\s≠ah/\s≠X:=by intro s hs;obtain⟨b,g⟩:=Option.isSome_iff_exists.1 (p2 s hs).1;obtain⟨k1,k2⟩:=EZ g;grind
    have hup:∀ b,M1 b->eG M1 i S b:=λb h=>.inl h;have e0:i ah=β ah:=e1 ah (qNr _);have hnS:∀ x b o,(look st.heap x).isSome=true->i x=some (b,o)->(x=ah\/x=X)->¬ eG M1 i S b:=by
     intro x b o D g hxx hm;rcases hm with hm |⟨V,B,E,N⟩
     . exact(r.own x b o D g).1 hm
     . have:=r.inj x V b o B D (hS2 V E).1 g N;grind
    have Q:(look st.heap ah).isSome=true:=by rw[A];rfl
    have I:(look st.heap X).isSome=true:=by rw[d];rfl
    have aqr:X≠ah:=by rintro rfl;rw[A]at d;cases d
    have hPr:∀ x b o,(look st.heap x).isSome=true->i x=some (b,o)->x≠ah->w.heap.size<=b\/∃ B,β 99999=some (b,B):=by
     intro x b o D g hne;rcases(r.own x b o D g).2.2.1 with h |⟨y,B,Z,R⟩
     . exact .inl h
     . rcases Ql Z with rfl | rfl
       . exact absurd (r.inj x ah b o B D Q g (e0.trans R)) hne
       grind
    refine⟨BN cs,Aw g1,cs,eG M1 i S,rfl,⟨i,look st.heap,ps,p1,hps⟩,λb h=>.inl (r.vW b h),λb h=>?_,λb h=>?_,λb g U h2=>?_,r.size,r.os,r.tape,r.output,e3,?_⟩
    . rcases h with h |⟨V,B,E,N⟩
      . rcases r.oD b h with h' |⟨_,h' |⟨y,B,Z,R⟩⟩
        . exact .inl h'
        . grind
        . rcases Ql Z with rfl | rfl;all_goals grind
      grind
    . rcases h with h |⟨V,B,E,N⟩
      . exact r.iU b h
      . exact(r.own V b B (hS2 V E).1 N).2.1
    . refine r.keep b g λ⟨y,o,Z,R⟩=>?_;rcases Ql Z with rfl | rfl
      . grind
      grind
    . have hB:=r.heap ah _ A;have hA:=r.heap X _ d;cases hB with
      | box _ bb bo C e fr k1 k2 k3 k4 k5 k6 =>
      have hcell:=k6 0 _ rfl;have hz:z1=Y.length:=by
       generalize C.getD (bo+0) undef=u at hcell;cases hcell with
       | slice _ _ _ a' ks' xs' b' B cap U hl g hcap hr=>rw[d]at U;cases U;rfl
       | sliceE _ _ a' ks' xs' base U hl=>rw[d]at U;cases U;rfl
      subst hz;refine⟨off,len,ys,bb,bo,C,e,fr,i X,rfl,e0▸k1,hnS ah bb bo Q k1 (.inl rfl),k2,by simpa using k3,k4,?_,hA.Qa hup rfl,λb o g=>?_⟩
      . exact hcell.oz d rfl rfl
      . refine⟨hnS X b o I g (.inr rfl),(r.own X b o I g).2.1,?_,hPr X b o I g aqr⟩;rintro rfl;exact aqr (r.inj X ah b o bo I Q g k1)
theorem ae9:BO [(99999,bZ.arr sa ks xs)]:=by intro ys c;grind[LX]
theorem Dy(c:(look [(99999,b1)] x).isSome=true):x=99999:=by grind[LX]
theorem Rel.an1(hp:UC w M β args b1 bF)(z:∀ p∈gl.getD [],M p.1/\w.heap[p.1]?=some p.2)(fn:Func) :
    Rel ⟨w,0,Nat.zero_le _,gl⟩ (λb=>∃ o,β 99999=some (b,o)) M M (λx=>if ah<=x then none else β x) {env:=args++List.replicate (fn.ntmps-args.length) .undef,heap:=[(99999,b1)]} {tmps:=bF++Array.replicate (fn.ntmps-bF.size) undef,defers:=[]} w:=by
  have N:=hp.num;have J:(if ah<=99999 then none else β 99999)=β 99999:=if_neg (by decide);refine⟨?_,λt v U=>?_,λs blk d=>?_,λs b o d A=>?_,λs L b o S d y _ _=>?_,hp.iU,λb h=>.inl h,λb h=>h,λb _ _=>rfl,λb n _ _ h=>h,qNr _,rfl,rfl,rfl,z⟩
  . simp[N]
  . by_cases Q:t<args.length
    . have u:args[t]?=some v:=by grind
      have:=hp.args t v u;have e:(bF++Array.replicate (fn.ntmps-bF.size) undef).getD t undef=bF.getD t undef:=by rw[qAb,qAb,Array.getElem?_append_left (by omega)]
      rw[e];refine this.mono (λb h=>⟨h,rfl⟩) λs blk _ g=>⟨blk,g,Like.refl _,?_,λ_ _ _ _ h=>h⟩;have:=Dy (x:=s) (by rw[g];rfl);grind
    . have:v=.undef:=by grind
      subst this;exact .undef _
  . have d:look [(99999,b1)] s=some blk:=d;have e:=Dy (x:=s) (by rw[d];rfl);subst e;rw[LX,if_pos rfl]at d;cases d;cases hp.blk with
    | lU a ks=>exact .lU a ks
    | arr a ks xs b o C e fr q i I E D B=>exact .arr a ks xs b o C e fr (J.trans q) i I E D B
    | log on xs=>exact .log on xs
    | box cs b o C e fr q i I E D B =>refine .box cs b o C e fr (J.trans q) i I E D λj c R=>(B j c R).mono (λb h=>⟨h,rfl⟩) λs blk _ g=>⟨blk,g,Like.refl _,?_,λ_ _ _ _ h=>h⟩;have:=Dy (x:=s) (by rw[g];rfl);grind
  . have e:=Dy (x:=s) d;subst e;have A:β 99999=some (b,o):=by rw[<- J];exact A
    obtain⟨q,i⟩:=hp.own b o A;grind
  . rw[Dy (x:=s) d,Dy (x:=L) y]
theorem afa(ok:fB P T)(Z:vF P T gl X)(hC:jT P T gl (lK T X n))(hS:Jj P T gl (lK T X n)) :
    ∀ f fi args sa ks xs B nJ,dZ T.funcs f=some fi->fi.cfg.take=true->lK T X (n+1) f args [.log false [],.arr sa ks xs]=some (B,nJ)->(∃ c,fi.fn.body=some c) /\
    ∀(w:World) (M:Nat->Prop) (β:Nat->Option (Nat × Nat)) (bF:Array Value),(∀ p∈gl.getD [],M p.1/\w.heap[p.1]?=some p.2)->UC w M β args (.arr sa ks xs) bF ->
     Calls P f bF w λe w'=>∃ cs ps M',e=.returned (BN cs)/\acZ gl T fi w M β B w' M' cs ps:=by
  intro f fi args sa ks xs B nJ E N h;simp only[lK,E]at h;cases D:X f with
  | some s =>
   rw[D]at h;cases i:fi.cfg.gext with
   | false =>obtain⟨_,h1,_⟩:=Z.2.1 f fi s args _ B nJ E i D h;simp_all[iI]
   | true =>obtain⟨_,_,h2,_⟩:=Z.2.2 f fi s args _ _ E i D h;simp at h2
  | none =>
   rw[D]at h;simp only at h;cases z:fi.fn.body with
   | none=>rw[z]at h;cases h
   | some c =>
    rw[z]at h;have i:fi.cfg.gext=false:=by grind[Ee]
    have L:fi.cfg.vcall=false:=by grind[Ee]
    simp only[Ee,i,L,N,qCt,iP,kS,dS,Rq,aeJ,acN]at h;refine⟨⟨c,rfl⟩,λw M β bF R hp=>?_⟩;refine KF ok hC hS E z (Rel.an1 hp R fi.fn) ae9 h λst a w' M1 u r e1 e2 e3 y=>?_;unfold ap3 at y;split at y
    . cases y
    rename_i vs J;split at y
    case h_2=>cases y
    rename_i rs' Q;simp only[iP,qOa,Prod.mk.injEq]at y;obtain⟨rfl,rfl⟩:=y;obtain⟨cs,g1,g2⟩:=Hl ok r J;obtain⟨S,ps,p1,I,p3,p4⟩:=IQ r (hA:=look st.heap) (βA:=u) (λj blk hj=>⟨hj,rfl⟩) Q (λ_ _ h=>h) g2;refine⟨BN cs,Aw g1,cs,ps,eG M1 u S,rfl,⟨⟨u,look st.heap,p1⟩,λb o z=>?_,λb h=>.inl (r.vW b h),λb h=>?_,λb h=>?_,λb z h1=>?_,r.size,r.os,r.tape,r.output,e3⟩⟩
    . obtain⟨s,U,Y,k2,k3,V⟩:=p3 b o z;obtain⟨o1,o2,o3⟩:=r.own s b U Y V;refine⟨λh=>?_,o2,o3.1⟩;rcases h with h |⟨q,A,d,g⟩
      . exact o1 h
      . exact k2 (by rw[r.inj s q b U A Y (I q d).1 V g];exact d)
    . rcases h with h |⟨q,A,d,g⟩
      . rcases r.oD b h with h' |⟨_,h'⟩;all_goals grind
      . exact .inr (r.own q b A (I q d).1 g).2.2.1
    . rcases h with h |⟨q,A,d,g⟩
      . exact r.iU b h
      . exact(r.own q b A (I q d).1 g).2.1
    . exact r.keep b z λ⟨o,h⟩=>h1 o h
end
end
section
open Go.RowKit
variable {gl:Option (List (Nat × Obj))}{X:Ext}
section
variable {P:Program} {T:Tab} {C:aH} {G:Gv}
theorem amf(n i:Nat):((Array.replicate n undef)[i]?).getD undef=undef:=by grind
theorem amg{A:Array Value}{i:Nat}(h:i<A.toList.length):A.toList[i]?=some (A.getD i undef):=by simp_all
theorem aa4{i:World}{Mk:Nat->Prop}{on:Bool}{d:List PV}{t0:Array Value}{ys:List Nat}{yv:Value}{o:Oper}(h:yOp ys o=true):EW (gcx gl i Mk on d t0 ys yv) o:=by
 refine⟨λ_ _=>trivial,λt j e=>?_⟩;have e:t∈ys:=e;simp only[yOp,j,qBa]at h;have c:=h.1;simp only[oV.2 e,qCt]at c;split at c
 . rename_i s g;exact⟨s,oV.1 c,.inl g⟩
 . rename_i s g;exact⟨s,oV.1 c,.inr g⟩
 . cases c
theorem XH{n:Nat}:∀{l:List Nat},aaI n l=true->∀ t∈l,t=0\/n<t
 |[],_,t,c=>by simp at c
 | x::r,h,t,c=>by
  simp only[aaI,qBa,Bool.or_eq_true]at h;rcases List.mem_cons.1 c with rfl | c
  . simp_all
  . exact XH h.2 t c
theorem ads{ys:List Nat}:∀{l:List Oper},alZ ys l=true->∀ o∈l,yOp ys o=true
 |[],_,o,c=>by simp at c
 | x::r,h,o,c=>by
  simp only[alZ,qBa]at h;rcases List.mem_cons.1 c with rfl | c
  . exact h.1
  . exact ads h.2 o c
theorem RJ(ok:fB P T)(hC:jT P T G.gl C)(I:G.Ok P){hd:List (List Nat)}{ops:Array Oper}{k:St->Option (List AV × List bZ)}(hk:∀ st x,k st=some x->Has x st){Q:Exit->Act->World->Prop}
    (hQ:∀ x st' a' w',k st'=some x->GI G x st' a' w'->Q .normal a' w'):∀(l:List Oper) (j:Nat) (st:St) (a:Act) (w:World) (x:List AV × List bZ),(∀ o∈l,yOp G.ys o=true)->iY T C false hd ops.toList l j st k=some x->GI G x st a w ->
    wpListIn (FW none) 0 P ops Q l a w
  |[],j,st,a,w,x,_,h,i=>hQ x st a w h i
  | o::rest,j,st,a,w,x,R,h,gi=>by
   have ih:=λst' a' w' x' h i=>RJ (hd:=hd) (ops:=ops) ok hC I hk hQ rest (j+1) st' a' w' x' (λo ho=>R o (by simp[ho])) h i;have step:∀ d,step1 T C false (hd.getD j []) ops.toList o st=some d->iY T C false hd ops.toList rest (j+1) d k=some x->wpListIn (FW none) 0 P ops Q (o::rest) a w:=by
    intro d J h;obtain⟨E,Mk,on,z,i,g1,g2⟩:=gi;have:=ama ok hC rfl (aa4 (R o (by simp))) i J (rd:=none) (n:=0) (K:=wpListIn (FW none) 0 P ops Q rest) (λa' w' i'=>ih d a' w' x h ⟨E,Mk,on,z,i',λb zs g=>g1 b zs (Ze J b zs g),g2⟩) (Q:=Q);unfold wpListIn;split
    . grind
    . rename_i R;rw[if_neg R]at this;exact⟨λ_ _=>trivial,this⟩
   cases hy:wG false st o with
   | none =>
    rw[xK _ _ hy]at h;cases J:step1 T C false (hd.getD j []) ops.toList o st with
    | none=>rw[J]at h;cases h
    | some d=>rw[J]at h;exact step d J h
   | some p =>
    obtain⟨xs,vs⟩:=p;rw[yJ _ _ hy]at h;cases hg:guardOf ops.toList o st.env with
    | none=>rw[hg]at h;cases h
    | some b =>
     rw[hg]at h;cases b with
     | false=>exact step _ (by unfold step1;rw[Xt,hg]) h
     | true =>
      obtain⟨no,hno,q⟩:=RG h;obtain⟨c,ss,ty,_,B,V,hyl,D,U⟩:=TJ hy;obtain⟨E,Mk,on,z,i,g1,g2,g3,g4⟩:=gi;obtain⟨rfl,rfl⟩:=g1 _ _ D;have hwant:=aa3 rfl i hg;rcases g4 with⟨_,aqs,O,K,k1,Z,k3⟩ |⟨hf,_⟩
      case inr=>cases hf
      have i0:=i;obtain⟨M,β,L,ds,r,i1,i2,i3,fx⟩:=i0;have hgrow:uZ G.gl E w:=r.turns i3;have hgs:E.heap.size<=w.heap.size:=r.size;obtain⟨b',zs,q1,ys,q2⟩:=L9 hk rest (j+1) _ x q;rw[BI]at q1;cases q1;have hrest:aqs=.agg vs::ys:=by rw[q2,List.append_assoc]at k1;exact(List.append_cancel_left k1).symm
      subst hrest;unfold wpListIn;rw[hwant,if_pos rfl];refine zC (λc' Y=>by rw[B]at Y;cases Y) ?_;obtain⟨dst,op,type,pos,after,guard⟩:=o;simp only at B;subst B;obtain⟨callee,args,ts⟩:=c;simp only at V U;subst V;have A:=R _ List.mem_cons_self;simp only[yOp,qBa]at A;have hty:ty∈G.ys:=oV.1 A.2;have u:∀ t,dst=some t->t ∉ G.ys:=λt e ht=>by subst e;have:=A.1;simp only[oV.2 ht,qCt]at this;cases this
      have hev:a.eval (.tmp ty)=.func (.yield G.l) #[] #[]:=by
       show a.tmps.getD ty undef=_;rcases fx.yl ty hty with h | h
       . exact h
       . have hs:=r.slot ty;rw[hyl,h]at hs;cases hs
      rw[Vm hev];have hls:oW w M β (look st.heap) (og st.env args.toList) (args.map a.eval).toList:=by rw[Array.toList_map];exact r.og _
      obtain⟨d1,d2,d3⟩:=J8 r.heap (λ_ _ h=>h) U hls;have hlt:∀ b,O b->b<E.heap.size:=λb g=>I.lt _ _ _ _ Z b (.inl g);obtain⟨fn,tmps,asg,body,S,adY⟩:=I.y vs ys O K w (eG M β ss) (args.map a.eval) (I.j _ _ _ _ _ Z hgrow) (by omega) (λb g=>by
       have N:∀ b,E.heap.size<=b->¬ O b/\(G.M0 b\/G.W0.heap.size<=b):=λb g=>⟨λho=>by have:=hlt b ho;omega,by right;omega⟩;rcases g with g |⟨s,o',hs,g⟩
       . refine⟨r.iU b g,?_⟩;rcases r.oD b g with h |⟨h,_⟩
         . exact⟨k3 b h,(g3 b h).2⟩
         . exact N b h
       . obtain⟨o1,o2,o3,_⟩:=r.own s b o' (d3 s hs) g;refine⟨o2,?_⟩;rcases o3 with h | h
         . exact N b h
         . exact h.elim) (by rw[<- Array.length_toList];exact d1.symm) (λi c hc=>by
       have hi:i<(args.map a.eval).toList.length:=by rw[<- d1];exact(qLa.1 hc).1
       exact d2 i c _ hc (amg hi))
      rw[S,Oper.uponIn_round];refine⟨Az none,RoundIn.mono adY λe W' hR=>?_⟩;obtain⟨ht,O',K',(⟨rfl,hJ⟩ |⟨rfl,hJx⟩),hO,_⟩:=hR
      . exact ih _ _ W' x q (GI.after I i D g2 g3 Z k3 ht u true (.inl ⟨rfl,⟨O',K',hJ,hO⟩,ys,q2,rfl⟩))
      . exact ih _ _ W' no hno (GI.after I i D g2 g3 Z k3 ht u false (.inr ⟨rfl,O',K',hJx⟩))
theorem adt(ok:fB P T)(J:jT P T G.gl C)(hG:G.Ok P){F:FI}{n:Option Nat}(q:F.cfg.nvars<=ah):aa1 T C F n P 0 KP (λ_:Unit=>none) (λ_ o=>yOp G.ys o=true) (λ_ x st a w=>GI G x st a w) where
 reg:=by
  intro _ id ops draw st a w k x Q y h hd hw gi Z;have u:∀ o∈ops.toList,yOp G.ys o=true:=hw;have Y:∀ st x,(jZ (settle F.cfg ops.toList st) λst'=>k .normal st')=some x->Has x st:=λst x h=>by rw[dS]at h;exact(y .normal _ x h).sub (uw q _ _)
  simp only[dH]at h;cases draw with
  | false =>refine wpIn_region_list (RJ ok J hG Y (λN st' a' w' A g=>?_) ops.toList 0 st a w x u h gi);rw[dS]at A;exact Z N _ a' w' A (g.map (λ_ i=>i.settle q _) (uw q _ _))
  | true =>
   simp only[gy]at hd;cases hh:dZ F.hides id with
   | none=>rw[hh]at h;cases h
   | some hid =>
    rw[hh]at h hd;simp only[qBa]at hd;simp only[dS]at h;obtain⟨R,Mk,on,e,i,g1,g2⟩:=gi.map (st':=st.strike (present st.heap (G7 ops.toList ops.toList))) (λ_ i=>i.strike _) (wV _ _);have back:∀{S:St->Option (List AV × List bZ)} {st':St} {a':Act} {w':World},Skm.ER (look (st.strike (present st.heap (G7 ops.toList ops.toList))).heap ah) st' S=some x->Inv (gcx G.gl R Mk on e G.t0 G.ys G.yv) st' a' w'->∃ d,S d=some x/\GI G x d a' w':=by intro S st' a' w' A D;obtain⟨d,I,i2,V⟩:=D.ER (λon' xs he=>by obtain⟨rfl,rfl⟩:=g1 _ _ he;exact⟨xs,by simp[gcx,look]⟩) A;exact⟨d,I,R,Mk,on,e,i2,λb zs hb=>g1 b zs (V b zs hb),g2⟩
    cases U:aht F.cfg.ys ops.toList with
    | none =>rw[U]at h;refine adn ok J hd.1 hd.2 h (λo E=>aa4 (u o E)) i λst' a' w' A D=>?_;obtain⟨d,I,B⟩:=back A D;exact Z x _ a' w' I (GI.map B (λ_ i=>i.settle q _) (uw q _ _))
    | some jc =>rw[U]at h;refine agq ok J hd.1 hd.2 (XC U) h (λo E=>aa4 (u o E)) i λst' a' w' A D _=>?_;obtain⟨d,I,B⟩:=back A D;refine RJ ok J hG (λst x h=>(y .normal _ x h).sub (uw q _ _)) (λN st3 a3 w3 h3 g3=>Z N _ a3 w3 h3 (g3.map (λ_ i=>i.settle q _) (uw q _ _))) (ops.toList.drop jc) jc d a' w' x (λo E=>u o (List.mem_of_mem_drop E)) I B
 forget:=λ_ x st a w c g=>g.map (λ_ i=>i.dQ _ _) (nD _ _ _)
 cond:=by intro _ x st a w c b g hv;obtain⟨R,Mk,on,e,⟨M,β,L,ds,r,_⟩,_⟩:=g;have hc:=r.dP c;rw[hv]at hc;exact hc.IC
 kseq:=λz k y=>y.seq q z
 kblock:=λid k y=>y.block id
 kloop:=λc j k y=>y.loop q c j
theorem akp(ok:fB P T)(hX:vF P T gl X){n:Nat}(hC:jT P T gl (lK T X n)):Jj P T gl (lK T X (n+1)):=by
 intro g fi d x hf u h;simp only[lK,hf]at h;cases hx:X g with
 | some s =>
  rw[hx]at h;obtain⟨rs,nJ⟩:=x;cases A:fi.cfg.gext with
  | false =>obtain⟨_,S,_⟩:=hX.2.1 g fi s _ _ rs nJ hf A hx h;simp_all[iI]
  | true =>
   obtain⟨aqt,S,_,h3,h4⟩:=hX.2.2 g fi s _ _ _ hf A hx h;have N:d=aqt:=by simp only[List.cons.injEq,true_and]at S;exact List.map_inj_right (λ_ _ e=>AV.p.inj e) |>.1 S
   grind
 | none =>
  rw[hx]at h;simp only at h;cases q:fi.fn.body with
  | none=>rw[q]at h;cases h
  | some c =>
   rw[q]at h;simp only at h;have A:fi.cfg.gext=false:=by grind[Ee]
   have U:gQ c=true/\(∀ o∈opsOf c,yOp fi.cfg.ys o=true)/\∀ t∈fi.cfg.ys,t=0\/d.length<t:=by unfold rP at u;rw[q,A]at u;simp only[Bool.false_or,qBa]at u;exact⟨u.1,ads u.2.2.1,XH u.2.1⟩
   have Z:fi.cfg.vcall=false:=by unfold rP at u;grind
   have htk:fi.cfg.take=false:=by unfold rP at u;grind
   have hcb:Ee fi.cfg [.log true []]=true:=by simp[Ee,A,Z,htk]
   rw[hcb]at h;simp only[qCt,iP,kS,dS,Rq,aeJ,Z,htk]at h;obtain⟨hfn,hname,hdr,hret⟩:=ok.funcs g fi hf;refine⟨hfn,?_⟩;intro W0 M0 l lb J Jx O0 hgl hlb hlv R hJ hJx hlt hY h0;let bF:Array Value:=#[.func (.yield l) #[] #[]]++lb;let t0:Array Value:=bF++Array.replicate (fi.fn.ntmps-bF.size) undef;let G:Gv:={W0,M0,J,Jx,t0,l,gl,ys:=fi.cfg.ys};have hc0:bF[0]?=some (.func (.yield l) #[] #[]):=by grind
   have hcs:0<bF.size:=by grind
   have hG:G.Ok P:=⟨λr _ _ _ _ h g=>(hJ r).grows h g,λ_ _ _ _ h g=>hJx.grows h g,hlt,hY⟩;have hrep:∀ i,((Array.replicate (fi.fn.ntmps-bF.size) undef)[i]?).getD undef=undef:=λi=>amf _ i;have hp:wI W0 M0 (λ_=>none) (.yL::d.map .p) [.log true []] bF:=by
    refine⟨by simp[bF,hlb];omega,λi v B=>?_,λi b0 B=>?_,λi b o B q=>(by cases q),λi j b o o' B hj q=>(by cases q),λb q=>(R b q).1⟩
    . cases i with
      | zero =>
       simp at B;subst B;have:bF.getD 0 undef=.func (.yield l) #[] #[]:=by rw[qAb,hc0];rfl
       rw[this];exact .yL l
      | succ i =>
       simp only[List.getElem?_cons_succ,List.getElem?_map,Option.map_eq_some_iff]at B;obtain⟨c,N,rfl⟩:=B;have:bF.getD (i+1) undef=lb.getD i undef:=by simp only[bF,qAb];rw[Array.getElem?_append_right (by simp)];simp
       rw[this];exact .p _ _ (hlv i c N)
    . cases i with
      | zero=>simp at B;subst B;exact .log _ _
      | succ i=>simp at B
   have hr:Rel ⟨W0,W0.heap.size,qNr _,gl⟩ (λ_=>False) M0 M0 (λ_=>none) (ES fi.fn (.yL::d.map .p) [.log true []]) {tmps:=t0,defers:=[]} W0:=by have:=Rel.start hp hgl fi.fn;grind
   have hlk:look (ES fi.fn (.yL::d.map .p) [.log true []]).heap ah=some (.log true []):=by rfl
   have hgi:GI G x (ES fi.fn (.yL::d.map .p) [.log true []]) {tmps:=t0,defers:=[]} W0:=by
    refine⟨W0,M0,true,[],⟨M0,λ_=>none,[],[],hr,λ_ _=>rfl,λs _ blk q=>⟨blk,?_,Like.refl _⟩,.refl _ _,⟨λp hp=>by simp at hp,λp hp=>hp,rfl,List.nodup_nil,λD hD=>by simp at hD,λl hl=>(by cases hl),rfl,λ_ _=>rfl,λ_=>rfl,λt ht=>?_,qNr _⟩⟩,λb I q=>?_,qNr _,λb q=>⟨(R b q).1,.inl q⟩,.inl ⟨rfl,uY x.2,O0,_,rfl,h0,λb q=>(R b q).2⟩⟩
    . exact q
    . rcases U.2.2 t ht with rfl | hlt
      . left;show t0.getD 0 undef=_;rw[qAb];show((bF++Array.replicate (fi.fn.ntmps-bF.size) undef)[0]?).getD undef=_;rw[Array.getElem?_append_left hcs,hc0];rfl
      . right;show t0.getD t undef=_;have hsz:bF.size=1+lb.size:=by grind
        rw[qAb];grind
    grind
   let kf:Ex->St->Option (List AV × List bZ):=λV st=>match V with
    | .exit _=>none
    | _=>aeI T fi.cfg fi.fn [.log true []] st
   have hlast:∀ st E,aeI T fi.cfg fi.fn [.log true []] st=some E->∃ b I vs,look st.heap ah=some (.log b I)/\uY E.2=I/\J6 T st.env (look st.heap) fi.fn.results.toList=some vs:=by
    intro st E z;unfold aeI at z;split at z
    . cases z
    . rename_i vs hvs;split at z
      . rename_i rs' aqo hrv y;simp only[iP,kS,qOa]at z;subst z;simp only[G8]at y;split at y
        . rename_i b bs S h2;cases h2;cases N:LK b&&backOk (.log true []) b with
          | false=>rw[N]at y;cases y
          | true =>
           rw[N]at y;simp only[qCt,qOa]at y;subst y;simp only[qBa]at N;cases b with
           | box=>simp[backOk]at N
           | arr=>simp[backOk]at N
           | log on I=>exact⟨on,I,vs,S,rfl,hvs⟩
        . cases y
      . cases z
   have hkp:KP kf:=by
    intro V st E z;have z:aeI T fi.cfg fi.fn [.log true []] st=some E:=by grind
    obtain⟨b,I,_,S,h2,_⟩:=hlast st E z;exact⟨b,I,S,[],by rw[h2];simp⟩
   refine Jt (rd:=none) (n:=0) (callsIn_of_wp_marks hfn q trivial ?_);refine oJ (ng:=true) (adt ok hC hG (ok.nvars g fi hf)) (λh=>by cases h) c () _ _ W0 kf x _ hkp h (hdr c q) (λ_=>U.1) U.2.1 hgi λV E st a w1 z gi=>?_;have hk':aeI T fi.cfg fi.fn [.log true []] st=some E/\(V=.normal\/V=.ret):=by
    cases V with
    | normal=>exact⟨z,.inl rfl⟩
    | exit id=>cases z
    | ret=>exact⟨z,.inr rfl⟩
   obtain⟨z,hex⟩:=hk';obtain⟨b,I,vs,q1,q2,q3⟩:=hlast st E z;obtain⟨wd,Mk,on,done,⟨M,β,L,ds,r,i1,i2,i3,fx⟩,g1,g2,g3,g4⟩:=gi;obtain⟨rfl,rfl⟩:=g1 _ _ q1;have Q:LeavesInM (FW none) 0 P fi.fn a.tmps (λe W'=>(∃ v,e=.returned v)/\∃ O K:Nat->Prop,J [] O K W'\/Jx O K W') a.defers .returning w1:=by
    rw[fx.marks];refine CV ds w1 fx.nodup (λD hD=>(fx.lies _ (fx.mark D hD).1).1) λw' k1 k2 k3 k4 k5 k6=>?_;have r':=Inv.shut r fx rfl k1 k2 k3 k4 k5;obtain⟨cs,e1,e2⟩:=Hl ok r' q3;have hgrow:uZ G.gl wd w':=r'.turns (by rw[k6];exact i3);refine⟨BN cs,Aw e1,⟨_,rfl⟩,?_⟩;rcases g4 with⟨_,Y,O,K,p1,p2,_⟩ |⟨_,O,K,p1⟩
    . rw[q2]at p1;have:Y=[]:=by have:=congrArg List.length p1;simp at this;exact this
      subst this;exact⟨O,K,.inl ((hJ _).grows p2 hgrow)⟩
    . exact⟨O,K,.inr (hJx.grows p1 hgrow)⟩
   rcases hex with rfl | rfl
   . exact Q
   . exact Q
theorem ni(ok:fB P T){X:Ext}{gl:Option (List (Nat × Obj))}(c:vF P T gl X):∀ n,jT P T gl (lK T X n)/\Jj P T gl (lK T X n)
 | 0=>⟨⟨λf fi args bl d nJ _ _ h=>by simp[lK]at h,λf fi args z off len a ks xs d nJ _ _ h=>by simp[lK]at h,λf fi args a ks xs d nJ _ _ h=>by simp[lK]at h,c.1⟩,λg fi e r _ _ h=>by simp[lK]at h⟩
 | n+1=>⟨⟨ahX ok c (ni ok c n).1 (ni ok c n).2,ae8 ok c (ni ok c n).1 (ni ok c n).2,afa ok c (ni ok c n).1 (ni ok c n).2,c.1⟩,akp ok c (ni ok c n).1⟩
theorem KH(ok:fB P T)(c:vF P T gl X)(n:Nat):jT P T gl (lK T X n):=(ni ok c n).1
end
end
section
variable {p:Nat->Prop}{r:List AV × List bZ}{fg:St->St}{st:St}{o:Oper}{F fi:FI}{f:Nat}{X:Ext}{args:List AV}{bl:List bZ}
section
variable {α:Type}
abbrev Ev(p:Nat->Prop):Prop:=∃ n,∀ m,n<=m->p m
theorem Ev.map{r:Nat->Prop}(h:Ev p)(f:∀ m,p m->r m):Ev r:=⟨_,λm c=>f m (h.choose_spec m c)⟩
theorem Ev.and{q r:Nat->Prop}(h:Ev p)(k:Ev q)(f:∀ m,p m->q m->r m):Ev r:=
 ⟨max h.choose k.choose,λm c=>f m (h.choose_spec m (by omega)) (k.choose_spec m (by omega))⟩
theorem Ev.all(h:∀ m,p m):Ev p:=⟨0,λm _=>h m⟩
theorem Ev.now{p:Prop}(h:Ev λ_=>p):p:=h.choose_spec _ (qNr _)
abbrev EvS(kn:Nat->St->Option α)(k:St->Option α):Prop:=∀ st x,k st=some x->Ev λm=>kn m st=some x
abbrev EvK(kn:Nat->Ex->St->Option α)(k:Ex->St->Option α):Prop:=∀ ex st x,k ex st=some x->Ev λm=>kn m ex st=some x
abbrev EvB(bn:Nat->St->(Ex->St->Option α)->Option α)(b:St->(Ex->St->Option α)->Option α):Prop:=∀ kn k st x,EvK kn k->b st k=some x->Ev λm=>bn m st (kn m)=some x
abbrev EvC(Cn:Nat->aH)(C:aH):Prop:=∀ f a b x,C f a b=some x->Ev λm=>Cn m f a b=some x
abbrev LeQ(j:Nat)(q:Option Nat):Prop:=∀ i,q=some i->j<=i
abbrev EvQ(qn:Nat->Option Nat)(q:Option Nat):Prop:=∀ j,LeQ j q->Ev λm=>LeQ j (qn m)
theorem EvK.refl(k:Ex->St->Option α):EvK (λ_=>k) k:=λ_ _ _ h=>.all λ_=>h
theorem EvC.refl(C:aH):EvC (λ_=>C) C:=λ_ _ _ _ h=>.all λ_=>h
theorem EvQ.refl(q:Option Nat):EvQ (λ_=>q) q:=λ_ h=>.all λ_=>h
def amh(f:Nat->Option α):Prop:=∀ n m x,n<=m->f n=some x->f m=some x
theorem Jk{f:Nat->Option α}{x:α}(h:lim f=some x):∃ n,f n=some x:=by unfold lim at h;split at h;all_goals grind
theorem aa5{f:Nat->Option α}(e:amh f){x:α}{n:Nat}(h:f n=some x):lim f=some x:=by have c:∃ x n,f n=some x:=⟨x,n,h⟩;unfold lim;rw[dif_pos c];obtain⟨m,d⟩:=c.choose_spec;have i:=e n (max n m) x (by omega) h;have g:=e m (max n m) _ (by omega) d;grind
theorem akq{f:Nat->Option α}(d:amh f){x:α}(h:lim f=some x):Ev λm=>f m=some x:=by obtain⟨n,h⟩:=Jk h;exact⟨n,λm c=>d n m x c h⟩
def next(fg:St->St)(L:St->Option α)(k:Ex->St->Option α):Ex->St->Option α
 | .normal,st=>jZ (fg st) L
 | .exit id,st=>k (.exit id) st
 | .ret,st=>k .ret st
theorem Oq{body:St->(Ex->St->Option α)->Option α}{m:Nat}{k:Ex->St->Option α}:yV fg body (m+1) st k=body st (next fg (λst'=>yV fg body m st' k) k):=by simp only[yV];congr 1;funext ex st';cases ex<;>rfl
variable {fg:St->St} {bn:Nat->St->(Ex->St->Option α)->Option α} {b:St->(Ex->St->Option α)->Option α}
theorem agr{Ln:Nat->St->Option α}{L:St->Option α}{kn:Nat->Ex->St->Option α}{k:Ex->St->Option α}(d:EvS Ln L)(c:EvK kn k):EvK (λm=>next fg (Ln m) (kn m)) (next fg L k)
 | .normal,st,x,h=>by simp only[next,dS]at h ⊢;exact d _ _ h
 | .exit _,_,_,h=>c _ _ _ h
 | .ret,_,_,h=>c _ _ _ h
theorem XI(d:EvB bn b){kn:Nat->Ex->St->Option α}{k:Ex->St->Option α}(c:EvK kn k):∀{j:Nat} {st:St} {x:α} {jn:Nat->Nat},(Ev λm=>j<=jn m)->yV fg b j st k=some x->Ev λm=>yV fg (bn m) (jn m) st (kn m)=some x
 | 0,_,_,_,_,h=>by simp[yV]at h
 | j+1,st,x,jn,hj,h=>by rw[Oq]at h;refine(d _ _ _ _ (agr (fg:=fg) (Ln:=λm st=>yV fg (bn m) (jn m-1) st (kn m)) (λst x h=>XI d c (hj.map λm h=>by omega) h) c) h).and hj λm e q=>?_;obtain⟨i,g⟩:∃ i,jn m=i+1:=⟨jn m-1,by omega⟩;rw[g]at e ⊢;rw[Oq];exact e
theorem Ot(d:EvB (λ_=>b) b){k:Ex->St->Option α}:amh λm=>yV fg b m st k:=λ_ m _ c h=>(XI d (EvK.refl k) (jn:=λ_=>m) (.all λ_=>c) h).now
theorem akr{qn:Nat->Option Nat}{q:Option Nat}(e:EvQ qn q)(y:EvB bn b)(d:∀ m,EvB (λ_=>bn m) (bn m)){kn:Nat->Ex->St->Option α}{k:Ex->St->Option α}(g:EvK kn k){x:α}(h:SS fg b q st k=some x):Ev λm=>SS fg (bn m) (qn m) st (kn m)=some x:=by
 obtain⟨j,u,h⟩:=Ol h;refine(XI y g (jn:=λm=>(qn m).getD j) ((e j u).map λm h=>?_) h).map λm h=>?_
 . cases c:qn m with
   | none=>exact qNr j
   | some i=>exact h i c
 . cases c:qn m with
   | none=>rw[c]at h;exact aa5 (Ot (d m)) h
   | some i=>rw[c]at h;exact h
theorem Zg(d:EvB bn b){ss:List (Bool × List Kd)}{ps c:List Nat}:∀{xs:List PV} {st:St} {kn:Nat->Ex->St->Option α} {k:Ex->St->Option α} {x:α},EvK kn k->wO fg ss ps c b xs st k=some x->Ev λm=>wO fg ss ps c (bn m) xs st (kn m)=some x
 |[],_,_,_,_,hk,h=>hk _ _ _ h
 | v::xs,st,kn,k,x,hk,h=>by
  simp only[wO]at h ⊢;split at h
  . cases h
  . simp only[dS]at h ⊢;refine d _ _ _ _ (λe st x h=>?_) h;cases e with
    | normal =>simp only[IY,dS]at h ⊢;exact Zg d hk h
    | _ =>simp only[IY,dS]at h ⊢;exact hk _ _ _ h
end
section
variable (T:Tab)
def an4(F:FI)(bl:List bZ):Ex->St->Option (List AV × List bZ)
 | .exit _,_=>none
 | .normal,st=>aeJ T F.cfg F.fn bl st
 | .ret,st=>aeJ T F.cfg F.fn bl st
noncomputable def aZ(C:aH):aH:=λf args bl =>
 match dZ T.funcs f with
 | none=>none
 | some fi =>
  match fi.fn.body with
  | none=>none
  | some c=>bif Ee fi.cfg bl then qE T.strict args λargs=>zx T.strict bl λbl=>jZ (Rq fi.cfg fi.fn args bl) λst=>dH T C fi none c st (an4 T fi bl)else none
noncomputable def run(X:Ext):aH:=λf args bl=>lim λn=>lK T X n f args bl
end
section
variable {α:Type} {T:Tab} {C:aH} {Cn:Nat->aH}
theorem aa6(env:List AV)(h:Nat->Option bZ)(o:Oper):(∃ D,∀ C,iq T C env h o=D)\/∃ f e bl g,∀ C,iq T C env h o=.call (C f e bl) g:=by
 have call:∀(d:Option Nat) (f:Nat) (args:List AV),(∃ D,∀ C,Ec T C h d f args=D)\/∃ j e bl g,∀ C,Ec T C h d f args=.call (C j e bl) g:=by
  intro d f args;unfold Ec;cases (pI T f).Nr.is with
  | true=>exact .inl ⟨_,λC=>rfl⟩
  | false =>
  simp only[qCf];have u:∀(d:Nat) (fi:FI) (i:List AV) (s A:Nat) (a:Bool) (ks:List Kd) (off len:Nat) (xs:List PV),(∃ D,∀ C,YT T C h d f fi i s A a ks off len xs=D)\/∃ j e bl g,∀ C,YT T C h d f fi i s A a ks off len xs=.call (C j e bl) g:=by
   intro d fi i s A a ks off len xs;unfold YT;split
   . rename_i vs ss hd;cases (Nat.blt s 100000&&(Nat.blt A 100000&&!(A==s)))&&(!(l7 s ss)&&!(l7 A ss))with
     | true=>exact .inr ⟨_,_,_,_,λC=>rfl⟩
     | false=>exact .inl ⟨_,λC=>rfl⟩
   simp
  cases (pI T f).vcall with
  | true =>
   simp only[qCt];unfold UA;split
   . split
     . split
       . exact u ..
       simp
     simp
   simp
  | false =>
  simp only[qCf];cases (pI T f).take with
  | true =>
   simp only[qCt];unfold PY;split
   . split
     . split
       . exact .inr ⟨_,_,_,_,λC=>rfl⟩
       simp
     simp
   simp
  | false =>
  simp only[qCf];unfold xE;split
  . split
    . split
      . exact .inr ⟨_,_,_,_,λC=>rfl⟩
      simp
    . simp only;split
      . exact .inr ⟨_,_,_,_,λC=>rfl⟩
      simp
  simp
 obtain⟨y,op,type,q,after,guard⟩:=o;cases op with
 | call c =>
  obtain⟨callee,args,ts⟩:=c;cases callee with
  | builtin b=>cases b<;>exact .inl ⟨_,λC=>rfl⟩
  | invoke r n=>exact .inl ⟨_,λC=>rfl⟩
  | value f =>simp only[iq];split;all_goals simp_all
 | _=>exact .inl ⟨_,λC=>rfl⟩
theorem ami(q:EvC Cn C){all:List Oper}{env:List AV}{h:Nat->Option bZ}{y:Option Eff}(c:Jd T C all o env h=some y):Ev λm=>Jd T (Cn m) all o env h=some y:=by
 rcases aa6 (T:=T) env h o with⟨D,i⟩ |⟨f,d,bl,g,i⟩
 . exact .all λm=>by simp_all[Jd]
 . cases e:C f d bl with
   | some r=>exact(q _ _ _ _ e).map λm u=>by simp_all[Jd]
   | none =>
    refine .all λm=>?_;unfold Jd at c ⊢;rw[i,e]at c;cases j:o.guard with
    | none=>rw[j]at c;simp[DT.run]at c
    | some z=>grind[DT.run]
theorem aks(e:EvC Cn C){draw:Bool}{hd:List Nat}{all:List Oper}{st':St}(c:step1 T C draw hd all o st=some st'):Ev λm=>step1 T (Cn m) draw hd all o st=some st':=by
 unfold step1 at c;cases d:Jd T C all o st.env (oh hd (look st.heap))with
 | none=>rw[d]at c;cases c
 | some y=>exact(ami e d).map λm g=>by grind[step1]
theorem adu{b:Option bZ}{kn:Nat->St->Option α}{k:St->Option α}{x:α}(c:EvS kn k)(h:ER b st k=some x):Ev λm=>ER b st (kn m)=some x:=by
 unfold ER at h ⊢;split at h
 . split at h
   . exact c _ _ h
   . cases h
 . exact c _ _ h
theorem xQ(e:EvC Cn C){draw:Bool}{hd:List (List Nat)}{all:List Oper}{kn:Nat->St->Option α}{k:St->Option α}(d:EvS kn k):∀{l:List Oper} {j:Nat} {st:St} {x:α},iY T C draw hd all l j st k=some x->Ev λm=>iY T (Cn m) draw hd all l j st (kn m)=some x
 |[],j,st,x,h=>d _ _ h
 | o::r,j,st,x,h=>by
  cases c:wG draw st o with
  | none =>
   rw[xK _ _ c]at h;cases g:step1 T C draw (hd.getD j []) all o st with
   | none=>rw[g]at h;cases h
   | some q =>rw[g]at h;exact(aks e g).and (xQ e d (l:=r) h) λm a b=>by rw[xK _ _ c,a];exact b
  | some p =>
   obtain⟨xs,vs⟩:=p;rw[yJ _ _ c]at h;cases i:guardOf all o st.env with
   | none=>rw[i]at h;cases h
   | some b =>
    rw[i]at h;cases b with
    | false=>exact(xQ e d (l:=r) h).map λm a=>by rw[yJ _ _ c,i];exact a
    | true =>obtain⟨y,g,u⟩:=RG h;exact(xQ e d (l:=r) g).and (xQ e d (l:=r) u) λm a b=>by rw[yJ _ _ c,i];exact afR a b
theorem akt{n:Option Nat}{f:Operand}{ps:Array Tmp}{y z:Code}{k:Ex->St->Option α}{x:α}{g:Nat}{c:List PV}(i:dP st.env f=.p (.fn g c))(e:dZ T.funcs g=some fi)(d:xG y=true)(h4:rP fi c.length=true)(h5:C g (.yL::c.map .p) [.log true []]=some r)
    (h:wO (dQ F.cfg (.seq y z)) fi.cfg.yk ps.toList (Bg ps y z) (Om T C F n y z) (uY r.2) (dQ F.cfg (.seq y z) st) k=some x):dH T C F n (.rangeFunc f ps y z) st k=some x:=by
  simp only[dH];simp only[i,e,d,h4,h5,qCt];exact h
theorem kW{F:FI}:∀{c:Code} {C:aH} {Cn:Nat->aH} {qn:Nat->Option Nat} {q:Option Nat} {st:St} {kn:Nat->Ex->St->Option α} {k:Ex->St->Option α} {x:α},EvC Cn C->EvQ qn q->EvK kn k->dH T C F q c st k=some x->Ev λm=>dH T (Cn m) F (qn m) c st (kn m)=some x
 | .skip,_,_,_,_,_,_,_,_,_,_,d,h=>d _ _ _ h
 | .region id ops draw,_,Cn,_,_,st,kn,k,x,hC,_,d,h=>by
  have u:EvS (λm st'=>kn m .normal (settle F.cfg ops.toList st')) λst'=>k .normal (settle F.cfg ops.toList st'):=λst x h=>d _ _ _ h;simp only[dH,dS]at h ⊢;cases draw with
  | false=>exact xQ hC u h
  | true =>
   simp only at h ⊢;cases D:dZ F.hides id with
   | none=>rw[D]at h;cases h
   | some hd =>
    rw[D]at h;simp only at h ⊢;cases A:aht F.cfg.ys ops.toList with
    | none =>rw[A]at h;exact xQ hC (λst x h=>adu u h) h
    | some j =>rw[A]at h;exact xQ hC (λst x h=>adu (λst x h=>xQ hC u h) h) h
 | .seq y z,_,_,_,_,_,kn,k,_,hC,hq,d,h=>kW (c:=y) (kn:=λm=>XD T _ F _ z (kn m)) (k:=XD T _ F _ z k) hC hq (λe st x h=>by
  cases e with
  | normal=>exact kW (c:=z) hC hq d h
  | _=>exact d _ _ _ h) h
 | .cond c y z,_,_,_,_,st,_,_,_,hC,hq,d,h=>by
  simp only[dH]at h ⊢;split at h
  . rename_i b N;cases b with
    | true=>exact kW (c:=y) hC hq d h
    | false=>exact kW (c:=z) hC hq d h
  . cases h
 | .block id c,_,_,_,_,_,kn,k,_,hC,hq,d,h=>kW (c:=c) (kn:=λm=>IJ id (kn m)) (k:=IJ id k) hC hq (λe st x h=>by
  cases e with
  | exit i =>
   simp only[IJ]at h ⊢;cases B:i==id with
   | true=>rw[B]at h;exact d _ _ _ h
   | false=>rw[B]at h;exact d _ _ _ h
  | _=>exact d _ _ _ h) h
 | .loop c,_,_,_,_,_,_,_,_,hC,hq,d,h=>akr hq (λ_ _ _ _ d h=>kW (c:=c) hC hq d h) (λm _ _ _ _ d h=>kW (c:=c) (EvC.refl _) (EvQ.refl _) d h) d h
 | .exit _,_,_,_,_,_,_,_,_,_,_,d,h=>d _ _ _ h
 | .ret,_,_,_,_,_,_,_,_,_,_,d,h=>d _ _ _ h
 | .label _,_,_,_,_,_,_,_,_,_,_,d,h=>d _ _ _ h
 | .rangeFunc f ps y z,_,Cn,qn,_,_,_,_,_,hC,hq,d,h=>by
  obtain⟨g,E,fi,r,L,J,I,h4,h5,h⟩:=FV h;exact(hC _ _ _ _ h5).and (Zg (bn:=λm=>Om T (Cn m) F (qn m) y z) (λkn k st x d h=>kW (c:=y) (kn:=λm=>XD T _ F _ z (kn m)) (k:=XD T _ F _ z k) hC hq (λe st x h=>by
   cases e with
   | normal=>exact kW (c:=z) hC hq d h
   | _=>exact d _ _ _ h) h) d h) λm h5 h=>akt L J I h4 h5 h
 | .scope c,_,_,_,_,_,_,_,_,hC,hq,d,h=>kW (c:=c) hC hq d h
 | .goto ..,_,_,_,_,_,_,_,_,_,_,_,h | .refuse ..,_,_,_,_,_,_,_,_,_,_,_,h=>by simp[dH]at h
theorem amj{c:Code}{k:Ex->St->Option α}{x:α}(h:dH T C F none c st (next fg (λst'=>SS fg (λst' d=>dH T C F none c st' d) none st' k) k)=some x):SS fg (λst' d=>dH T C F none c st' d) none st k=some x:=by have e:EvB (λ_ st' d=>dH (α:=α) T C F none c st' d) (λst' d=>dH T C F none c st' d):=λ_ _ _ _ i h=>kW (EvC.refl C) (EvQ.refl none) i h;obtain⟨n,g⟩:=kW (EvC.refl C) (EvQ.refl none) (agr (fg:=fg) (λst x h=>akq (Ot e) h) (EvK.refl k)) h;exact aa5 (n:=n+1) (Ot e) (by rw[Oq];exact g n (qNr n))
theorem Ou{a:List AV}{b:List bZ}:amh λn=>lK T X n f a b:=by
 have c:∀ n m,n<=m->∀ f a b x,lK T X n f a b=some x->lK T X m f a b=some x:=by
  intro n;induction n with
  | zero=>intro m _ f a b x h;simp[lK]at h
  | succ n q =>
   intro m z f a b x h;obtain⟨m,rfl⟩:∃ i,m=i+1:=⟨m-1,by omega⟩;simp only[lK]at h ⊢;cases e:dZ T.funcs f with
   | none=>rw[e]at h;cases h
   | some fi =>
    rw[e]at h;simp only at h ⊢;split at h
    . exact h
    . split at h
      . cases h
      . cases g:Ee fi.cfg b with
        | false=>rw[g]at h;cases h
        | true =>rw[g]at h;simp only[qCt,iP,kS,dS]at h ⊢;exact(kW (Cn:=λ_=>lK T X m) (qn:=λ_=>some m) (λf a b x h=>.all λ_=>q m (by omega) f a b x h) (λj u=>.all λ_ i y=>by cases y;exact Nat.le_trans (u n rfl) (by omega)) (EvK.refl _) h).now
 exact λn m x d h=>c n m d f a b x h
theorem aY(z:X f=none)(h:aZ T (run T X) f args bl=some r):run T X f args bl=some r:=by
 unfold aZ at h;split at h
 . cases h
 . rename_i fi u;split at h
   . cases h
   . rename_i c y;cases d:Ee fi.cfg bl with
     | false=>rw[d]at h;cases h
     | true =>
     rw[d]at h;simp only[qCt,iP,kS,dS]at h;obtain⟨n,e⟩:=kW (Cn:=lK T X) (qn:=some) (λ_ _ _ _ h=>akq Ou h) (λj _=>⟨j,λm g i q=>by cases q;exact g⟩) (EvK.refl _) h;refine aa5 (n:=n+1) Ou ?_;simp only[lK,u,z,y,d,qCt,iP,kS,dS];rw[<- e n (qNr n)];congr 1;funext ex st;cases ex<;>rfl
theorem Uf{s:List AV->List bZ->Option (List AV × List bZ)}(c:dZ T.funcs f=some fi)(d:X f=some s)(h:s args bl=some r):run T X f args bl=some r:=
 aa5 (n:=1) Ou (by simp only[lK,c,d];exact h)
theorem Qw{P:Program}(ok:fB P T){gl:Option (List (Nat × Obj))}(g:vF P T gl X):jT P T gl (run T X):=by
 refine⟨λf fi args bl c nJ e j h=>?_,λf fi args z off len a ks xs c nJ e i h=>?_,λf fi args a ks xs c nJ e i h=>?_,g.1⟩
 . obtain⟨n,d⟩:=Jk h;exact(KH ok g n).plain f fi args bl c nJ e j d
 . obtain⟨n,d⟩:=Jk h;exact(KH ok g n).var f fi args z off len a ks xs c nJ e i d
 . obtain⟨n,d⟩:=Jk h;exact(KH ok g n).take f fi args a ks xs c nJ e i d
end
inductive Wy where
 | lp (p:List Nat)
 | rg (p:List Nat) (ss:List (Bool × List Kd)) (xs:List PV)
section
variable {α:Type} (T:Tab) (C:aH) (F:FI)
def FX:Code->List Nat->Code
 | c,[]=>c
 | .seq a _,0::p=>FX a p
 | .seq _ b,_::p=>FX b p
 | .cond _ a _,0::p=>FX a p
 | .cond _ _ b,_::p=>FX b p
 | .block _ c,_::p=>FX c p
 | .scope c,_::p=>FX c p
 | .loop c,_::p=>FX c p
 | c,_=>c
def Eo(c:Code)(p:List Nat):Code:=match FX c p with
 | .loop b=>b
 | .rangeFunc _ _ a b=>.seq a b
 | _=>.skip
def awk(c:Code)(p:List Nat):List Nat:=match FX c p with
 | .rangeFunc _ ps _ _=>ps.toList
 | _=>[]
def aqu(c:Code)(p:List Nat):List Nat:=match FX c p with
 | .rangeFunc _ ps a b=>Bg ps a b
 | _=>[]
noncomputable def FY:Code->List Nat->(Ex->St->Option α)->Ex->St->Option α
 | .seq a b,0::p,k=>FY a p λex st' =>
  match ex with
  | .normal=>dH T C F none b (dQ F.cfg b st') k
  | .exit id=>k (.exit id) st'
  | .ret=>k .ret st'
 | .seq _ b,_::p,k=>FY b p k
 | .cond _ a _,0::p,k=>FY a p k
 | .cond _ _ b,_::p,k=>FY b p k
 | .block id c,_::p,k=>FY c p λex st' =>
  match ex with
  | .normal=>k .normal st'
  | .exit i=>bif i==id then k .normal st' else k (.exit i) st'
  | .ret=>k .ret st'
 | .scope c,_::p,k=>FY c p k
 | _,_,k=>k
noncomputable def aqv(c:Code)(p:List Nat)(k:Ex->St->Option α)(st:St):Option α:=SS (dQ F.cfg (Eo c p)) (λst' k'=>dH T C F none (Eo c p) st' k') none st (FY T C F c p k)
noncomputable def afb(c:Code)(p:List Nat)(k:Ex->St->Option α):Ex->St->Option α:=next (dQ F.cfg (Eo c p)) (aqv T C F c p k) (FY T C F c p k)
noncomputable def an5(c:Code)(p:List Nat)(ss:List (Bool × List Kd))(k:Ex->St->Option α)(xs:List PV)(st:St):Option α:=
 wO (dQ F.cfg (Eo c p)) ss (awk c p) (aqu c p) (λst k=>dH T C F none (Eo c p) st k) xs st (FY T C F c p k)
noncomputable def aku(c:Code)(p:List Nat)(ss:List (Bool × List Kd))(xs:List PV)(k:Ex->St->Option α):Ex->St->Option α:=IY (dQ F.cfg (Eo c p)) (aqu c p) (an5 T C F c p ss k xs) (FY T C F c p k)
noncomputable def aa7:Code->(Ex->St->Option α)->List Wy->St->Option α
 | _,_,[],_=>none
 | c,k,[.lp p],st=>aqv T C F c p k st
 | c,k,[.rg p ss xs],st=>an5 T C F c p ss k xs st
 | c,k,.lp p::q::r,st=>aa7 (Eo c p) (afb T C F c p k) (q::r) st
 | c,k,.rg p ss xs::q::r,st=>aa7 (Eo c p) (aku T C F c p ss xs k) (q::r) st
noncomputable def Qm:Code->(Ex->St->Option α)->List Wy->St->Option α
 | _,_,[],_=>none
 | c,k,[.lp p],st=>dH T C F none (Eo c p) st (afb T C F c p k)
 | c,k,[.rg p ss xs],st=>an5 T C F c p ss k xs st
 | c,k,.lp p::q::r,st=>Qm (Eo c p) (afb T C F c p k) (q::r) st
 | c,k,.rg p ss xs::q::r,st=>Qm (Eo c p) (aku T C F c p ss xs k) (q::r) st
variable {T C F}
theorem RN{x:α}:∀{l:List Wy} {c:Code} {k:Ex->St->Option α} {st:St},Qm T C F c k l st=some x->aa7 T C F c k l st=some x
 |[],_,_,_,h=>by simp[Qm]at h
 |[.lp p],c,k,st,h=>amj h
 |[.rg p ss xs],c,k,st,h=>h
 | .lp p::q::r,c,k,st,h=>RN (l:=q::r) h
 | .rg p ss xs::q::r,c,k,st,h=>RN (l:=q::r) h
end
section
variable (T:Tab) (C:aH) (f:Nat) (bl:List bZ)
noncomputable def ah1:FI:=match dZ T.funcs f with | some fi=>fi | none=>⟨default,{},[]⟩
def codeOf(F:FI):Code:=match F.fn.body with | some c=>c | none=>.skip
noncomputable def L(l:List Wy)(st:St):Option (List AV × List bZ):=aa7 T C (ah1 T f) (codeOf (ah1 T f)) (an4 T (ah1 T f) bl) l st
noncomputable def R(l:List Wy)(st:St):Option (List AV × List bZ):=Qm T C (ah1 T f) (codeOf (ah1 T f)) (an4 T (ah1 T f) bl) l st
variable {T C f bl}
theorem dU{l:List Wy}{x:List AV × List bZ}(h:R T C f bl l st=some x):L T C f bl l st=some x:=RN h
end
end
section
open Go.ChangeShapes Go.WideShapes
variable {b0 f n:Nat}{t:TypeId}{cs:List Value}{a:Addr}{v:Value}{T:Tab}{fi:FI}{P:Program}
mutual
def PV.wf:PV->Prop
 | .int k n=>(Lit.int k n).wf=true
 | .str s=>s.size<=maxLen
 | .list _ _ xs=>xs.length<=maxLen/\PV.wfs xs
 | .agg cs=>PV.wfs cs
 | .nil=>False
 | _=>True
def PV.wfs:List PV->Prop
 |[]=>True
 | v::r=>PV.wf v/\PV.wfs r
end
theorem Mc:∀{l:List PV},PV.wfs l↔∀ v∈l,v.wf
 |[]=>by simp[PV.wfs]
 | v::r=>by simp[PV.wfs,Mc]
section
variable (P:Program)
def pJ:Nat->TypeId->Bool
 | 0,_=>false
 | n+1,t =>
  match P.underlying t with
  | some (.int _)=>Nat.beq (P.cellsOf t) 1
  | some .bool=>Nat.beq (P.cellsOf t) 1
  | some .string=>Nat.beq (P.cellsOf t) 1
  | some (.slice e)=>pJ n e&&(Nat.blt 0 (P.cellsOf e)&&Nat.beq (P.cellsOf t) 1)
  | some (.struct fs)=>go n 0 fs.toList&&Nat.beq (P.cellsOf t) (sum fs.toList)
  | some (.array m e)=>pJ n e&&Nat.beq (P.cellsOf t) (m*P.cellsOf e)
  | _=>false
where
 go (n:Nat):Nat->List Field->Bool
 | _,[]=>true
 | o,f::r=>f.offset==o&&(pJ n f.type&&go n (o+P.cellsOf f.type) r)
 sum:List Field->Nat
 |[]=>0
 | f::r=>P.cellsOf f.type+sum r
end
section
variable {H:Type} {enc:TypeId × Value->H} {P:Program} {w:World} {base:Nat} {sp:Nat->Bool} {held:Bool} {M:Nat->Prop}
theorem XJ:∀{n:Nat} {t:TypeId},pJ P n t=true->(dO P n t).2.length=P.cellsOf t
 | 0,t,h=>by simp[pJ]at h
 | n+1,t,h=>by
  unfold pJ at h;unfold dO;split at h
  . simp_all
  . simp_all
  . simp_all
  . simp_all
  . rename_i g c;rw[c];simp only[qBa]at h;rw[Nat.eq_of_beq_eq_true h.2];have:∀(l:List Field) (o:Nat),pJ.go P n o l=true->(l.flatMap λf=>(dO P n f.type).2).length=pJ.sum P l:=by
     intro l;induction l with
     | nil=>intro o _;rfl
     | cons f r d =>intro o h;simp only[pJ.go,qBa]at h;simp only[List.flatMap_cons,qLp,pJ.sum,XJ h.2.1,d _ h.2.2]
    grind
  . rename_i m e c;rw[c];simp only[qBa]at h;simp only[List.length_flatten,List.map_replicate,List.sum_replicate_nat,XJ h.1];simp_all
  . cases h
def Ud(w:World)(M:Nat->Prop)(ks:List Kd)(cs:List Value)(ps:List PV):Prop:=
 gV ks ps=true/\ps.length=cs.length/\(∀(i:Nat) (p:PV),ps[i]?=some p->VR w M p (cs.getD i undef))/\PV.wfs ps
theorem KI:∀{g d:List Kd} {e c:List PV},gV g e=true->gV d c=true->gV (g++d) (e++c)=true
 |[],d,[],c,_,h=>h
 | k::g,d,v::e,c,h1,h2=>by simp only[gV,qBa]at h1;simp only[List.cons_append,gV,qBa];exact⟨h1.1,KI h1.2 h2⟩
 |[],_,_::_,_,h,_=>by simp[gV]at h
 | _::_,_,[],_,h,_=>by simp[gV]at h
theorem Ud.append{q j:List Kd}{c1 c2:List Value}{e g:List PV}(c:Ud w M q c1 e)(d:Ud w M j c2 g):Ud w M (q++j) (c1++c2) (e++g):=by
 refine⟨KI c.1 d.1,by simp[c.2.1,d.2.1],λi p hp=>?_,?_⟩
 . by_cases u:i<e.length
   . rw[List.getElem?_append_left u]at hp;have:=c.2.2.1 i p hp;grind[qLb,c.2.1]
   . rw[List.getElem?_append_right (by omega)]at hp;have:=d.2.2.1 _ p hp;grind[qLb,c.2.1]
 . rw[Mc]at *;have a:=Mc.1 c.2.2.2;have b:=Mc.1 d.2.2.2;grind
def FZ(a:Bool)(ps:List PV):PV:=match a with | true=>.agg ps | false=>ps.headD .nil
theorem XK(h:pJ P n t=true)(c:(dO P n t).1=false):(dO P n t).2.length=1:=by
 cases n with
 | zero=>simp[pJ]at h
 | succ n=>grind[pJ,dO]
theorem Bj{ps:List PV}(h:pJ P n t=true)(d:Ud w M (dO P n t).2 cs ps) :
    bY (dO P n t).1 (dO P n t).2 (FZ (dO P n t).1 ps)=true/\(FZ (dO P n t).1 ps).cells=ps/\(FZ (dO P n t).1 ps).wf:=by
  cases g:(dO P n t).1 with
  | true=>exact⟨d.1,rfl,by simp only[FZ,PV.wf];exact d.2.2.2⟩
  | false =>
   have i:=XK h g;have c:=d.1
   match hks:(dO P n t).2,i,c with
   |[k],_,c =>
    match ps,c,d with
    |[p],c,d =>
     simp only[gV,Bool.and_true]at c;have e:=lg c;refine⟨c,?_,?_⟩
     . simp only[FZ,qLh];cases p<;>first | rfl | simp[PV.leaf]at e
     . exact(Mc.1 d.2.2.2) p (by simp)
    |[],c,_=>simp[gV]at c
    | _::_::_,c,_=>simp[gV]at c
theorem Yd{i:Nat}(h:w.cell? (a.add i)=some v)(d:i<n)(c:i=0):a.spot=none:=by subst c;simp only[Addr.add,if_true]at h;unfold World.cell? at h;split at h;all_goals simp_all
theorem Ov(h:w.cells? base a n=some cs):cs.length=n/\∀ i,i<n->∃ v,cs[i]?=some v/\w.cell? (a.add i)=some v:=by
 unfold World.cells? at h;split at h
 . have c:=mapM_some_length h;simp at c;refine⟨c,λi d=>?_⟩;have:=mapM_some_get h i i (by simp[d]);grind
 . cases h
theorem ah2(hM:∀ b,b<w.heap.size->M b):∀(d n:Nat) (t:TypeId) (cs:List Value) (x:DataW H × List MemPlace),DataW.trod enc P w base sp held d t cs=some x->pJ P n t=true->∃ ps,Ud w M (dO P n t).2 cs ps:=by
 intro d;induction d with
 | zero=>intro n t cs x h;simp[DataW.trod]at h
 | succ d ih =>
  intro n t cs x h z;cases n with
  | zero=>simp[pJ]at z
  | succ n =>
   unfold pJ at z;have one:∀(k:Kd) (p:PV) (v:Value),kindOk k p=true->VR w M p v->p.wf->Ud w M [k] [v] [p]:=by intro k p v V J I;refine⟨by simp[gV,V],rfl,λi q hq=>?_,by simp[PV.wfs,I]⟩;grind
   split at z
   . rename_i k u;obtain⟨m,rfl,_,hw⟩:=DataW.trod_int u h;have e:(dO P (n+1) t).2=[.int k]:=by (conv=>lhs;unfold dO);rw[u]
     rw[e];exact⟨_,one _ (.int k m) _ (by simp[kindOk]) (.int k m) hw⟩
   . rename_i u;obtain⟨b,rfl,_⟩:=DataW.trod_bool u h;have e:(dO P (n+1) t).2=[.bool]:=by (conv=>lhs;unfold dO);rw[u]
     rw[e];exact⟨_,one _ (.bool b) _ rfl (.bool b) trivial⟩
   . rename_i u;obtain⟨s,rfl,_,hw⟩:=DataW.trod_string u h;have e:(dO P (n+1) t).2=[.str]:=by (conv=>lhs;unfold dO);rw[u]
     rw[e];exact⟨_,one _ (.str s) _ rfl (.str s) hw⟩
   . -- a slice
     rename_i e u;simp only[qBa]at z;have es:(dO P (n+1) t).2=[.slice (dO P n e).1 (dO P n e).2]:=by (conv=>lhs;unfold dO);rw[u]
     rw[es];have B:0<P.cellsOf e:=Nat.le_of_ble_eq_true z.2.1;have hlen:=XJ z.1;rcases DataW.trod_slice u h with⟨rfl,_⟩ |⟨a,len,cap,elems,rest,m,U,rfl,_,hb,hlc,hcm,hel,hget,_,_⟩
     . exact⟨_,one _ (.list (dO P n e).1 (dO P n e).2 []) _ (by simp[kindOk,Kd.rO]) (.wW _ _ none 0) (by simp[PV.wf,PV.wfs])⟩
     . cases U;have L:∀ i,i<len->∃(ps:List PV) (S:List Value),w.cells? base (a.add (i*P.cellsOf e)) (P.cellsOf e)=some S/\Ud w M (dO P n e).2 S ps:=by grind[Option.bind_eq_some_iff]
       by_cases h0:len=0
       . subst h0;exact⟨_,one _ (.list (dO P n e).1 (dO P n e).2 []) _ (by simp[kindOk,Kd.rO]) (.wW _ _ (some a) cap) (by simp[PV.wf,PV.wfs])⟩
       . have hspot:a.spot=none:=by
           obtain⟨ps,S,J,_⟩:=L 0 (by omega);obtain⟨_,I⟩:=Ov J;obtain⟨v,_,h4⟩:=I 0 B;simp only[Nat.zero_mul]at h4;have e0:a.add 0=a:=by simp[Addr.add]
           rw[e0]at h4;exact Yd h4 B rfl
         have addr:∀ i j,(a.add (i*P.cellsOf e)).add j=⟨a.block,a.off+i*P.cellsOf e+j,none⟩:=by intro i j;obtain⟨ab,ao,as⟩:=a;grind[Addr.add]
         have hex:∃(f:Nat->List PV) (g:Nat->List Value),∀ i,i<len->w.cells? base (a.add (i*P.cellsOf e)) (P.cellsOf e)=some (g i)/\Ud w M (dO P n e).2 (g i) (f i):=
          ⟨λi=>if h:i<len then(L i h).choose else [],λi=>if h:i<len then(L i h).choose_spec.choose else [],λi D=>by grind⟩
         obtain⟨f,g,E⟩:=hex;have hblk:a.block<w.heap.size:=by obtain⟨J,_⟩:=E 0 (by omega);obtain⟨_,I⟩:=Ov J;obtain⟨v,_,h4⟩:=I 0 B;rw[addr]at h4;grind[World.cell?]
         have A:∀(i:Nat) (x:PV),((List.range len).map λi=>FZ (dO P n e).1 (f i))[i]?=some x->i<len/\x=FZ (dO P n e).1 (f i):=by grind
         refine⟨[.list (dO P n e).1 (dO P n e).2 ((List.range len).map λi=>FZ (dO P n e).1 (f i))],one _ _ _ (by simp[kindOk,Kd.rO]) ?_ ?_⟩
         . have:=VR.list (w:=w) (M:=M) (dO P n e).1 (dO P n e).2 ((List.range len).map λi=>FZ (dO P n e).1 (f i)) a.block a.off cap (λi j=>(g i).getD j undef) (hM _ hblk) (by simpa using hlc)
             (λi x j c Q hj=>by obtain⟨D,rfl⟩:=A i x Q;obtain⟨J,I⟩:=E i D;rw[(Bj z.1 I).2.1]at hj;obtain⟨hl,h4⟩:=Ov J;grind[I.2.1])
             (λi x j c Q hj=>by obtain⟨D,rfl⟩:=A i x Q;obtain⟨J,I⟩:=E i D;rw[(Bj z.1 I).2.1]at hj;exact I.2.2.1 j c hj)
             (λx Q=>by obtain⟨i,D⟩:=List.mem_iff_getElem?.1 Q;obtain⟨R,rfl⟩:=A i x D;exact(Bj z.1 (E i R).2).1)
           have ea:a=⟨a.block,a.off,none⟩:=by cases a;simp at hspot;simp[hspot]
           grind
         . refine⟨by simpa using Nat.le_trans hlc hcm,Mc.2 λx Q=>?_⟩;obtain⟨i,D⟩:=List.mem_iff_getElem?.1 Q;obtain⟨R,rfl⟩:=A i x D;exact(Bj z.1 (E i R).2).2.2
   . -- a struct
     rename_i fs u;simp only[qBa]at z;have es:(dO P (n+1) t).2=fs.toList.flatMap λf=>(dO P n f.type).2:=by (conv=>lhs;unfold dO);rw[u]
     rw[es];obtain⟨xs,m,U,_,hl,hxl,hget⟩:=DataW.trod_struct u h;cases U;have N:=Nat.eq_of_beq_eq_true z.2
     have Y:∀(l:List Field) (o:Nat),pJ.go P n o l=true->(∀ f∈l,∃ y,DataW.trod enc P w base sp held d f.type ((cs.drop f.offset).take (P.cellsOf f.type))=some y)->o+pJ.sum P l=cs.length ->
         ∃ ps,Ud w M (l.flatMap λf=>(dO P n f.type).2) (cs.drop o) ps:=by
       intro l;induction l with
       | nil =>intro o _ _ ho;simp only[pJ.sum,Nat.add_zero]at ho;refine⟨[],rfl,?_,λi p h=>by simp at h,trivial⟩;simp[ho]
       | cons f r ihl =>intro o hg U ho;simp only[pJ.go,qBa,beq_iff_eq]at hg;obtain⟨Z,hf,hr⟩:=hg;obtain⟨y,hy⟩:=U f (by simp);rw[Z]at hy;obtain⟨p1,V⟩:=ih n f.type _ y hy hf;simp only[pJ.sum]at ho;obtain⟨p2,J⟩:=ihl (o+P.cellsOf f.type) hr (λg hg=>U g (by simp[hg])) (by omega);refine⟨p1++p2,?_⟩;have:=V.append J;grind[List.drop_drop,List.take_append_drop]
     obtain⟨ps,hps⟩:=Y fs.toList 0 z.1 (λf hf=>by obtain⟨i,D⟩:=List.mem_iff_getElem?.1 hf;grind) (by rw[qNz,hl,N]);grind
   . -- an array
     rename_i m e u;simp only[qBa]at z;have es:(dO P (n+1) t).2=(List.replicate m (dO P n e).2).flatten:=by (conv=>lhs;unfold dO);rw[u]
     rw[es];have h':(if cs.length=P.cellsOf t then((List.range m).mapM λi=>DataW.trod enc P w base sp held d e ((cs.drop (i*P.cellsOf e)).take (P.cellsOf e))).map λxs=>((.agg (xs.map (·.1)):DataW H),xs.flatMap (·.2))else none)=some x:=by rw[<- h,DataW.trod_step];simp_all[DataW.trodStep]
     clear h;split at h'
     . rename_i hl;simp only[Option.map_eq_some_iff]at h';obtain⟨xs,A,rfl⟩:=h';have N:=Nat.eq_of_beq_eq_true z.2;have hel:∀ i,i<m->∃ ps,Ud w M (dO P n e).2 ((cs.drop (i*P.cellsOf e)).take (P.cellsOf e)) ps:=by intro i D;have V:=mapM_some_get A i i (by simp[D]);have hl:=mapM_some_length A;grind
       have Y:∀(k:Nat),k<=m->∃ ps,Ud w M (List.replicate k (dO P n e).2).flatten (cs.drop ((m-k)*P.cellsOf e)) ps:=by
        intro k;induction k with
        | zero =>intro _;refine⟨[],rfl,?_,λi p h=>by simp at h,trivial⟩;grind
        | succ k ihk =>
         intro hk;obtain⟨p2,J⟩:=ihk (by omega);obtain⟨p1,V⟩:=hel (m-(k+1)) (by omega);refine⟨p1++p2,?_⟩;have:=V.append J;rw[List.replicate_succ,List.flatten_cons];have e1:m-k=m-(k+1)+1:=by omega
         rw[e1,Nat.add_mul,Nat.one_mul,<- List.drop_drop,List.take_append_drop]at this;exact this
       grind
     . cases h'
   . cases z
theorem ah3{w w':World}(c:∀ b,b<w.heap.size->w'.heap[b]?=w.heap[b]?){p:MemPlace}(hp:p.block<w.heap.size):w.sameAt w' p:=by
 cases p with
 | cell b off=>simp only[World.sameAt,World.cell?];rw[c b hp]
 | map b=>exact c b hp
theorem afc:∀(c n:Nat) (t:TypeId) (cs:List Value) (x:DataW H × List MemPlace),DataW.trod enc P w base (λ_=>true) held c t cs=some x->pJ P n t=true->(∀ p∈x.2,sp p.block=true)->DataW.trod enc P w base sp held c t cs=some x:=by
 intro c;induction c with
 | zero=>intro n t cs x h;simp[DataW.trod]at h
 | succ c V =>
  intro n t cs x h j I;cases n with
  | zero=>simp[pJ]at j
  | succ n =>
   unfold pJ at j;split at j
   . rename_i k d;obtain⟨m,rfl,rfl,hw⟩:=DataW.trod_int d h;simp_all[DataW.trod_step,DataW.trodStep]
   . rename_i d;obtain⟨b,rfl,rfl⟩:=DataW.trod_bool d h;simp_all[DataW.trod_step,DataW.trodStep]
   . rename_i d;obtain⟨s,rfl,rfl,hw⟩:=DataW.trod_string d h;simp_all[DataW.trod_step,DataW.trodStep]
   . rename_i e d;simp only[qBa]at j;have z:0<P.cellsOf e:=Nat.le_of_ble_eq_true j.2.1;rcases DataW.trod_slice d h with⟨rfl,rfl⟩ |⟨a,len,cap,elems,U,m,J,rfl,rfl,hb,L,R,hel,A,hrest,_⟩
     . simp_all[DataW.trod_step,DataW.trodStep]
     . cases J;obtain⟨hrl,hrg⟩:=hrest rfl;rw[DataW.trod_step]at h ⊢;unfold DataW.trodStep at h ⊢;rw[d]at h ⊢;simp only[hb,L,R,and_self,if_true,Option.bind_eq_some_iff,Option.map_eq_some_iff]at h ⊢;obtain⟨el,he,B,hr,hd⟩:=h;have hall:∀ y∈el++B,∀ p∈y.2,sp p.block=true:=by grind
       refine⟨el,mapM_carry he λi y Z u q=>?_,B,?_,hd⟩
       . grind[Option.bind_eq_some_iff]
       . split
         . refine mapM_carry hr λi y Z u q=>?_;grind[Option.bind_eq_some_iff]
         . rename_i E;by_cases Y:B=[]
           . rw[Y]
           . exfalso;refine E (I (.cell a.block a.off) ?_);rw[<- (Prod.mk.inj hd).2];refine List.mem_append.2 (.inl (MemPlace.mem_row.2 ⟨0,?_,by simp⟩));have:0<B.length:=List.length_pos_iff.2 Y;exact Nat.mul_pos (by omega) z
   . rename_i fs d;simp only[qBa]at j;obtain⟨xs,m,J,rfl,N,hxl,A⟩:=DataW.trod_struct d h;cases J;have h':(if cs.length=P.cellsOf t then(fs.toList.mapM λf=>DataW.trod enc P w base (λ_=>true) held c f.type ((cs.drop f.offset).take (P.cellsOf f.type))).map λxs=>((.agg (xs.map (·.1)):DataW H),xs.flatMap (·.2))else none)=some (.agg (xs.map (·.1)),xs.flatMap (·.2)):=by rw[<- h,DataW.trod_step];unfold DataW.trodStep;rw[d]
     rw[DataW.trod_step];unfold DataW.trodStep;rw[d];show(if cs.length=P.cellsOf t then(fs.toList.mapM λf=>DataW.trod enc P w base sp held c f.type ((cs.drop f.offset).take (P.cellsOf f.type))).map λxs=>((.agg (xs.map (·.1)):DataW H),xs.flatMap (·.2))else none)=_;rw[if_pos N]at h' ⊢;simp only[Option.map_eq_some_iff]at h' ⊢;obtain⟨ys,u,hd⟩:=h';have Q:∀(l:List Field) (o:Nat),pJ.go P n o l=true->∀ f∈l,pJ P n f.type=true:=by
      intro l;induction l with
      | nil=>intro o _ f q;simp at q
      | cons g r ihl =>intro o hg f q;simp only[pJ.go,qBa]at hg;grind
     refine⟨ys,mapM_carry u λf y q D S=>V n f.type _ y S (Q _ _ j.1 f q) λp hp=>I p ?_,hd⟩;grind
   . rename_i m e d;simp only[qBa]at j;have h':(if cs.length=P.cellsOf t then((List.range m).mapM λi=>DataW.trod enc P w base (λ_=>true) held c e ((cs.drop (i*P.cellsOf e)).take (P.cellsOf e))).map λxs=>((.agg (xs.map (·.1)):DataW H),xs.flatMap (·.2))else none)=some x:=by simp_all[DataW.trod_step,DataW.trodStep]
     rw[DataW.trod_step];unfold DataW.trodStep;rw[d];show(if cs.length=P.cellsOf t then((List.range m).mapM λi=>DataW.trod enc P w base sp held c e ((cs.drop (i*P.cellsOf e)).take (P.cellsOf e))).map λxs=>((.agg (xs.map (·.1)):DataW H),xs.flatMap (·.2))else none)=_;split at h'
     . rename_i N;rw[if_pos N];simp only[Option.map_eq_some_iff]at h' ⊢;obtain⟨ys,u,hd⟩:=h';refine⟨ys,mapM_carry u λi y Z D S=>V n e _ y S j.1 λp hp=>I p ?_,hd⟩;grind
     . cases h'
   . cases j
inductive Ep (P:Program) (w:World) (M:Nat->Prop):List TypeId->List Value->List PV->Prop
 | nil:Ep P w M [] [] []
 | cons (t:TypeId) (ts:List TypeId) (v:Value) (vs:List Value) (x:PV) (xs:List PV) (h1:VR w M x v) (h2:bY (dO P 8 t).1 (dO P 8 t).2 x=true) (h3:x.wf) (h:Ep P w M ts vs xs):Ep P w M (t::ts) (v::vs) (x::xs)
theorem akv(Y:∀ b,b<w.heap.size->M b){d:DataW H}{ps:List MemPlace}(A:pJ P 8 t=true)(y:Value.okWide P w .any b0 t v)(h:DataW.Trod enc P w base sp held t v d ps) :
    ∃ x,VR w M x v/\bY (dO P 8 t).1 (dO P 8 t).2 x=true/\x.wf:=by
  obtain⟨z,h⟩:=h;obtain⟨I,g⟩:=ah2 Y z 8 t _ _ h A;obtain⟨e1,e2,e3⟩:=Bj A g;refine⟨_,?_,e1,e3⟩;cases Q:(dO P 8 t).1 with
  | true =>
   have L:(∃ Z,P.underlying t=some (.struct Z))\/∃ m e,P.underlying t=some (.array m e):=by grind[dO]
   have B:∃ cs,v=.agg cs:=by grind[Value.okWide]
   obtain⟨cs,rfl⟩:=B;have E:(Value.agg cs).cells.toList=cs.toList:=rfl;rw[E]at g;refine .agg I cs (by simpa using g.2.1.symm) (λc E=>?_) λi c V=>?_
   . obtain⟨j,J⟩:=List.mem_iff_getElem?.1 E;have u:=nH g.1;have D:j<(dO P 8 t).2.length:=by rw[u.1];exact(qLa.1 J).1
     exact lg (u.2 j _ c (qLd D) J)
   . have:=g.2.2.1 i c V;simp_all
  | false =>
   have N:=XK A Q;have u:=nH g.1
   match I,g,u with
   |[q],g,u =>
    have hl:q.leaf=true:=by refine lg (u.2 0 ((dO P 8 t).2[0]'(by omega)) q (by simp) rfl)
    have B:v.cells.toList=[v]:=by
     have U:=g.2.1;cases v<;>first | rfl | skip
     rename_i cs;exfalso;unfold Value.okWide at y;split at y
     . grind[dO]
     . grind[dO]
     . rename_i R S;unfold pJ at A;simp_all[Value.cells,Cell.okWide,Cell.ok]
    rw[B]at g;simpa[FZ] using g.2.2.1 0 q rfl
   |[],g,u=>have:=u.1;rw[N]at this;simp at this
   | _::_::_,g,u=>have:=u.1;rw[N]at this;simp at this
theorem Nl{w':World}(j:∀ b,b<w.heap.size->w'.heap[b]?=w.heap[b]?):∀{ts:List TypeId} {vs:List Value} {ds:List (DataW H)} {ps:List MemPlace},DataW.TrodAll enc P w base (λ_=>true) held ts vs ds ps->(∀ t∈ts,pJ P 8 t=true) ->
    DataW.TrodAll enc P w' base (λb=>decide (b<w.heap.size)) held ts vs ds ps
  |[],[],[],ps,h,_=>h
  | t::ts,v::vs,d::ds,ps,⟨p,q,i,h2,e⟩,ha=>by refine⟨p,q,?_,Nl j h2 (λu y=>ha u (by simp[y])),e⟩;obtain⟨c,i⟩:=i;have g:=DataW.trod_lt _ _ _ _ i;exact⟨c,afc c 8 t _ _ (DataW.trod_carry c t _ _ i λp hp=>ah3 j (g p hp)) (ha t (by simp)) λp hp=>by simpa using g p hp⟩
theorem Zh{b0:Nat}(y:∀ b,b<w.heap.size->M b):∀{ts:List TypeId} {vs:List Value} {ds:List (DataW H)} {ps:List MemPlace},DataW.TrodAll enc P w base sp held ts vs ds ps->(∀ t∈ts,pJ P 8 t=true)->(∀(j:Nat) t v,ts[j]?=some t->vs[j]?=some v->Value.okWide P w .any b0 t v) ->
    ∃ xs,Ep P w M ts vs xs
  |[],[],[],ps,_,_,_=>⟨[],.nil⟩
  | t::ts,v::vs,d::ds,ps,⟨p,q,i,g,e⟩,ha,hv=>by obtain⟨xs,c⟩:=Zh y g (λu z=>ha u (by simp[z])) λj t v i g=>hv (j+1) t v (by simpa using i) (by simpa using g);obtain⟨x,D,B,A⟩:=akv y (ha t (by simp)) (hv 0 t v rfl rfl) i;exact⟨x::xs,.cons t ts v vs x xs D B A c⟩
theorem Ep.length{ts:List TypeId}{vs:List Value}{xs:List PV}(h:Ep P w M ts vs xs):xs.length=vs.length:=by
 induction h with
 | nil=>rfl
 | cons _ _ _ _ _ _ _ _ _ _ c=>simp[c]
theorem Ep.get{ts:List TypeId}{vs:List Value}{xs:List PV}(h:Ep P w M ts vs xs):∀(i:Nat) (x:PV),xs[i]?=some x->∃ v,vs[i]?=some v/\VR w M x v:=by
 induction h with
 | nil=>intro i x h;simp at h
 | cons t ts v vs x xs g e d h c=>grind
theorem ah4(ok:fB P T){X:Ext}{gl:Option (List (Nat × Obj))}(hX:vF P T gl X)(hf:dZ T.funcs f=some fi){fn:Func}(R:fi.fn=fn){tb:TypeId}(u:fn.resultTypes=#[tb])(Z:fi.cfg.rets=[])
    (L:P.underlying tb=some .bool){s:ChangeSpec}(hvars:s.vars=[]){W:World}{args:Array Value}{ds gs:List (DataW H)}{before:List MemPlace} 
    (A:∀(j:Nat) t v,fn.params[j]?=some t->args[j]?=some v->Value.okWide P W .any b0 t v)(hW:DataW.Whole enc P fn.params.toList s.vars false W args.toList ds gs before)
    (E:fn.params.toList.all (pJ P 8)=true)(N:s.fn H ds={results:=[.lit (.bool true)],args:=ds})
    (Q:∀ p∈gl.getD [],p.1<W.heap.size/\W.heap[p.1]?=some p.2)(B:∀ xs,Ep P W (λb=>b<W.heap.size) fn.params.toList args.toList xs->run T X f (xs.map .p) []=some ([.p (.bool true)],[])) :
    Calls P f args W λe W'=>∃ v,e=.returned v/\s.post enc P fn false true false false W args v W':=by
  subst R;have V:=hW;obtain⟨p,q,hA,hV,hbef,hz,hn⟩:=hW;have y:∀ t∈fi.fn.params.toList,pJ P 8 t=true:=λt ht=>List.all_eq_true.1 E t ht;rw[hvars]at hV;cases gs with
  | cons g gr=>exact hV.elim
  | nil =>
   obtain⟨xs,z⟩:=Zh (M:=λb=>b<W.heap.size) (λ_ h=>h) hA y (base:=0) (λj t v J I=>by exact A j t v (by simpa using J) (by simpa using I));have Y:=(Qw ok hX).plain f fi (xs.map .p) [] _ [] hf (by simp) (B xs z);have D:wI W (λb=>b<W.heap.size) (λ_=>none) (xs.map .p) [] args:=by refine⟨by simp[z.length],λi v d=>?_,λi b0 d=>by simp at d,λi b o d=>by simp at d,λi j b o o' d=>by simp at d,λb U=>U⟩;simp only[List.getElem?_map,Option.map_eq_some_iff]at d;obtain⟨x,hx,rfl⟩:=d;obtain⟨v,J,I⟩:=z.get i x hx;rw[qAb,<- Array.getElem?_toList,J];exact .p _ _ I
   refine Calls.mono (Y.2 W _ _ args Q D) λe W' hpost=>?_;obtain⟨cs,ps,M',rfl,post⟩:=hpost;have hkeep:∀ b,b<W.heap.size->W'.heap[b]?=W.heap[b]?:=λb U=>post.keep b U λi o d=>by simp at d
   have hr:=post.res;rw[u,Z]at hr;have S:cs=[.bool true]:=by
    cases hr with
    | cons _ _ _ _ _ c cs' p ps' J I _ =>
     cases I;cases J with
     | deep _ x _ _ hv=>cases hv;rfl
   subst S;refine⟨.bool true,rfl,ds,[],before,[],p,[],V,?_,?_,?_,?_,λh=>by cases h⟩
   . rw[List.append_nil,N,u];exact⟨[],[],⟨1,by simp[DataW.trod,Value.cells,L]⟩,rfl,rfl⟩
   . rw[List.append_nil,N];exact Nl hkeep hA y
   . rw[List.append_nil,N,hvars];rfl
   . refine⟨post.os,post.output,λi d=>?_⟩;grind
end
def aa8(P:Program):List (Nat × TI)->Prop
 |[]=>True
 |(t,i)::r=>alW P t=some i/\aa8 P r
structure aa9 (P:Program) (T:Tab) (f:Nat) (fi:FI):Prop where
 fn:P.funcs[f]?=some fi.fn
 name : (fi.fn.name == "runtime.NumGoroutine") = false
 draws:(match fi.fn.body with | some c=>gy T fi.hides c | none=>true)=true
 flat:(fi.cfg.D9||(fi.cfg.shares||vS T fi.cfg.rets fi.fn.resultTypes.toList))=true
 nvars:Nat.ble fi.cfg.nvars 100000=true
def amT (T : Tab) (fi : FI) : Bool := !(fi.fn.name == "runtime.NumGoroutine") && ((match fi.fn.body with | some c => gy T fi.hides c | none => true) && ((fi.cfg.D9 || (fi.cfg.shares || vS T fi.cfg.rets fi.fn.resultTypes.toList)) && Nat.ble fi.cfg.nvars 100000))
theorem aa9.of(h:P.funcs[f]?=some fi.fn)(q:amT T fi=true):aa9 P T f fi:=by simp only[amT,qBa,qBb]at q;exact⟨h,q.1,q.2.1,q.2.2.1,q.2.2.2⟩
def abb(P:Program)(T:Tab):List (Nat × FI)->Prop
 |[]=>True
 |(f,i)::r=>aa9 P T f i/\abb P T r
theorem TK{P:Program}:∀{l:List (Nat × TI)} {t:Nat} {i:TI},aa8 P l->dZ l t=some i->alW P t=some i
 |[],t,i,_,h=>by simp[dZ]at h
 |(k,x)::r,t,i,hk,h=>by
  simp only[dZ]at h;cases c:k==t with
  | true =>
   rw[c]at h;have e:k=t:=by simpa using c
   subst e;cases h;exact hk.1
  | false=>rw[c]at h;exact TK hk.2 h
theorem KJ{P:Program}{T:Tab}:∀{l:List (Nat × FI)} {f:Nat} {i:FI},abb P T l->dZ l f=some i->aa9 P T f i
 |[],f,i,_,h=>by simp[dZ]at h
 |(k,x)::r,f,i,hk,h=>by
  simp only[dZ]at h;cases c:k==f with
  | true =>
   rw[c]at h;have e:k=f:=by simpa using c
   subst e;cases h;exact hk.1
  | false=>rw[c]at h;exact KJ hk.2 h
def Zu(P:Program)(T:Tab):Prop:=∀ f fi,dZ T.funcs f=some fi->amP P f fi.cfg.Nr
theorem akx(j:aa8 P T.types)(d:abb P T T.funcs)(e:P.follows .mixedOrders=true)(h4:Zu P T):fB P T:=by
 refine⟨λt i h=>TK j h,λf fi h=>?_,e,λf fi h=>Nat.le_of_ble_eq_true (KJ d h).nvars,h4⟩;have g:=KJ d h;refine⟨g.fn,g.name,λc u=>?_,λy q=>?_⟩
 . have:=g.draws;grind
 . have:=g.flat
   grind
end
end Go.Skm
