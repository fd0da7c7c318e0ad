import Derived.Test.YtpjaaamhnghloaaGreatDoorSkmD
import Derived.LoopNIn
import Derived.Scope
import Derived.RangeFuncNested
import Derived.RangeFuncLeaves
set_option linter.all false
namespace Go.Skm
section
variable {c:Code}
section scopes
variable {E:Fence}{n:Nat}{P:Program}{Q:Exit->Act->World->Prop}{b:Frame}{a:Act}{k:List Item}{cs:List Frame}{w:World}
theorem qJ:step P (lone (b.atR a (.code (.scope c)::k)) cs w)=.next (lone (b.atR a (.code c::.inScope c::k)) cs w):=
 step_lone_go (by simp[stepG,stepG.exec,Frame.atR])
theorem SB:step P (lone (b.atR a (.inScope c::k)) cs w)=.next (lone (b.atR a k) cs w):=
 step_lone_go (by simp[stepG,stepG.exec,Frame.atR])
theorem aak(h:c.wpIn E n P (Exit.noGoto Q) a w):(Code.scope c).wpIn E n P Q a w:=by
 intro b k cs p u r;have j:(lone (b.atR a (.code (.scope c)::k)) cs w).fenced P E:=fenced_calm u r rfl;obtain⟨e,g,f,i,d⟩:=h b (.inScope c::k) cs p u r;cases e with
 |normal=>exact⟨.normal,g,f,i,.head j qJ (StepsIn.trans d (.one (fenced_calm u r rfl) SB))⟩
 |exit id=>
  have y:exitTo id (.inScope c::k)=exitTo id k:=by simp[exitTo]
  exact⟨.exit id,g,f,i,λz t=>.head j qJ (d.1 z (by rw[y];exact t)),
   λq t=>let ⟨k₁,h1,h2⟩:=d.2 q (by rw[y];exact t);⟨k₁,h1,.head j qJ h2⟩⟩
 |goto l=>exact i.elim
 |ret=>exact⟨_,g,f,i,.of_steps (.one j qJ) d⟩
 |panic A=>exact⟨_,g,f,i,.of_steps (.one j qJ) d⟩
 |outgrown=>exact⟨_,g,f,i,.of_steps (.one j qJ) d⟩
end scopes
section
variable {α ι:Type} (T:Tab) (C:aB) (F:FI) (n:Nat)
def aal(z:Code)(k:Ex->St->Option α):Ex->St->Option α:=λex st'=>
 match ex with
 |.normal=>aK T C F n z (aC F.cfg z st') k
 |.exit id=>k (.exit id) st'
 |.ret=>k .ret st'
def LY(id:Nat)(k:Ex->St->Option α):Ex->St->Option α:=λex st'=>
 match ex with
 |.normal=>k .normal st'
 |.exit i=>bif i==id then k .normal st' else k (.exit i) st'
 |.ret=>k .ret st'
def Rh(c:Code)(m:Nat)(k:Ex->St->Option α):Ex->St->Option α:=λex st'=>
 match ex with
 |.normal=>eF (aC F.cfg c st') λst'=>nM (aC F.cfg c) (λst' k'=>aK T C F n c st' k') m st' k
 |.exit id=>k (.exit id) st'
 |.ret=>k .ret st'
theorem zq(y z:Code)(st:St)(k:Ex->St->Option α):aK T C F n (.seq y z) st k=aK T C F n y st (aal T C F n z k):=rfl
theorem Hw(id:Nat)(c:Code)(st:St)(k:Ex->St->Option α):aK T C F n (.block id c) st k=aK T C F n c st (LY id k):=rfl
theorem E8(c:Code)(m:Nat)(st:St)(k:Ex->St->Option α):nM (aC F.cfg c) (λst' d=>aK T C F n c st' d) (m+1) st k=aK T C F n c st (Rh T C F n c m k):=rfl
structure WC (P:Program) (m:Nat) (KP:(Ex->St->Option α)->Prop) (rd:ι->Option Nat) (Fit:ι->Oper->Prop) (I:ι->α->St->Act->World->Prop):Prop where
 reg:∀(i:ι) (id:Nat) (ops:Array Oper) (draw:Bool) (st:St) (a:Act) (w:World) (k:Ex->St->Option α) (x:α) (Q:Exit->Act->World->Prop),KP k->aK T C F n (.region id ops draw) st k=some x ->
  iP T F.hides (.region id ops draw)=true->(∀o∈opsOf (.region id ops draw),Fit i o)->I i x st a w ->
  (∀x' st' a' w',k .normal st'=some x'->I i x' st' a' w'->Q .normal a' w')->(Code.region id ops draw).wpIn (FW (rd i)) m P Q a w
 forget:∀(i:ι) (x:α) (st:St) (a:Act) (w:World) (c:Code),I i x st a w->I i x (aC F.cfg c st) a w
 cond:∀(i:ι) (x:α) (st:St) (a:Act) (w:World) (c:Operand) (b:Bool),I i x st a w->aP st.env c=.p (.bool b)->a.eval c=.bool b
 kseq:∀(z:Code) (k:Ex->St->Option α),KP k->KP (aal T C F n z k)
 kblock:∀(id:Nat) (k:Ex->St->Option α),KP k->KP (LY id k)
 kloop:∀(c:Code) (j:Nat) (k:Ex->St->Option α),KP k->KP (Rh T C F n c j k)
def aam(ng:Bool)(P:Program)(m:Nat)(KP:(Ex->St->Option α)->Prop)(rd:ι->Option Nat)(Fit:ι->Oper->Prop)(I:ι->α->St->Act->World->Prop)(c:Code):Prop:=
 ∀(i:ι) (st:St) (a:Act) (w:World) (k:Ex->St->Option α) (x:α) (Q:Exit->Act->World->Prop),KP k->aK T C F n c st k=some x->iP T F.hides c=true->(ng=true->iZ c=true)->(∀o∈opsOf c,Fit i o)->I i x st a w ->
  (∀ex x' st' a' w',k ex st'=some x'->I i x' st' a' w'->Q ex.afM a' w')->c.wpIn (FW (rd i)) m P Q a w
variable {T C F n}
theorem jG{ng:Bool}{P:Program}{m:Nat}{KP:(Ex->St->Option α)->Prop}{rd:ι->Option Nat}{Fit:ι->Oper->Prop}{I:ι->α->St->Act->World->Prop}(S:WC T C F n P m KP rd Fit I)
    (H:ng=false->∀f ps y z,aam T C F n ng P m KP rd Fit I y->aam T C F n ng P m KP rd Fit I z->aam T C F n ng P m KP rd Fit I (.rangeFunc f ps y z)):∀c:Code,aam T C F n ng P m KP rd Fit I c
  |.skip=>λ_ st a w _ x _ _ h _ _ _ i d=>wpIn_skip (d .normal x st a w h i)
  |.region id ops draw=>λi st a w k x Q B h hd _ u hi d=>S.reg i id ops draw st a w k x Q B h hd u hi λr st' a' w' q Z=>d .normal r st' a' w' q Z
  |.seq y z=>λi st a w k x Q B h hd g u hi d=>by
   rw[zq]at h;simp only[iP,qBa]at hd;have D:ng=true->iZ y=true/\iZ z=true:=λe=>by have:=g e;simpa[iZ] using this
   refine wpIn_seq (jG S H y i st a w _ x _ (S.kseq z k B) h hd.1 (λe=>(D e).1) (λo A=>u o (by simp[opsOf,A])) hi λJ r st' a' w' q t=>?_);cases J with
   |normal=>exact jG S H z i _ a' w' k r Q B q hd.2 (λe=>(D e).2) (λo A=>u o (by simp[opsOf,A])) (S.forget _ _ _ _ _ _ t) d
   |exit id=>exact d (.exit id) r st' a' w' q t
   |ret=>exact d .ret r st' a' w' q t
  |.cond c y z=>λi st a w k x Q B h hd g u hi d=>by
   simp only[aK]at h;simp only[iP,qBa]at hd;have D:ng=true->iZ y=true/\iZ z=true:=λe=>by have:=g e;simpa[iZ] using this
   cases L:Skm.aP st.env c with
   |p v=>
    cases v with
    |bool b=>
     have Y:=S.cond i x st a w c b hi L;rw[L]at h;simp only at h;refine wpIn_cond Y ?_;cases b with
     |true=>exact jG S H y i st a w k x Q B h hd.1 (λe=>(D e).1) (λo A=>u o (by simp[opsOf,A])) hi d
     |false=>exact jG S H z i st a w k x Q B h hd.2 (λe=>(D e).2) (λo A=>u o (by simp[opsOf,A])) hi d
    |_=>rw[L]at h;simp at h
   |_=>rw[L]at h;simp at h
  |.block id c=>λi st a w k x Q B h hd g u hi d=>by
   rw[Hw]at h;simp only[iP]at hd;refine wpIn_block (jG S H c i st a w _ x _ (S.kblock id k B) h hd (λe=>by simpa[iZ] using g e) (λo A=>u o (by simpa[opsOf] using A)) hi λJ r st' a' w' q t=>?_);cases J with
   |normal=>exact d .normal r st' a' w' q t
   |exit j=>
    simp only[Ex.afM,Exit.inBlock];simp only[LY]at q;by_cases N:j=id
    .rw[if_pos N];have:(j==id)=true:=by simpa using N
     simp only[this,qCt]at q;exact d .normal r st' a' w' q t
    .rw[if_neg N];have:(j==id)=false:=by simpa using N
     simp only[this,qCf]at q;exact d (.exit j) r st' a' w' q t
   |ret=>exact d .ret r st' a' w' q t
  |.loop c=>λi st a w k x Q B h hd g u hi d=>by
   simp only[aK]at h;simp only[iP]at hd;refine wpIn_loop_rounds n ?_;have key:∀(j:Nat) (st:St) (a:Act) (w:World) (x:α),nM (Skm.aC F.cfg c) (λst' U=>aK T C F n c st' U) j st k=some x->I i x st a w->Code.roundsIn (FW (rd i)) m P c Q j a w:=by
    intro j;induction j with
    |zero=>intro st a w x h;simp[nM]at h
    |succ j V=>
     intro st a w x h hi;rw[E8]at h;rw[roundsIn_succ];refine jG S H c i st a w _ x _ (S.kloop c j k B) h hd (λe=>by simpa[iZ] using g e) (λo A=>u o (by simpa[opsOf] using A)) hi λJ r st' a' w' q t=>?_;cases J with
     |normal=>simp only[Rh,aF]at q;exact V _ a' w' r q (S.forget _ _ _ _ _ _ t)
     |exit id=>exact d (.exit id) r st' a' w' q t
     |ret=>exact d .ret r st' a' w' q t
   exact key n _ a w x h (S.forget _ _ _ _ _ _ hi)
  |.exit id=>λ_ st a w _ x _ _ h _ _ _ i d=>wpIn_exit (d (.exit id) x st a w h i)
  |.ret=>λ_ st a w _ x _ _ h _ _ _ i d=>wpIn_ret (d .ret x st a w h i)
  |.label _=>λ_ st a w _ x _ _ h _ _ _ i d=>wpIn_label (d .normal x st a w h i)
  |.rangeFunc f ps y z=>by
   cases R:ng with
   |false=>exact R▸H R f ps y z (jG S H y) (jG S H z)
   |true=>exact λ_ st a w _ x _ _ _ _ g _ _ _=>by have:=g rfl;simp[iZ]at this
  |.scope c=>λi st a w k x Q B h hd g u hi d=>by
   have h:aK T C F n c st k=some x:=h;simp only[iP]at hd;refine aak (jG S H c i st a w k x _ B h hd (λe=>by simpa[iZ] using g e) (λo A=>u o (by simpa[opsOf] using A)) hi λJ r st' a' w' q t=>?_);cases J with
   |normal=>exact d .normal r st' a' w' q t
   |exit j=>exact d (.exit j) r st' a' w' q t
   |ret=>exact d .ret r st' a' w' q t
  |.goto ..=>λ_ st a w _ x _ _ h _ _ _ i d=>by simp[aK]at h
  |.refuse ..=>λ_ st a w _ x _ _ h _ _ _ i d=>by simp[aK]at h
end
section
variable {P:Program}{T:Tab}{C:aB}{F:FI}{n m:Nat}{α:Type}
abbrev CxN(gl:Option (List (Nat × Obj))):={cx:Cx // zl cx.hp0/\cx.w0.gl=gl}
theorem Fa(ok:bJ P T){gl:Option (List (Nat × Obj))}(j:dS P T gl C)(u:F.cfg.nvars<=ah)(x0:α):WC T C F n P m (λ_:Ex->St->Option α=>True) (λi:CxN gl=>i.1.rd) (λi=>zn i.1) (λi x st a w=>x=x0/\Inv i.1 st a w) where
 reg:=by
  intro i id ops draw st a w k x Q _ h hd V ⟨B,hi⟩ D;have e:∀o∈ops.toList,zn i.1 o:=V;have j:dS P T i.1.w0.gl C:=by rw[i.2.2];exact j
  have H:∀st' a' w',(eF (settle F.cfg ops.toList st') λst'=>k .normal st')=some x->Inv i.1 st' a' w'->Q .normal a' w':=by intro st' a' w' f g;rw[aF]at f;exact D x _ a' w' f ⟨B,g.settle u _⟩
  simp only[aK]at h;obtain⟨h,-⟩:=iK h;cases draw with
  |false=>exact YI ok j i.2.1 h e hi H
  |true=>
   simp only[iP]at hd;cases J:aX F.hides id with
   |none=>rw[J]at h;cases h
   |some hid=>
    rw[J]at h hd;simp only[qBa]at hd;simp only[aF]at h;have i0:=hi.strike (present st.heap (qZ ops.toList ops.toList));have back:∀{y:St->Option α}{st':St}{a':Act}{w':World},Skm.pJ (look (st.strike (present st.heap (qZ ops.toList ops.toList))).heap ah) st' y=some x->Inv i.1 st' a' w'->∃d,y d=some x/\Inv i.1 d a' w':=by
     intro y st' a' w' f g;obtain⟨d,t,q,_⟩:=g.pJ (λU xs he=>by
      have z:=i0;obtain⟨M,β,L,ds,r,e1,e2,e3,fx⟩:=z;obtain⟨b0,g1,p⟩:=e2 ah (qNr _) _ he;cases b0 with
      |box=>exact p.elim
      |arr=>exact p.elim
      |tb=>exact p.elim
      |mp=>exact p.elim
      |br=>exact p.elim
      |log o ys=>cases (show o=U from p);exact⟨ys,g1⟩) f
     exact⟨d,t,q⟩
    cases A:ZO F.cfg.ys ops.toList with
    |none=>rw[A]at h;refine YH ok j hd.1 hd.2 h e i0 λst' a' w' f g=>?_;obtain⟨d,t,q⟩:=back f g;exact D x _ a' w' t ⟨B,q.settle u _⟩
    |some I=>rw[A]at h;refine abM ok j hd.1 hd.2 (Rf A) h e i0 λst' a' w' f g _=>?_;obtain⟨d,t,q⟩:=back f g;exact QY ok j i.2.1 (λS a3 R h3 i3=>D x _ a3 R h3 ⟨B,i3.settle u _⟩) (ops.toList.drop I) I d a' w' (λo Z=>e o (List.mem_of_mem_drop Z)) t q
 forget:=λi _ st a w c h=>⟨h.1,h.2.aC _ _⟩
 cond:=by intro i x st a w c b hi Y;obtain⟨_,M,β,L,ds,r,_⟩:=hi;have N:=r.aP c;rw[Y]at N;exact N.Dh
 kseq:=λ_ _ _=>trivial
 kblock:=λ_ _ _=>trivial
 kloop:=λ_ _ _ _=>trivial
end
end
section
open Go.RowKit
structure Turns (gl:Option (List (Nat × Obj))) (O:Nat->Prop) (W W':World):Prop where
 size:W.heap.size<=W'.heap.size
 keep:∀b,b<W.heap.size->¬O b->W'.heap[b]?=W.heap[b]?
 os:W'.os=W.os
 tape:W'.tape=W.tape
 output:W'.output=W.output
 drawn:gu gl W.drawn W'.drawn
abbrev rM(gl:Option (List (Nat × Obj)))(W W':World):Prop:=Turns gl (λ_=>False) W W'
theorem Turns.trans{gl:Option (List (Nat × Obj))}{O O':Nat->Prop}{A B C:World}(h:Turns gl O A B)(k:Turns gl O' B C)(f:∀b,b<A.heap.size->O' b->O b):Turns gl O A C:=
 ⟨Nat.le_trans h.size k.size,λb e d=>by rw[k.keep b (by have:=h.size;omega) λh'=>d (f b e h'),h.keep b e d],k.os.trans h.os,k.tape.trans h.tape,k.output.trans h.output,h.drawn.trans k.drawn⟩
theorem rM.alloc{gl:Option (List (Nat × Obj))}(W:World)(o:Obj):rM gl W (W.alloc o):=
 ⟨σ,λb d _=>Below.heap_alloc W o b d,rfl,rfl,rfl,.refl _ _⟩
theorem Turns.putObj{gl:Option (List (Nat × Obj))}(W:World)(l:Nat)(o:Obj):Turns gl (λb=>b=l) W (W.putObj l o):=
 ⟨σ,λb _ h=>World.putObj_heap_other h,rfl,rfl,rfl,.refl _ _⟩
def adI(P:Program)(gl:Option (List (Nat × Obj)))(l:Nat)(ak:Array Value)(W:World)(J Jx:(Nat->Prop)->(Nat->Prop)->World->Prop)(O K M:Nat->Prop):Prop:=
 YieldAt (FW none) 0 P l ak W λe W'=>Turns gl O W W'/\∃O' K':Nat->Prop,((e=.returned (.bool true)/\J O' K' W')\/(e=.returned (.bool false)/\Jx O' K' W'))/\(∀b,O' b->O b\/W.heap.size<=b)/\∀b,K' b->K b\/M b\/O b\/(W.heap.size<=b/\b<W'.heap.size)
def Bears(gl:Option (List (Nat × Obj)))(W0:World)(J:(Nat->Prop)->(Nat->Prop)->World->Prop):Prop:=
 ∀(O K:Nat->Prop) (W W':World) (S:Nat->Prop),J O K W->Turns gl S W W'->(∀b,S b->W0.heap.size<=b/\¬O b/\¬K b)->J O K W'
def OQ(P:Program)(gl:Option (List (Nat × Obj)))(g:Nat)(caps xs:List PV):Prop:=
 ∀(W0:World) (M0:Nat->Prop) (l:Nat) (lb:Array Value) (J:List PV->(Nat->Prop)->(Nat->Prop)->World->Prop) (Jx:(Nat->Prop)->(Nat->Prop)->World->Prop) (O0:Nat->Prop),
  (∀p∈gl.getD [],M0 p.1/\W0.heap[p.1]?=some p.2)->lb.size=caps.length->(∀i c,caps[i]?=some c->VR W0 M0 c (lb.getD i undef))->(∀b,M0 b->b<W0.heap.size/\¬O0 b) ->
  (∀r,Bears gl W0 (J r))->Bears gl W0 Jx->(∀r O K W,J r O K W->∀b,O b\/K b->b<W.heap.size) ->
  (∀vs r O K W (M:Nat->Prop) ak,J (.agg vs::r) O K W->W0.heap.size<=W.heap.size->(∀b,M b->b<W.heap.size/\¬O b/\(M0 b\/W0.heap.size<=b))->ak.size=vs.length->(∀i c,vs[i]?=some c->VR W M c (ak.getD i undef)) ->
    adI P gl l ak W (J r) Jx O K M) ->
 J xs O0 (λ_=>False) W0->Calls P g (#[.func (.yield l) #[] #[]]++lb) W0 λe W'=>(∃v,e=.returned v)/\∃O K:Nat->Prop,J [] O K W'\/Jx O K W'
theorem Bears.grows{gl:Option (List (Nat × Obj))}{W0:World}{J:(Nat->Prop)->(Nat->Prop)->World->Prop}(h:Bears gl W0 J){O K:Nat->Prop}{W W':World}(d:J O K W)(g:rM gl W W'):J O K W':=h O K W W' _ d g λ_ h=>h.elim
def GY(P:Program)(T:Tab)(gl:Option (List (Nat × Obj)))(C:aB):Prop:=
 ∀g fi caps r,aX T.funcs g=some fi->iW fi caps.length=true->C g (.AB::caps.map .p) [.log true []]=some r->P.funcs[g]?=some fi.fn/\OQ P gl g caps (rP r.2)
section
variable {w0 w0':Base}{Pr Pr' M0 M0' M M':Nat->Prop}{β β':Nat->Option (Nat × Nat)}{st st':St}{a a':Act}{w w':World}
theorem Rel.to(r:Rel w0 Pr M0 M β st a w)(D:w0'.gl=w0.gl)(z:∀b,M b->M' b/\w'.heap[b]?=w.heap[b]?)
    (u:∀s b o,(look st.heap s).isSome=true->β s=some (b,o)->w'.heap[b]?=w.heap[b]?/\¬M' b/\b<w'.heap.size/\((w0'.heap.size<=b\/Pr' b)/\(w0'.n0<=b\/ah<=s)))
    (dJ:∀b,M' b->b<w'.heap.size)(N:∀b,M' b->M0' b\/(w0'.n0<=b/\(w0'.heap.size<=b\/Pr' b)))(L:∀b,M0' b->M' b)
    (keep:∀b,b<w0'.heap.size->¬Pr' b->w'.heap[b]?=w0'.heap[b]?)(A:∀b n,b<w0'.n0->Pr' b->Room w0'.wd b n->Room w' b n)
    (size:w0'.heap.size<=w'.heap.size)(os:w'.os=w0'.os)(tape:w'.tape=w0'.tape)(output:w'.output=w0'.output):Rel w0' Pr' M0' M' β st a w':=by
  have key:∀(v:AV) (c:Value),AR w M β (look st.heap) v c->AR w' M' β (look st.heap) v c:=λv c h=>h.mono z λs blk _ B=>⟨blk,B,Like.refl _,rfl,λb o n Y U=>U.of_block (u s b o (by rw[B];rfl) Y).1⟩;refine⟨r.mJ,λt v h=>key _ _ (r.env t v h),?_,λs b o S V=>(u s b o S V).2,r.inj,dJ,N,L,keep,A,size,os,tape,output,λp hp=>by rw[D]at hp;exact⟨(z _ (r.glob p hp).1).1,(z _ (r.glob p hp).1).2.trans (r.glob p hp).2⟩⟩;intro s blk B;have hi:(look st.heap s).isSome=true:=by rw[B];rfl
  cases r.heap s blk B with
  |box cs b o C e fr d q g f y g6=>exact .box _ b o C e fr d (by rw[(u s b o hi d).1];exact q) g f y λj c H=>key _ _ (g6 j c H)
  |gJ a ks=>exact .gJ a ks
  |log J ys=>exact .log J ys
  |arr a ks xs b o C e fr d q g f y g6=>exact .arr a ks xs b o C e fr d (by rw[(u s b o hi d).1];exact q) g f y λi x j c R H=>(g6 i x j c R H).mono z
  |tb t c0 c1 b C fr d q g f y g6 g7 Z=>exact .tb t c0 c1 b C fr d (by rw[(u s b 0 hi d).1];exact q) g f y g6 (key _ _ g7) (key _ _ Z)
  |mp t es b o E k d q g f=>exact .mp t es b o E k d (by rw[(u s b o hi d).1];exact q) g λi p e hi I=>⟨(f i p e hi I).1.mono z,(f i p e hi I).2.mono z⟩
  |GX e=>exact .GX e
  |br e xs b C fr d q g f y g6=>exact .br e xs b C fr d (by rw[(u s b 0 hi d).1];exact q) g f y g6
theorem Rel.slots(r:Rel w0 Pr M0 M β st a w){env:List AV}(d:env.length<=a'.tmps.size)(h:∀t v,env[t]?=some v->AR w M β (look st.heap) v (a'.tmps.getD t undef)):Rel w0 Pr M0 M β {st with env:=env} a' w:=
 ⟨d,h,r.heap,r.own,r.inj,r.dJ,r.jH,r.oZ,r.keep,r.room,r.size,r.os,r.tape,r.output,r.glob⟩
theorem Rel.turns(r:Rel w0 Pr M0 M β st a w)(hd:gu w0.gl w0.drawn w.drawn):Turns w0.gl Pr w0.wd w:=⟨r.size,r.keep,r.os,r.tape,r.output,hd⟩
end
theorem NH{d:List Nat}:∀(l:List AV) (k i:Nat) (v:AV),(wG d k l)[i]?=some v->v=.undef\/(l[i]?=some v/\(k+i) ∉ d)
 |[],k,i,v,h=>by simp[wG]at h
 |u::r,k,0,v,h=>by
  simp only[wG,List.getElem?_cons_zero,qOa]at h;cases e:fB k d with
  |true=>rw[e]at h;left;simpa using h.symm
  |false=>rw[e]at h;right;exact⟨by simpa using h,λf=>by rw[jJ.2 (show k∈d from f)]at e;cases e⟩
 |u::r,k,i+1,v,h=>by simp only[wG,List.getElem?_cons_succ]at h;have:=NH r (k+1) i v h;rw[show k+1+i=k+(i+1) from ω]at this;simpa using this
theorem Fb{d:List Nat}:∀(l:List AV) (k:Nat),(wG d k l).length=l.length
 |[],_=>rfl
 |u::r,k=>by simp[wG,Fb r]
theorem adi{w:World}{M:Nat->Prop}{s:Bool × List Kd}{v:PV}{c:Value}(d:aA s.1 s.2 v=true)(h:VR w M v c):VR w M (ZN s v) c:=by
 obtain⟨a,ks⟩:=s;cases a with
 |true=>exact h.written d
 |false=>
  match ks,d with
  |[k],d=>exact yA (by simpa[aA] using d) h
  |[],d=>simp[aA]at d
  |_::_::_,d=>simp[aA]at d
theorem UJ:∀{ss:List (Bool × List Kd)}{ps:List Nat}{vs:List PV}{i:Nat}{env d:List AV},DR ss ps (.agg vs) i env=some d->vs.length=i+ps.length
 |[],[],vs,i,env,d,hs=>by
  simp only[DR]at hs;cases e:Nat.beq (PV.agg vs).cells.length i with
  |false=>rw[e]at hs;cases hs
  |true=>exact Nat.eq_of_beq_eq_true e
 |s::ss,t::ps,vs,i,env,d,hs=>by
  simp only[DR]at hs;cases e:aA s.1 s.2 ((PV.agg vs).cell i)with
  |false=>rw[e]at hs;cases hs
  |true=>rw[e]at hs;have:=UJ hs;simp only[qLl];omega
 |[],_::_,vs,i,env,d,hs=>by simp[DR]at hs
 |_::_,[],vs,i,env,d,hs=>by simp[DR]at hs
theorem YJ{w:World}{M:Nat->Prop}{β:Nat->Option (Nat × Nat)}{h:Nat->Option aH}:∀{ss:List (Bool × List Kd)}{ps:List Nat}{vs:List PV}{i:Nat}{env f:List AV}{cs:List Value}{tmps:Array Value},
    DR ss ps (.agg vs) i env=some f->cs.length=vs.length-i->i<=vs.length->(∀j c,vs[i+j]?=some c->VR w M c (cs.getD j undef)) ->
    env.length<=tmps.size->(∀t v,env[t]?=some v->AR w M β h v (tmps.getD t undef)) ->
    cs.length=ps.length/\f.length=env.length/\(((ps.zip cs).foldl (λtmps (t,a)=>tmps.setIfInBounds t a) tmps).size=tmps.size) /\
    (∀t v,f[t]?=some v->AR w M β h v (((ps.zip cs).foldl (λtmps (t,a)=>tmps.setIfInBounds t a) tmps).getD t undef)) /\
    (∀t,t ∉ ps->((ps.zip cs).foldl (λtmps (t,a)=>tmps.setIfInBounds t a) tmps).getD t undef=tmps.getD t undef)
  |[],[],vs,i,env,f,cs,tmps,hs,hc,hi,hv,hl,he=>by
   simp only[DR]at hs;cases q:Nat.beq (PV.agg vs).cells.length i with
   |false=>rw[q]at hs;cases hs
   |true=>rw[q]at hs;cases hs;have:vs.length=i:=Nat.eq_of_beq_eq_true q;have B:cs=[]:=List.length_eq_zero_iff.1 ω;subst B;exact⟨rfl,rfl,rfl,he,λ_ _=>rfl⟩
  |s::ss,t::ps,vs,i,env,f,cs,tmps,hs,hc,hi,hv,hl,he=>by
   simp only[DR]at hs;cases q:aA s.1 s.2 ((PV.agg vs).cell i)with
   |false=>rw[q]at hs;cases hs
   |true=>
    rw[q]at hs;simp only[qCt]at hs;have A:i<vs.length:=by have:=UJ hs;omega
    match cs,hc with
     |[],hc=>simp at hc;omega
     |c::cs,hc=>
      have r:=hv 0 vs[i] σ;simp only[qLb,List.getElem?_cons_zero,Option.getD_some]at r;have hcell:(PV.agg vs).cell i=vs[i]:=by simp[PV.cell,List.getD,A]
      rw[hcell]at hs q;have y:AR w M β h (.p (ZN s vs[i])) c:=.p _ _ (adi q r);obtain⟨L,J,I,H,D⟩:=YJ (w:=w) (M:=M) (β:=β) (h:=h) (cs:=cs) (tmps:=tmps.setIfInBounds t c) hs (by simp at hc;omega) ω (λj d hd=>by
       have:=hv (j+1) d (by rw[<-hd];congr 1;omega);simpa using this) (by simpa using hl) (λu v g=>by
       by_cases e:u=t
       .subst e;have z:u<env.length:=by have:=(qLa.1 g).1;simpa using this
        rw[List.getElem?_set_self z]at g;cases g;have:(tmps.setIfInBounds u c).getD u undef=c:=by
         have:u<tmps.size:=ω
         simp[this]
        rw[this];exact y
       .rw[List.getElem?_set_ne (Ne.symm e)]at g;have:(tmps.setIfInBounds t c).getD u undef=tmps.getD u undef:=by simp[qAb,qAe (Ne.symm e)]
        rw[this];exact he u v g)
      refine⟨by simp[L],by simpa using J,by simpa using I,H,λu g=>?_⟩;simp only[List.mem_cons,not_or]at g;refine(D u g.2).trans ?_;simp[qAb,qAe (Ne.symm g.1)]
  |[],_::_,vs,i,env,f,cs,tmps,hs,hc,hi,hv,hl,he=>by simp[DR]at hs
  |_::_,[],vs,i,env,f,cs,tmps,hs,hc,hi,hv,hl,he=>by simp[DR]at hs
end
section
open Go.RowKit
variable {M:Nat->Prop}{β:Nat->Option (Nat × Nat)}
section
variable {w0:Base}{Pr M0 M:Nat->Prop}{β:Nat->Option (Nat × Nat)}{st:St}{a:Act}{w:World}
theorem Kt(r:Rel w0 Pr M0 M β st a w)(F:D7)(c:Code):Rel w0 Pr M0 M β (aC F c st) a w/\iU st.heap (aC F c st).heap/\∀b,lM β (aC F c st).heap b->lM β st.heap b:=by
 unfold Skm.aC;split
 .exact⟨r,λs _ b h=>⟨b,h,Like.refl _⟩,λ_ h=>h⟩
 .split
  .exact⟨r,λs _ b h=>⟨b,h,Like.refl _⟩,λ_ h=>h⟩
  .rename_i d sites _;have e:=r.abx (env:=tY d 0 st.env) (yJ _ _) (λt v h=>E5 _ _ _ _ h);exact⟨e.strike _ (λb h=>h) λb h=>.inl h,zi _ _,λb h=>Ko (st:={st with env:=tY d 0 st.env}) h⟩
end
def Dp(cx:Cx)(a':Act)(Ln:List (Nat × Obj))(OJ:List Nat)(l:Nat)(W1:World)(st:St)(O K:Nat->Prop)(W:World)(lp:Loop):Prop:=
 ∃M β,Rel cx.w0 cx.Pr cx.M0 M β st a' W/\(∀s,ah<=s->β s=cx.UC s)/\iU cx.hp0 st.heap/\gu cx.w0.gl cx.w0.drawn W.drawn/\Fix cx M β st.heap a' W Ln OJ /\
  (W.heap[l]?=some (.loop lp)/\¬M l/\¬lM β st.heap l/\(∀p∈Ln,p.1≠l)/\cx.w0.heap.size<=l/\W1.heap.size<=W.heap.size)/\(∀b,O b↔(lM β st.heap b\/b=l)) /\
  ((∀b,M b->b<W1.heap.size\/K b)/\(∀p∈Ln,p.1<W1.heap.size)/\l<W1.heap.size/\∀b,K b->b<W.heap.size)
section
variable {cx:Cx}{a':Act}{Ln:List (Nat × Obj)}{OJ:List Nat}{l:Nat}{W1 W W':World}{st:St}{O K:Nat->Prop}{lp:Loop}
theorem Rel.pU{w0:Base}{Pr M0:Nat->Prop}{a:Act}{w:World}(r:Rel w0 Pr M0 M β st a w){b:Nat}(h:lM β st.heap b):¬M b/\b<w.heap.size/\(w0.heap.size<=b\/Pr b):=by obtain⟨s,o,d,e⟩:=h;obtain⟨i,g,f,_⟩:=r.own s b o d e;grind
theorem Dp.lt(i:Dp cx a' Ln OJ l W1 st O K W lp):∀b,O b->b<W.heap.size:=by
 obtain⟨M,β,r,y,u,e3,t,⟨q,p,j,h4,h5,g⟩,e,f⟩:=i;intro b d;rcases(e b).1 d with h |rfl
 .exact(r.pU h).2.1
 omega
theorem Dp.seen(i:Dp cx a' Ln OJ l W1 st O K W lp):∀b,K b->b<W.heap.size:=by obtain⟨M,β,r,g,f,e3,e,_,d,_,_,_,h⟩:=i;exact h
theorem Dp.bears{S:Nat->Prop}(i:Dp cx a' Ln OJ l W1 st O K W lp)(g:Turns cx.w0.gl S W W')(u:∀b,S b->W1.heap.size<=b/\¬O b/\¬K b):Dp cx a' Ln OJ l W1 st O K W' lp:=by
 obtain⟨M,β,r,e1,e2,e3,H,⟨B,Y,V,h4,h5,U⟩,A,y⟩:=i;obtain⟨n1,n2,z,I⟩:=y;have q:∀b,b<W.heap.size->¬S b->W'.heap[b]?=W.heap[b]?:=λb d f=>g.keep b d f;have e:∀b,b<W1.heap.size->¬S b:=λb d f=>by have:=(u b f).1;omega
 have t:∀b,O b->¬S b:=λb d f=>(u b f).2.1 d;have R:∀b,M b->¬S b:=λb d f=>(n1 b d).elim (λh=>e b h f) λh=>(u b f).2.2 h;have N:l<W.heap.size:=(qAa.1 B).1;have j:=g.size;have J:=r.size
 refine⟨M,β,r.to rfl (λb d=>⟨d,q b (r.dJ b d) (R b d)⟩) (λs b o f d=>?_) (λb d=>Nat.lt_of_lt_of_le (r.dJ b d) j) r.jH r.oZ (λb d hp=>?_) (λb n d hp L=>?_) (Nat.le_trans r.size j) (g.os.trans r.os) (g.tape.trans r.tape) (g.output.trans r.output),
  e1,e2,e3.trans g.drawn,H.less (λp hp=>q p.1 (qAa.1 (H.lies p hp).1).1 (e _ (n2 p hp))) λ_ h=>h,⟨(q l N (e l z)).trans B,Y,V,h4,h5,Nat.le_trans U j⟩,A,n1,n2,z,λb d=>Nat.lt_of_lt_of_le (I b d) j⟩
 .obtain⟨g1,D,Z⟩:=r.own s b o f d;exact⟨q b D (t b ((A b).2 (.inl ⟨s,o,f,d⟩))),g1,Nat.lt_of_lt_of_le D j,Z⟩
 .rw[q b ω (e b ω)];exact r.keep b d hp
 .exact(r.room b n d hp L).of_block (q b (by have:=cx.w0.le';omega) (e b (by have:=cx.w0.le';omega)))
theorem Dp.aC(i:Dp cx a' Ln OJ l W1 st O K W lp)(F:D7)(c:Code):∃O',Dp cx a' Ln OJ l W1 (Skm.aC F c st) O' K W lp/\∀b,O' b->O b:=by obtain⟨M,β,r,A,z,e3,y,⟨u,t,q,h4,h5,p⟩,j,e⟩:=i;obtain⟨f,B,d⟩:=Kt r F c;exact⟨λb=>lM β (Skm.aC F c st).heap b\/b=l,⟨M,β,f,A,z.trans B,e3,y.less (λ_ _=>rfl) d,⟨u,t,λh=>q (d l h),h4,h5,p⟩,λb=>Iff.rfl,e⟩,λb g=>(j b).2 (g.imp (d b) id)⟩
theorem Dp.close(i:Dp cx a' Ln OJ l W1 st O K W lp)(o:Obj):Inv cx st a' (W.putObj l o):=by
 obtain⟨M,β,r,L,J,e3,I,⟨S,A,z,h4,h5,R⟩,N,y⟩:=i;have g:∀b,b≠l->(W.putObj l o).heap[b]?=W.heap[b]?:=λb d=>World.putObj_heap_other d;have f:(W.putObj l o).heap.size=W.heap.size:=World.putObj_size;have t:=r.size
 refine⟨M,β,Ln,OJ,r.to rfl (λb d=>⟨d,g b λe=>A (e▸d)⟩) (λs b j q d=>?_) (λb d=>by rw[f];exact r.dJ b d) r.jH r.oZ (λb d hp=>?_) (λb n d hp u=>?_) (by rw[f];exact r.size) r.os r.tape r.output,
  L,J,e3,I.less (λp hp=>g p.1 (h4 p hp)) λ_ h=>h⟩
 .obtain⟨H,D,B⟩:=r.own s b j q d;exact⟨g b λe=>z (e▸⟨s,j,q,d⟩),H,by rw[f];exact D,B⟩
 .rw[g b ω];exact r.keep b d hp
 .exact(r.room b n d hp u).of_block (g b (by have:=cx.w0.le';omega))
structure ahX (cx Oh:Cx) (M:Nat->Prop) (a':Act) (Ln:List (Nat × Obj)) (ws:List Nat) (l:Nat) (W:World) (O:Nat->Prop):Prop where
 n0:Oh.w0.n0=cx.w0.n0
 gl:Oh.w0.gl=cx.w0.gl
 turns:Turns cx.w0.gl O W Oh.w0.wd
 pr:∀b,Oh.Pr b->O b\/W.heap.size<=b
 jH:∀b,Oh.M0 b->cx.M0 b\/(cx.w0.n0<=b/\(cx.w0.heap.size<=b\/cx.Pr b))
 room:∀b n,b<cx.w0.n0->O b->Room W b n->Room Oh.w0.wd b n
 oZ:∀b,M b->Oh.M0 b
 UC:Oh.UC=cx.UC
 hp0:Oh.hp0=cx.hp0
 wr:Oh.Wr=λt=>t∈ws
 size:Oh.t0.size=a'.tmps.size
 t0:∀t,t ∉ ws->Oh.t0.getD t undef=a'.tmps.getD t undef
 L0:∀p∈Ln,p∈Oh.L0
theorem Dp.round(r:Rel cx.w0 cx.Pr cx.M0 M β st a' W)(z:Fix cx M β st.heap a' W Ln OJ)(hcd:gu cx.w0.gl cx.w0.drawn W.drawn)(h4:∀p∈Ln,p.1≠l)(h5:cx.w0.heap.size<=l)(h6:W1.heap.size<=W.heap.size)
    (hO:∀b,O b↔(lM β st.heap b\/b=l)){y:Cx}{J:List Nat}(sb:ahX cx y M a' Ln J l W O){lb:Obj}(hlb:(l,lb)∈y.L0){q:St}{R:Act}{W3:World}(i:Inv y q R W3)(f:Loop)
    (hL1:∀p∈Ln,p.1<W1.heap.size)(hl1:l<W1.heap.size){K':Nat->Prop}(hK1:∀b,y.M0 b->b<W1.heap.size\/K' b)(hK2:∀b,O b->K' b)(hK3:∀b,W.heap.size<=b->b<W3.heap.size->K' b)(hK4:∀b,K' b->b<W3.heap.size) :
    W3.heap[l]?=some lb/\∃O',Dp cx a' Ln OJ l W1 (back J q) O' K' (W3.putObj l (.loop f)) f/\(∀b,O' b->O b\/W.heap.size<=b)/\Turns cx.w0.gl O W (W3.putObj l (.loop f)):=by
  obtain⟨M3,B,L3,ds3,j,i1,i2,i3,H⟩:=i;obtain⟨k1,k2,k3⟩:=H.lies _ (H.sub _ hlb);have hl3:l<W3.heap.size:=(qAa.1 k1).1;have I:∀b,b≠l->(W3.putObj l (.loop f)).heap[b]?=W3.heap[b]?:=λb d=>World.putObj_heap_other d;have u:(W3.putObj l (.loop f)).heap.size=W3.heap.size:=World.putObj_size;have hrs:=r.size;have Y:=sb.turns.size;have hr3:=j.size;have X5:W.heap.size<=y.w0.heap.size:=Y;have g:Turns cx.w0.gl O W W3:=sb.turns.trans (sb.gl▸j.turns i3) λb d hp=>by rcases sb.pr b hp with h |h;all_goals omega
  have V:Turns cx.w0.gl O W (W3.putObj l (.loop f)):=g.trans (Turns.putObj W3 l _) λb _ d=>(hO b).2 (.inr d);have A:∀b,(y.w0.heap.size<=b\/y.Pr b)->O b\/W.heap.size<=b:=λb h=>by
   rcases h with h |h
   .right;omega
   .exact sb.pr b h
  have hO':∀b,O b->cx.w0.heap.size<=b\/cx.Pr b:=λb h=>by
   rcases(hO b).1 h with h |rfl
   .exact(r.pU h).2.2
   omega
  have U:∀b,(y.w0.heap.size<=b\/y.Pr b)->cx.w0.heap.size<=b\/cx.Pr b:=λb h=>θ
  have S:Rel cx.w0 cx.Pr cx.M0 M3 B q R (W3.putObj l (.loop f)):=by
   refine j.to sb.gl.symm (λb d=>⟨d,I b λe=>k3 (e▸d)⟩) (λs b o L d=>?_) (λb d=>by rw[u];exact j.dJ b d) (λb d=>?_) (λb d=>j.oZ b (sb.oZ b (r.oZ b d))) (λb d hp=>?_) (λb n d hp hr=>?_) (by rw[u];omega)
    (g.os.trans r.os) (g.tape.trans r.tape) (g.output.trans r.output)
   .obtain⟨g1,g2,g3,g4⟩:=j.own s b o L d;exact⟨I b λe=>k2 (e▸⟨s,o,L,d⟩),g1,by rw[u];exact g2,U b g3,by rw[<-sb.n0];exact g4⟩
   .rcases j.jH b d with h |⟨h,h'⟩
    .exact sb.jH b h
    grind[sb.n0]
   .have Z:¬O b:=λh=>θ
    rw[I b ω,g.keep b ω Z];exact r.keep b d hp
   .have h0:=r.room b n d hp hr;have hle:=cx.w0.le';have N:Room y.w0.wd b n:=by
     by_cases ho:O b
     .exact sb.room b n d ho h0
     .exact h0.of_block (sb.turns.keep b ω ho)
    have D:Room W3 b n:=by
     by_cases hp':y.Pr b
     .exact j.room b n (by rw[sb.n0];exact d) hp' N
     .exact N.of_block (j.keep b ω hp')
    exact D.of_block (I b ω)
  have hsize:R.tmps.size=a'.tmps.size:=H.size.trans sb.size;have rs:=S.slots (a':=a') (env:=wG J 0 q.env) (by rw[Fb,<-hsize];exact S.mJ) λt v hv=>by
   rcases NH _ _ _ _ hv with rfl |⟨N,D⟩
   .exact .undef _
   .have D:t ∉ J:=by simpa using D
    have e:R.tmps.getD t undef=a'.tmps.getD t undef:=(H.tmps t (by rw[sb.wr];exact D)).trans (sb.t0 t D);rw[<-e];exact S.env t v N
  refine⟨k1,λb=>lM B q.heap b\/b=l,⟨M3,B,rs,λs L=>(i1 s L).trans (by rw[sb.UC]),by rw[<-sb.hp0];exact i2,hcd.trans g.drawn,⟨λp hp=>?_,z.sub,z.marks,z.nodup,z.mark,z.rd,z.size,z.tmps,z.one,z.yl,z.nml⟩,
   ⟨World.putObj_heap_same hl3,k3,k2,h4,h5,Nat.le_trans h6 (by rw[u];omega)⟩,λb=>Iff.rfl,λb d=>?_,hL1,hl1,λb d=>by rw[u];exact hK4 b d⟩,λb d=>?_,V⟩
  .obtain⟨g1,g2,g3⟩:=H.lies p (H.sub p (sb.L0 p hp));exact⟨(I p.1 (h4 p hp)).trans g1,g2,g3⟩
  .rcases j.jH b d with h |⟨_,h⟩
   .exact hK1 b h
   .rcases A b h with h |h
    .grind
    .exact .inr (hK3 b h (j.dJ b d))
  .rcases d with h |rfl
   .exact A b (j.pU h).2.2
   grind
end
end
section
open Go.RowKit
variable {ps:Array Tmp}
section
variable {T:Tab}{C:aB}{F:FI}{n:Nat}{α:Type}
theorem WE:∀c:Code,kZ c=true->∀(st:St) (k d:Ex->St->Option α),k .normal=d .normal->aK T C F n c st k=aK T C F n c st d
 |.skip,_,st,k,d,h=>by simp only[aK,h]
 |.region id ops draw,_,st,k,d,h=>by cases draw<;>simp only[aK,h]
 |.seq y z,hp,st,k,d,h=>by simp only[kZ,qBa]at hp;rw[zq,zq];refine WE y hp.1 st _ _ ?_;funext st';exact WE z hp.2 _ k d h
 |.cond ..,hp,_,_,_,_ |.block ..,hp,_,_,_,_ |.loop ..,hp,_,_,_,_ |.exit ..,hp,_,_,_,_ |.ret,hp,_,_,_,_ |.label ..,hp,_,_,_,_
 |.rangeFunc ..,hp,_,_,_,_ |.scope ..,hp,_,_,_,_ |.goto ..,hp,_,_,_,_ |.refuse ..,hp,_,_,_,_=>by simp[kZ]at hp
def yK(T:Tab)(C:aB)(F:FI)(n:Nat)(y z:Code)(st:St)(k:Ex->St->Option α):Option α:=aK T C F n y st (aal T C F n z k)
def kE(ps:Array Tmp)(y z:Code):List Nat:=ps.toList++(fV y++fV z)
theorem uj{f:Operand}{y z:Code}{st:St}{k:Ex->St->Option α}{x:α}(h:aK T C F n (.rangeFunc f ps y z) st k=some x) :
    ∃g d fi r,aP st.env f=.p (.fn g d)/\aX T.funcs g=some fi/\kZ y=true/\iW fi d.length=true/\C g (.AB::d.map .p) [.log true []]=some r /\
     jq (aC F.cfg (.seq y z)) fi.cfg.yk ps.toList (kE ps y z) (yK T C F n y z) (rP r.2) (aC F.cfg (.seq y z) st) k=some x:=by
  simp only[aK]at h;obtain⟨h,-⟩:=iK h;split at h
  .rename_i g d i;split at h
   .rename_i fi q hp;cases e:iW fi d.length with
    |false=>rw[e]at h;cases h
    |true=>
     rw[e]at h;simp only[qCt]at h;split at h
     .rename_i r j;exact⟨g,d,fi,r,i,q,hp,e,j,h⟩
     .cases h
   .cases h
  .cases h
theorem SN{cs:Array Value}{t:Array Value}:(ps.zip cs).foldl (λtmps (t,a)=>tmps.setIfInBounds t a) t=(ps.toList.zip cs.toList).foldl (λtmps (t,a)=>tmps.setIfInBounds t a) t:=by rw[<-Array.foldl_toList,Array.toList_zip]
end
section
variable {cx:Cx}{a':Act}{Ln:List (Nat × Obj)}{OJ:List Nat}{l:Nat}{W1 W W':World}{st:St}{O:Nat->Prop}{lp:Loop}{P:Program}
def cx1(cx:Cx)(le:cx.w0.n0<=W.heap.size)(O M1:Nat->Prop)(ws:List Nat)(tmps:Array Value)(l:Nat)(L0:List (Nat × Obj)):Cx:=
 {w0:=⟨W,cx.w0.n0,le,cx.w0.gl⟩,Pr:=O,M0:=M1,UC:=cx.UC,hp0:=cx.hp0,Wr:=λt=>t∈ws,t0:=tmps,rd:=some l,L0:=L0,nm:=cx.nm}
theorem Inv.busy{d:Cx}{A:St}{a1:Act}{j:World}{lo:Obj}(i:Inv d A a1 j)(hl:(l,lo)∈d.L0)(ho:∀V,lo≠.deferred V)(hrd:d.rd=some l)(lp:Loop)(U:∀p∈Ln,p∈d.L0/\p.1≠l)(ws:List Nat)(_hw:d.Wr=λt=>t∈ws)(J:d.Pr l)(hlt:l<d.w0.heap.size) :
    j.heap[l]?=some lo/\∃g:Cx,Inv g A a1 (j.putObj l (.loop lp))/\g.w0.n0=d.w0.n0/\g.w0.gl=d.w0.gl/\g.w0.wd=j.putObj l (.loop lp)/\Turns d.w0.gl d.Pr d.w0.wd g.w0.wd/\(∀b,g.Pr b->d.w0.heap.size<=b\/d.Pr b)/\(∀b,g.M0 b->d.M0 b\/(d.w0.n0<=b/\(d.w0.heap.size<=b\/d.Pr b))) /\
     (∀b n,b<d.w0.n0->d.Pr b->b≠l->Room d.w0.wd b n->Room g.w0.wd b n)/\(∀b,d.M0 b->g.M0 b)/\g.UC=d.UC/\g.hp0=d.hp0/\g.Wr=d.Wr/\g.t0=d.t0/\g.rd=some l/\(l,Obj.loop lp)∈g.L0/\(∀p∈Ln,p∈g.L0)/\(g.Ys=λ_=>False):=by
  obtain⟨M,β,L,V,r,i1,i2,i3,u⟩:=i;obtain⟨k1,Z,Y⟩:=u.lies _ (u.sub _ hl);refine⟨k1,?_⟩;have R:l<j.heap.size:=(qAa.1 k1).1;have S:∀b,b≠l->(j.putObj l (.loop lp)).heap[b]?=j.heap[b]?:=λb f=>World.putObj_heap_other f;have z:(j.putObj l (.loop lp)).heap.size=j.heap.size:=World.putObj_size;have hrs:=r.size;have hn:=d.w0.le';have ht:Turns d.w0.gl d.Pr d.w0.wd (j.putObj l (.loop lp)):=(r.turns i3).trans (Turns.putObj j l _) λb _ f=>by rw[show b=l from f];exact J
  let L2:List (Nat × Obj):=(l,.loop lp)::L.filter λp=>p.1 != l;have y:∀p,p∈L->p.1≠l->p∈L2:=λp hp q=>List.mem_cons_of_mem _ (List.mem_filter.2 ⟨hp,by simpa using q⟩);refine⟨{w0:=⟨j.putObj l (.loop lp),d.w0.n0,by rw[z];omega,d.w0.gl⟩,Pr:=λb=>lM β A.heap b\/b=l,M0:=M,UC:=d.UC,hp0:=d.hp0,Wr:=d.Wr,t0:=d.t0,rd:=some l,L0:=L2,nm:=d.nm},?_,rfl,rfl,rfl,ht,λb f=>?_,r.jH,λb n f hp q hr=>(r.room b n f hp hr).of_block (S b q),r.oZ,rfl,rfl,rfl,rfl,rfl,by simp[L2],λp hp=>?_,rfl⟩
  .refine⟨M,β,L2,V,r.to rfl (λb f=>⟨f,S b λe=>Y (e▸f)⟩) (λs b o I f=>?_) (λb f=>by rw[z];exact r.dJ b f) (λb f=>.inl f) (λb f=>f) (λ_ _ _=>rfl) (λ_ _ _ _ h=>h) (qNr _) rfl rfl rfl,i1,i2,.refl _ _,⟨λp hp=>?_,λp hp=>hp,u.marks,u.nodup,λD hD=>?_,λl' hl'=>?_,u.size,u.tmps,u.one,λ_ h=>h.elim,by show d.nm<=(j.putObj l (.loop lp)).heap.size;rw[z];have:=u.nml;omega⟩⟩
   .obtain⟨B,H,g3,g4⟩:=r.own s b o I f;exact⟨S b λe=>Z (e▸⟨s,o,I,f⟩),B,by rw[z];exact H,.inr (.inl ⟨s,o,I,f⟩),g4⟩
   .rcases List.mem_cons.1 hp with rfl |hp
    .exact⟨World.putObj_heap_same R,Z,Y⟩
    .obtain⟨N,hp2⟩:=List.mem_filter.1 hp;obtain⟨B,H,g3⟩:=u.lies p N;grind
   .obtain⟨B,H,_⟩:=u.mark D hD;suffices q:D≠l from⟨y _ B q,H,.inl (y _ B q)⟩;intro e;have:=(u.lies _ B).1;grind
   grind
  .rcases f with h |rfl
   .exact(r.pU h).2.2
   grind
  .obtain⟨h1,h2⟩:=U p hp;exact y p (u.sub p h1) h2
end
end
section
open Go.RowKit
section
variable {P:Program}{T:Tab}{C:aB}{F:FI}{n m:Nat}{α:Type}{cx:Cx}{st:St}{a:Act}{w:World}
theorem lG:∀{c:Code}{o:Oper}{d:Nat},o∈opsOf c->o.dst=some d->d∈fV c
 |.region id ops draw,o,d,ho,hd=>by simp only[fV,List.mem_filterMap];exact⟨o,ho,hd⟩
 |.seq a b,o,d,ho,hd=>by simp only[opsOf,List.mem_append]at ho;simp only[fV,List.mem_append];exact ho.imp (λh=>lG h hd) λh=>lG h hd
 |.cond _ a b,o,d,ho,hd=>by simp only[opsOf,List.mem_append]at ho;simp only[fV,List.mem_append];exact ho.imp (λh=>lG h hd) λh=>lG h hd
 |.block _ c,o,d,ho,hd=>by simp only[opsOf]at ho;simp only[fV];exact lG ho hd
 |.loop c,o,d,ho,hd=>by simp only[opsOf]at ho;simp only[fV];exact lG ho hd
 |.scope c,o,d,ho,hd=>by simp only[opsOf]at ho;simp only[fV];exact lG ho hd
 |.rangeFunc _ ps a b,o,d,ho,hd=>by simp only[opsOf,List.mem_append]at ho;simp only[fV,List.mem_append];exact .inr (ho.imp (λh=>lG h hd) λh=>lG h hd)
 |.skip,o,d,ho,_ |.exit _,o,d,ho,_ |.ret,o,d,ho,_ |.label _,o,d,ho,_ |.goto ..,o,d,ho,_ |.refuse ..,o,d,ho,_=>by simp[opsOf]at ho
theorem aan{M:Nat->Prop}{β:Nat->Option (Nat × Nat)}{L:List (Nat × Obj)}{ds:List Nat}(r:Rel cx.w0 cx.Pr cx.M0 M β st a w)(i1:∀s,ah<=s->β s=cx.UC s)(i2:iU cx.hp0 st.heap)(i3:gu cx.w0.gl cx.w0.drawn w.drawn)(d:Fix cx M β st.heap a w L ds)(U:zl cx.hp0)(fn:FuncId)(ps:Array Tmp)(y z:Code) :
    ∃(l:Nat) (mark:List Deferred) (W1:World) (dB:Nat) (Ln:List (Nat × Obj)) (OJ:List Nat),(Instr.enterLoop fn a.tmps ps y z cx.rd).run P w=.ok (l,mark) W1/\rM cx.w0.gl w W1 /\
     ∀(F:D7) (c:Code),∃O,Dp cx {a with defers:=mark++a.defers} Ln OJ l W1 (aC F c st) O (λ_=>False) W1 {state:=.ready,pending:=none,fn,tmps:=a.tmps,params:=ps,assign:=y,body:=z,defers:=dB}/\(∀b,M b->¬O b)/\∀p∈Ln,p.1<W1.heap.size/\¬M p.1:=by
  have R:=r.size;have hn:=cx.w0.le'
  have I:∀(W1:World) (l:Nat) (mark:List Deferred) (Ln:List (Nat × Obj)) (OJ:List Nat) (lp:Loop),rM cx.w0.gl w W1->w.heap.size<=l->W1.heap[l]?=some (.loop lp)->(∀p∈Ln,W1.heap[p.1]?=some p.2/\p.1≠l/\(p∈L\/w.heap.size<=p.1))->(∀p∈L,p∈Ln) ->
      mark++a.defers=OJ.map qc->OJ.Nodup->(∀D∈OJ,(D,Obj.deferred (some []))∈Ln/\cx.nm<=D/\((D,Obj.deferred (some []))∈cx.L0\/cx.w0.heap.size<=D))->∀(F:D7) (c:Code),∃O,Dp cx {a with defers:=mark++a.defers} Ln OJ l W1 (aC F c st) O (λ_=>False) W1 lp/\(∀b,M b->¬O b)/\∀p∈Ln,p.1<W1.heap.size/\¬M p.1:=by
    intro W1 l mark Ln OJ lp g hl A j t hm V Y F c;have B:=g.size;have hk:∀b,b<w.heap.size->W1.heap[b]?=w.heap[b]?:=λb e=>g.keep b e λh=>h;have N:Rel cx.w0 cx.Pr cx.M0 M β st a W1:=by
     refine r.to rfl (λb e=>⟨e,hk b (r.dJ b e)⟩) (λs b o hs e=>?_) (λb e=>Nat.lt_of_lt_of_le (r.dJ b e) B) r.jH r.oZ (λb e hp=>?_) (λb n e hp hr=>?_) (Nat.le_trans r.size B) (g.os.trans r.os) (g.tape.trans r.tape) (g.output.trans r.output)
     .obtain⟨H,g2,f⟩:=r.own s b o hs e;grind
     .rw[hk b ω];exact r.keep b e hp
     .exact(r.room b n e hp hr).of_block (hk b ω)
    have ra:=N.slots (a':={a with defers:=mark++a.defers}) (env:=st.env) N.mJ N.env;obtain⟨rf,af,i⟩:=Kt ra F c;have hMl:¬M l:=λh=>by have:=r.dJ l h;omega
    have hOl:¬lM β st.heap l:=λh=>by have:=(r.pU h).2.1;omega
    refine⟨λb=>lM β (aC F c st).heap b\/b=l,⟨M,β,rf,i1,i2.trans af,i3.trans g.drawn,⟨λp hp=>?_,λp hp=>t p (d.sub p hp),hm,V,Y,λl' Z=>?_,d.size,d.tmps,λh=>absurd U h,d.yl,d.nml⟩,⟨A,hMl,λh=>hOl (i l h),λp hp=>(j p hp).2.1,ω,qNr _⟩,λb=>Iff.rfl,λb e=>.inl (by have:=r.dJ b e;omega),λp hp=>(qAa.1 (j p hp).1).1,(qAa.1 A).1,λ_ h=>h.elim⟩,λb e ho=>?_,λp hp=>?_⟩
    .obtain⟨H,g2,f⟩:=j p hp;rcases f with f |f
     .obtain⟨k1,k2,k3⟩:=d.lies p f;exact⟨H,λh=>k2 (i _ h),k3⟩
     .exact⟨H,λh=>by have:=(r.pU (i _ h)).2.1;omega,λh=>by have:=r.dJ _ h;omega⟩
    .obtain⟨r0,u⟩:=d.rd l' Z;grind
    .rcases ho with h |rfl
     .exact(r.pU (i b h)).1 e
     grind
    .obtain⟨H,g2,f⟩:=j p hp;refine⟨(qAa.1 H).1,λh=>?_⟩;rcases f with f |f
     .exact(d.lies p f).2.2 h
     .have:=r.dJ _ h;omega
  have q:∀p∈L,p.1<w.heap.size:=λp hp=>(qAa.1 (d.lies p hp).1).1;cases S:cx.rd with
  |none=>
   refine⟨_,_,_,w.heap.size,(w.heap.size,.deferred (some []))::L,w.heap.size::ds,run_enterLoop_outer fn a.tmps ps y z,(rM.alloc w _).trans (rM.alloc _ _) (λ_ _ h=>h),?_⟩;refine I _ _ _ _ _ _ ((rM.alloc w _).trans (rM.alloc _ _) (λ_ _ h=>h)) ω ?_ (λp hp=>?_) (λp hp=>List.mem_cons_of_mem _ hp) (by rw[d.marks];rfl) ?_ λD J=>?_
   .have:=World.alloc_heap_new (w.alloc (.deferred (some []))) (.loop {state:=.ready,pending:=none,fn,tmps:=a.tmps,params:=ps,assign:=y,body:=z,defers:=w.heap.size});grind[World.size_alloc]
   .rcases List.mem_cons.1 hp with rfl |hp
    .exact⟨(Below.heap_alloc _ _ _ σ).trans (World.alloc_heap_new w _),σ,.inr (qNr _)⟩
    .have:=q p hp;refine⟨?_,ω,.inl hp⟩;rw[Below.heap_alloc _ _ _ (by simp;omega),Below.heap_alloc _ _ _ this];exact(d.lies p hp).1
   .refine List.nodup_cons.2 ⟨λh=>?_,d.nodup⟩;have:=q _ (d.mark _ h).1;omega
   .rcases List.mem_cons.1 J with rfl |J
    .exact⟨σ,by have:=d.nml;omega,.inr R⟩
    .exact⟨List.mem_cons_of_mem _ (d.mark D J).1,(d.mark D J).2⟩
  |some l0=>obtain⟨r0,u⟩:=d.rd l0 S;refine⟨_,_,_,r0.defers,L,ds,run_enterLoop_inner (d.lies _ u).1 fn a.tmps ps y z,rM.alloc w _,?_⟩;refine I _ _ _ _ _ _ (rM.alloc w _) (qNr _) (World.alloc_heap_new w _) (λp hp=>?_) (λp hp=>hp) (by rw[d.marks];rfl) d.nodup d.mark;have:=q p hp;exact⟨(Below.heap_alloc _ _ _ this).trans (d.lies p hp).1,ω,.inl hp⟩
def Ex.code:Ex->Code
 |.normal=>.skip
 |.exit id=>.exit id
 |.ret=>.ret
theorem LZ(ok:bJ P T){gl:Option (List (Nat × Obj))}(hS:GY P T gl C){x0:α}{f:Operand}{ps:Array Tmp}{y z:Code}
    (hy:aam T C F n false P 0 (λ_:Ex->St->Option α=>True) (λi:CxN gl=>i.1.rd) (λi=>zn i.1) (λi x st a w=>x=x0/\Inv i.1 st a w) y)
    (hz:aam T C F n false P 0 (λ_:Ex->St->Option α=>True) (λi:CxN gl=>i.1.rd) (λi=>zn i.1) (λi x st a w=>x=x0/\Inv i.1 st a w) z) :
    aam T C F n false P 0 (λ_:Ex->St->Option α=>True) (λi:CxN gl=>i.1.rd) (λi=>zn i.1) (λi x st a w=>x=x0/\Inv i.1 st a w) (.rangeFunc f ps y z):=by
  intro ⟨cx,hnl,B⟩ st a w k x Q _ h hd _ hw hi hQ;simp only at hw hi hQ ⊢;obtain⟨g,Y,fi,res,hv,hf,hpy,hpb,hcall,h⟩:=uj h;simp only[iP,qBa]at hd;obtain⟨hfun,hit⟩:=hS g fi Y res hf hpb hcall;obtain⟨hx0,M,β,L,ds,r,i1,i2,i3,fx⟩:=hi;subst hx0;have hev:=r.aP f;rw[hv]at hev;obtain⟨lb,hlb,arh,amo⟩:∃ lb:Array Value,a.eval f=.func (.func g) #[] lb/\lb.size=Y.length/\∀ i c,Y[i]?=some c->VR w M c (lb.getD i undef):=by
   generalize a.eval f=c at hev;cases hev with
   | p _ _ WS=>cases WS with | fn _ _ vs hn hc=>exact⟨vs,rfl,hn,hc⟩
  have hbody:∃ c,fi.fn.body=some c:=by grind[iW]
  refine wpIn_rangeFunc λfn _=>?_;obtain⟨l,mark,W1,dB,Ln,OJ,hrun,hg,hfin⟩:=aan (P:=P) r i1 i2 i3 fx hnl fn ps y z;obtain⟨O0,hI0,hMO,auG⟩:=hfin F.cfg (.seq y z);refine⟨l,mark,W1,{target:=.fn (.func g) lb,args:=#[.func (.yield l) #[] #[]]},W1,g,#[.func (.yield l) #[] #[]]++lb,W1,hrun,?_,λ_ _=>trivial,?_,uo cx.rd,?_⟩
  . simp_all[resolve,go_sem]
  . simp only[invoke];exact BK ok hf hbody _
  refine bW _ ?_;generalize u:({state:=.ready,pending:=none,fn,tmps:=a.tmps,params:=ps,assign:=y,body:=z,defers:=dB}:Loop)=rec at hI0;generalize ha':({a with defers:=mark++a.defers}:Act)=a' at hI0;have hat:a'.tmps=a.tmps:=by rw[<- ha']
  let J:List PV->(Nat->Prop)->(Nat->Prop)->World->Prop:=λr O K W=>∃ st,jq (aC F.cfg (.seq y z)) fi.cfg.yk ps.toList (kE ps y z) (yK T C F n y z) r st k=some x/\Dp cx a' Ln OJ l W1 st O K W rec;let Jx:(Nat->Prop)->(Nat->Prop)->World->Prop:=λO K W=>∃(N:Ex) (st:St),k N st=some x/\(N=.ret\/∃ id,N=.exit id)/\Dp cx a' Ln OJ l W1 st O K W {rec with state:=.done,pending:=some N.code};have hW1:cx.w0.n0<=W1.heap.size:=by have:=hg.size;have:=r.size;have:=cx.w0.le';omega
  refine Calls.mono (hit W1 M l lb J Jx O0 (λp hp=>by rw[<- B]at hp;exact⟨(r.glob p hp).1,(hg.keep _ (r.dJ _ (r.glob p hp).1) λh=>h).trans (r.glob p hp).2⟩) arh (λi c hc=>(amo i c hc).mono λb q=>⟨q,hg.keep b (r.dJ b q) λh=>h⟩) (λb q=>⟨Nat.lt_of_lt_of_le (r.dJ b q) hg.size,hMO b q⟩)
   (λr O K W W' S ⟨st,A,H⟩ g hS=>⟨st,A,H.bears (B▸g) hS⟩) (λO K W W' S ⟨N,st,A,H,h3⟩ g hS=>⟨N,st,A,H,h3.bears (B▸g) hS⟩) (λr O K W ⟨st,A,H⟩ b q=>q.elim (H.lt b) (H.seen b)) ?_ ⟨_,h,hI0⟩) ?_
  . -- one round
    rintro vs xs O K W Mi ak ⟨st,A,H⟩ auH hMi hcn hcv;clear h hI0 amo i1 i2 i3 fx hv;simp only[jq]at A;split at A
    . cases A
    rename_i env henv;rw[aF]at A;obtain⟨M',β',r',e1,e2,e3,f',⟨k1,k2,k3,k4,k5,k6⟩,hO,nK1,nK2,nK3,nK4⟩:=H;have hl:l<W.heap.size:=(qAa.1 k1).1;have arj:=r'.size;have Ze:∀ b,O b->b<W.heap.size:=λb q=>by
     rcases(hO b).1 q with h | rfl
     . exact(r'.pU h).2.1
     . exact hl
    let M1:Nat->Prop:=λb=>M' b\/Mi b;have auL:∀ b,M1 b->¬ O b:=λb q Z=>by
     rcases q with q | q
     . rcases(hO b).1 Z with h | rfl
       . exact(r'.pU h).1 q
       . exact k2 q
     grind
    have hle:cx.w0.n0<=W.heap.size:=by have:=cx.w0.le';omega
    have r1:Rel ⟨W,cx.w0.n0,hle,cx.w0.gl⟩ O M1 M1 β' st a' W:=by
     refine r'.to rfl (λb q=>⟨.inl q,rfl⟩) (λs b o hs q=>?_) (λb q=>?_) (λb q=>.inl q) (λb q=>q) (λ_ _ _=>rfl) (λ_ _ _ _ h=>h) (qNr _) rfl rfl rfl
     . obtain⟨g1,g2,g3,g4⟩:=r'.own s b o hs q;have Z:O b:=(hO b).2 (.inl ⟨s,o,hs,q⟩);grind
     grind
    obtain⟨p1,p2,p3,p4,p5⟩:=YJ (w:=W) (M:=M1) (β:=β') (h:=look st.heap) (cs:=ak.toList) (tmps:=a'.tmps) henv (by simp[hcn]) (Nat.zero_le _) (λj c hc=>by
     have:=hcv j c (by simpa using hc);have e:ak.toList.getD j undef=ak.getD j undef:=by simp[qLb,qAb]
     rw[e];exact this.mono λb q=>⟨.inr q,rfl⟩) r1.mJ r1.env
    have hyl:=run_yield (P:=P) (args:=ak) k1 (by rw[<- u];simpa using p1);rw[<- SN]at p3 p4 p5;have etm:rec.tmps=a'.tmps:=by rw[<- u,hat]
    have eps:rec.params=ps:=by rw[<- u]
    rw[eps,etm]at hyl;generalize htm:(ps.zip ak).foldl (λtmps (t,a)=>tmps.setIfInBounds t a) a'.tmps=tmps at p3 p4 p5 hyl;have eas:rec.assign=y:=by rw[<- u]
    have ebo:rec.body=z:=by rw[<- u]
    have est:rec.state=.ready:=by rw[<- u]
    have epe:rec.pending=none:=by rw[<- u]
    rw[eas,ebo]at hyl;refine⟨rec.fn,tmps,y,z,hyl,roundIn_of_wpIn trivial ?_⟩;let cA:Cx:=cx1 cx hle O M1 (kE ps y z) tmps l ((l,.loop rec)::Ln);have hIA:Inv cA {st with env:=env} {tmps:=tmps,defers:=[]} W:=by
     refine⟨M1,β',(l,.loop rec)::Ln,[],r1.slots (a':={tmps:=tmps,defers:=[]}) (by rw[p2];show st.env.length<=tmps.size;rw[p3];exact r1.mJ) p4,e1,e2,.refl _ _,⟨λp hp=>?_,λp hp=>hp,rfl,List.nodup_nil,λD hD=>by simp at hD,λl' hl'=>?_,rfl,λ_ _=>rfl,λ_=>rfl,λ_ h=>h.elim,Nat.le_trans f'.nml arj⟩⟩
     . rcases List.mem_cons.1 hp with rfl | hp
       . grind
       . obtain⟨g1,g2,g3⟩:=f'.lies p hp;grind
     . cases hl';simp
    have hdst:(∀ o∈opsOf y,zn cA o)/\∀ o∈opsOf z,∀ d,o.dst=some d->d∈kE ps y z:=⟨λo Z=>⟨λd hd=>by have:=lG Z hd;show d∈kE ps y z;simp[kE,this],λ_ _ h=>h.elim⟩,λo Z d hd=>by have:=lG Z hd;simp[kE,this]⟩;let kr:Ex->St->Option α:=pK (aC F.cfg (.seq y z)) (kE ps y z) (λst=>jq (aC F.cfg (.seq y z)) fi.cfg.yk ps.toList (kE ps y z) (yK T C F n y z) xs st k) k;let kn:Ex->St->Option α:=λN st'=>match N with
        | .normal=>aal T C F n z kr .normal st'
        | _=>none
    have h1':aK T C F n y {st with env:=env} kn=some _:=(WE y hpy _ kn (aal T C F n z kr) rfl).trans A;clear A;refine hy ⟨cA,hnl,B⟩ _ _ W _ _ _ trivial h1' hd.1 (λh=>by cases h) hdst.1 ⟨rfl,hIA⟩ ?_;intro N x' st' a1 w1 R ⟨hx1,hI1⟩;subst hx1;cases N with
    | exit id=>cases R
    | ret=>cases R
    | normal =>
    have R:aK T C F n z (Skm.aC F.cfg z st') kr=some x':=R;have ark:=hI1.aC F.cfg z;obtain⟨q1,cB,hIB,n0B,gB,wB,tB,prB,mB,amq,moB,b0B,hpB,wrB,t0B,rdB,lB,LnB,ysB⟩:=Inv.busy (Ln:=Ln) ark (l:=l) (lo:=.loop rec) (by simp[cA,cx1]) (by simp) rfl {rec with state:=.busy} (λp hp=>⟨List.mem_cons_of_mem _ hp,k4 p hp⟩) (kE ps y z) rfl ((hO l).2 (.inr rfl)) hl;refine⟨_,run_beginRound q1 est,?_⟩;have hO':∀ b,O b->cx.w0.heap.size<=b\/cx.Pr b:=λb h=>by
     rcases(hO b).1 h with h | rfl
     . exact(r'.pU h).2.2
     omega
    have sb:ahX cx cB M' a' Ln (kE ps y z) l W O:=by
     refine⟨n0B,gB,tB,λb q=>(prB b q).symm,λb q=>?_,λb j q Z hr=>amq b j q Z (λe=>?_) hr,λb q=>moB b (.inl q),b0B,hpB,wrB,by rw[t0B];exact p3,λt ht=>by rw[t0B];exact p5 t λh=>ht (by simp only[kE,List.mem_append];exact .inl h),LnB⟩
     . rcases mB b q with (h | h) |⟨h,h'⟩
       . exact r'.jH b h
       . rcases(hMi b h).2.2 with h | h
         . exact r.jH b h
         omega
       . refine .inr ⟨h,?_⟩;rcases h' with h' | h'
         . have h':W.heap.size<=b:=h';left;omega
         . exact hO' b h'
     . obtain⟨Cs,e',fr,hc,_⟩:=hr;grind
    have hzz:=hz ⟨cB,by rw[hpB];exact hnl,gB.trans B⟩ _ a1 _ _ _ (roundPost P l λe W'=>Turns gl O W W'/\∃ O' K':Nat->Prop,((e=.returned (.bool true)/\J xs O' K' W')\/(e=.returned (.bool false)/\Jx O' K' W'))/\(∀ b,O' b->O b\/W.heap.size<=b)/\∀ b,K' b->K b\/Mi b\/O b\/(W.heap.size<=b/\b<W'.heap.size)) trivial R hd.2 (λh=>by cases h) (λo Z=>⟨λd hd=>by show cB.Wr d;rw[wrB];exact hdst.2 o Z d hd,λt _ h=>by rw[ysB]at h;exact h.elim⟩) ⟨rfl,hIB⟩ ?_
    . simp only[rdB]at hzz;exact hzz
    intro ex2 x2 st3 a3 W3 I ⟨hx2,hI3⟩;subst hx2;have hgrow3:W.heap.size<=W3.heap.size:=by obtain⟨_,_,_,_,r3,_⟩:=hI3;have A:=r3.size;have H:=sb.turns.size;grind
    have asr:∀ b,cB.M0 b->b<W3.heap.size:=by obtain⟨_,_,_,_,r3,_⟩:=hI3;exact λb q=>r3.dJ b (r3.oZ b q)
    let K':Nat->Prop:=λb=>K b\/Mi b\/O b\/(W.heap.size<=b/\b<W3.heap.size);have key:=λlp'=>Dp.round (W1:=W1) r' f' e3 k4 k5 k6 hO sb lB hI3 lp' nK2 nK3 (K':=K') (λb q=>by
     rcases mB b q with (h | h) |⟨_,h⟩
     . grind
     . grind
     . rcases h with h | h
       . have h:W.heap.size<=b:=h;grind
       . exact .inr (.inr (.inr (.inl h)))) (λb q=>.inr (.inr (.inl q))) (λb A H=>.inr (.inr (.inr ⟨A,H⟩))) (λb q=>by
     grind)
    have hput:∀ o:Obj,(W3.putObj l o).heap.size=W3.heap.size:=λo=>World.putObj_size;have hKs:∀(o:Obj) (b:Nat),K' b->K b\/Mi b\/O b\/(W.heap.size<=b/\b<(W3.putObj l o).heap.size):=λo b q=>by rw[hput];exact q
    cases ex2 with
    | normal =>
     obtain⟨q3,O',V,U,ht⟩:=key rec;obtain⟨O'',arn,hsub⟩:=V.aC F.cfg (.seq y z);have he:=run_endRound (P:=P) none q3;have adK:({{rec with state:=.busy}with state:=if(none:Option Code).isNone then .ready else .done,pending:=none}:Loop)=rec:=by grind
     simp only[kr,pK,aF]at I;refine⟨_,_,he,?_⟩;rw[adK];exact⟨B▸ht,O'',K',.inl ⟨rfl,_,I,arn⟩,λb q=>U b (hsub b q),hKs _⟩
    | exit id =>obtain⟨q3,O',V,U,ht⟩:=key {rec with state:=.done,pending:=some (.exit id)};simp only[kr,pK,aF]at I;exact⟨_,_,run_endRound (P:=P) (some (.exit id)) q3,B▸ht,O',K',.inr ⟨rfl,.exit id,_,I,.inr ⟨id,rfl⟩,V⟩,U,hKs _⟩
    | ret =>obtain⟨q3,O',V,U,ht⟩:=key {rec with state:=.done,pending:=some .ret};simp only[kr,pK,aF]at I;exact⟨_,_,run_endRound (P:=P) (some .ret) q3,B▸ht,O',K',.inr ⟨rfl,.ret,_,I,.inl rfl,V⟩,U,hKs _⟩
  . -- behind the sequence
    rintro e W2 ⟨⟨v,rfl⟩,O,K,(⟨st,A,H⟩ |⟨N,st,A,H,h3⟩)⟩
    . simp only[jq]at A;have hl:W2.heap[l]?=some (.loop rec):=by obtain⟨_,_,_,_,_,_,_,⟨h,_⟩,_⟩:=H;exact h
      have hend:=run_endLoop (P:=P) hl (by rw[<- u];simp);rw[show rec.pending=none by rw[<- u]]at hend;refine⟨none,_,hend,?_⟩;exact hQ .normal _ st a' _ A ⟨rfl,H.close _⟩
    . have hl:W2.heap[l]?=some (.loop {rec with state:=.done,pending:=some N.code}):=by obtain⟨_,_,_,_,_,_,_,⟨h,_⟩,_⟩:=h3;exact h
      refine⟨some N.code,_,run_endLoop (P:=P) hl (by simp),?_⟩;rcases H with rfl |⟨id,rfl⟩
      . exact wpIn_ret (hQ .ret _ st a' _ A ⟨rfl,h3.close _⟩)
      . exact wpIn_exit (hQ (.exit id) _ st a' _ A ⟨rfl,h3.close _⟩)
end
end
section
variable {x:PV}{v:AV}{ss:List Nat}{s:Nat}{b:aH}{h:Nat->Option aH}{c:Value}{M':Nat -> Prop}{bl:List aH}{gl:Option (List (Nat × Obj))}
section
variable {P:Program}{T:Tab}{w0:Base}{Pr M0 M:Nat->Prop}{β UC:Nat->Option (Nat × Nat)}{hp0:Heap}{st st':St}{a:Act}{w:World}
def BL(tmps:Array Value):ResultVar->Sem Value
 |.tmp t=>pure (tmps.getD t undef)
 |.cell a t=>do loadVar t (<-asAddr (tmps.getD a undef))
theorem afP(ok:bJ P T)(r:Rel w0 Pr M0 M β st a w){x:ResultVar}(h:abv T st.env (look st.heap) x=some v):∃c,(BL a.tmps x).run P w=.ok c w/\AR w M β (look st.heap) v c:=by
 cases x with
 |tmp t=>simp only[abv,qOa]at h;subst h;exact⟨_,by simp[BL],r.slot t⟩
 |cell t ty=>
  simp only[abv]at h;split at h
  .rename_i s n q u;split at h
   .rename_i cs g;have e:=r.slot t;rw[q]at e;have f:(EH T (look st.heap) ty (.ptr s 0 0)).run some=some {val:=v}:=by simp only[EH,u,g,h];rfl
    obtain⟨v',c,A,z,i⟩:=(Yg ok (h':=look st.heap) (λ_ _ h=>h) r.heap e).sim Eff some _ f;cases A;refine⟨c,?_,z⟩;generalize y:a.tmps.getD t undef=p at e i;cases e with
    |ptrB _ _ B b o d j=>simp only[Instr.loadAt,Instr.sureAddr]at i;simp only[BL,y,asAddr];simpa using i
    |ptrA _ _ _ sa ks xs b o d j D=>rw[g]at d;cases d
    |ptrT _ _ _ _ _ b d j=>rw[g]at d;cases d
   .cases h
  .cases h
theorem BM(ok:bJ P T)(r:Rel w0 Pr M0 M β st a w):∀{l:List ResultVar}{vs:List AV},EN T st.env (look st.heap) l=some vs->∃cs,(l.mapM (BL a.tmps)).run P w=.ok cs w/\lq w M β (look st.heap) vs cs
 |[],vs,h=>by simp[EN]at h;subst h;exact⟨[],σ,rfl,λi x c h=>by simp at h⟩
 |x::l,vs,h=>by
  simp only[EN]at h;split at h
  .rename_i v g p j;cases h;obtain⟨c,u,t⟩:=afP ok r p;obtain⟨cs,q,f⟩:=BM ok r j;refine⟨c::cs,by simp[u,q],by simp[f.1],λi y d e hd=>?_⟩;cases i with
   |zero=>simp at e hd;subst e hd;exact t
   |succ i=>simp at e hd;exact f.2 i y d e hd
  .cases h
theorem zu{fn:Func}{tmps:Array Value}{cs:List Value}(h:(fn.results.toList.mapM (BL tmps)).run P w=.ok cs w):(results fn tmps).run P w=.ok (qx cs) w:=by
 have e:results fn tmps=(do let vs <-fn.results.mapM (BL tmps);pure (if h:vs.size=1 then vs[0]else .tuple vs)):=rfl;rw[e,Array.mapM_eq_mapM_toList];simp only[map_eq_pure_bind,bind_assoc,pure_bind,Sem.run_bind,h,qRa,Sem.run_pure];congr 1
 match cs with
 |[]=>rfl
 |[c]=>rfl
 |_::_::_=>rfl
theorem zx{hp:Heap}(h:look (nG hp ss) s=some b):look hp s=some b/\s ∉ ss:=by grind[rE]
theorem NI(hd:Nb h v=some (x,ss)):∀s∈ss,(h s).isSome=true:=by unfold Nb at hd;grind
theorem Dq{h:Nat->Option aH}:∀{vs:List AV}{xs:List PV}{ss:List Nat},yh h vs=some (xs,ss)->∀s∈ss,(h s).isSome=true
 |[],xs,ss,hd=>by simp[yh]at hd;obtain⟨_,rfl⟩:=hd;simp
 |v::r,xs,ss,hd=>by
  simp only[yh]at hd;split at hd
  .rename_i f e;cases hd;intro s d;rcases List.mem_append.1 d with d |d
   .exact NI f s d
   .exact Dq e s d
  .cases hd
theorem NJ(hd:JG h v=some (x,ss)):∀s∈ss,(h s).isSome=true:=by
 unfold JG at hd;split at hd
 .split at hd
  .rename_i e;split at hd
   .rename_i f;cases hd;intro s d;rcases List.mem_cons.1 d with rfl |d
    .rw[e];rfl
    .exact Dq f s d
   .cases hd
  .cases hd
 .exact NI hd
theorem Ku{h:Nat->Option aH}:∀{vs:List AV}{xs:List PV}{ss:List Nat},ED h vs=some (xs,ss)->∀s∈ss,(h s).isSome=true
 |[],xs,ss,hd=>by simp[ED]at hd;obtain⟨_,rfl⟩:=hd;simp
 |v::r,xs,ss,hd=>by
  simp only[ED]at hd;split at hd
  .rename_i f e;cases hd;intro s d;rcases List.mem_append.1 d with d |d
   .exact NJ f s d
   .exact Ku e s d
  .cases hd
theorem Ri(hd:deep h v=some (x,ss)):∀s∈ss,(h s).isSome=true:=by
 unfold deep at hd;split at hd
 .split at hd
  .rename_i d;cases hd;exact Dq d
  .cases hd
 .split at hd
  .rename_i d;cases hd;exact Ku d
  .cases hd
 .exact NJ hd
theorem UK{β:Type}:∀{l:List β}{r:List β}{x:β},sU l=some (r,x)->l=r++[x]
 |[],r,x,h=>by cases h
 |[y],r,x,h=>by simp[sU]at h;obtain⟨rfl,rfl⟩:=h;rfl
 |y::z::l,r,x,h=>by
  simp only[sU]at h;split at h
  .rename_i f d e;simp only[qOa,Prod.mk.injEq]at h;obtain⟨rfl,rfl⟩:=h;rw[UK e];rfl
  .cases h
theorem YL{w:World}{M:Nat->Prop}{β:Nat->Option (Nat × Nat)}{cs:List AV}(f:AR w M β h v c)(e:v.Ql=some cs):∃vs,c=.agg vs/\vs.size=cs.length/\∀(i:Nat) (x:AV),cs[i]?=some x->AR w M β h x (vs.getD i undef):=by
 unfold AV.Ql at e;split at e
 .rename_i ps;cases e;cases f;rename_i f;cases f with
  |agg _ vs g _ j=>
   refine⟨vs,rfl,by simp[g],λi x d=>?_⟩;rw[List.getElem?_map]at d;cases hp:ps[i]? with
   |none=>rw[hp]at d;cases d
   |some y=>rw[hp]at d;simp only[Option.map_some,qOa]at d;subst d;exact .p _ _ (j i y hp)
 .rename_i ps;cases e;cases f with
  |agg _ vs g _ j=>exact⟨vs,rfl,g,j⟩
 .cases e
theorem afQ{w:World}{M:Nat->Prop}{β:Nat->Option (Nat × Nat)}(J:∀b,M b->M' b){z off len:Nat}{a:Bool}{ks:List Kd}{ys:List PV}(e:h s=some (.arr a ks ys))(t:BR w M β h s (.arr a ks ys))(D:AR w M β h (.slice s z off len) c) :
    ∃p:Option (Nat × Nat),BR w M' (λ_=>p) (λ_=>some (.arr a ks ((ys.drop off).take len))) 0 (.arr a ks ((ys.drop off).take len)) /\
     AR w M' (λ_=>p) (λ_=>some (.arr a ks ((ys.drop off).take len))) (.slice 0 ks.length 0 ((ys.drop off).take len).length) c/\(∀b o,p=some (b,o)->∃A,β s=some (b,A)):=by
  cases D with
  |sliceE _ _ a' r q base f L=>
   rw[e]at f;cases f;refine⟨none,?_,?_,λb o h=>by cases h⟩
   .simp only[List.take_zero];exact .gJ _ _
   .simp only[List.take_zero,List.length_nil];exact .sliceE 0 0 _ _ [] base rfl σ
  |slice _ _ _ a' r q b o cap f L u h4 h5=>
   rw[e]at f;cases f;have d:((ys.drop off).take len).length=len:=by simp;omega
   refine⟨some (b,o+off*ks.length),?_,?_,λb' B h=>by cases h;exact⟨o,u⟩⟩
   .cases t with
    |gJ=>simp only[List.drop_nil,List.take_nil];exact .gJ _ _
    |arr _ _ _ b' B C V fr y U S R N g6=>
     rw[u]at y;cases y;refine .arr _ _ _ b _ C V fr rfl U ?_ R (λx g=>N x (List.mem_of_mem_drop (List.mem_of_mem_take g))) λi x j c g H=>?_
     .rw[d,Nat.add_assoc,<-Nat.add_mul];exact Nat.le_trans (Nat.add_le_add_left (Nat.mul_le_mul_right _ ω) _) S
     .have hi:i<len:=θ
      rw[List.getElem?_take,if_pos hi,List.getElem?_drop]at g;have:=(g6 (off+i) x j c g H).mono (M':=M') λb I=>⟨J b I,rfl⟩;grind
   .rw[d];have:=AR.slice (M:=M') (β:=λ_=>some (b,o+off*ks.length)) (h:=λ_=>some (.arr a ks ((ys.drop off).take len))) 0 0 len a ks ((ys.drop off).take len) b (o+off*ks.length) cap rfl (by rw[d];omega) rfl h4 (by refine h5.mono ?_;grind);grind
theorem Dt(r:Rel w0 Pr M0 M β st a w){hA:Nat->Option aH}{βA:Nat->Option (Nat × Nat)}(hend:∀j blk,look st.heap (ah+j)=some blk->hA (ah+j)=some blk/\βA (ah+j)=β (ah+j)) :
    ∀{ts:List TypeId}{I:List dV}{vs:List AV}{cs:List Value}{rs:List AV}{hp:Heap},wH T hp I ts vs=some rs->(∀s b,look hp s=some b->look st.heap s=some b)->lq w M β (look st.heap) vs cs ->
    ∃(S:List Nat) (ps:List (Option (Nat × Nat))),qM T w (bg M β S) βA hA I ts rs cs ps/\(∀s∈S,(look hp s).isSome=true/\s<ah) /\
     (∀b o,some (b,o)∈ps->∃s J,(look hp s).isSome=true/\s ∉ S/\s<ah/\β s=some (b,J))/\(pG T I ts=true->qM T w (bg (λ_=>False) β S) βA hA I ts rs cs ps)
  |[],I,[],cs,rs,hp,h,_,hl=>by
   simp[wH]at h;subst h;have:cs=[]:=by have:=hl.1;simpa using this.symm
   subst this;exact⟨[],[],.nil I,σ,σ,λ_=>.nil I⟩
  |t::ts,I,v::vs,[],rs,hp,h,_,hl=>by have:=hl.1;simp at this
  |t::ts,I,v::vs,c::cs,rs,hp,h,hsub,hl=>by
   simp only[wH]at h;obtain⟨hv,hls⟩:=hl.cons;split at h
   .rename_i x ss d;split at h
    .rename_i xs hxs;cases h;have ams:∀s b,look (nG hp ss) s=some b->look st.heap s=some b:=λs b h=>hsub s b (zx h).1;obtain⟨S,ps,k1,k2,k3,k4⟩:=Dt r hend hxs ams hls;have upF:∀(ss:List Nat) b,bg (λ_=>False) β S b->bg (λ_=>False) β (ss++S) b:=λss b u=>u.imp id λ⟨s,o,h1,h2⟩=>⟨s,o,by simp[h1],h2⟩;have A:∀s,(look (nG hp ss) s).isSome=true->(look hp s).isSome=true/\s ∉ ss:=λs h=>by obtain⟨b,u⟩:=Option.isSome_iff_exists.1 h;obtain⟨g1,g2⟩:=zx u;exact⟨by rw[g1];rfl,g2⟩
     revert d;generalize hm:I.headD .deep=m;intro d
     have plain:∀(x':AV),x=x'->rW T w (bg M β S) βA hA (I.headD .deep) t x' c none->(Gi T (I.headD .deep) t=true->rW T w (bg (λ_=>False) β S) βA hA (I.headD .deep) t x' c none)->∃(S:List Nat) (ps:List (Option (Nat × Nat))),qM T w (bg M β S) βA hA I (t::ts) (x::xs) (c::cs) ps/\(∀s∈S,(look hp s).isSome=true/\s<ah) /\
         (∀b o,some (b,o)∈ps->∃s J,(look hp s).isSome=true/\s ∉ S/\s<ah/\β s=some (b,J))/\(pG T I (t::ts)=true->qM T w (bg (λ_=>False) β S) βA hA I (t::ts) (x::xs) (c::cs) ps):=by
       intro x' e hr hrF;subst e;refine⟨S,none::ps,.cons I t ts x xs c cs none ps hr k1 (λb o o' h=>by cases h),λs D=>⟨(A s (k2 s D).1).1,(k2 s D).2⟩,λb o u=>?_,λV=>by simp only[pG,qBa]at V;exact .cons I t ts x xs c cs none ps (hrF V.1) (k4 V.2) (λb o o' h=>by cases h)⟩;rcases List.mem_cons.1 u with u |u
       .cases u
       .obtain⟨s,J,q1,q2,q3,q4⟩:=k3 b o u;exact⟨s,J,(A s q1).1,q2,q3,q4⟩
     cases m with
     |deep=>
      simp only[Dc]at d;split at d
      .rename_i y B hd;cases H:aA (ay T t).1 (ay T t).2 y&&B.all (λs=>Nat.blt s 100000)with
       |false=>rw[H]at d;cases d
       |true=>
        rw[H]at d;simp only[qCt,qOa,Prod.mk.injEq]at d;obtain⟨rfl,rfl⟩:=d;simp only[qBa]at H;obtain⟨d1,d2⟩:=Gp (M:=M) (β:=β) (λs b h=>r.heap s b (hsub s b h)) hsub hd hv;have U:∀s∈B,s<ah:=λs D=>Nat.le_of_ble_eq_true (List.all_eq_true.1 H.2 s D);have hlive:∀s∈B,(look hp s).isSome=true:=Ri hd;have up:∀b,bg M β S b->bg M β (B++S) b:=λb u=>u.imp id λ⟨s,o,h1,h2⟩=>⟨s,o,by simp[h1],h2⟩;have hd1:rW T w (bg M β (B++S)) βA hA .deep t (.p y) c none:=.deep t y c H.1 (d1.mono λb u=>⟨u.imp id λ⟨s,o,h1,h2⟩=>⟨s,o,by simp[h1],h2⟩,rfl⟩);refine⟨B++S,none::ps,.cons I t ts _ xs c cs none ps ?_ (k1.mono up) (λb o o' h=>by cases h),λs D=>?_,λb o u=>?_,λV=>?_⟩
        .rw[hm];exact hd1
        .rcases List.mem_append.1 D with D |D
         .exact⟨hlive s D,U s D⟩
         .exact⟨(A s (k2 s D).1).1,(k2 s D).2⟩
        .rcases List.mem_cons.1 u with u |u
         .cases u
         .obtain⟨s,J,q1,q2,q3,q4⟩:=k3 b o u;exact⟨s,J,(A s q1).1,by simp[(A s q1).2,q2],q3,q4⟩
        .simp only[pG,qBa]at V;refine .cons I t ts _ xs c cs none ps ?_ ((k4 V.2).mono (upF _)) (λb o o' h=>by cases h);have Y:=V.1;rw[hm]at Y ⊢;exact hd1.flat Y (.inl rfl)
      .cases d
     |fresh=>
      simp only[Dc]at d;split at d
      .rename_i e hu;split at d
       .rename_i s z off len;split at d
        .rename_i sa ks ys D;cases H:sa==(ay T e).1&&Kd.zJ ks (ay T e).2&&Nat.blt s 100000 with
         |false=>rw[H]at d;cases d
         |true=>
          rw[H]at d;simp only[qCt,qOa,Prod.mk.injEq]at d;obtain⟨rfl,rfl⟩:=d;simp only[qBa,beq_iff_eq]at H;obtain⟨⟨rfl,Z⟩,U⟩:=H;have Z:=Kd.oG _ _ Z;subst Z;have U:s<ah:=Nat.le_of_ble_eq_true U;have R:=hsub _ _ D;have hbr:=r.heap s _ R
          obtain ⟨p,hp1,hp2,hp3⟩:∃p:Option (Nat × Nat),BR w (bg M β S) (λ_=>p) (λ_=>some (.arr (ay T e).1 (ay T e).2 ((ys.drop off).take len))) 0 (.arr (ay T e).1 (ay T e).2 ((ys.drop off).take len)) /\
              AR w (bg M β S) (λ_=>p) (λ_=>some (.arr (ay T e).1 (ay T e).2 ((ys.drop off).take len))) (.slice 0 (ay T e).2.length 0 ((ys.drop off).take len).length) c/\(∀b o,p=some (b,o)->∃J,β s=some (b,J)):=by
            cases hv with
            |sliceE _ _ a' ks' xs' base h1 h2=>
             refine⟨none,?_,?_,λb o h=>by cases h⟩
             .simp only[List.take_zero];exact .gJ _ _
             .simp only[List.take_zero,List.length_nil];exact .sliceE 0 0 _ _ [] base rfl σ
            |slice _ _ _ a' ks' xs' b o cap h1 h2 h3 h4 h5=>
             rw[R]at h1;cases h1;have hlen:((ys.drop off).take len).length=len:=by simp;omega
             refine⟨some (b,o+off*(ay T e).2.length),?_,?_,λb' o' h=>by cases h;exact⟨o,h3⟩⟩
             .cases hbr with
              |gJ=>simp only[List.drop_nil,List.take_nil];exact .gJ _ _
              |arr _ _ _ b' o' C e' fr g1 g2 g3 g4 g5 g6=>
               rw[h3]at g1;cases g1;refine .arr _ _ _ b _ C e' fr rfl g2 ?_ g4 (λx d=>g5 x (List.mem_of_mem_drop (List.mem_of_mem_take d))) λi x j c d hj=>?_
               .rw[hlen,Nat.add_assoc,<-Nat.add_mul];exact Nat.le_trans (Nat.add_le_add_left (Nat.mul_le_mul_right _ ω) _) g3
               .have hi:i<len:=by have:=(qLa.1 d).1;omega
                rw[List.getElem?_take,if_pos hi,List.getElem?_drop]at d;have:=(g6 (off+i) x j c d hj).mono (M':=bg M β S) λb u=>⟨.inl u,rfl⟩;rw[Nat.add_mul]at this;rwa[show o+off*(ay T e).2.length+i*(ay T e).2.length=o+(off*(ay T e).2.length+i*(ay T e).2.length) from ω]
             .rw[hlen];have:=AR.slice (M:=bg M β S) (β:=λ_=>some (b,o+off*(ay T e).2.length)) (h:=λ_=>some (.arr (ay T e).1 (ay T e).2 ((ys.drop off).take len))) 0 0 len (ay T e).1 (ay T e).2 ((ys.drop off).take len) b (o+off*(ay T e).2.length) cap rfl (by rw[hlen];omega) rfl h4 (by refine h5.mono ?_;rw[qNz,Nat.add_assoc,<-Nat.add_mul];exact qNr _);rwa[Nat.zero_mul,Nat.add_zero]at this
          have hsl:(look hp s).isSome=true:=by rw[D];rfl
          have hfr:rW T w (bg M β S) βA hA .fresh t (.fresh (ay T e).1 (ay T e).2 ((ys.drop off).take len)) c p:=.fresh t e _ c p hu hp1 hp2;have hap:∀b o o',p=some (b,o)->some (b,o') ∉ ps:=λb o o' e1 e2=>by obtain⟨J,q0⟩:=hp3 b o e1;obtain⟨N,o0',q1,q2,q3,q4⟩:=k3 b o' e2;obtain⟨g1,g2⟩:=A N q1;obtain⟨blk,u⟩:=Option.isSome_iff_exists.1 g1;have:=r.inj N s b o0' J (by rw[hsub _ _ u];rfl) (by rw[R];rfl) q4 q0;exact g2 (by simp[this])
          refine⟨S,p::ps,.cons I t ts _ xs c cs p ps ?_ k1 hap,λN R=>⟨(A N (k2 N R).1).1,(k2 N R).2⟩,λb o u=>?_,λV=>?_⟩
          .rw[hm];exact hfr
          .rcases List.mem_cons.1 u with u |u
           .obtain⟨J,q0⟩:=hp3 b o u.symm;exact⟨s,J,hsl,λhS=>(A s (k2 s hS).1).2 σ,U,q0⟩
           .obtain⟨N,J,q1,q2,q3,q4⟩:=k3 b o u;exact⟨N,J,(A N q1).1,q2,q3,q4⟩
          .simp only[pG,qBa]at V;refine .cons I t ts _ xs c cs p ps ?_ (k4 V.2) hap;have Y:=V.1;rw[hm]at Y ⊢;exact hfr.flat Y (.inr (.inl rfl))
        .cases d
       .simp only[qOa,Prod.mk.injEq]at d;obtain⟨rfl,rfl⟩:=d;have H:c=.slice none 0 0:=by cases hv;rename_i hv;cases hv;rfl
        subst H;have hne:∀M,rW T w M βA hA (I.headD .deep) t (.fresh (ay T e).1 (ay T e).2 []) (.slice none 0 0) none:=λM=>by rw[hm];exact .fresh t e [] _ none hu (.gJ _ _) (.sliceE 0 0 _ _ [] none rfl σ)
        exact plain _ rfl (hne _) λ_=>hne _
       .cases d
      .cases d
     |Oc=>simp[Dc]at d
     |Ey=>simp[Dc]at d
     |func g qs=>
      simp only[Dc]at d;split at d
      .rename_i f ys B hd;cases H:(f==g&&CU qs ys)&&B.all (λs=>Nat.blt s 100000)with
       |false=>rw[H]at d;cases d
       |true=>
        rw[H]at d;simp only[qCt,qOa,Prod.mk.injEq]at d;obtain⟨rfl,rfl⟩:=d;simp only[qBa,beq_iff_eq]at H;obtain⟨⟨rfl,hcq⟩,hcs⟩:=H;obtain⟨d1,d2⟩:=Gp (M:=M) (β:=β) (λs b h=>r.heap s b (hsub s b h)) hsub hd hv;have U:∀s∈B,s<ah:=λs D=>Nat.le_of_ble_eq_true (List.all_eq_true.1 hcs s D);have hlive:∀s∈B,(look hp s).isSome=true:=Ri hd;have up:∀b,bg M β S b->bg M β (B++S) b:=λb u=>u.imp id λ⟨s,o,h1,h2⟩=>⟨s,o,by simp[h1],h2⟩;refine⟨B++S,none::ps,.cons I t ts _ xs c cs none ps ?_ (k1.mono up) (λb o o' h=>by cases h),λs D=>?_,λb o u=>?_,λV=>?_⟩
        .rw[hm];exact .func f qs t ys c hcq (d1.mono λb u=>⟨u.imp id λ⟨s,o,h1,h2⟩=>⟨s,o,by simp[h1],h2⟩,rfl⟩)
        .rcases List.mem_append.1 D with D |D
         .exact⟨hlive s D,U s D⟩
         .exact⟨(A s (k2 s D).1).1,(k2 s D).2⟩
        .rcases List.mem_cons.1 u with u |u
         .cases u
         .obtain⟨s,J,q1,q2,q3,q4⟩:=k3 b o u;exact⟨s,J,(A s q1).1,by simp[(A s q1).2,q2],q3,q4⟩
        .simp only[pG,qBa,hm,Gi]at V;exact absurd V.1 σ
      .cases d
     |zf=>simp[Dc]at d
     |GV=>
      simp only[Dc]at d;split at d
      .rename_i ks0 hsh;split at d
       .rename_i ks a ls cells hla hcells;split at d
        .rename_i cs0 y hcl;split at d
         .rename_i ys zs B hpu L;cases H:bn ks ys with
          |false=>rw[H]at d;cases d
          |true=>
           rw[H]at d;simp only[qCt,qOa,Prod.mk.injEq]at d;obtain⟨rfl,rfl⟩:=d;have hck:=H;obtain⟨va,rfl,hvn,hva⟩:=YL hv hcells;have e1:=UK hcl;subst e1;have e2:=uQ hpu;subst e2;have hy:AR w M β (look st.heap) y (va.getD ys.length undef):=hva ys.length y σ
           obtain ⟨p,hp1,hp2,hp3⟩:∃p:Option (Nat × Nat),BR w (bg M β S) (λ_=>p) (λ_=>some (.arr a ls zs)) 0 (.arr a ls zs) /\
               AR w (bg M β S) (λ_=>p) (λ_=>some (.arr a ls zs)) (.slice 0 ls.length 0 zs.length) (va.getD ys.length undef)/\(∀b o,p=some (b,o)->∃s J,s∈B/\(look hp s).isSome=true/\s<ah/\β s=some (b,J)):=by
             unfold abu at L;split at L
             .rename_i s z off len;split at L
              .rename_i sa ks' ws D;cases H:sa==a&&Kd.zJ ks' ls&&Nat.blt s 100000 with
               |false=>rw[H]at L;cases L
               |true=>rw[H]at L;simp only[qCt,qOa,Prod.mk.injEq]at L;obtain⟨rfl,rfl⟩:=L;simp only[qBa,beq_iff_eq]at H;obtain⟨⟨rfl,Z⟩,U⟩:=H;have Z:=Kd.oG _ _ Z;subst Z;obtain⟨p,q1,q2,q3⟩:=afQ (M':=bg M β S) (λb u=>.inl u) (hsub _ _ D) (r.heap s _ (hsub _ _ D)) hy;refine⟨p,q1,q2,λb o e=>?_⟩;obtain⟨J,q⟩:=q3 b o e;exact⟨s,J,σ,by rw[D];rfl,Nat.le_of_ble_eq_true U,q⟩
              .cases L
             .simp only[qOa,Prod.mk.injEq]at L;obtain⟨rfl,rfl⟩:=L;refine⟨none,.gJ _ _,?_,λb o e=>by cases e⟩;generalize va.getD ys.length undef=c0 at hy;cases hy;rename_i hy;cases hy;exact .sliceE 0 0 _ _ [] none rfl σ
             .cases L
           have hfr:rW T w (bg M β S) βA hA .GV t (.agg (ys.map .p++[.fresh a ls zs])) (.agg va) p:=
            .GV t ks0 ks a ls ys zs va p hsh hla hck (by simpa using hvn) (λi c H=>by have:=hva i (.p c) (by rw[List.getElem?_append_left (by simpa using (qLa.1 H).1),List.getElem?_map,H];rfl);cases this;rename_i this;exact this.mono λb u=>⟨.inl u,rfl⟩) hp1 hp2
           have hap:∀b o o',p=some (b,o)->some (b,o') ∉ ps:=λb o o' e1 e2=>by obtain⟨s,J,hs1,hs2,_,q0⟩:=hp3 b o e1;obtain⟨N,o0',q1,q2,q3,q4⟩:=k3 b o' e2;obtain⟨g1,g2⟩:=A N q1;obtain⟨blk,u⟩:=Option.isSome_iff_exists.1 g1;obtain⟨amm,hb2⟩:=Option.isSome_iff_exists.1 hs2;have:=r.inj N s b o0' J (by rw[hsub _ _ u];rfl) (by rw[hsub _ _ hb2];rfl) q4 q0;exact g2 (by rw[this];exact hs1)
           refine⟨S,p::ps,.cons I t ts _ xs (.agg va) cs p ps ?_ k1 hap,λN R=>⟨(A N (k2 N R).1).1,(k2 N R).2⟩,λb o u=>?_,λV=>?_⟩
           .rw[hm];exact hfr
           .rcases List.mem_cons.1 u with u |u
            .obtain⟨s,J,hs1,hs2,hs3,q0⟩:=hp3 b o u.symm;exact⟨s,J,hs2,λhS=>(A s (k2 s hS).1).2 hs1,hs3,q0⟩
            .obtain⟨N,J,q1,q2,q3,q4⟩:=k3 b o u;exact⟨N,J,(A N q1).1,q2,q3,q4⟩
           .simp only[pG,qBa]at V;refine .cons I t ts _ xs (.agg va) cs p ps ?_ (k4 V.2) hap;have Y:=V.1;rw[hm]at Y ⊢;exact hfr.flat Y (.inr (.inr rfl))
         .cases d
        .cases d
       .cases d
      .cases d
     |alias=>simp[Dc]at d
    .cases h
   .cases h
  |[],I,v::vs,cs,rs,hp,h,_,_=>by simp[wH]at h
  |t::ts,I,[],cs,rs,hp,h,_,_=>by simp[wH]at h
theorem adl{b0:aH}(f:dI b0=true)(e:Gn b=true)(d:backOk b0 b=true):dI b=true:=by
 cases b with
 |log=>cases b0<;>simp[backOk,dI]at f d
 |_=>exact e
theorem NK{hp:Heap}:∀{bl e:List aH}{k:Nat},(∀b∈bl,dI b=true)->BG hp k bl=some e->e.length=bl.length/\∀(i:Nat) (b0 b1:aH),bl[i]?=some b0->e[i]?=some b1->look hp (ah+(k+i))=some b1/\dI b1=true/\backOk b0 b1=true
 |[],e,k,_,h=>by simp[BG]at h;subst h;exact⟨rfl,λi b0 b1 h=>by simp at h⟩
 |b0::r,e,k,hbl,h=>by
  simp only[BG]at h;split at h
  .rename_i b y q p;cases d:Gn b&&backOk b0 b with
   |false=>rw[d]at h;cases h
   |true=>
    rw[d]at h;simp only[qCt,qOa]at h;subst h;simp only[qBa]at d;obtain⟨u,t⟩:=NK (λb j=>hbl b (by simp[j])) p;refine⟨by simp[u],λi c0 c1 g f=>?_⟩;cases i with
    |zero=>simp at g f;subst g f;exact⟨q,adl (hbl b0 σ) d.1 d.2,d.2⟩
    |succ i=>simp at g f;rw[show k+(i+1)=k+1+i from ω];exact t i c0 c1 g f
  .cases h
theorem BR.pure_mono{β':Nat->Option (Nat × Nat)}{h':Nat->Option aH}{H:Nat}{blk:aH}(L:∀b,M b->M' b)(J:BR w M β h s blk)(hp:dI blk=true)(e:β' H=β s):BR w M' β' h' H blk:=by
 have f:∀b,M b->M' b/\w.heap[b]?=w.heap[b]?:=λb h=>⟨L b h,rfl⟩;have r:=J.ac5 (β':=β') (h':=h') hp e;cases r with
 |log=>simp[dI]at hp
 |tb=>simp[dI]at hp
 |mp=>simp[dI]at hp
 |br=>simp[dI]at hp
 |GX=>simp[dI]at hp
 |gJ=>exact .gJ _ _
 |arr _ _ _ b o C D fr B A z y t g6=>exact .arr _ _ _ b o C D fr B A z y t λi x j c R N=>(g6 i x j c R N).mono f
 |box cs b o C D fr B A z y t g6=>
  refine .box cs b o C D fr B A z y t λj c q=>?_;simp only[dI,Option.isSome_iff_exists]at hp;obtain⟨vs,hp⟩:=hp;have g:=uQ hp;subst g;have d:=g6 j c q;simp only[List.getElem?_map,Option.map_eq_some_iff]at q;obtain⟨x,_,rfl⟩:=q;generalize C.getD (o+j) undef=u at d;cases d with
  |p _ _ I=>exact .p _ _ (I.mono f)
theorem Rel.start{args:List AV}{ak:Array Value}(hp:ni w M β args bl ak)(r:∀p∈gl.getD [],M p.1/\w.heap[p.1]?=some p.2)(fn:Func) :
    Rel ⟨w,w.heap.size,qNr _,gl⟩ (λb=>∃i o,i<bl.length/\β (ah+i)=some (b,o)) M M β (wI fn args bl) {tmps:=ak++Array.replicate (fn.ntmps-ak.size) undef,defers:=[]} w:=by
  have H:=hp.num;refine⟨?_,λt v D=>?_,λs blk d=>?_,λs b o d y=>?_,λs L b o B d f y u=>?_,hp.dJ,λb h=>.inl h,λb h=>h,λb _ _=>rfl,λb n _ _ h=>h,qNr _,rfl,rfl,rfl,r⟩
  .simp[wI,H]
  .by_cases I:t<args.length
   .have q:args[t]?=some v:=by grind[wI]
    have:=hp.args t v q;have e:(ak++Array.replicate (fn.ntmps-ak.size) undef).getD t undef=ak.getD t undef:=by rw[qAb,qAb,Array.getElem?_append_left ω]
    rw[e];exact this
   .have:v=.undef:=by simp only[wI]at D;grind
    subst this;exact .undef _
  .obtain⟨i,g,rfl,z⟩:=Gs d;exact hp.blk i blk z
  .obtain⟨blk,d⟩:=Option.isSome_iff_exists.1 d;obtain⟨i,g,rfl,z⟩:=Gs d;obtain⟨R,N⟩:=hp.own i b o g y;grind
  .obtain⟨blk,d⟩:=Option.isSome_iff_exists.1 d;obtain⟨blk',f⟩:=Option.isSome_iff_exists.1 f;obtain⟨i,g,rfl,z⟩:=Gs d;obtain⟨j,A,rfl,J⟩:=Gs f;rw[hp.inj i j b o B g A y u]
def rO(P:Program)(T:Tab)(gl:Option (List (Nat × Obj)))(X:Ext):Prop:=(∀w:World,(∀p∈gl.getD [],w.heap[p.1]?=some p.2)->T.glob gl.isSome w)/\(∀f fi s args bl rs l9,aX T.funcs f=some fi->fi.cfg.gext=false->X f=some s->s args bl=some (rs,l9)->(∃c,fi.fn.body=some c)/\(∀b∈bl,dI b=true) /\
    ∀(w:World) (M:Nat->Prop) (β:Nat->Option (Nat × Nat)) (ak:Array Value),(∀p∈gl.getD [],M p.1/\w.heap[p.1]?=some p.2)->ni w M β args bl ak ->
     Calls P f ak w λe w'=>∃cs ps M',e=.returned (qx cs)/\uP gl T fi w M β bl rs l9 w' M' cs ps) /\
  ∀f fi s args bl r,aX T.funcs f=some fi->fi.cfg.gext=true->X f=some s->s args bl=some r->∃caps,args=.AB::caps.map .p/\bl=[.log true []]/\P.funcs[f]?=some fi.fn/\OQ P gl f caps (rP r.2)
theorem aao(h:∀b∈bl,dI b=true)(e:bl=[.log true []]):False:=by simp_all[dI]
theorem lT{fn:Func}{tmps:Array Value}{R:Ending->World->Prop}{n:Nat}:∀(d:List Nat) (w:World),d.Nodup->(∀D∈d,w.heap[D]?=some (.deferred (some []))) ->
    (∀w',(∀b,b ∉ d->w'.heap[b]?=w.heap[b]?)->w'.heap.size=w.heap.size->w'.os=w.os->w'.tape=w.tape->w'.output=w.output->w'.drawn=w.drawn->∃v,(results fn tmps).run P w'=.ok v w'/\R (.returned v) w') ->
    LeavesInM (FW none) n P fn tmps R (d.map qc) .returning w
  |[],w,_,_,h=>h w (λ_ _=>rfl) rfl rfl rfl rfl rfl
  |D::d,w,hnd,hl,h=>by
   obtain⟨y,u⟩:=List.nodup_cons.1 hnd;refine⟨σ,.inl ⟨D,w.putObj D (.deferred none),rfl,run_takeDeferred (hl D σ),?_⟩⟩;refine lT d _ u (λD' f=>?_) λw' t r q p j i=>?_
   .rw[World.putObj_heap_other (show D'≠D from λe=>y (e▸f))];exact hl D' (by simp[f])
   .refine h w' (λb g=>?_) (by rw[r,World.putObj_size]) q p j i;simp only[List.mem_cons,not_or]at g;rw[t b g.2,World.putObj_heap_other g.1]
theorem Inv.shut{cx:Cx}{M:Nat->Prop}{β:Nat->Option (Nat × Nat)}{st:St}{a:Act}{w w':World}{L:List (Nat × Obj)}{f:List Nat}(r:Rel cx.w0 cx.Pr cx.M0 M β st a w)(e:Fix cx M β st.heap a w L f)(I:cx.nm=cx.w0.heap.size)
    (g:∀b,b ∉ f->w'.heap[b]?=w.heap[b]?)(i:w'.heap.size=w.heap.size)(u:w'.os=w.os)(t:w'.tape=w.tape)(q:w'.output=w.output):Rel cx.w0 cx.Pr cx.M0 M β st a w':=by
  have A:∀b,M b->b ∉ f:=λb d hd=>(e.lies _ (e.mark b hd).1).2.2 d;have z:∀b,lM β st.heap b->b ∉ f:=λb d hd=>(e.lies _ (e.mark b hd).1).2.1 d;have j:∀b,b<cx.w0.heap.size->b ∉ f:=λb d hd=>by have:=(e.mark b hd).2.1;omega
  refine r.to rfl (λb d=>⟨d,g b (A b d)⟩) (λs b o p d=>?_) (λb d=>by rw[i];exact r.dJ b d) r.jH r.oZ (λb d hp=>?_) (λb n d hp y=>?_) (by rw[i];exact r.size) (u.trans r.os) (t.trans r.tape) (q.trans r.output)
  .obtain⟨H,D,B⟩:=r.own s b o p d;exact⟨g b (z b ⟨s,o,p,d⟩),H,by rw[i];exact D,B⟩
  .rw[g b (j b d)];exact r.keep b d hp
  .exact(r.room b n d hp y).of_block (g b (j b (by have:=cx.w0.le';omega)))
theorem aap(h:∀b∈bl,dI b=true):zl (dK 0 bl):=by intro xs d;have:look (dK 0 bl) (ah+0)=some (.log true xs):=d;rw[Dk]at this;have:=h _ (qLe this);grind[dI]
theorem adn(ok:bJ P T){X:Ext}(hX:rO P T gl X){n:Nat}(hC:dS P T gl (jC T X n))(hS:GY P T gl (jC T X n)) :
    ∀f fi args bl V Y,aX T.funcs f=some fi->(∀b∈bl,dI b=true)->jC T X (n+1) f args bl=some (V,Y)->(∃c,fi.fn.body=some c) /\
    ∀(w:World) (M:Nat->Prop) (β:Nat->Option (Nat × Nat)) (ak:Array Value),(∀p∈gl.getD [],M p.1/\w.heap[p.1]?=some p.2)->ni w M β args bl ak ->
     Calls P f ak w λe w'=>∃cs ps M',e=.returned (qx cs)/\uP gl T fi w M β bl V Y w' M' cs ps:=by
  intro f fi args bl V Y hf B h;simp only[jC,hf]at h;cases hx:X f with
  |some s=>
   rw[hx]at h;cases hge:fi.cfg.gext with
   |false=>obtain⟨h1,_,h2⟩:=hX.2.1 f fi s args bl V Y hf hge hx h;exact⟨h1,h2⟩
   |true=>obtain⟨_,_,h2,_⟩:=hX.2.2 f fi s args bl _ hf hge hx h;exact(aao B h2).elim
  |none=>
   rw[hx]at h;simp only at h;cases t:fi.fn.body with
   |none=>rw[t]at h;cases h
   |some c=>
    rw[t]at h;have d:vT fi.cfg bl=true:=by
     cases d:vT fi.cfg bl with
     |true=>rfl
     |false=>rw[d]at h;cases h
    have JY:fi.cfg.vcall=false:=by
     cases JY:fi.cfg.vcall with
     |false=>rfl
     |true=>
      unfold vT at d;split at d
      .cases d
      rw[JY]at d;simp only at d;split at d
      .have:=B _ (List.mem_cons_self ..);simp[dI,DL]at this
      .cases d
    have Z:fi.cfg.take=false:=by
     cases Z:fi.cfg.take with
     |false=>rfl
     |true=>
      unfold vT at d;split at d
      .cases d
      rw[JY]at d;simp only[Z]at d;split at d
      .have:=B _ (List.mem_cons_self ..);simp[dI]at this
      .cases d
    rw[d]at h;simp only[qCt,dX,iy,aF,LG,ZP,JY,Z]at h;refine⟨⟨c,rfl⟩,λw M β ak hgl hp=>?_⟩;obtain⟨hfn,hname,hdr,hret⟩:=ok.funcs f fi hf;let cx:Cx:={w0:=⟨w,w.heap.size,qNr _,gl⟩,Pr:=λb=>∃i o,i<bl.length/\β (ah+i)=some (b,o),M0:=M,UC:=β,hp0:=dK 0 bl,Wr:=λ_=>True,t0:=ak++Array.replicate (fi.fn.ntmps-ak.size) undef,rd:=none,L0:=[],nm:=w.heap.size}
    have hi:Inv cx (wI fi.fn args bl) {tmps:=ak++Array.replicate (fi.fn.ntmps-ak.size) undef,defers:=[]} w:=
     ⟨M,β,[],[],Rel.start hp hgl fi.fn,λ_ _=>rfl,λs _ b t=>⟨b,t,Like.refl b⟩,.refl _ _,⟨λp hp=>by simp at hp,λp hp=>by simp[cx]at hp,rfl,List.nodup_nil,λD hD=>by simp at hD,λl hl=>(by cases hl),rfl,λ_ _=>rfl,λ_=>rfl,λ_ h=>h.elim,qNr _⟩⟩
    refine jv (rd:=none) (n:=0) (callsIn_of_wp_marks hfn t trivial ?_);refine jG (ng:=false) (Fa (m:=0) ok hC (ok.nvars f fi hf) (V,Y)) (λ_ f ps y z hy hz=>LZ ok hS hy hz) c ⟨cx,aap B,rfl⟩ _ _ w _ _ _ trivial h (hdr c t) (λh=>by cases h) (λ_ _=>⟨λ_ _=>trivial,λ_ _ h=>h.elim⟩) ⟨rfl,hi⟩ λex x' st a w1 H i=>?_;obtain⟨rfl,i⟩:=i;have hk':Yc T fi.cfg fi.fn bl st=some (V,Y)/\(ex=.normal\/ex=.ret):=by
     cases ex with
     |normal=>exact⟨H,.inl rfl⟩
     |exit id=>cases H
     |ret=>exact⟨H,.inr rfl⟩
    obtain⟨H,hex⟩:=hk';obtain⟨M1,J,L1,ds1,r1,e1,e2,e3',YM⟩:=i;have U:LeavesInM (FW none) 0 P fi.fn a.tmps (λe w'=>∃cs ps M',e=.returned (qx cs)/\uP gl T fi w M β bl V Y w' M' cs ps) a.defers .returning w1:=by
     rw[YM.marks];refine lT ds1 w1 YM.nodup (λD hD=>(YM.lies _ (YM.mark D hD).1).1) λw' q1 q2 q3 q4 q5 q6=>?_;have r:=Inv.shut r1 YM rfl q1 q2 q3 q4 q5;have e3:gu gl w.drawn w'.drawn:=by rw[q6];exact e3'
     unfold Yc at H;split at H
     .cases H
     .rename_i vs hvs;split at H
      .rename_i rs' ahA Y6 hab;simp only[dX,iy,qOa,Prod.mk.injEq]at H;obtain⟨rfl,rfl⟩:=H;obtain⟨cs,g1,g2⟩:=BM ok r hvs;obtain⟨ab1,ab2⟩:=NK B hab;have R:∀j blk,look st.heap (ah+j)=some blk->∃b0,bl[j]?=some b0/\Like b0 blk:=by intro j blk hj;obtain⟨b0,u,L⟩:=e2 (ah+j) ω blk hj;rw[Dk]at u;exact⟨b0,u,L⟩
       have hend:∀j blk,look st.heap (ah+j)=some blk->look (dK 0 ahA) (ah+j)=some blk/\β (ah+j)=J (ah+j):=by
        intro j blk hj;obtain⟨b0,u,L⟩:=R j blk hj;refine⟨?_,(e1 (ah+j) ω).symm⟩;rw[Dk];have hlt:j<ahA.length:=by rw[ab1];exact(qLa.1 u).1
        have:=(ab2 j b0 ahA[j] u σ).1;rw[qNz,hj]at this;cases this;simp
       obtain⟨S,ps,q1,q2,q3,q4⟩:=Dt r hend Y6 (λ_ _ h=>h) g2;have hup:∀b,M1 b->bg M1 J S b:=λb h=>.inl h;refine⟨qx cs,zu g1,cs,ps,bg M1 J S,rfl,⟨q1,λb o t=>?_,λhb1 hs1=>⟨bg (λ_=>False) J S,λb t=>?_,q4 (hret hb1 hs1)⟩,λb h=>.inl (r.oZ b h),λb h=>?_,λb h=>?_,λb t hn=>?_,λb n t hr=>?_,r.size,r.os,r.tape,r.output,e3,ab1,λi b0 b1 h1 h2=>?_⟩⟩
       .obtain⟨s,o0,u,L,k3,k4⟩:=q3 b o t;obtain⟨o1,o2,I⟩:=r.own s b o0 u k4;refine⟨λh=>?_,o2,?_⟩
        .rcases h with h |⟨A,N,g,q⟩
         .exact o1 h
         .exact L (by rw[r.inj s A b o0 N u (q2 A g).1 k4 q];exact g)
        .rcases I.2 with I |I
         .exact I
         .omega
       .rcases t with t |⟨A,N,g,q⟩
        .exact t.elim
        .refine⟨.inr ⟨A,N,g,q⟩,?_⟩;obtain⟨u,L⟩:=q2 A g;rcases(r.own A b N u q).2.2.2 with I |I
         .exact I
         .omega
       .rcases h with h |⟨A,N,g,q⟩
        .exact(r.jH b h).imp id And.left
        .obtain⟨u,L⟩:=q2 A g;rcases(r.own A b N u q).2.2.2 with I |I
         .exact .inr I
         .omega
       .rcases h with h |⟨A,N,g,q⟩
        .exact r.dJ b h
        .exact(r.own A b N (q2 A g).1 q).2.1
       .exact r.keep b t λ⟨i,o,hi,h⟩=>hn i o hi h
       .by_cases hpr:∃i o,i<bl.length/\β (ah+i)=some (b,o)
        .exact r.room b n t hpr hr
        .exact hr.of_block (r.keep b t hpr)
       .obtain⟨u,L,k3⟩:=ab2 i b0 b1 h1 h2;rw[qNz]at u;obtain⟨b0',k4,k5⟩:=R i b1 u;rw[h1]at k4;cases k4;exact⟨(r.heap _ _ u).pure_mono hup L (e1 (ah+i) ω).symm,k5,k3,L⟩
      .cases H
    rcases hex with rfl|rfl
    .exact U
    .exact U
end
end
section
variable {x:List AV × List aH}{st st':St}{o:Oper}{draw:Bool}{k:Ex->St->Option (List AV × List aH)}
def iL(st st':St):Prop:=∀b zs,look st'.heap ah=some (.log b zs)->look st.heap ah=some (.log b zs)
theorem iL.refl(st:St):iL st st:=λ_ _ h=>h
theorem iL.trans{a b c:St}(h:iL a b)(k:iL b c):iL a c:=λx d e=>h x d (k x d e)
theorem NM{ss:List Nat}{x:Option aH}{b:Bool}{d:List PV}(h:x.map (aH.kill ss)=some (.log b d)):x=some (.log b d):=by
 cases x with
 |none=>cases h
 |some y=>
  cases y with
  |box=>simp[aH.kill]at h
  |arr=>simp[aH.kill]at h
  |tb=>simp[aH.kill]at h
  |mp=>simp[aH.kill]at h
  |br=>simp[aH.kill]at h
  |log=>simpa[aH.kill] using h
theorem ql(st:St)(ss:List Nat):iL st (st.strike ss):=by
 intro b d h;rw[bY]at h;split at h
 .cases h
 .exact NM h
theorem afR(st:St)(ss:List Nat):iL st (st.kill ss):=by
 intro b d h;cases ss with
 |nil=>exact h
 |cons s r=>have h:look (fM (s::r) st.heap) ah=some (.log b d):=h;rw[fE]at h;exact NM h
theorem xu{h:Heap}:∀{c:List (Nat × aH)},nS h c=true->∀s b d,(s,aH.log b d) ∉ c
 |[],_,s,b,d=>σ
 |(t,.log _ _)::r,hc,s,b,d=>by simp[nS]at hc
 |(t,.box cs)::r,hc,s,b,d=>by
  have:nS h r=true:=by simp only[nS]at hc;grind
  simp[xu this s b d]
 |(t,.arr a ks xs)::r,hc,s,b,d=>by
  have:nS h r=true:=by simp only[nS]at hc;grind
  simp[xu this s b d]
 |(t,.tb u c0 c1)::r,hc,s,b,d=>by
  have:nS h r=true:=by simp only[nS]at hc;grind
  simp[xu this s b d]
 |(t,.mp u es)::r,hc,s,b,d=>by
  have:nS h r=true:=by simp only[nS]at hc;grind
  simp[xu this s b d]
 |(t,.br u xs)::r,hc,s,b,d=>by
  have:nS h r=true:=by simp only[nS]at hc;grind
  simp[xu this s b d]
theorem ado{h:Heap}{d:Option Nat}{e:Eff}(i:nS h e.ny=true):iL st (st.apply d e):=by
 intro b g f;have f:look (eH ((st.strike (present st.heap e.new++e.zK)).kill e.cut).heap e.ny) ah=some (.log b g):=f;rcases EP _ _ _ _ f with f |f
 .exact ql _ _ _ _ (afR _ _ _ _ f)
 .exact absurd f (xu i _ _ _)
theorem iR(F:D7)(c:Code)(st:St):iL st (aC F c st):=by
 unfold Skm.aC;split
 .exact iL.refl _
 .split
  .exact iL.refl _
  .exact ql {st with env:=_} _
theorem I5{s d:Nat}(e:s≠d)(j:s<ah)(hd:d<ah):iL st (st.zM s d):=by
 intro b f h;have i:look (st.strike [d]).heap d=none:=by rw[bY];simp
 have h:look (pX s d (st.strike [d]).heap) ah=some (.log b f):=h;rw[rH e ah i,if_neg ω,if_neg ω]at h;refine ql st [d] b f ?_;cases g:look (st.strike [d]).heap ah with
 |none=>rw[g]at h;cases h
 |some y=>
  rw[g]at h;cases y with
  |box=>simp[aH.ren]at h
  |arr=>simp[aH.ren]at h
  |tb=>simp[aH.ren]at h
  |mp=>simp[aH.ren]at h
  |br=>simp[aH.ren]at h
  |log=>simpa[aH.ren] using h
theorem qK(nv:Nat)(f:List Nat)(g:nv<=ah):∀(l:List Oper) (st:St),iL st (jT nv f l st)
 |[],st=>iL.refl _
 |o::r,st=>by
  simp only[Skm.jT];split
  .rename_i d _ _;split
   .rename_i s _ _ _ _;cases i:(Nat.ble nv s||(fB d f&&!(s==d)))&&(Nat.blt d nv&&Nat.blt s 100000)with
    |false=>exact qK nv f g r st
    |true=>
     simp only[qBa]at i;have j:d<nv:=Nat.le_of_ble_eq_true i.2.1;have q:s≠d:=by
      intro e;rcases(by simpa only[Bool.or_eq_true] using i.1:Nat.ble nv s=true\/(fB d f&&!(s==d))=true)with h |h
      .exact absurd (Nat.le_of_ble_eq_true h) (Nat.not_le_of_lt (by rw[e];exact j))
      grind
     have p:s<100000:=Nat.le_of_ble_eq_true i.2.2;have t:ah=100000:=rfl;exact(I5 q p (Nat.lt_of_lt_of_le j g)).trans (qK nv f g r _)
   .exact qK nv f g r st
  .exact qK nv f g r st
def Has(x:List AV × List aH)(st:St):Prop:=∃b zs,look st.heap ah=some (.log b zs)/\∃ys,rP x.2=zs++ys
theorem Has.sub(h:iL st st'):Has x st'->Has x st:=λ⟨b,d,f,e⟩=>⟨b,d,h b d f,e⟩
def KP(k:Ex->St->Option (List AV × List aH)):Prop:=∀ex st x,k ex st=some x->Has x st
section
variable {T:Tab}{C:aB}{F:FI}{n:Nat}
theorem UL{hd:List Nat}{all:List Oper}(h:step1 T C false hd all o st=some st'):iL st st':=by
 unfold step1 at h;split at h
 .cases h
 .cases h;exact λ_ _ h=>h
 .split at h
  .rename_i d;simp only[qBa]at d;cases h;exact ado d.2
  .cases h
theorem NP{xs vs:List PV}(h:oL draw st o=some (xs,vs)):∃c ss t,draw=false/\o.op=.call c/\c.callee=.value (.tmp t)/\st.env.getD t .undef=.AB/\look st.heap ah=some (.log true xs)/\EF (look st.heap) (jX st.env c.args.toList)=some (vs,ss):=by
 cases draw with
 |true=>cases h
 |false=>have h:yieldOf st o=some (xs,vs):=h;grind[yieldOf]
theorem vM(st:St)(d:Option Nat)(xs vs:List PV)(b:Bool):look (je st d xs vs b).heap ah=some (.log b (xs++[.agg vs])):=by show look (put _ ah _) ah=_;simp[aZ]
theorem GH{hd:List (List Nat)}{all:List Oper}{k:St->Option (List AV × List aH)}(d:∀st x,k st=some x->Has x st):∀(l:List Oper) (j:Nat) (st:St) (x:List AV × List aH),dD T C false hd all l j st k=some x->Has x st
 |[],j,st,x,h=>d st x h
 |o::rest,j,st,x,h=>by
  cases f:oL false st o with
  |none=>
   rw[oh _ _ f]at h;cases g:step1 T C false (hd.getD j []) all o st with
   |none=>rw[g]at h;cases h
   |some e=>rw[g]at h;exact(GH d rest (j+1) e x h).sub (UL g)
  |some p=>
   obtain⟨xs,vs⟩:=p;rw[oU _ _ f]at h;obtain⟨_,_,_,_,_,_,_,q,_⟩:=NP f;cases i:guardOf all o st.env with
   |none=>rw[i]at h;cases h
   |some b=>
    rw[i]at h;cases b with
    |false=>exact(GH d rest (j+1) _ x h).sub λ_ _ h=>h
    |true=>obtain⟨r,_,t⟩:=Gw h;obtain⟨b,u,h4,ys,h5⟩:=GH d rest (j+1) _ x t;rw[vM]at h4;cases h4;exact⟨true,xs,q,.agg vs::ys,by rw[h5];simp⟩
theorem UM{b:Option aH}{k:St->Option (List AV × List aH)}(f:∀st x,k st=some x->Has x st)(h:pJ b st k=some x):∃e d,b=some (.log e d)/\∃ys,rP x.2=d++ys:=by
 unfold pJ at h;split at h
 .split at h
  .rename_i e xs;obtain⟨b',d,j,i⟩:=f _ _ h;grind[aZ]
  .cases h
 .rename_i g;obtain⟨b',d,j,i⟩:=f _ _ h;grind
theorem zy:∀(xs:List Nat) (st:St),iL st (oO xs st)
 |[],st=>iL.refl _
 |x::r,st=>by
  simp only[oO];split
  .rename_i v ss _;cases e:gI ss with
   |false=>exact zy r st
   |true=>refine iL.trans ?_ (zy r _);exact λb d h=>ql st ss b d h
  .exact zy r st
theorem zA(ts:List Nat):∀(l:List Oper) (st:St),iL st (freezes ts l st)
 |[],st=>iL.refl _
 |o::r,st=>by
  simp only[freezes];split
  .exact iL.trans (zy _ st) (zA ts r _)
  .exact zA ts r st
theorem jr(e:List Nat):∀(l:List Oper) (st:St),iL st (fC e l st)
 |[],st=>iL.refl _
 |o::r,st=>by
  simp only[Skm.fC];split
  .rename_i x _;split
   .rename_i s _ _ _ _;cases f:fB x e&&(Nat.blt s 5000&&Nat.blt x 5000)with
    |false=>exact jr e r st
    |true=>
     simp only[qBa]at f;have q:s<5000:=Nat.le_of_ble_eq_true f.2.1;have g:x<5000:=Nat.le_of_ble_eq_true f.2.2;have k:∀s y:Nat,s<5000->y<5000->s≠5000+y/\s<ah/\5000+y<ah:=λs y q g=>by have t:ah=100000:=rfl;omega
     obtain⟨p,j,i⟩:=k s x q g;exact(I5 p j i).trans (jr e r _)
   .exact jr e r st
  .split
   .rename_i d _;split
    .cases f:fB d e&&Nat.blt d 5000 with
     |false=>exact jr e r st
     |true=>
      simp only[qBa]at f;have g:d<5000:=Nat.le_of_ble_eq_true f.2;have t:ah=100000:=rfl;have k:∀y:Nat,y<5000->y≠7990/\y<ah/\7990<ah:=λy h=>ω
      obtain⟨p,j,i⟩:=k d g;exact(I5 p j i).trans (jr e r _)
    .exact jr e r st
   .exact jr e r st
  .exact jr e r st
theorem ou{F:D7}(d:F.nvars<=ah)(l:List Oper)(st:St):iL st (settle F l st):=by
 unfold settle;split
 .exact(qK _ _ d l st).trans (zA _ l _)
 .exact((qK _ _ d l st).trans (jr _ l _)).trans (zA _ l _)
theorem aaq(e:F.cfg.nvars<=ah){id:Nat}{ops:Array Oper}(i:KP k)(st:St)(x:List AV × List aH)(h:aK T C F n (.region id ops draw) st k=some x):Has x st:=by
 have g:∀st x,(eF (settle F.cfg ops.toList st) λst'=>k .normal st')=some x->Has x st:=λst x h=>by rw[aF]at h;exact(i .normal _ x h).sub (ou e _ _)
 simp only[aK]at h;obtain⟨h,-⟩:=iK h;cases draw with
 |false=>exact GH g _ _ _ _ h
 |true=>
  simp only at h;split at h
  .simp only[aF]at h;split at h
   .obtain⟨q,_,p⟩:=EZ h;obtain⟨f,d,j,h4⟩:=UM (λst x h=>(i .normal _ x h).sub (ou e _ _)) p;exact⟨f,d,ql _ _ _ _ j,h4⟩
   .obtain⟨q,_,p⟩:=EZ h;obtain⟨f,d,j,h4⟩:=UM (λst x h=>GH (λst x h=>(i .normal _ x h).sub (ou e _ _)) _ _ _ _ h) p;exact⟨f,d,ql _ _ _ _ j,h4⟩
  .cases h
theorem oz(d:F.cfg.nvars<=ah):∀(c:Code) (k:Ex->St->Option (List AV × List aH)),KP k->∀st x,aK T C F n c st k=some x->Has x st
 |.skip,k,hk,st,x,h=>hk .normal st x h
 |.region id ops draw,k,hk,st,x,h=>aaq d hk st x h
 |.seq y z,k,hk,st,x,h=>by
  rw[zq]at h;refine oz d y _ (λe st x h=>?_) st x h;cases e with
  |normal=>exact(oz d z k hk _ x h).sub (iR _ _ _)
  |exit id=>exact hk (.exit id) st x h
  |ret=>exact hk .ret st x h
 |.cond c y z,k,hk,st,x,h=>by
  simp only[aK]at h;split at h
  .rename_i b _;cases b with
   |true=>exact oz d y k hk st x h
   |false=>exact oz d z k hk st x h
  .cases h
 |.block id c,k,hk,st,x,h=>by
  rw[Hw]at h;refine oz d c _ (λe st x h=>?_) st x h;cases e with
  |normal=>exact hk .normal st x h
  |exit j=>
   simp only[LY]at h;cases q:(j==id)with
   |true=>rw[q]at h;exact hk .normal st x h
   |false=>rw[q]at h;exact hk (.exit j) st x h
  |ret=>exact hk .ret st x h
 |.loop c,k,hk,st,x,h=>by
  simp only[aK]at h;have key:∀(m:Nat) (st:St) (x:List AV × List aH),nM (aC F.cfg c) (λst' u=>aK T C F n c st' u) m st k=some x->Has x st:=by
   intro m;induction m with
   |zero=>intro st x h;simp[nM]at h
   |succ m p=>
    intro st x h;rw[E8]at h;refine oz d c _ (λe st x h=>?_) st x h;cases e with
    |normal=>simp only[Rh,aF]at h;exact(p _ x h).sub (iR _ _ _)
    |exit id=>exact hk (.exit id) st x h
    |ret=>exact hk .ret st x h
  exact(key n _ x h).sub (iR _ _ _)
 |.exit id,k,hk,st,x,h=>hk (.exit id) st x h
 |.ret,k,hk,st,x,h=>hk .ret st x h
 |.label _,k,hk,st,x,h=>hk .normal st x h
 |.rangeFunc f ps y z,k,hk,st,x,h=>by
  obtain⟨g,t,fi,r,_,_,_,_,_,h⟩:=uj h;have key:∀(l:List PV) (st:St) (x:List AV × List aH),jq (aC F.cfg (.seq y z)) fi.cfg.yk ps.toList (kE ps y z) (yK T C F n y z) l st k=some x->Has x st:=by
   intro l;induction l with
   |nil=>intro st x h;exact hk .normal st x h
   |cons v l p=>
    intro st x h;simp only[jq]at h;split at h
    .cases h
    .rename_i env _;rw[aF]at h;have i:KP (pK (aC F.cfg (.seq y z)) (kE ps y z) (λst=>jq (aC F.cfg (.seq y z)) fi.cfg.yk ps.toList (kE ps y z) (yK T C F n y z) l st k) k):=by
      intro e st x h;cases e with
      |normal=>simp only[pK,aF]at h;exact((p _ x h).sub (iR _ _ _)).sub λ_ _ h=>h
      |exit id=>simp only[pK,aF]at h;exact(hk (.exit id) _ x h).sub λ_ _ h=>h
      |ret=>simp only[pK,aF]at h;exact(hk .ret _ x h).sub λ_ _ h=>h
     refine(oz d y (aal T C F n z _) (λe st x h=>?_) {st with env:=env} x h).sub λ_ _ h=>h;cases e with
     |normal=>exact(oz d z _ i _ x h).sub (iR _ _ _)
     |exit id=>exact i (.exit id) st x h
     |ret=>exact i .ret st x h
  exact(key _ _ x h).sub (iR _ _ _)
 |.scope c,k,hk,st,x,h=>oz d c k hk st x h
 |.goto ..,_,_,_,_,h |.refuse ..,_,_,_,_,h=>by simp[aK]at h
theorem KP.seq(e:F.cfg.nvars<=ah)(d:KP k)(z:Code):KP (aal T C F n z k):=by
 intro f st x h;cases f with
 |normal=>exact(oz e z k d _ x h).sub (iR _ _ _)
 |exit id=>exact d (.exit id) st x h
 |ret=>exact d .ret st x h
theorem KP.block(d:KP k)(id:Nat):KP (LY id k):=by
 intro f st x h;cases f with
 |normal=>exact d .normal st x h
 |exit j=>
  simp only[LY]at h;cases e:(j==id)with
  |true=>rw[e]at h;exact d .normal st x h
  |false=>rw[e]at h;exact d (.exit j) st x h
 |ret=>exact d .ret st x h
theorem KP.loop(f:F.cfg.nvars<=ah)(d:KP k)(c:Code)(m:Nat):KP (Rh T C F n c m k):=by
 have key:∀(m:Nat) (st:St) (x:List AV × List aH),nM (aC F.cfg c) (λst' g=>aK T C F n c st' g) m st k=some x->Has x st:=by
  intro m;induction m with
  |zero=>intro st x h;simp[nM]at h
  |succ m i=>
   intro st x h;rw[E8]at h;refine oz f c _ (λe st x h=>?_) st x h;cases e with
   |normal=>simp only[Rh,aF]at h;exact(i _ x h).sub (iR _ _ _)
   |exit id=>exact d (.exit id) st x h
   |ret=>exact d .ret st x h
 intro e st x h;cases e with
 |normal=>simp only[Rh,aF]at h;exact(key m _ x h).sub (iR _ _ _)
 |exit id=>exact d (.exit id) st x h
 |ret=>exact d .ret st x h
end
end
section
open Go.RowKit
variable {M M0 Pr:Nat->Prop}{β:Nat->Option (Nat × Nat)}{v:AV}{w0:Base}
def gcx(gl:Option (List (Nat × Obj)))(wd:World)(M0:Nat->Prop)(on:Bool)(done:List PV)(t0:Array Value)(ys:List Nat)(yv:Value):Cx:=
 {w0:=⟨wd,wd.heap.size,qNr _,gl⟩,Pr:=λ_=>False,M0:=M0,UC:=λ_=>none,hp0:=[(ah,.log on done)],Wr:=λ_=>True,t0,rd:=none,L0:=[],nm:=wd.heap.size,Ys:=λt=>t∈ys,yv:=yv}
structure Gv where
 W0:World
 M0:Nat->Prop
 J:List PV->(Nat->Prop)->(Nat->Prop)->World->Prop
 Jx:(Nat->Prop)->(Nat->Prop)->World->Prop
 t0:Array Value
 l:Nat
 gl:Option (List (Nat × Obj))
 ys:List Nat
abbrev Gv.yv(G:Gv):Value:=.func (.yield G.l) #[] #[]
structure Gv.Ok (G:Gv) (P:Program):Prop where
 j:∀r O K W W',G.J r O K W->rM G.gl W W'->G.J r O K W'
 jx:∀O K W W',G.Jx O K W->rM G.gl W W'->G.Jx O K W'
 lt:∀r O K W,G.J r O K W->∀b,O b\/K b->b<W.heap.size
 y:∀vs r O K W (M:Nat->Prop) ak,G.J (.agg vs::r) O K W->G.W0.heap.size<=W.heap.size->(∀b,M b->b<W.heap.size/\¬O b/\(G.M0 b\/G.W0.heap.size<=b))->ak.size=vs.length->(∀i c,vs[i]?=some c->VR W M c (ak.getD i undef))->adI P G.gl G.l ak W (G.J r) G.Jx O K M
def GI(G:Gv)(x:List AV × List aH)(st:St)(a:Act)(w:World):Prop:=
 ∃wd Mk on done,Inv (gcx G.gl wd Mk on done G.t0 G.ys G.yv) st a w/\(∀b zs,look st.heap ah=some (.log b zs)->b=on/\zs=done)/\G.W0.heap.size<=wd.heap.size/\(∀b,Mk b->b<wd.heap.size/\(G.M0 b\/G.W0.heap.size<=b)) /\
  ((on=true/\∃rest O K,rP x.2=done++rest/\G.J rest O K wd/\∀b,Mk b->¬O b)\/(on=false/\∃O K,G.Jx O K wd))
section
variable {P:Program}{G:Gv}{x:List AV × List aH}{st st':St}{a a':Act}{w w':World}
theorem GI.map(g:GI G x st a w)(h:∀cx,Inv cx st a w->Inv cx st' a' w')(p:iL st st'):GI G x st' a' w':=by obtain⟨f,Mk,j,d,i,u,t,r,h4⟩:=g;exact⟨f,Mk,j,d,h _ i,λb e q=>u b e (p b e q),t,r,h4⟩
theorem AR.swap{w:World}{h h':Nat->Option aH}(j:∀s blk,h s=some blk->(∀b B,blk≠.log b B)->h' s=some blk){c:Value}(u:AR w M β h v c):AR w M β h' v c:=by
 induction u with
 |undef c=>exact .undef c
 |p v c u=>exact .p v c u
 |slice s off len a ks xs b o cap d q i g A=>exact .slice s off len a ks xs b o cap (j _ _ d σ) q i g A
 |sliceE s off a ks xs base d q=>exact .sliceE s off a ks xs base (j _ _ d σ) q
 |bslice s off len cs b o cap d q i g=>exact .bslice s off len cs b o cap (j _ _ d σ) q i g
 |bsliceE s off cs base d q=>exact .bsliceE s off cs base (j _ _ d σ) q
 |ptrB s off cs b o d i=>exact .ptrB s off cs b o (j _ _ d σ) i
 |ptrA s z off a ks xs b o d hi i=>exact .ptrA s z off a ks xs b o (j _ _ d σ) hi i
 |pF a ks x off b o f I D H u=>exact .pF a ks x off b o f I D H u
 |fn f cs vs y _ r=>exact .fn f cs vs y r
 |agg cs vs y q _ r=>exact .agg cs vs y q r
 |o7 cs vs y _ r=>exact .o7 cs vs y r
 |AB l=>exact .AB l
 |ptrT s off t c0 c1 b d i=>exact .ptrT s off t c0 c1 b (j _ _ d σ) i
 |Iy s t L b o d i=>exact .Iy s t L b o (j _ _ d σ) i
 |Iz s e xs b cap d i g J A=>exact .Iz s e xs b cap (j _ _ d σ) i g J A
 |yB s e d=>exact .yB s e (j _ _ d σ)
theorem Rel.ajQ(r:Rel w0 Pr M0 M β st a w){b0:Bool}{zs0:List PV}(Z:look st.heap ah=some (.log b0 zs0))(b:Bool)(u:List PV):Rel w0 Pr M0 M β {st with heap:=put st.heap ah (.log b u)} a w:=by
 have D:∀s,look (put st.heap ah (.log b u)) s=if s=ah then some (.log b u)else look st.heap s:=λs=>aZ _ _ _ _
 have key:∀{v:AV}{c:Value},AR w M β (look st.heap) v c->AR w M β (look (put st.heap ah (.log b u))) v c:=λA=>A.swap λs blk d Y=>θ
 have f:∀s,(look (put st.heap ah (.log b u)) s).isSome=true->(look st.heap s).isSome=true:=θ
 refine⟨r.mJ,λt v A=>key (r.env t v A),λs blk d=>?_,λs b o d S=>r.own s b o (f s d) S,λs H b o J d B=>r.inj s H b o J (f s d) (f H B),r.dJ,r.jH,r.oZ,r.keep,r.room,r.size,r.os,r.tape,r.output,r.glob⟩;have d:look (put st.heap ah (.log b u)) s=some blk:=d;rw[D]at d;by_cases e:s=ah
 .rw[if_pos e]at d;cases d;exact .log _ _
 .rw[if_neg e]at d;cases r.heap s blk d with
  |box cs b o C e fr q p i g z y=>exact .box cs b o C e fr q p i g z λj c R=>key (y j c R)
  |gJ a ks=>exact .gJ a ks
  |log I ys=>exact .log I ys
  |arr a ks xs b o C e fr q p i g z y=>exact .arr a ks xs b o C e fr q p i g z y
  |tb t c0 c1 b C fr q p i g z y N L=>exact .tb t _ _ b C fr q p i g z y (key N) (key L)
  |mp t V b o E k q p i g=>exact .mp t V b o E k q p i g
  |GX e=>exact .GX e
  |br e xs b C fr q p i g U g6=>exact .br e xs b C fr q p i g U g6
theorem qL{s k:Nat}:∀{h:Heap},k∈iI s h↔k≠s/\(look h k).isSome=true
 |[]=>by simp[iI,look]
 |(t,c)::h=>by have d:=qL (s:=s) (k:=k) (h:=h);simp only[iI,look];grind
theorem Hy{h:Nat->Option aH}{ss:List Nat}:∀(l:List AV),(zW h ss l).length=l.length
 |[]=>rfl
 |v::r=>by simp[zW,Hy r]
theorem Rj{h:Nat->Option aH}{ss:List Nat}:∀(l:List AV) (t:Nat),(zW h ss l)[t]?=(l[t]?).map (VU h ss)
 |[],t=>by simp[zW]
 |v::r,0=>by simp[zW]
 |v::r,t+1=>by simp[zW,Rj r t]
theorem afS(r:Rel w0 Pr M0 M β st a w){y:PV}{c:Value}(h:abt (jy [ah] (look st.heap)) v=some y)(j:AR w M β (look st.heap) v c):VR w (bg M β (iI ah st.heap)) y c:=by
 unfold abt at h;split at h
 .rename_i s;split at h
  .rename_i cs A;split at h
   .rename_i vs hp;cases h;have e:s≠ah:=by grind[jy,fB]
    have d:look st.heap s=some (.box cs):=by grind[jy]
    have hd:JG (look st.heap) (.ptr s 0 0)=some (.ref vs,[s]):=by
     have q:=uQ hp;have:∀l:List PV,yh (look st.heap) (l.map .p)=some (l,[]):=by
      intro l;induction l with
      |nil=>rfl
      |cons x l i=>simp only[List.map_cons,yh,Nb,i];rfl
     simp_all[JG,this]
    obtain⟨z,_,_⟩:=Qw r.heap (λ_ _ h=>h) hd j;refine z.mono λb t=>⟨t.imp id λ⟨g,o,f,u⟩=>⟨g,o,?_,u⟩,rfl⟩;simp only[List.mem_singleton]at f;subst f;exact qL.2 ⟨e,by rw[d];rfl⟩
   .cases h
  .cases h
 .cases h
theorem GI.after{A:World}{Mk:Nat->Prop}{f:List PV}(hG:G.Ok P)(i:Inv (gcx G.gl A Mk true f G.t0 G.ys G.yv) st a w)(hl:look st.heap ah=some (.log true f))(h2:G.W0.heap.size<=A.heap.size)(h3:∀b,Mk b->b<A.heap.size/\(G.M0 b\/G.W0.heap.size<=b)){O K:Nat->Prop}{vs j:List PV}
    (hJ:G.J (.agg vs::j) O K A)(hMO:∀b,Mk b->¬O b){W':World}(H:Turns G.gl O w W'){d:Option Nat}(hd:∀t,d=some t->t ∉ G.ys)(b:Bool)
    (h4:(b=true/\(∃O' K',G.J j O' K' W'/\∀c,O' c->O c\/w.heap.size<=c)/\∃ys,rP x.2=(f++[.agg vs])++ys/\ys=j)\/(b=false/\∃O K,G.Jx O K W')):GI G x (je st d f vs b) (a.put d (.bool b)) W':=by
  obtain⟨M,β,L,ds,r,i1,i2,i3,S⟩:=i;have hds:ds=[]:=S.one λh=>h f (by simp[gcx,look]);subst hds;have hgs:A.heap.size<=w.heap.size:=r.size;have R:=H.size;have Ze:∀b,O b->b<A.heap.size:=λb B=>hG.lt _ _ _ _ hJ b (.inl B);have Z:∀c s o,s∈iI ah st.heap->β s=some (c,o)->A.heap.size<=c:=λc s o q B=>by
   rcases(r.own s c o (qL.1 q).2 B).2.2.1 with h |h
   .exact h
   .exact h.elim
  have N:=r.strike (iI ah st.heap) (M':=bg M β (iI ah st.heap)) (λ_ h=>.inl h) (λc h=>by
   rcases h with h |⟨s,o,h1,h2⟩
   .exact .inl h
   .exact .inr ⟨Z c s o h1 h2,s,o,h1,(qL.1 h1).2,h2⟩)
  have r1:Rel _ _ _ (bg M β (iI ah st.heap)) β {env:=zW (jy [ah] (look st.heap)) (iI ah st.heap) st.env,heap:=(st.strike (iI ah st.heap)).heap} a w:=N.slots (by rw[Hy];exact r.mJ) λt v z=>by
   rw[Rj]at z;cases he:st.env[t]? with
   |none=>rw[he]at z;cases z
   |some u=>
    rw[he]at z;simp only[Option.map_some,qOa]at z;have hu:=r.env t u he;unfold VU at z;cases U:abt (jy [ah] (look st.heap)) u with
    |some y=>rw[U]at z;subst z;exact .p _ _ (afS r U hu)
    |none=>
     rw[U]at z;subst z;refine N.env t _ ?_;have q:∀ss:List Nat,(st.strike ss).env=gq ss st.env:=λss=>by
      cases ss with
      |nil=>show st.env=_;rw[qH]
      |cons _ _=>rfl
     grind[jD]
  have hls:look (st.strike (iI ah st.heap)).heap ah=some (.log true f):=by rw[bY,if_neg (λh=>(qL.1 h).1 rfl),hl];rfl
  have V:∀s,(look (st.strike (iI ah st.heap)).heap s).isSome=true->s=ah:=λs q=>by
   rw[bY]at q;by_cases h:s∈iI ah st.heap
   .grind
   .rw[if_neg h]at q;by_cases e:s=ah
    .exact e
    .exact absurd (qL.2 ⟨e,by simpa using q⟩) h
  have I:∀c,bg M β (iI ah st.heap) c->c<w.heap.size/\¬O c/\(G.M0 c\/G.W0.heap.size<=c):=λc g=>by
   refine⟨N.dJ c g,λho=>?_,?_⟩
   .rcases N.jH c g with h |⟨h,_⟩
    .exact hMO c h ho
    .have:=Ze c ho;have h:A.heap.size<=c:=h;omega
   .rcases N.jH c g with h |⟨h,_⟩
    .exact(h3 c h).2
    .have h:A.heap.size<=c:=h;right;omega
  let Mn:Nat->Prop:=λc=>c<w.heap.size/\¬O c/\(G.M0 c\/G.W0.heap.size<=c);have nV:∀c o,β ah≠some (c,o):=λc o h=>by rw[i1 ah (qNr _)]at h;cases h
  have Y:∀s c o,(look (st.strike (iI ah st.heap)).heap s).isSome=true->β s≠some (c,o):=λs c o q h=>by rw[V s q]at h;exact nV c o h
  have r2:Rel ⟨W',W'.heap.size,qNr _,G.gl⟩ (λ_=>False) Mn Mn β {env:=zW (jy [ah] (look st.heap)) (iI ah st.heap) st.env,heap:=(st.strike (iI ah st.heap)).heap} a W':=
   r1.to rfl (λc g=>⟨I c g,H.keep c (I c g).1 (I c g).2.1⟩) (λs c o q h=>absurd h (Y s c o q)) (λc g=>Nat.lt_of_lt_of_le g.1 R) (λc g=>.inl g) (λc g=>g) (λ_ _ _=>rfl) (λ_ _ _ h=>h.elim) (qNr _) rfl rfl rfl
  have r3:=(r2.setEnv d (v:=.p (.bool b)) (c:=.bool b) (.p _ _ (.bool b))).ajQ (b0:=true) (zs0:=f) hls b (f++[.agg vs]);refine⟨W',Mn,b,f++[.agg vs],⟨Mn,β,[],[],r3,i1,λs q blk B=>?_,.refl _ _,⟨λp hp=>by simp at hp,λp hp=>hp,?_,List.nodup_nil,λD hD=>by simp at hD,λl hl=>(by cases hl),(Jd _ _ _).trans S.size,λt H=>absurd trivial H,λ_=>rfl,λt H=>?_,qNr _⟩⟩,λc zs g=>?_,ω,λc g=>⟨Nat.lt_of_lt_of_le g.1 R,g.2.2⟩,?_⟩
  .have B:look (put (st.strike (iI ah st.heap)).heap ah (.log b (f++[.agg vs]))) s=some blk:=B;rw[aZ]at B;by_cases e:s=ah
   .subst e;rw[if_pos rfl]at B;cases B;exact⟨.log b (f++[.agg vs]),by simp[gcx,look],rfl⟩
   grind
  .rw[put_defers];exact S.marks
  .rw[Ws λe=>hd t e H];exact S.yl t H
  .grind[vM]
  .grind
theorem WG{all:List Oper}{ops:Array Oper}(j:ops.toList=all){cx:Cx}(i:Inv cx st a w){o:Oper}{b:Bool}(h:guardOf all o st.env=some b):Region.wanted o (yielded ops a.tmps)=b:=by
 unfold guardOf at h;cases d:o.guard with
 |none=>rw[d]at h;cases h;simp[Region.wanted,d]
 |some q=>
  obtain⟨g,f⟩:=q;rw[d]at h;simp only at h;cases hd:vS all g with
  |none=>rw[hd]at h;cases h
  |some t=>
   rw[hd]at h;simp only at h;split at h
   .rename_i c e;cases h;have p:=QX j hd i e;grind[Region.wanted]
   .rename_i e;cases h;have p:=J5 j hd i e;grind[Region.wanted]
   .cases h
theorem aar{d:Operand->Value}{f:Option Tmp}{g:Operand}{args:Array Operand}{ts:Array TypeId}{type:TypeId}{e:String}{after:Array Edge}{guard:Option (Nat × Bool)}{l:Nat}(h:d g=.func (.yield l) #[] #[]) :
    (execOp d ⟨f,.call ⟨.value g,args,ts⟩,type,e,after,guard⟩)=Instr.yield l (args.map d):=by
  simp only[execOp,resolve,h,Deferred.ofValue];simp[invoke]
end
end
section
variable {keep sa:Bool}{b0 b1:aH}{n x:Nat}{args:List AV}{ak:Array Value}{gl:Option (List (Nat × Obj))}{ks:List Kd}{xs:List PV}{X:Ext}
section
variable {P:Program}{T:Tab}{w0:Base}{Pr M0 M:Nat->Prop}{β UC:Nat->Option (Nat × Nat)}{hp0:Heap}{st st':St}{a:Act}{w:World}
theorem Kv(d:(look (jm keep [b0,b1]) x).isSome=true):x=ah\/x=dh keep:=by grind[EX]
theorem Rel.ajR(hp:V8 keep w M β args [b0,b1] ak)(i:∀ p∈gl.getD [],M p.1/\w.heap[p.1]?=some p.2)(fn:Func){f:Nat}(le:f<=w.heap.size)(q:keep=true\/f=0) :
    Rel ⟨w,f,le,gl⟩ (λb=>∃ x o,(look (jm keep [b0,b1]) x).isSome=true/\β x=some (b,o)) M M β {env:=args++List.replicate (fn.ntmps-args.length) .undef,heap:=jm keep [b0,b1]} {tmps:=ak++Array.replicate (fn.ntmps-ak.size) undef,defers:=[]} w:=by
  have r:=hp.num;refine⟨?_,λt v A=>?_,λs blk d=>hp.blk s blk d,λs b o d j=>?_,hp.inj,hp.dJ,λb h=>.inl h,λb h=>h,λb _ _=>rfl,λb n _ _ h=>h,qNr _,rfl,rfl,rfl,i⟩
  . simp[r]
  . by_cases u:t<args.length
    . have g:args[t]?=some v:=by grind
      have:=hp.args t v g;have e:(ak++Array.replicate (fn.ntmps-ak.size) undef).getD t undef=ak.getD t undef:=by rw[qAb,qAb,Array.getElem?_append_left (by omega)]
      grind
    . have:v=.undef:=by grind
      subst this;exact .undef _
  . obtain⟨z,y⟩:=hp.own s b o d j;refine⟨z,y,.inr ⟨s,o,d,j⟩,?_⟩;rcases Kv d with rfl|rfl;all_goals grind[dh,ah]
theorem SE{h:Nat->Option aH}{d:List dV}{ts:List TypeId}{g:List AV}{cs:List Value}{ps:List (Option (Nat × Nat))}(i:qM T w M β h d ts g cs ps)(hd:BH d=true):∀p∈ps,p=none:=by
 induction i with
 |nil d=>intro p hp;simp at hp
 |cons d t ts v vs c cs p ps f y u r=>
  have j:d.headD .deep=.deep/\BH d.tail=true:=by
   cases d with
   |nil=>exact⟨rfl,rfl⟩
   |cons m d=>cases m<;>simp[BH]at hd;grind
  intro q e;rcases List.mem_cons.1 e with rfl |e
  .rw[j.1]at f;cases f;rfl
  grind
theorem adp{z off len:Nat}:zl (jm keep [.box [.slice (dh keep) z off len],.arr sa ks xs]):=by intro ys d;grind[EX]
theorem aas(ok:bJ P T)(hX:rO P T gl X)(hC:dS P T gl (jC T X n))(hS:GY P T gl (jC T X n)) :
    ∀ f fi args z off len sa ks xs rs l9,aX T.funcs f=some fi->fi.cfg.vcall=true->jC T X (n+1) f args [.box [.slice (dh fi.cfg.vkeep) z off len],.arr sa ks xs]=some (rs,l9)->(∃ c,fi.fn.body=some c) /\
    ∀(w:World) (M:Nat->Prop) (β:Nat->Option (Nat × Nat)) (ak:Array Value),(∀ p∈gl.getD [],M p.1/\w.heap[p.1]?=some p.2)->V8 fi.cfg.vkeep w M β args [.box [.slice (dh fi.cfg.vkeep) z off len],.arr sa ks xs] ak ->
     Calls P f ak w λe w'=>∃ cs M',e=.returned (qx cs)/\V9 gl T fi w M β sa ks xs rs l9 w' M' cs:=by
  intro f fi args z H t sa ks xs rs l9 hf JY h;simp only[jC,hf]at h;cases N:X f with
  | some s =>
   rw[N]at h;cases B:fi.cfg.gext with
   | false =>obtain⟨_,h1,_⟩:=hX.2.1 f fi s args _ rs l9 hf B N h;simp_all[dI,DL]
   | true =>obtain⟨_,_,h2,_⟩:=hX.2.2 f fi s args _ _ hf B N h;simp at h2
  | none =>
   rw[N]at h;simp only at h;cases d:fi.fn.body with
   | none=>rw[d]at h;cases h
   | some c =>
    rw[d]at h;have B:fi.cfg.gext=false:=by grind[vT]
    simp only[vT,B,JY,qCt,dX,iy,aF,LG,ZP]at h;refine⟨⟨c,rfl⟩,λw M β ak hgl hp=>?_⟩;obtain⟨hfn,hname,hdr,hret⟩:=ok.funcs f fi hf;have hle:cond fi.cfg.vkeep w.heap.size 0<=w.heap.size:=by cases fi.cfg.vkeep<;>simp
    let cx:Cx:={w0:=⟨w,cond fi.cfg.vkeep w.heap.size 0,hle,gl⟩,Pr:=λb=>∃ x o,(look (jm fi.cfg.vkeep [.box [.slice (dh fi.cfg.vkeep) z H t],.arr sa ks xs]) x).isSome=true/\β x=some (b,o),M0:=M,UC:=β,hp0:=jm fi.cfg.vkeep [.box [.slice (dh fi.cfg.vkeep) z H t],.arr sa ks xs],Wr:=λ_=>True,t0:=ak++Array.replicate (fi.fn.ntmps-ak.size) undef,rd:=none,L0:=[],nm:=w.heap.size}
    have hi:Inv cx {env:=args++List.replicate (fi.fn.ntmps-args.length) .undef,heap:=jm fi.cfg.vkeep [.box [.slice (dh fi.cfg.vkeep) z H t],.arr sa ks xs]} {tmps:=ak++Array.replicate (fi.fn.ntmps-ak.size) undef,defers:=[]} w:=
     ⟨M,β,[],[],Rel.ajR hp hgl fi.fn hle (by cases fi.cfg.vkeep<;>simp),λ_ _=>rfl,λs _ b d=>⟨b,d,Like.refl b⟩,.refl _ _,⟨λp hp=>by simp at hp,λp hp=>by simp[cx]at hp,rfl,List.nodup_nil,λD hD=>by simp at hD,λl hl=>(by cases hl),rfl,λ_ _=>rfl,λ_=>rfl,λ_ h=>h.elim,qNr _⟩⟩
    refine jv (rd:=none) (n:=0) (callsIn_of_wp_marks hfn d trivial ?_);refine jG (ng:=false) (Fa (m:=0) ok hC (ok.nvars f fi hf) (rs,l9)) (λ_ f ps y z hy hz=>LZ ok hS hy hz) c ⟨cx,adp,rfl⟩ _ _ w _ _ _ trivial h (hdr c d) (λh=>by cases h) (λ_ _=>⟨λ_ _=>trivial,λ_ _ h=>h.elim⟩) ⟨rfl,hi⟩ λex x' st a w1 A i=>?_;obtain⟨rfl,i⟩:=i;have hk':ajD T fi.cfg fi.fn [.box [.slice (dh fi.cfg.vkeep) z H t],.arr sa ks xs] st=some (rs,l9)/\(ex=.normal\/ex=.ret):=by
     cases ex with
     | normal=>exact⟨A,.inl rfl⟩
     | exit id=>cases A
     | ret=>exact⟨A,.inr rfl⟩
    obtain⟨A,hex⟩:=hk';obtain⟨M1,q,L1,ds1,r1,e1,e2,e3',YM⟩:=i;have goal:LeavesInM (FW none) 0 P fi.fn a.tmps (λe w'=>∃ cs M',e=.returned (qx cs)/\V9 gl T fi w M β sa ks xs rs l9 w' M' cs) a.defers .returning w1:=by
     rw[YM.marks];refine lT ds1 w1 YM.nodup (λD hD=>(YM.lies _ (YM.mark D hD).1).1) λw' q1 q2 q3 q4 q5 q6=>?_;have r:=Inv.shut r1 YM rfl q1 q2 q3 q4 q5;have e3:gu gl w.drawn w'.drawn:=by rw[q6];exact e3'
     unfold ajD at A;split at A
     case h_2=>cases A
     rename_i vs b0 a0 ks0 xs0 hvs hbl;simp only[List.cons.injEq,aH.arr.injEq,and_true]at hbl;obtain⟨_,rfl,rfl,rfl⟩:=hbl;split at A
     case h_2=>cases A
     rename_i X z1 off len I;split at A
     case h_2=>cases A
     rename_i a1 R ys g;cases Y:(a1==sa&&Kd.zJ R ks)&&(BH fi.cfg.rets&&cond fi.cfg.vkeep (X==100001) (Nat.blt X 100000))with
     | false=>rw[Y]at A;cases A
     | true =>
     rw[Y]at A;simp only[qBa,beq_iff_eq]at Y;obtain⟨⟨rfl,hks⟩,amu,J⟩:=Y;have:=Kd.oG _ _ hks;subst this;simp only[qCt]at A;split at A
     case h_2=>cases A
     rename_i rs' Y6;simp only[dX,iy,qOa,Prod.mk.injEq]at A;obtain⟨rfl,rfl⟩:=A;obtain⟨cs,g1,g2⟩:=BM ok r hvs;have hsub:∀ s b,look (nG st.heap [ah,X]) s=some b->look st.heap s=some b:=λs b d=>(zx d).1;obtain⟨S,ps,p1,p2,p3,p4⟩:=Dt r (hA:=look st.heap) (βA:=q) (λj blk hj=>⟨hj,rfl⟩) Y6 hsub g2;have hps:=SE p1 amu;have hS2:∀ s∈S,(look st.heap s).isSome=true/\s≠ah/\s≠X:=by intro s hs;obtain⟨b,d⟩:=Option.isSome_iff_exists.1 (p2 s hs).1;obtain⟨k1,k2⟩:=zx d;grind
     have hup:∀ b,M1 b->bg M1 q S b:=λb h=>.inl h;have e0:q ah=β ah:=e1 ah (qNr _);have hnS:∀ x b o,(look st.heap x).isSome=true->q x=some (b,o)->(x=ah\/x=X)->¬ bg M1 q S b:=by
      intro x b o N d hxx hm;rcases hm with hm |⟨s',L,U,Z⟩
      . exact(r.own x b o N d).1 hm
      . have:=r.inj x s' b o L N (hS2 s' U).1 d Z;grind
     have hib:(look st.heap ah).isSome=true:=by rw[I];rfl
     have V:(look st.heap X).isSome=true:=by rw[g];rfl
     have ajS:X≠ah:=by rintro rfl;rw[I]at g;cases g
     have hPr:∀ x b o,(look st.heap x).isSome=true->q x=some (b,o)->x≠ah->w.heap.size<=b\/∃ L,β (dh fi.cfg.vkeep)=some (b,L):=by
      intro x b o N d hne;rcases(r.own x b o N d).2.2.1 with h |⟨y,L,hy,hby⟩
      . exact .inl h
      . rcases Kv hy with rfl|rfl
        . exact absurd (r.inj x ah b o L N hib d (e0.trans hby)) hne
        grind
     refine⟨qx cs,zu g1,cs,bg M1 q S,rfl,⟨q,look st.heap,ps,p1,hps⟩,λb h=>.inl (r.oZ b h),λb h=>?_,λb h=>?_,λb d h1 h2=>?_,r.size,r.os,r.tape,r.output,e3,?_⟩
     . rcases h with h |⟨s',L,U,Z⟩
       . rcases r.jH b h with h' |⟨_,h' |⟨y,L,hy,hby⟩⟩
         . exact .inl h'
         . grind
         . rcases Kv hy with rfl|rfl;all_goals grind
       grind
     . rcases h with h |⟨s',L,U,Z⟩
       . exact r.dJ b h
       . exact(r.own s' b L (hS2 s' U).1 Z).2.1
     . refine r.keep b d λ⟨y,o,hy,hby⟩=>?_;rcases Kv hy with rfl|rfl
       . grind
       grind
     . have hB:=r.heap ah _ I;have hA:=r.heap X _ g;cases hB with
       | box _ bb bo C e fr k1 k2 k3 k4 k5 k6 =>
       have hcell:=k6 0 _ rfl;have hz:z1=R.length:=by
        generalize C.getD (bo+0) undef=u at hcell;cases hcell with
        | slice _ _ _ a' ks' xs' b' L cap h1 hl d hcap hr=>rw[g]at h1;cases h1;rfl
        | sliceE _ _ a' ks' xs' base h1 hl=>rw[g]at h1;cases h1;rfl
       subst hz;refine⟨off,len,ys,bb,bo,C,e,fr,q X,rfl,e0▸k1,hnS ah bb bo hib k1 (.inl rfl),k2,by simpa using k3,k4,?_,hA.EY hup rfl,λb o d=>?_,λhkp=>?_⟩
       . exact hcell.jf g rfl rfl
       . refine⟨hnS X b o V d (.inr rfl),(r.own X b o V d).2.1,?_,hPr X b o V d ajS⟩;rintro rfl;exact ajS (r.inj X ah b o bo V hib d k1)
       . rw[hkp]at J;have J:X=100001:=by simpa using J
         have hXv:X=dh true:=J;have B:ah<=X:=by rw[J];simp[ah]
         have eX:q X=β X:=e1 X B;refine⟨by rw[eX,hXv],?_,λb o n d hr=>?_⟩
         . obtain⟨b0,m1,m2⟩:=e2 X B _ g;have m1:look (jm fi.cfg.vkeep [.box [.slice (dh fi.cfg.vkeep) z H t],.arr a1 R xs]) X=some b0:=m1;rw[EX,if_neg ajS,hkp,if_pos hXv]at m1;cases m1;exact m2.2.2
         . have hlv:(look (jm fi.cfg.vkeep [.box [.slice (dh fi.cfg.vkeep) z H t],.arr a1 R xs]) X).isSome=true:=by grind[EX]
           have hlt:=(hp.own X b o hlv (eX▸d)).2;refine r.room b n ?_ ⟨X,o,hlv,eX▸d⟩ hr;grind
    rcases hex with rfl|rfl
    . exact goal
    . exact goal
theorem aat:zl [(99999,aH.arr sa ks xs)]:=by intro ys d;grind[Gu]
theorem tH(d:(look [(99999,b1)] x).isSome=true):x=99999:=by grind[Gu]
theorem Rel.ajT(hp:OE w M β args b1 ak)(B:∀ p∈gl.getD [],M p.1/\w.heap[p.1]?=some p.2)(fn:Func) :
    Rel ⟨w,0,Nat.zero_le _,gl⟩ (λb=>∃ o,β 99999=some (b,o)) M M (λx=>if ah<=x then none else β x) {env:=args++List.replicate (fn.ntmps-args.length) .undef,heap:=[(99999,b1)]} {tmps:=ak++Array.replicate (fn.ntmps-ak.size) undef,defers:=[]} w:=by
  have J:=hp.num;have y:(if ah<=99999 then none else β 99999)=β 99999:=if_neg (by decide);refine⟨?_,λt v Y=>?_,λs blk g=>?_,λs b o g D=>?_,λs H b o V g A _ _=>?_,hp.dJ,λb h=>.inl h,λb h=>h,λb _ _=>rfl,λb n _ _ h=>h,qNr _,rfl,rfl,rfl,B⟩
  . simp[J]
  . by_cases L:t<args.length
    . have z:args[t]?=some v:=by grind
      have:=hp.args t v z;have e:(ak++Array.replicate (fn.ntmps-ak.size) undef).getD t undef=ak.getD t undef:=by rw[qAb,qAb,Array.getElem?_append_left (by omega)]
      rw[e];refine this.mono (λb h=>⟨h,rfl⟩) λs blk _ r=>⟨blk,r,Like.refl _,?_,λ_ _ _ _ h=>h⟩;have:=tH (x:=s) (by rw[r];rfl);grind
    . have:v=.undef:=by grind
      subst this;exact .undef _
  . have g:look [(99999,b1)] s=some blk:=g;have e:=tH (x:=s) (by rw[g];rfl);subst e;rw[Gu,if_pos rfl]at g;cases g;cases hp.blk with
    | gJ a ks=>exact .gJ a ks
    | arr a ks xs b o C e fr f d q i u g6=>exact .arr a ks xs b o C e fr (y.trans f) d q i u g6
    | log I xs=>exact .log I xs
    | GX e=>exact .GX e
    | br e xs b C fr f d q i u g6=>exact .br e xs b C fr (y.trans f) d q i u g6
    | mp t U b o E k f d q i=>exact .mp t U b o E k (y.trans f) d q i
    | box cs b o C e fr f d q i u g6 =>refine .box cs b o C e fr (y.trans f) d q i u λj c N=>(g6 j c N).mono (λb h=>⟨h,rfl⟩) λs blk _ r=>⟨blk,r,Like.refl _,?_,λ_ _ _ _ h=>h⟩;have:=tH (x:=s) (by rw[r];rfl);grind
    | tb t c0 c1 b C fr f d q i u g6 S R =>
     have key:∀(c:AV) (v:Value),AR w M β (look [(99999,aH.tb t c0 c1)]) c v->AR w M (λx=>if ah<=x then none else β x) (look [(99999,aH.tb t c0 c1)]) c v:=λc v h=>h.mono (λb h=>⟨h,rfl⟩) λs blk _ r=>⟨blk,r,Like.refl _,by
      have:=tH (x:=s) (by rw[r];rfl);grind⟩
     exact .tb t c0 c1 b C fr (y.trans f) d q i u g6 (key _ _ S) (key _ _ R)
  . have e:=tH (x:=s) g;subst e;have D:β 99999=some (b,o):=by rw[<- y];exact D
    obtain⟨f,d⟩:=hp.own b o D;grind
  . rw[tH (x:=s) g,tH (x:=H) A]
theorem aau(ok:bJ P T)(hX:rO P T gl X)(hC:dS P T gl (jC T X n))(hS:GY P T gl (jC T X n)) :
    ∀ f fi args sa ks xs I L,aX T.funcs f=some fi->fi.cfg.take=true->jC T X (n+1) f args [.log false [],.arr sa ks xs]=some (I,L)->(∃ c,fi.fn.body=some c) /\
    ∀(w:World) (M:Nat->Prop) (β:Nat->Option (Nat × Nat)) (ak:Array Value),(∀ p∈gl.getD [],M p.1/\w.heap[p.1]?=some p.2)->OE w M β args (.arr sa ks xs) ak ->
     Calls P f ak w λe w'=>∃ cs ps M',e=.returned (qx cs)/\QC gl T fi w M β I w' M' cs ps:=by
  intro f fi args sa ks xs I L N Z h;simp only[jC,N]at h;cases U:X f with
  | some s =>
   rw[U]at h;cases u:fi.cfg.gext with
   | false =>obtain⟨_,h1,_⟩:=hX.2.1 f fi s args _ I L N u U h;simp_all[dI]
   | true =>obtain⟨_,_,h2,_⟩:=hX.2.2 f fi s args _ _ N u U h;simp at h2
  | none =>
   rw[U]at h;simp only at h;cases t:fi.fn.body with
   | none=>rw[t]at h;cases h
   | some c =>
    rw[t]at h;have u:fi.cfg.gext=false:=by grind[vT]
    have JY:fi.cfg.vcall=false:=by grind[vT]
    simp only[vT,u,JY,Z,qCt,dX,iy,aF,LG,ZP,Yd]at h;refine⟨⟨c,rfl⟩,λw M β ak hgl hp=>?_⟩;obtain⟨hfn,hname,hdr,hret⟩:=ok.funcs f fi N;let cx:Cx:={w0:=⟨w,0,Nat.zero_le _,gl⟩,Pr:=λb=>∃ o,β 99999=some (b,o),M0:=M,UC:=λx=>if ah<=x then none else β x,hp0:=[(99999,.arr sa ks xs)],Wr:=λ_=>True,t0:=ak++Array.replicate (fi.fn.ntmps-ak.size) undef,rd:=none,L0:=[],nm:=w.heap.size}
    have hi:Inv cx {env:=args++List.replicate (fi.fn.ntmps-args.length) .undef,heap:=[(99999,.arr sa ks xs)]} {tmps:=ak++Array.replicate (fi.fn.ntmps-ak.size) undef,defers:=[]} w:=
     ⟨M,_,[],[],Rel.ajT hp hgl fi.fn,λ_ _=>rfl,λs _ b t=>⟨b,t,Like.refl b⟩,.refl _ _,⟨λp hp=>by simp at hp,λp hp=>by simp[cx]at hp,rfl,List.nodup_nil,λD hD=>by simp at hD,λl hl=>(by cases hl),rfl,λ_ _=>rfl,λ_=>rfl,λ_ h=>h.elim,qNr _⟩⟩
    refine jv (rd:=none) (n:=0) (callsIn_of_wp_marks hfn t trivial ?_);refine jG (ng:=false) (Fa (m:=0) ok hC (ok.nvars f fi N) (I,L)) (λ_ f ps y z hy hz=>LZ ok hS hy hz) c ⟨cx,aat,rfl⟩ _ _ w _ _ _ trivial h (hdr c t) (λh=>by cases h) (λ_ _=>⟨λ_ _=>trivial,λ_ _ h=>h.elim⟩) ⟨rfl,hi⟩ λex x' st a w1 g i=>?_;obtain⟨rfl,i⟩:=i;have hk':ajE T fi.cfg fi.fn st=some (I,L)/\(ex=.normal\/ex=.ret):=by
     cases ex with
     | normal=>exact⟨g,.inl rfl⟩
     | exit id=>cases g
     | ret=>exact⟨g,.inr rfl⟩
    obtain⟨g,hex⟩:=hk';obtain⟨M1,H,L1,ds1,r1,e1,e2,e3',R⟩:=i;have B:LeavesInM (FW none) 0 P fi.fn a.tmps (λe w'=>∃ cs ps M',e=.returned (qx cs)/\QC gl T fi w M β I w' M' cs ps) a.defers .returning w1:=by
     rw[R.marks];refine lT ds1 w1 R.nodup (λD hD=>(R.lies _ (R.mark D hD).1).1) λw' q1 q2 q3 q4 q5 q6=>?_;have r:=Inv.shut r1 R rfl q1 q2 q3 q4 q5;have e3:gu gl w.drawn w'.drawn:=by rw[q6];exact e3'
     unfold ajE at g;split at g
     . cases g
     rename_i vs Y;split at g
     case h_2=>cases g
     rename_i rs' Y6;simp only[dX,qOa,Prod.mk.injEq]at g;obtain⟨rfl,rfl⟩:=g;obtain⟨cs,g1,g2⟩:=BM ok r Y;obtain⟨S,ps,p1,V,p3,p4⟩:=Dt r (hA:=look st.heap) (βA:=H) (λj blk hj=>⟨hj,rfl⟩) Y6 (λ_ _ h=>h) g2;refine⟨qx cs,zu g1,cs,ps,bg M1 H S,rfl,⟨⟨H,look st.heap,p1⟩,λb o t=>?_,λb h=>.inl (r.oZ b h),λb h=>?_,λb h=>?_,λb t h1=>?_,r.size,r.os,r.tape,r.output,e3⟩⟩
     . obtain⟨s,o0,k1,k2,k3,k4⟩:=p3 b o t;obtain⟨o1,o2,o3⟩:=r.own s b o0 k1 k4;refine⟨λh=>?_,o2,o3.1⟩;rcases h with h |⟨A,J,d,q⟩
       . exact o1 h
       . exact k2 (by rw[r.inj s A b o0 J k1 (V A d).1 k4 q];exact d)
     . rcases h with h |⟨A,J,d,q⟩
       . rcases r.jH b h with h' |⟨_,h'⟩;all_goals grind
       . exact .inr (r.own A b J (V A d).1 q).2.2.1
     . rcases h with h |⟨A,J,d,q⟩
       . exact r.dJ b h
       . exact(r.own A b J (V A d).1 q).2.1
     . exact r.keep b t λ⟨o,h⟩=>h1 o h
    rcases hex with rfl|rfl
    . exact B
    . exact B
end
end
section
open Go.RowKit
variable {gl:Option (List (Nat × Obj))}{n:Nat}{X:Ext}
section
variable {P:Program}{T:Tab}{C:aB}{G:Gv}
theorem ahB(n i:Nat):((Array.replicate n undef)[i]?).getD undef=undef:=θ
theorem ahC{A:Array Value}{i:Nat}(h:i<A.toList.length):A.toList[i]?=some (A.getD i undef):=by simp_all
theorem WH{i:World}{Mk:Nat->Prop}{j:Bool}{e:List PV}{t0:Array Value}{ys:List Nat}{yv:Value}{o:Oper}(h:yOp ys o=true):zn (gcx gl i Mk j e t0 ys yv) o:=by
 refine⟨λ_ _=>trivial,λt p f=>?_⟩;have f:t∈ys:=f;simp only[yOp,p,qBa]at h;have d:=h.1;simp only[jJ.2 f,qCt]at d;split at d
 .rename_i s g;exact⟨s,jJ.1 d,.inl g⟩
 .rename_i s g;exact⟨s,jJ.1 d,.inr g⟩
 .cases d
theorem Rk{n:Nat}:∀{l:List Nat},VY n l=true->∀t∈l,t=0\/n<t
 |[],_,t,d=>by simp at d
 |x::r,h,t,d=>by
  simp only[VY,qBa,Bool.or_eq_true]at h;rcases List.mem_cons.1 d with rfl |d
  .simp_all
  .exact Rk h.2 t d
theorem YN{ys:List Nat}:∀{l:List Oper},ahh ys l=true->∀o∈l,yOp ys o=true
 |[],_,o,d=>by simp at d
 |x::r,h,o,d=>by
  simp only[ahh,qBa]at h;rcases List.mem_cons.1 d with rfl |d
  .exact h.1
  .exact YN h.2 o d
theorem L6(ok:bJ P T)(hC:dS P T G.gl C)(H:G.Ok P){hd:List (List Nat)}{ops:Array Oper}{k:St->Option (List AV × List aH)}(hk:∀st x,k st=some x->Has x st){Q:Exit->Act->World->Prop}
    (hQ:∀x st' a' w',k st'=some x->GI G x st' a' w'->Q .normal a' w'):∀(l:List Oper) (j:Nat) (st:St) (a:Act) (w:World) (x:List AV × List aH),(∀o∈l,yOp G.ys o=true)->dD T C false hd ops.toList l j st k=some x->GI G x st a w ->
    wpListIn (FW none) 0 P ops Q l a w
  |[],j,st,a,w,x,_,h,i=>hQ x st a w h i
  |o::rest,j,st,a,w,x,J,h,gi=>by
   have ih:=λst' a' w' x' h i=>L6 (hd:=hd) (ops:=ops) ok hC H hk hQ rest (j+1) st' a' w' x' (λo ho=>J o (by simp[ho])) h i;have step:∀d,step1 T C false (hd.getD j []) ops.toList o st=some d->dD T C false hd ops.toList rest (j+1) d k=some x->wpListIn (FW none) 0 P ops Q (o::rest) a w:=by
    intro d I h;obtain⟨D,Mk,on,u,i,g1,g2⟩:=gi;have:=ahu ok hC rfl (WH (J o σ)) i I (rd:=none) (n:=0) (K:=wpListIn (FW none) 0 P ops Q rest) (λa' w' i'=>ih d a' w' x h ⟨D,Mk,on,u,i',λb zs f=>g1 b zs (UL I b zs f),g2⟩) (Q:=Q);unfold wpListIn;split
    .grind
    .rename_i J;rw[if_neg J]at this;exact⟨λ_ _=>trivial,this⟩
   cases hy:oL false st o with
   |none=>
    rw[oh _ _ hy]at h;cases I:step1 T C false (hd.getD j []) ops.toList o st with
    |none=>rw[I]at h;cases h
    |some d=>rw[I]at h;exact step d I h
   |some p=>
    obtain⟨xs,vs⟩:=p;rw[oU _ _ hy]at h;cases hg:guardOf ops.toList o st.env with
    |none=>rw[hg]at h;cases h
    |some b=>
     rw[hg]at h;cases b with
     |false=>exact step _ (by unfold step1;rw[QW,hg]) h
     |true=>
      obtain⟨no,hno,g⟩:=Gw h;obtain⟨c,ss,ty,_,A,S,hyl,B,R⟩:=NP hy;obtain⟨D,Mk,on,u,i,g1,g2,g3,g4⟩:=gi;obtain⟨rfl,rfl⟩:=g1 _ _ B;have hwant:=WG rfl i hg;rcases g4 with⟨_,amw,O,K,k1,V,k3⟩ |⟨hf,_⟩
      case inr=>cases hf
      have i0:=i;obtain⟨M,β,L,ds,r,i1,i2,i3,fx⟩:=i0;have hgrow:rM G.gl D w:=r.turns i3;have hgs:D.heap.size<=w.heap.size:=r.size;obtain⟨b',zs,q1,ys,q2⟩:=GH hk rest (j+1) _ x g;rw[vM]at q1;cases q1;have hrest:amw=.agg vs::ys:=by rw[q2,List.append_assoc]at k1;exact(List.append_cancel_left k1).symm
      subst hrest;unfold wpListIn;rw[hwant,if_pos rfl];refine tq (λc' U=>by rw[A]at U;cases U) ?_;obtain⟨dst,op,type,pos,after,guard⟩:=o;simp only at A;subst A;obtain⟨callee,args,ts⟩:=c;simp only at S R;subst S;have z:=J _ List.mem_cons_self;simp only[yOp,qBa]at z;have hty:ty∈G.ys:=jJ.1 z.2;have q:∀t,dst=some t->t ∉ G.ys:=λt e Y=>by subst e;have:=z.1;simp only[jJ.2 Y,qCt]at this;cases this
      have hev:a.eval (.tmp ty)=.func (.yield G.l) #[] #[]:=by
       show a.tmps.getD ty undef=_;rcases fx.yl ty hty with h |h
       .exact h
       .have Z:=r.slot ty;rw[hyl,h]at Z;cases Z
      rw[aar hev];have hls:lq w M β (look st.heap) (jX st.env args.toList) (args.map a.eval).toList:=by rw[Array.toList_map];exact r.jX _
      obtain⟨d1,d2,d3⟩:=EO r.heap (λ_ _ h=>h) R hls;have hlt:∀b,O b->b<D.heap.size:=λb f=>H.lt _ _ _ _ V b (.inl f);obtain⟨fn,tmps,asg,body,N,P7⟩:=H.y vs ys O K w (bg M β ss) (args.map a.eval) (H.j _ _ _ _ _ V hgrow) ω (λb f=>by
       have out:∀b,D.heap.size<=b->¬O b/\(G.M0 b\/G.W0.heap.size<=b):=λb f=>⟨λho=>by have:=hlt b ho;omega,by right;omega⟩;rcases f with f |⟨s,o',Z,f⟩
       .refine⟨r.dJ b f,?_⟩;rcases r.jH b f with h |⟨h,_⟩
        .exact⟨k3 b h,(g3 b h).2⟩
        .exact out b h
       .obtain⟨o1,o2,o3,_⟩:=r.own s b o' (d3 s Z) f;refine⟨o2,?_⟩;rcases o3 with h |h
        .exact out b h
        .exact h.elim) (by rw[<-Array.length_toList];exact d1.symm) (λi c hc=>by
       have hi:i<(args.map a.eval).toList.length:=by rw[<-d1];exact(qLa.1 hc).1
       exact d2 i c _ hc (ahC hi))
      rw[N,Oper.uponIn_round];refine⟨uo none,RoundIn.mono P7 λe W' hR=>?_⟩;obtain⟨Y,O',K',(⟨rfl,hJ⟩ |⟨rfl,hJx⟩),hO,_⟩:=hR
      .exact ih _ _ W' x g (GI.after H i B g2 g3 V k3 Y q true (.inl ⟨rfl,⟨O',K',hJ,hO⟩,ys,q2,rfl⟩))
      .exact ih _ _ W' no hno (GI.after H i B g2 g3 V k3 Y q false (.inr ⟨rfl,O',K',hJx⟩))
theorem YO(ok:bJ P T)(D:dS P T G.gl C)(hG:G.Ok P){F:FI}(f:F.cfg.nvars<=ah):WC T C F n P 0 KP (λ_:Unit=>none) (λ_ o=>yOp G.ys o=true) (λ_ x st a w=>GI G x st a w) where
 reg:=by
  intro _ id ops draw st a w k x Q q h hd hw gi V;have p:∀o∈ops.toList,yOp G.ys o=true:=hw;have U:∀st x,(eF (settle F.cfg ops.toList st) λst'=>k .normal st')=some x->Has x st:=λst x h=>by rw[aF]at h;exact(q .normal _ x h).sub (ou f _ _)
  simp only[aK]at h;obtain⟨h,-⟩:=iK h;cases draw with
  |false=>refine wpIn_region_list (L6 ok D hG U (λH st' a' w' t g=>?_) ops.toList 0 st a w x p h gi);rw[aF]at t;exact V H _ a' w' t (g.map (λ_ i=>i.settle f _) (ou f _ _))
  |true=>
   simp only[iP]at hd;cases hh:aX F.hides id with
   |none=>rw[hh]at h;cases h
   |some hid=>
    rw[hh]at h hd;simp only[qBa]at hd;simp only[aF]at h;obtain⟨I,Mk,J,e,i,g1,g2⟩:=gi.map (st':=st.strike (present st.heap (qZ ops.toList ops.toList))) (λ_ i=>i.strike _) (ql _ _);have back:∀{N:St->Option (List AV × List aH)}{st':St}{a':Act}{w':World},Skm.pJ (look (st.strike (present st.heap (qZ ops.toList ops.toList))).heap ah) st' N=some x->Inv (gcx G.gl I Mk J e G.t0 G.ys G.yv) st' a' w'->∃d,N d=some x/\GI G x d a' w':=by intro N st' a' w' t y;obtain⟨d,B,i2,S⟩:=y.pJ (λon' xs he=>by obtain⟨rfl,rfl⟩:=g1 _ _ he;exact⟨xs,by simp[gcx,look]⟩) t;exact⟨d,B,I,Mk,J,e,i2,λb Y hb=>g1 b Y (S b Y hb),g2⟩
    cases R:ZO F.cfg.ys ops.toList with
    |none=>rw[R]at h;refine YH ok D hd.1 hd.2 h (λo A=>WH (p o A)) i λst' a' w' t y=>?_;obtain⟨d,B,u⟩:=back t y;exact V x _ a' w' B (GI.map u (λ_ i=>i.settle f _) (ou f _ _))
    |some Z=>rw[R]at h;refine abM ok D hd.1 hd.2 (Rf R) h (λo A=>WH (p o A)) i λst' a' w' t y _=>?_;obtain⟨d,B,u⟩:=back t y;refine L6 ok D hG (λst x h=>(q .normal _ x h).sub (ou f _ _)) (λH st3 a3 w3 h3 g3=>V H _ a3 w3 h3 (g3.map (λ_ i=>i.settle f _) (ou f _ _))) (ops.toList.drop Z) Z d a' w' x (λo A=>p o (List.mem_of_mem_drop A)) B u
 forget:=λ_ x st a w c g=>g.map (λ_ i=>i.aC _ _) (iR _ _ _)
 cond:=by intro _ x st a w c b g hv;obtain⟨I,Mk,J,e,⟨M,β,L,ds,r,_⟩,_⟩:=g;have hc:=r.aP c;rw[hv]at hc;exact hc.Dh
 kseq:=λz k q=>q.seq f z
 kblock:=λid k q=>q.block id
 kloop:=λc j k q=>q.loop f c j
theorem afT(ok:bJ P T)(hX:rO P T gl X)(hC:dS P T gl (jC T X n)):GY P T gl (jC T X (n+1)):=by
 intro g fi d x hf q h;simp only[jC,hf]at h;cases hx:X g with
 |some s=>
  rw[hx]at h;obtain⟨rs,l9⟩:=x;cases z:fi.cfg.gext with
  |false=>obtain⟨_,R,_⟩:=hX.2.1 g fi s _ _ rs l9 hf z hx h;simp_all[dI]
  |true=>
   obtain⟨amx,R,_,h3,h4⟩:=hX.2.2 g fi s _ _ _ hf z hx h;have A:d=amx:=by simp only[List.cons.injEq,true_and]at R;exact List.map_inj_right (λ_ _ e=>AV.p.inj e) |>.1 R
   grind
 |none=>
  rw[hx]at h;simp only at h;cases f:fi.fn.body with
  |none=>rw[f]at h;cases h
  |some c=>
   rw[f]at h;simp only at h;have z:fi.cfg.gext=false:=by grind[vT]
   have S:iZ c=true/\(∀o∈opsOf c,yOp fi.cfg.ys o=true)/\∀t∈fi.cfg.ys,t=0\/d.length<t:=by unfold iW at q;rw[f,z]at q;simp only[Bool.false_or,qBa]at q;exact⟨q.1,YN q.2.2.1,Rk q.2.1⟩
   have JY:fi.cfg.vcall=false:=by unfold iW at q;grind
   have Y:fi.cfg.take=false:=by unfold iW at q;grind
   have hcb:vT fi.cfg [.log true []]=true:=by simp[vT,z,JY,Y]
   rw[hcb]at h;simp only[qCt,dX,iy,aF,LG,ZP,JY,Y]at h;obtain⟨hfn,hname,hdr,hret⟩:=ok.funcs g fi hf;refine⟨hfn,?_⟩;intro W0 M0 l lb J Jx O0 hgl hlb hlv N hJ hJx Z hY h0;let ak:Array Value:=#[.func (.yield l) #[] #[]]++lb;let t0:Array Value:=ak++Array.replicate (fi.fn.ntmps-ak.size) undef;let G:Gv:={W0,M0,J,Jx,t0,l,gl,ys:=fi.cfg.ys};have hc0:ak[0]?=some (.func (.yield l) #[] #[]):=θ
   have hcs:0<ak.size:=θ
   have hG:G.Ok P:=⟨λr _ _ _ _ h g=>(hJ r).grows h g,λ_ _ _ _ h g=>hJx.grows h g,Z,hY⟩;have hrep:∀i,((Array.replicate (fi.fn.ntmps-ak.size) undef)[i]?).getD undef=undef:=λi=>ahB _ i;have hp:ni W0 M0 (λ_=>none) (.AB::d.map .p) [.log true []] ak:=by
    refine⟨by simp[ak,hlb];omega,λi v hi=>?_,λi b0 hi=>?_,λi b o hi f=>(by cases f),λi j b o o' hi hj f=>(by cases f),λb f=>(N b f).1⟩
    .cases i with
     |zero=>
      simp at hi;subst hi;have:ak.getD 0 undef=.func (.yield l) #[] #[]:=by rw[qAb,hc0];rfl
      rw[this];exact .AB l
     |succ i=>
      simp only[List.getElem?_cons_succ,List.getElem?_map,Option.map_eq_some_iff]at hi;obtain⟨c,A,rfl⟩:=hi;have:ak.getD (i+1) undef=lb.getD i undef:=by simp only[ak,qAb];rw[Array.getElem?_append_right σ];simp
      rw[this];exact .p _ _ (hlv i c A)
    .cases i with
     |zero=>simp at hi;subst hi;exact .log _ _
     |succ i=>simp at hi
   have hr:Rel ⟨W0,W0.heap.size,qNr _,gl⟩ (λ_=>False) M0 M0 (λ_=>none) (wI fi.fn (.AB::d.map .p) [.log true []]) {tmps:=t0,defers:=[]} W0:=by have:=Rel.start hp hgl fi.fn;grind
   have hlk:look (wI fi.fn (.AB::d.map .p) [.log true []]).heap ah=some (.log true []):=by rfl
   have hgi:GI G x (wI fi.fn (.AB::d.map .p) [.log true []]) {tmps:=t0,defers:=[]} W0:=by
    refine⟨W0,M0,true,[],⟨M0,λ_=>none,[],[],hr,λ_ _=>rfl,λs _ blk f=>⟨blk,?_,Like.refl _⟩,.refl _ _,⟨λp hp=>by simp at hp,λp hp=>hp,rfl,List.nodup_nil,λD hD=>by simp at hD,λl hl=>(by cases hl),rfl,λ_ _=>rfl,λ_=>rfl,λt ht=>?_,qNr _⟩⟩,λb H f=>?_,qNr _,λb f=>⟨(N b f).1,.inl f⟩,.inl ⟨rfl,rP x.2,O0,_,rfl,h0,λb f=>(N b f).2⟩⟩
    .exact f
    .rcases S.2.2 t ht with rfl |Z
     .left;show t0.getD 0 undef=_;rw[qAb];show((ak++Array.replicate (fi.fn.ntmps-ak.size) undef)[0]?).getD undef=_;rw[Array.getElem?_append_left hcs,hc0];rfl
     .right;show t0.getD t undef=_;have hsz:ak.size=1+lb.size:=θ
      rw[qAb];grind
    grind
   let kf:Ex->St->Option (List AV × List aH):=λU st=>match U with
    |.exit _=>none
    |_=>Yc T fi.cfg fi.fn [.log true []] st
   have hlast:∀st B,Yc T fi.cfg fi.fn [.log true []] st=some B->∃b H vs,look st.heap ah=some (.log b H)/\rP B.2=H/\EN T st.env (look st.heap) fi.fn.results.toList=some vs:=by
    intro st B y;unfold Yc at y;split at y
    .cases y
    .rename_i vs hvs;split at y
     .rename_i rs' ahA Y6 u;simp only[dX,iy,qOa]at y;subst y;simp only[BG]at u;split at u
      .rename_i b bs R h2;cases h2;cases A:Gn b&&backOk (.log true []) b with
       |false=>rw[A]at u;cases u
       |true=>
        rw[A]at u;simp only[qCt,qOa]at u;subst u;simp only[qBa]at A;cases b with
        |box=>simp[backOk]at A
        |arr=>simp[backOk]at A
        |tb=>simp[backOk]at A
        |mp=>simp[backOk]at A
        |br=>simp[backOk]at A
        |log on H=>exact⟨on,H,vs,R,rfl,hvs⟩
      .cases u
     .cases y
   have hkp:KP kf:=by
    intro U st B y;have y:Yc T fi.cfg fi.fn [.log true []] st=some B:=θ
    obtain⟨b,H,_,R,h2,_⟩:=hlast st B y;exact⟨b,H,R,[],by rw[h2];simp⟩
   refine jv (rd:=none) (n:=0) (callsIn_of_wp_marks hfn f trivial ?_);refine jG (ng:=true) (YO ok hC hG (ok.nvars g fi hf)) (λh=>by cases h) c () _ _ W0 kf x _ hkp h (hdr c f) (λ_=>S.1) S.2.1 hgi λU B st a w1 y gi=>?_;have hk':Yc T fi.cfg fi.fn [.log true []] st=some B/\(U=.normal\/U=.ret):=by
    cases U with
    |normal=>exact⟨y,.inl rfl⟩
    |exit id=>cases y
    |ret=>exact⟨y,.inr rfl⟩
   obtain⟨y,hex⟩:=hk';obtain⟨b,H,vs,q1,q2,q3⟩:=hlast st B y;obtain⟨wd,Mk,on,done,⟨M,β,L,ds,r,i1,i2,i3,fx⟩,g1,g2,g3,g4⟩:=gi;obtain⟨rfl,rfl⟩:=g1 _ _ q1;have I:LeavesInM (FW none) 0 P fi.fn a.tmps (λe W'=>(∃v,e=.returned v)/\∃O K:Nat->Prop,J [] O K W'\/Jx O K W') a.defers .returning w1:=by
    rw[fx.marks];refine lT ds w1 fx.nodup (λD hD=>(fx.lies _ (fx.mark D hD).1).1) λw' k1 k2 k3 k4 k5 k6=>?_;have r':=Inv.shut r fx rfl k1 k2 k3 k4 k5;obtain⟨cs,e1,e2⟩:=BM ok r' q3;have hgrow:rM G.gl wd w':=r'.turns (by rw[k6];exact i3);refine⟨qx cs,zu e1,⟨_,rfl⟩,?_⟩;rcases g4 with⟨_,V,O,K,p1,p2,_⟩ |⟨_,O,K,p1⟩
    .rw[q2]at p1;have:V=[]:=by have:=congrArg List.length p1;simp at this;exact this
     subst this;exact⟨O,K,.inl ((hJ _).grows p2 hgrow)⟩
    .exact⟨O,K,.inr (hJx.grows p1 hgrow)⟩
   rcases hex with rfl|rfl
   .exact I
   .exact I
theorem jl(ok:bJ P T){X:Ext}{gl:Option (List (Nat × Obj))}(d:rO P T gl X):∀n,dS P T gl (jC T X n)/\GY P T gl (jC T X n)
 |0=>⟨⟨λf fi args bl e i _ _ h=>by simp[jC]at h,λf fi args z off len a ks xs e i _ _ h=>by simp[jC]at h,λf fi args a ks xs e i _ _ h=>by simp[jC]at h,d.1⟩,λg fi j r _ _ h=>by simp[jC]at h⟩
 |n+1=>⟨⟨adn ok d (jl ok d n).1 (jl ok d n).2,aas ok d (jl ok d n).1 (jl ok d n).2,aau ok d (jl ok d n).1 (jl ok d n).2,d.1⟩,afT ok d (jl ok d n).1⟩
theorem Fe(ok:bJ P T)(d:rO P T gl X)(n:Nat):dS P T gl (jC T X n):=(jl ok d n).1
end
end
end Go.Skm
