import Derived.Test.YtpjaaamhnghloaaGreatDoorAll1
import Derived.Test.YtpjaaamhnghloaaGreatDoorP21
import Derived.Test.YtpjaaamhnghloaaGreatDoorSkmI
import Derived.Shelf.SlIter.Collect
import Derived.Maps.AppendAt
import Derived.Test.YtpjaaamhnghloaaGreatDoorSkmE
import Derived.RangeFuncNested
set_option linter.all false
namespace Go.Skm.Prg
open Go Go.Skm Go.Proofs Go.RowKit Go.Shelf
section
variable {b g j:Nat}{v:Value}{o:Obj}
theorem agd:(Tryz.prog.info? 68).map (λi=>(i.zero,i.size,i.bytes))=some (some (.agg #[.int .i64 0,.int .i64 0,.int .i64 0,.slice none 0 0,.slice none 0 0,.slice none 0 0]),6,96):=τ
theorem akU:Tryz.prog.underlying 50=some (.slice 68):=τ
def Aj(q:List Sg):List PV:=q.flatMap λs=>(eS s).cells
theorem SK(q:List Sg):(Aj q).length=q.length*6:=by
 induction q with
 |nil=>rfl
 |cons s r a=>show((eS s).cells++Aj r).length=_;rw[qLp,a,qLl];show 6+_=_;omega
theorem U0(a b:List Sg):Aj (a++b)=Aj a++Aj b:=by simp[Aj]
theorem KD:∀(q:List Sg) (i j:Nat),j<6->(hi:i<q.length)->(Aj q)[i*6+j]?=(eS q[i]).cells[j]?
 |[],i,j,_,hi=>by simp at hi
 |s::r,0,j,hj,hi=>by show((eS s).cells++Aj r)[0*6+j]?=_;rw[List.getElem?_append_left (by show 0*6+j<6;omega)];simp
 |s::r,i+1,j,hj,hi=>by
  show((eS s).cells++Aj r)[(i+1)*6+j]?=_;rw[List.getElem?_append_right (by show 6<=(i+1)*6+j;omega)];have:(i+1)*6+j-(eS s).cells.length=i*6+j:=by show(i+1)*6+j-6=_;omega
  rw[this,KD r i j hj (by simpa using hi)];rfl
theorem Zd{q:List Sg}{c:PV}(h:c∈Aj q):c.leaf=true:=by obtain⟨s,_,a⟩:=List.mem_flatMap.1 h;simp only[eS,PV.cells,List.mem_cons,List.not_mem_nil,or_false]at a;rcases a with rfl|rfl|rfl|rfl|rfl|rfl<;>rfl
def BO(W:World)(M:Nat->Prop)(ps:List PV)(cs:List Value):Prop:=cs.length=ps.length/\∀(t:Nat) (c:PV) (v:Value),ps[t]?=some c->cs[t]?=some v->VR W M c v
theorem BO.mono{W W':World}{M M':Nat->Prop}{ps:List PV}{cs:List Value}(h:BO W M ps cs)(a:∀b,M b->M' b/\W'.heap[b]?=W.heap[b]?):BO W' M' ps cs:=
 ⟨h.1,λt c v e d=>(h.2 t c v e d).mono a⟩
theorem BO.append{W:World}{M:Nat->Prop}{e f:List PV}{c1 l:List Value}(h:BO W M e c1)(k:BO W M f l):BO W M (e++f) (c1++l):=by
 refine⟨by rw[qLp,qLp,h.1,k.1],λt c v d a=>?_⟩;by_cases i:t<e.length
 .rw[List.getElem?_append_left i]at d;rw[List.getElem?_append_left (by rw[h.1];exact i)]at a;exact h.2 t c v d a
 .rw[List.getElem?_append_right ω]at d;rw[List.getElem?_append_right (by rw[h.1];omega),h.1]at a;exact k.2 _ c v d a
def U1(W:World)(M:Nat->Prop)(B:Nat)(v:Value)(q:List Sg):Prop:=∃cs,W.ownsRow B 68 6 v q.length cs/\BO W M (Aj q) cs
theorem U1.lt{W:World}{M:Nat->Prop}{B:Nat}{v:Value}{q:List Sg}(h:U1 W M B v q):∀g,v.ownBlock=some g->B<=g/\g<W.heap.size:=by obtain⟨cs,a,_⟩:=h;exact a.lt
theorem U1.mono{W W':World}{M M':Nat->Prop}{B:Nat}{v:Value}{q:List Sg}(h:U1 W M B v q)(f:∀b,M b->M' b/\W'.heap[b]?=W.heap[b]?)(d:∀g,v.ownBlock=some g->W'.heap[g]?=W.heap[g]?):U1 W' M' B v q:=by
 obtain⟨cs,a,e⟩:=h;refine⟨cs,⟨a.1,?_⟩,e.mono f⟩;rcases a.2 with h |⟨g,cap,c,rfl,l,k,i⟩
 .exact .inl h
 .exact .inr ⟨g,cap,c,rfl,l,(d g rfl).trans k,i⟩
structure Held (w0:World) (M0:Nat->Prop) (Bl Br:Nat) (Mx:Nat->Prop) (vs:List Value) (qs:List (List Sg)) (W:World):Prop where
 lbox:W.heap[Bl]?=some (.cells #[.slice (some ⟨Br,0,none⟩) vs.length vs.length] 42 (0,0))
 row:W.heap[Br]?=some (.cells vs.toArray 50 (0,0))
 len:qs.length=vs.length
 rows:∀(j:Nat) (v:Value) (q:List Sg),vs[j]?=some v->qs[j]?=some q->U1 W Mx w0.heap.size v q
 apart:∀(j k:Nat) (v u:Value) (g:Nat),vs[j]?=some v->vs[k]?=some u->v.ownBlock=some g->u.ownBlock=some g->j=k
 below:Below w0.heap.size w0 W
 mlt:∀b,Mx b->b<W.heap.size/\(M0 b\/w0.heap.size<=b)
 agf:∀(j:Nat) (v:Value) (g:Nat),vs[j]?=some v->v.ownBlock=some g->¬Mx g
 mB:¬Mx Bl/\¬Mx Br
 base:w0.heap.size<=Bl/\w0.heap.size<=Br
section
variable {w0:World}{M0:Nat->Prop}{Bl Br:Nat}{Mx:Nat->Prop}{vs:List Value}{qs:List (List Sg)}{W W':World}
theorem Held.at_(h:Held w0 M0 Bl Br Mx vs qs W)(a:vs[j]?=some v):∃q,qs[j]?=some q/\U1 W Mx w0.heap.size v q:=by have d:=(qLa.1 a).1;have c:qs[j]?=some (qs[j]'(by rw[h.len];exact d)):=qLd _;exact⟨_,c,h.rows j v _ a c⟩
theorem Held.own_ne(h:Held w0 M0 Bl Br Mx vs qs W)(c:vs[j]?=some v)(k:v.ownBlock=some g)(i:W.heap[b]?=some o)(f:∀a,o≠.cells a 68 (0,0)):g≠b:=by obtain⟨q,_,cs,d,_⟩:=h.at_ c;rcases ownsRow_ne_a d i f with e |e;all_goals grind
theorem Held.keep(h:Held w0 M0 Bl Br Mx vs qs W)(a:Below w0.heap.size w0 W')(k:W.heap.size<=W'.heap.size)(i:W'.heap[Bl]?=W.heap[Bl]?)(f:W'.heap[Br]?=W.heap[Br]?)(e:∀b,Mx b->W'.heap[b]?=W.heap[b]?)(d:∀(j:Nat) (v:Value) (g:Nat),vs[j]?=some v->v.ownBlock=some g->W'.heap[g]?=W.heap[g]?):Held w0 M0 Bl Br Mx vs qs W':=
 ⟨i.trans h.lbox,f.trans h.row,h.len,λj v q c l=>(h.rows j v q c l).mono (λb a=>⟨a,e b a⟩) (λg m=>d j v g c m),h.apart,a,λb a=>⟨Nat.lt_of_lt_of_le (h.mlt b a).1 k,(h.mlt b a).2⟩,h.agf,h.mB,h.base⟩
theorem Held.lt(h:Held w0 M0 Bl Br Mx vs qs W):Bl<W.heap.size/\Br<W.heap.size:=⟨(qAa.1 h.lbox).1,(qAa.1 h.row).1⟩
theorem Held.ne(h:Held w0 M0 Bl Br Mx vs qs W):Bl≠Br:=λe=>by have a:=h.lbox;grind[h.row]
theorem Held.grow(h:Held w0 M0 Bl Br Mx vs qs W)(e:W.heap.size<=W'.heap.size)(a:∀b,b<W.heap.size->W'.heap[b]?=W.heap[b]?)(n:W'.os=W.os)(m:W'.tape=W.tape)(l:W'.output=W.output):Held w0 M0 Bl Br Mx vs qs W':=by have c:=h.below.size;refine h.keep ⟨n.trans h.below.os,m.trans h.below.tape,l.trans h.below.output,Nat.le_trans c e,λb d=>(a b ω).trans (h.below.block b d)⟩ e (a _ h.lt.1) (a _ h.lt.2) (λb d=>a b (h.mlt b d).1) λj v g f k=>?_;obtain⟨q,_,i⟩:=h.at_ f;exact a g (i.lt g k).2
theorem Held.other(h:Held w0 M0 Bl Br Mx vs qs W)(m:w0.heap.size<=b)(w:W.heap[b]?=some o)(r:b≠Bl/\b≠Br)(u:¬Mx b)(t:∀n,o≠.cells n 68 (0,0))(l:W.grownBy W' (some b)):Held w0 M0 Bl Br Mx vs qs W':=by have d:∀c,c<W.heap.size->c≠b->W'.heap[c]?=W.heap[c]?:=λc f i=>l.block c f (λe=>i (by cases e;rfl));refine h.keep (h.below.grown l h.below.size λk e=>by cases e;exact m) l.size (d _ h.lt.1 r.1.symm) (d _ h.lt.2 r.2.symm) (λc f=>d c (h.mlt c f).1 λe=>u (e▸f)) λj v g p a=>?_;obtain⟨q,_,s⟩:=h.at_ p;exact d g (s.lt g a).2 (h.own_ne p a w t)
end
theorem setRow{w:World}{k:Nat}{xs:List Value}{e:TypeId}(v:Value)(c:w.heap[g]?=some (.cells xs.toArray e (0,0))):(w.setCell ⟨g,k,none⟩ v).heap[g]?=some (.cells (xs.set k v).toArray e (0,0)):=by obtain⟨a,d⟩:=qAa.1 c;show(w.heap.modify g _)[g]?=_;grind
theorem yS(W:World)(b k:Nat)(v:Value):W.grownBy (W.setCell ⟨b,k,none⟩ v) (some b):=
 ⟨rfl,rfl,rfl,(KeepsWalks.setCell W _ v).size,λj _ a=>Below.heap_setCell _ _ _ j (λe=>a (by rw[e]))⟩
set_option maxHeartbeats 1000000 in
theorem Held.append{w0:World}{M0:Nat->Prop}{Bl Br:Nat}{Mx M:Nat->Prop}{vs:List Value}{qs:List (List Sg)}{W:World}(h:Held w0 M0 Bl Br Mx vs qs W){k:Nat}(X:k<vs.length){q:List Sg}(hq:q≠[])(hql:(qs.getD k []).length+q.length<=1000000){pv:Value}(l:VR W M (.list true iV (eP q)) pv)
    (H:∀b,M b->b<W.heap.size/\(M0 b\/w0.heap.size<=b)/\b≠Bl/\b≠Br/\∀(j:Nat) (v:Value),vs[j]?=some v->v.ownBlock≠some b) :
    ∃v' wB,(Builtin.append_ #[50,50] 50 #[vs[k],pv]).run Tryz.prog W=.ok v' wB/\v'.cells=#[v']/\v'.oneCell'=true/\W.grownBy wB vs[k].ownBlock/\wB.heap[Br]?=W.heap[Br]?/\Held w0 M0 Bl Br (λb=>Mx b\/M b) (vs.set k v') (qs.set k (qs.getD k []++q)) (wB.setCell ⟨Br,k,none⟩ v') /\
     (∀g,v'.ownBlock=some g->vs[k].ownBlock=some g\/W.heap.size<=g):=by
  have d:vs[k]?=some vs[k]:=qLd X;have hqk:qs[k]?=some (qs.getD k []):=by rw[qLb,qLd (by rw[h.len];exact X)];rfl
  obtain⟨cs,F,hcv⟩:=h.rows k _ _ d hqk;obtain⟨i0,hi,hz0,hz1,Z⟩:=info_parts agd;obtain⟨s0,r0,hs0⟩:=List.exists_cons_of_ne_nil hq;generalize I:eP q=xs at l;cases l with
  |iM _ _ base cap=>rw[hs0]at I;simp[eP]at I
  |list _ _ _ b o cap f hMb hcap a WS hs=>
  subst I;have h6:iV.length=6:=rfl;have hcell:∀(t:Nat) (u:Value),(rowOf f q.length 6)[t]?=some u->W.cell? ((⟨b,o,none⟩:Addr).add t)=some u/\∃c,(Aj q)[t]?=some c/\VR W M c u:=λt u s=>by
   have ht:t<q.length*6:=by rw[<-Ak f];exact(qLa.1 s).1
   obtain⟨x,E,h3⟩:=KE ht δ;have hx:(eP q)[t / 6]?=some (eS q[t / 6]):=by rw[eP,List.getElem?_map,qLd x];rfl
   have hj:t%6<(eS q[t / 6]).cells.length:=E;have S:=a _ _ _ _ hx (qLd hj);have hvv:=WS _ _ _ _ hx (qLd hj);have h4:=Fq (f:=f) x E;rw[h3]at h4;rw[h4]at s;cases s;have hf:=KD q (t / 6) (t%6) E x;rw[h3,qLd hj]at hf;rw[h6,Nat.add_assoc,h3]at S;exact⟨by rw[Addr.add_lit];exact S,_,hf,hvv⟩
  have R:=h.below.size;have G:(rowOf f q.length 6).length=q.length*6:=Ak _ _ _;have hel:(eP q).length=q.length:=jM q
  obtain⟨v',wB,k1,Y,V,_,k5⟩:=run_append_own_at (P:=Tryz.prog) (w:=W) w0.heap.size 50 50 68 i0 _ 6 96 akU hi hz0 hz1 Z rfl δ vs[k] (qs.getD k []).length cs F ⟨b,o,none⟩ q.length cap (rowOf f q.length 6) G (λt u s=>(hcell t u s).1)
   (λu s=>by obtain⟨t,ht⟩:=List.mem_iff_getElem?.1 s;obtain⟨_,c,x,E⟩:=hcell t u ht;exact E.one (Zd (qLe x))) (by have:maxLen=9223372036854775807:=δ;omega) ω R
  rw[hel];have K:=V.size;have hgrow:∀c,c<W.heap.size->vs[k].ownBlock≠some c->wB.heap[c]?=W.heap[c]?:=λc a A=>V.block c a (λe=>A e.symm);have T:wB.heap[Br]?=W.heap[Br]?:=hgrow _ h.lt.2 λe=>h.own_ne d e h.row (λr e=>by have:=(Obj.cells.inj e).2.1;exact absurd this δ) rfl;have hBl:wB.heap[Bl]?=W.heap[Bl]?:=hgrow _ h.lt.1 λe=>h.own_ne d e h.lbox (λr e=>by have:=(Obj.cells.inj e).2.1;exact absurd this δ) rfl;have ao5:(wB.setCell ⟨Br,k,none⟩ v').heap[Br]?=some (.cells (vs.set k v').toArray 50 (0,0)):=setRow v' (T.trans h.row);have J:=yS wB Br k v';have hfresh:∀g,v'.ownBlock=some g->vs[k].ownBlock=some g\/W.heap.size<=g:=by
   intro g p;rcases k5 with e |e
   .left;rw[<-e];exact p
   .right;rw[e]at p;cases p;exact qNr _
  have ao6:∀g,v'.ownBlock=some g->g≠Br/\g≠Bl:=λg p=>by
   rcases hfresh g p with e |e
   .exact⟨h.own_ne d e h.row (λr e=>by have:=(Obj.cells.inj e).2.1;exact absurd this δ),h.own_ne d e h.lbox (λr e=>by have:=(Obj.cells.inj e).2.1;exact absurd this δ)⟩
   .have:=h.lt;exact⟨ω,ω⟩
  have U:v'.cells=#[v']/\v'.oneCell'=true:=by rcases Y.2 with⟨rfl,_⟩ |⟨g,cap,c,rfl,_⟩<;>exact⟨rfl,rfl⟩
  refine⟨v',wB,k1,U.1,U.2,V,T,?_,hfresh⟩;have B:∀c,c<W.heap.size->vs[k].ownBlock≠some c->c≠Br->(wB.setCell ⟨Br,k,none⟩ v').heap[c]?=W.heap[c]?:=λc a x E=>(J.block c (Nat.lt_of_lt_of_le a K) (λe=>E (by cases e;rfl))).trans (hgrow c a x);have N:∀c,Mx c\/M c->(wB.setCell ⟨Br,k,none⟩ v').heap[c]?=W.heap[c]?:=λc a=>by
   rcases a with a |a
   .exact B c (h.mlt c a).1 (λe=>h.agf k _ c d e a) (λe=>h.mB.2 (e▸a))
   .obtain⟨q1,_,_,q4,q5⟩:=H c a;exact B c q1 (q5 k _ d) q4
  have Q:wB.heap.size=(wB.setCell ⟨Br,k,none⟩ v').heap.size:=by show _=(wB.heap.modify Br _).size;rw[Array.size_modify]
  have m:∀(j:Nat) (v:Value),(vs.set k v')[j]?=some v->(j=k/\v=v')\/(j≠k/\vs[j]?=some v):=λj v l=>by
   by_cases e:j=k
   .subst e;rw[List.getElem?_set_self X]at l;cases l;exact .inl ⟨rfl,rfl⟩
   .rw[List.getElem?_set_ne (Ne.symm e)]at l;exact .inr ⟨e,l⟩
  refine⟨?_,ao5,by rw[List.length_set,List.length_set,h.len],?_,?_,?_,λb L=>?_,?_,?_,h.base⟩
  .rw[List.length_set];exact(B Bl h.lt.1 (λe=>h.own_ne d e h.lbox (λr e=>by have:=(Obj.cells.inj e).2.1;exact absurd this δ) rfl) h.ne).trans h.lbox
  .intro j v q' l z;rcases m j v l with⟨rfl,rfl⟩ |⟨A,l⟩
   .rw[List.getElem?_set_self (by rw[h.len];exact X)]at z;cases z;refine⟨cs++rowOf f q.length 6,?_,?_⟩
    .rw[qLp];refine⟨Y.1,?_⟩;rcases Y.2 with hh |⟨g,cap',c,rfl,g1,g2,g3⟩
     .exact .inl hh
     .exact .inr ⟨g,cap',c,rfl,g1,(J.block g (qAa.1 g2).1 (λe=>(ao6 g rfl).1 (by cases e;rfl))).trans g2,g3⟩
    .rw[U0];refine BO.append (hcv.mono λc a=>⟨.inl a,N c (.inl a)⟩) ⟨by rw[G,SK],λt c u x E=>?_⟩;obtain⟨_,c',e1,e2⟩:=hcell t u E;rw[e1]at x;cases x;exact e2.mono λc a=>⟨.inr a,N c (.inr a)⟩
   .rw[List.getElem?_set_ne (Ne.symm A)]at z;have O:=h.rows j v q' l z;refine O.mono (λc a=>⟨.inl a,N c (.inl a)⟩) λg p=>?_;refine B g (O.lt g p).2 (λe=>A (h.apart j k v _ g l d p e)) (h.own_ne l p h.row (λr e=>by have:=(Obj.cells.inj e).2.1;exact absurd this δ))
  .intro i j v u g l s D C;rcases m i v l with⟨rfl,rfl⟩ |⟨n1,n⟩
   .rcases m j u s with⟨rfl,rfl⟩ |⟨n2,y⟩
    .rfl
    .exfalso;rcases hfresh g D with e |e
     .exact n2 (h.apart j i u _ g y d C e)
     .obtain⟨q2,_,O⟩:=h.at_ y;have:=(O.lt g C).2;omega
   .rcases m j u s with⟨rfl,rfl⟩ |⟨n2,y⟩
    .exfalso;rcases hfresh g C with e |e
     .exact n1 (h.apart i j v _ g n d D e)
     .obtain⟨q2,_,O⟩:=h.at_ n;have:=(O.lt g D).2;omega
    .exact h.apart i j v u g n y D C
  .exact(h.below.grown V R (λc e=>(F.lt c e).1)).grown J ω (λc e=>by cases e;exact h.base.2)
  .rw[<-Q];rcases L with L |L
   .exact⟨Nat.lt_of_lt_of_le (h.mlt b L).1 K,(h.mlt b L).2⟩
   .exact⟨Nat.lt_of_lt_of_le (H b L).1 K,(H b L).2.1⟩
  .intro j v g l p a;rcases m j v l with⟨rfl,rfl⟩ |⟨n1,n⟩
   .rcases hfresh g p with e |e
    .rcases a with a |a
     .exact h.agf j _ g d e a
     .exact(H g a).2.2.2.2 j _ d e
    .rcases a with a |a
     .have:=(h.mlt g a).1;omega
     .have:=(H g a).1;omega
   .rcases a with a |a
    .exact h.agf j v g n p a
    .exact(H g a).2.2.2.2 j v n p
  .refine⟨λa=>?_,λa=>?_⟩
   .rcases a with a |a
    .exact h.mB.1 a
    .exact(H _ a).2.2.1 rfl
   .rcases a with a |a
    .exact h.mB.2 a
    .exact(H _ a).2.2.2.1 rfl
end
section
variable {v:Value}{a:Act}{d:Nat}{gl:Option (List (Nat × Obj))}
section
variable {F:Fence}{n:Nat}{P:Program}{ops:Array Oper}{rest:List Oper}{o:Oper}{a:Act}{w w':World}{Q:Exit->Act->World->Prop}
theorem BP(i:o.guard=none)(b:o.about P w a.eval=none)(hd:∀c,o.op≠.defer c)
    (g:(execOp a.eval o).run P w=.ok (.value v) w')(j:wpListIn F n P ops Q rest (a.put o.dst v) w'):wpListIn F n P ops Q (o::rest) a w:=by
  refine wpListIn_plain i λK e=>?_;unfold Oper.wpIn;refine⟨λf h=>(by rw[b]at h;cases h),?_⟩;rw[Oper.semAt_plain F _ _ hd,g];exact e _ _ j
theorem WX(i:o.guard=none)(b:o.about P w a.eval=none)(hd:∀c,o.op≠.defer c)
    (g:(execOp a.eval o).run P w=.ok .skip w')(j:wpListIn F n P ops Q rest (a.put o.dst undef) w'):wpListIn F n P ops Q (o::rest) a w:=by
  refine wpListIn_plain i λK e=>?_;unfold Oper.wpIn;refine⟨λf h=>(by rw[b]at h;cases h),?_⟩;rw[Oper.semAt_plain F _ _ hd,g];exact e _ _ j
end
theorem WY(h:d<a.tmps.size):(a.put (some d) v).tmps.getD d undef=v:=by simp[Act.put,qAb,h]
theorem adH{t:Nat}(h:t≠d):(a.put (some d) v).tmps.getD t undef=a.tmps.getD t undef:=by simp[Act.put,qAb,qAe (Ne.symm h)]
theorem Jd{d:Option Nat}:(a.put d v).tmps.size=a.tmps.size:=by cases d<;>simp[Act.put]
theorem SI : wO = .region 8 #[⟨some 8,.assign (.tmp 25),50,"program.go:118",#[],none⟩] false:=τ
theorem WU : adF = .region 10 #[⟨some 36,.load 3 (.tmp 7),3,"program.go:120",#[],none⟩,⟨some 37,.binOp .add 3 (.tmp 36) (.const (.int .i64 1)) 3,3,"program.go:120",#[⟨0,.data⟩],none⟩,⟨none,.store 3 (.tmp 7) (.tmp 37),0,"program.go:120",#[⟨1,.data⟩,⟨0,.phase⟩,⟨1,.phase⟩],none⟩] false:=τ
theorem OU(xs:List Value)(k:Nat)(v:Value)(h:k<xs.length):dO xs.toArray k [v]=xs.toArray.setIfInBounds k v:=by simp_all[List.setIfInBounds_toArray,List.set_eq_take_append_cons_drop,dO,patch]
theorem adC:(Tryz.prog.info? 50).map (λi=>(i.zero,i.size,i.bytes))=some (some (.slice none 0 0),1,24):=τ
theorem agh{w:World}{g k:Nat}{xs:List Value}(m:w.heap[g]?=some (.cells xs.toArray 50 (0,0)))(x:k<xs.length)(f:v.cells=#[v])(r:v.oneCell'=true) :
    (Instr.storeAt 50 (.pointer (some ⟨g,k,none⟩)) v).run Tryz.prog w=.ok () (w.setCell ⟨g,k,none⟩ v):=by
  obtain⟨i0,hi,q,h,p⟩:=info_parts adC;have:=qN (P:=Tryz.prog) (t:=50) (b:=g) (o:=k) (c:=v) hi (by rw[f,h];rfl) m (.inl rfl) (by rw[f];simp;omega) (λu j=>by rw[f]at j;simp at j;rw[j];exact r);have e:=OU xs k v x;have s:v.cells.toList=[v]:=by rw[f]
  have y:=setCell_eq (i:=k) (v:=v) m;rw[s,e]at this;rw[this,y]
def lI:List (List Sg)->List (List Sg)->List (List Sg)
 |q::qs,p::ps=>(q++p)::lI qs ps
 |qs,_=>qs
theorem SL(qs:List (List Sg)):lI qs []=qs:=by cases qs<;>rfl
theorem Fv:∀qs ps:List (List Sg),(lI qs ps).length=qs.length
 |[],[]=>rfl
 |[],_::_=>rfl
 |_::_,[]=>rfl
 |q::qs,p::ps=>by simp[lI,Fv qs ps]
theorem OV:∀(qs ps:List (List Sg)) (p:List Sg),ps.length<qs.length->lI qs (ps++[p])=(lI qs ps).set ps.length ((lI qs ps).getD ps.length []++p)
 |[],_,_,h=>by simp at h
 |q::qs,[],p,_=>by simp[lI,SL]
 |q::qs,r::ps,p,h=>by have:=OV qs ps p (by simpa using h);simp[List.cons_append,lI,this,qLl,List.set_cons_succ,List.getD_cons_succ]
theorem KF:∀(qs ps:List (List Sg)) (i:Nat),(lI qs ps).getD i []=qs.getD i []++(if i<qs.length then ps.getD i []else [])
 |[],[],i=>by simp[lI]
 |[],_::_,i=>by simp[lI]
 |q::qs,[],i=>by simp[lI]
 |q::qs,p::ps,0=>by simp[lI]
 |q::qs,p::ps,i+1=>by have:=KF qs ps i;grind[lI]
def OT(q:List Sg):PV:=.agg [.list true iV (eP q),.int .i64 0]
def Mid(w0:World)(M0:Nat->Prop)(Bl Br Bi l:Nat)(rec:Loop)(Wr:World)(O0 MS:Nat->Prop)(qs ps:List (List Sg))(r:List PV)(O K:Nat->Prop)(W:World):Prop:=
 ∃(i:Nat) (Mx:Nat->Prop) (vs:List Value),i<=ps.length/\r=(ps.drop i).map OT/\Held w0 M0 Bl Br Mx vs (lI qs (ps.take i)) W/\W.heap[Bi]?=some (.cells #[.int .i64 (i:Int)] 3 (0,0))/\W.heap[l]?=some (.loop rec)/\(¬Mx Bi/\¬Mx l) /\
  (∀b,O b↔(b=Bi\/b=Bl\/b=Br\/b=l\/∃(j:Nat) (v:Value),vs[j]?=some v/\v.ownBlock=some b))/\(∀b,O b->O0 b\/Wr.heap.size<=b)/\(∀b,b<Wr.heap.size->¬O0 b->W.heap[b]?=Wr.heap[b]?)/\Wr.heap.size<=W.heap.size/\(∀b,Mx b->MS b\/Wr.heap.size<=b)/\(∀b,Mx b->b<Wr.heap.size\/K b)/\∀b,K b->b<W.heap.size
section
variable {w0:World}{M0:Nat->Prop}{Bl Br Bi l:Nat}{rec:Loop}{Wr:World}{O0 MS:Nat->Prop}{qs ps:List (List Sg)}
theorem Mid.lt{r:List PV}{O K:Nat->Prop}{W:World}(h:Mid w0 M0 Bl Br Bi l rec Wr O0 MS qs ps r O K W):∀b,O b\/K b->b<W.heap.size:=by
 obtain⟨i,Mx,vs,B,A,e,h4,h5,z,m,y,x,u,t,s,p⟩:=h;intro b c;rcases c with c |c
 .rcases(m b).1 c with rfl|rfl|rfl|rfl |⟨j,v,f,k⟩
  .grind
  .exact e.lt.1
  .exact e.lt.2
  .grind
  .obtain⟨q,_,g⟩:=e.at_ f;exact(g.lt b k).2
 grind
theorem Mid.bears{r:List PV}(D:w0.heap.size<=Wr.heap.size):Bears gl Wr (Mid w0 M0 Bl Br Bi l rec Wr O0 MS qs ps r):=by
 intro O K W W' S h g x;have u:=h.lt;obtain⟨i,Mx,vs,L,I,z,h4,h5,H,e,G,E,J,y,p,m⟩:=h;have k:∀b,O b->W'.heap[b]?=W.heap[b]?:=λb c=>g.keep b (u b (.inl c)) λf=>(x b f).2.1 c;have s:∀b,b<Wr.heap.size->W'.heap[b]?=W.heap[b]?:=λb c=>g.keep b ω λf=>by have:=(x b f).1;omega
 have c:=z.below
 refine⟨i,Mx,vs,L,I,z.keep ⟨g.os.trans c.os,g.tape.trans c.tape,g.output.trans c.output,Nat.le_trans c.size g.size,λb t=>(s b ω).trans (c.block b t)⟩ g.size (k _ ((e _).2 (.inr (.inl rfl)))) (k _ ((e _).2 (.inr (.inr (.inl rfl))))) (λb C=>?_) (λj v q A t=>k q ((e q).2 (.inr (.inr (.inr (.inr ⟨j,v,A,t⟩)))))),
  (k _ ((e _).2 (.inl rfl))).trans h4,(k _ ((e _).2 (.inr (.inr (.inr (.inl rfl)))))).trans h5,H,e,G,λb c B=>(s b c).trans (E b c B),by have:=g.size;omega,y,p,λb c=>Nat.lt_of_lt_of_le (m b c) g.size⟩
 rcases p b C with q |q
 .exact s b q
 .exact g.keep b (m b q) λf=>(x b f).2.2 q
set_option maxHeartbeats 1000000 in
theorem abU(hne:gl≠none){fn D:Nat}{tm:Array Value}(g:rec={state:=.ready,pending:=none,fn:=fn,tmps:=tm,params:=#[25,26],assign:=wO,body:=xA,defers:=D})(u:tm.size=44)
    (t3:tm.getD 3 undef=.pointer (some ⟨Bl,0,none⟩))(t7:tm.getD 7 undef=.pointer (some ⟨Bi,0,none⟩))(hn:ps.length<=qs.length)(hq:∀q∈ps,q≠[])(hlen:∀j,(qs.getD j []).length+(ps.getD j []).length<=1000000)(hn2:ps.length<=1000000)
    {MR:Nat->Prop}(hMS:∀b,MR b->MS b)(hMR:∀b,MR b->M0 b\/w0.heap.size<=b)(hWr:w0.heap.size<=Wr.heap.size)(hBi:w0.heap.size<=Bi)(hl0:w0.heap.size<=l) :
    ∀(us:List PV) (r:List PV) (O K:Nat->Prop) (W:World) (M:Nat->Prop) (ak:Array Value),Mid w0 M0 Bl Br Bi l rec Wr O0 MS qs ps (.agg us::r) O K W->Wr.heap.size<=W.heap.size->(∀b,M b->b<W.heap.size/\¬O b/\(MR b\/Wr.heap.size<=b))->ak.size=us.length->(∀(i:Nat) (c:PV),us[i]?=some c->VR W M c (ak.getD i undef)) ->
     adI Tryz.prog gl l ak W (Mid w0 M0 Bl Br Bi l rec Wr O0 MS qs ps r) (λ_ _ _=>False) O K M:=by
  intro us r O K W M ak J _ hM hcs hcv;have Ze:∀b,O b->b<W.heap.size:=λb f=>J.lt b (.inl f);obtain⟨i,Mx,vs,h1,h2,I,h4,h5,h6,h7,h8,h9,h10,h11,h12,h13⟩:=J;have hi:i<ps.length:=by
   rcases Nat.lt_or_ge i ps.length with h |h
   .exact h
   .rw[List.drop_eq_nil_iff.2 h]at h2;simp at h2
  rw[qLc hi,List.map_cons,List.cons.injEq]at h2;obtain⟨h2a,h2b⟩:=h2;have hus:us=[.list true iV (eP ps[i]),.int .i64 0]:=by unfold OT at h2a;injection h2a
  subst hus;have Y:=hcv 0 _ rfl;have hc1:=hcv 1 _ rfl;obtain⟨c0,c1,rfl⟩:∃c0 c1,ak=#[c0,c1]:=by
   have hs:ak.size=2:=hcs;refine⟨ak[0],ak[1],?_⟩;apply Array.ext
   .simpa using hs
   .intro j q1 q2;have:j=0\/j=1:=ω
    rcases this with rfl|rfl<;>rfl
  have Y:VR W M (.list true iV (eP ps[i])) c0:=Y;have z:=(h7 Bi).2 (.inl rfl);have aiJ:=(h7 Bl).2 (.inr (.inl rfl));have aiK:=(h7 Br).2 (.inr (.inr (.inl rfl)));have x:=(h7 l).2 (.inr (.inr (.inr (.inl rfl))));have akV:Bi≠Bl:=λe=>by have h:=I.lbox;rw[<-e,h4]at h;have:=(Obj.cells.inj (Option.some.inj h)).2.1;exact absurd this δ
  have ahG:Bi≠Br:=λe=>by have h:=I.row;rw[<-e,h4]at h;have:=(Obj.cells.inj (Option.some.inj h)).2.1;exact absurd this δ
  have akW:l≠Bl:=λe=>by have h:=I.lbox;rw[<-e,h5]at h;cases h
  have aiM:l≠Br:=λe=>by have h:=I.row;rw[<-e,h5]at h;cases h
  have aiN:l≠Bi:=λe=>by rw[<-e,h5]at h4;cases h4
  have hvl:vs.length=qs.length:=by rw[<-I.len,Fv]
  have m:i<vs.length:=ω
  have hL:l<W.heap.size:=Ze l x;refine⟨fn,(tm.setIfInBounds 25 c0).setIfInBounds 26 c1,wO,xA,?_,?_⟩
  .have:=run_yield (P:=Tryz.prog) (args:=#[c0,c1]) h5 (by rw[g];rfl);rw[g]at this;dsimp only at this;rw[SN]at this;exact this
  refine roundIn_of_wpIn trivial ?_;have aiO:(FW none).inRound l=FW (some l):=rfl;rw[aiO,SI];refine wpIn_region_list ?_;refine BP rfl (by simp[Oper.about]) (λc h=>by cases h) (v:=c0) (w':=W) ?_ ?_
  .have:({tmps:=(tm.setIfInBounds 25 c0).setIfInBounds 26 c1,defers:=[]}:Act).eval (.tmp 25)=c0:=by show((tm.setIfInBounds 25 c0).setIfInBounds 26 c1).getD 25 undef=c0;rw[qAb,qAe δ];simp[u]
   simp only[execOp,this];rfl
  refine wpListIn_nil ?_;refine⟨_,run_beginRound (P:=Tryz.prog) h5 (by rw[g]),?_⟩;obtain⟨W1,p⟩:∃W1,W.putObj l (.loop {rec with state:=.busy})=W1:=⟨_,rfl⟩;rw[p];have hg1:W.grownBy W1 (some l):=by rw[<-p];exact grownBy_putObj_a _ _ _
  have hs1:W1.heap.size=W.heap.size:=by rw[<-p];exact World.putObj_size
  have T:∀b,b≠l->W1.heap[b]?=W.heap[b]?:=λb f=>by rw[<-p];exact World.putObj_heap_other f
  have hL1:W1.heap[l]?=some (.loop {rec with state:=.busy}):=by rw[<-p];exact World.putObj_heap_same hL
  have H1:Held w0 M0 Bl Br Mx vs (lI qs (ps.take i)) W1:=I.other hl0 h5 ⟨akW,aiM⟩ h6.2 (λy e=>by cases e) hg1;have H1d:Held w0 M0 Bl Br Mx vs (lI qs (ps.take i)) {W1 with drawn:=W1.drawn+1}:=H1.grow (qNr _) (λ_ _=>rfl) rfl rfl rfl;clear p;have hMl:∀b,M b->b≠l:=λb f e=>(hM b f).2.1 (e▸x);have hc0':VR {W1 with drawn:=W1.drawn+1} M (.list true iV (eP ps[i])) c0:=Y.mono (w':={W1 with drawn:=W1.drawn+1}) λb f=>⟨f,T b (hMl b f)⟩;have N:(lI qs (ps.take i)).getD i []=qs.getD i []:=by
   rw[KF];have:(ps.take i).getD i []=[]:=by rw[qLb,List.getElem?_eq_none (by rw[List.length_take];exact Nat.min_le_left _ _)];rfl
   rw[this];split<;>simp
  have R:ps.getD i []=ps[i]:=by rw[qLb,qLd hi];rfl
  have hl2:=hlen i;rw[R]at hl2;obtain⟨v',wB,k1,k2,k3,k4,k5,H2,k7⟩:=H1d.append (M:=M) m (hq _ (List.getElem_mem hi)) (by rw[N];exact hl2) hc0' (λb f=>by
   obtain⟨m1,m2,m3⟩:=hM b f;refine⟨by show b<W1.heap.size;rw[hs1];exact m1,?_,λe=>m2 (e▸aiJ),λe=>m2 (e▸aiK),λj v hv e=>m2 ((h7 b).2 (.inr (.inr (.inr (.inr ⟨j,v,hv,e⟩)))))⟩;rcases m3 with h |h
   .exact hMR b h
   .right;omega)
  rw[N,<-R]at H2;have akX:(lI qs (ps.take i)).set i (qs.getD i []++ps.getD i [])=lI qs (ps.take (i+1)):=by have:=OV qs (ps.take i) ps[i] (by simp;omega);rw[show(ps.take i).length=i by simp;omega,N]at this;rw[List.take_succ_eq_append_getElem hi,this,R]
  rw[akX]at H2;have G:vs[i]?=some vs[i]:=qLd m;have H:∀b,b<W.heap.size->vs[i].ownBlock≠some b->wB.heap[b]?=W1.heap[b]?:=λb f h=>k4.block b (by show b<W1.heap.size;omega) λe=>h e.symm;have hownO:∀b,vs[i].ownBlock=some b->O b:=λb f=>(h7 b).2 (.inr (.inr (.inr (.inr ⟨i,_,G,f⟩))));have n1:vs[i].ownBlock≠some Bl:=λe=>H1.own_ne G e H1.lbox (λy e=>by have:=(Obj.cells.inj e).2.1;exact absurd this δ) rfl;have aiP:W1.heap[Bi]?=some (.cells #[.int .i64 (i:Int)] 3 (0,0)):=(T Bi aiN.symm).trans h4;have n2:vs[i].ownBlock≠some Bi:=λe=>H1.own_ne G e aiP (λy e=>by have:=(Obj.cells.inj e).2.1;exact absurd this δ) rfl;have n3:vs[i].ownBlock≠some l:=λe=>H1.own_ne G e hL1 (λy e=>by cases e) rfl;have ao9:wB.heap[Bl]?=W1.heap[Bl]?:=H Bl (Ze _ aiJ) n1;have akY:wB.heap[Bi]?=some (.cells #[.int .i64 (i:Int)] 3 (0,0)):=(H Bi (Ze _ z) n2).trans aiP;have hLB:wB.heap[l]?=some (.loop {rec with state:=.busy}):=(H l hL n3).trans hL1;have akZ:wB.heap[Br]?=some (.cells vs.toArray 50 (0,0)):=k5.trans H1.row;have hsB:W.heap.size<=wB.heap.size:=by have:W1.heap.size<=wB.heap.size:=k4.size;omega
  rw[round_eq];refine wpIn_block (wpIn_seq ?_);have asM:(((tm.setIfInBounds 25 c0).setIfInBounds 26 c1).setIfInBounds 8 c0).size=44:=by simp[u]
  have aiQ:∀t,t≠25->t≠26->t≠8->(((tm.setIfInBounds 25 c0).setIfInBounds 26 c1).setIfInBounds 8 c0).getD t undef=tm.getD t undef:=λt q1 q2 q3=>by rw[qAb,qAe q3.symm,qAe q2.symm,qAe q1.symm,qAb]
  refine Zc (k:=i) (n:=vs.length) (Bl:=Bl) (Bi:=Bi) (Br:=Br) (pv:=c0) (vi:=vs[i]) (v':=v') (wB:=wB) (wC:=wB.setCell ⟨Br,i,none⟩ v') m (by show 35<Array.size _;simp[Act.put,u]) ?_ ?_ ?_ (cell_of_box_a H1.lbox).1 (cell_of_box_a (ao9.trans H1.lbox)).1 (cell_of_box_a aiP).1 (cell_of_box_a akY).1 ?_ k1 (agh akZ m k2 k3) ?_
  .exact(aiQ 3 δ δ δ).trans t3
  .exact(aiQ 7 δ δ δ).trans t7
  .show(((tm.setIfInBounds 25 c0).setIfInBounds 26 c1).setIfInBounds 8 c0).getD 8 undef=c0;simp[qAb,u]
  .simp[World.cell?,H1.row,m]
  intro a ha1 ha2 ha3;have ha7:a.eval (.tmp 7)=.pointer (some ⟨Bi,0,none⟩):=(ha3 7 ω).trans ((aiQ 7 δ δ δ).trans t7);have asO:a.tmps.size=44:=ha1.trans (by simp[Act.put,u]);obtain⟨wC,E⟩:∃wC,wB.setCell ⟨Br,i,none⟩ v'=wC:=⟨_,rfl⟩;rw[E]at H2 ⊢;have X:wB.grownBy wC (some Br):=by rw[<-E];exact yS _ _ _ _
  have hsC:wC.heap.size=wB.heap.size:=by rw[<-E];show(wB.heap.modify Br _).size=_;rw[Array.size_modify]
  have hkC:∀b,b<W.heap.size->b≠l->vs[i].ownBlock≠some b->b≠Br->wC.heap[b]?=W.heap[b]?:=λb f q0 q1 q2=>(X.block b ω (λe=>q2 (by cases e;rfl))).trans ((H b f q1).trans (T b q0));have aiR:wC.heap[Bi]?=some (.cells #[.int .i64 (i:Int)] 3 (0,0)):=(X.block Bi (by have:=Ze _ z;omega) (λe=>ahG (by cases e;rfl))).trans akY;have hLC:wC.heap[l]?=some (.loop {rec with state:=.busy}):=(X.block l ω (λe=>aiM (by cases e;rfl))).trans hLB;clear E;obtain⟨cBi,fBi⟩:=cell_of_box_a aiR;show adF.wpIn _ _ _ _ a wC;rw[WU];refine wpIn_region_list ?_;refine BP rfl (by simp[Oper.about]) (λc h=>by cases h) (v:=.int .i64 (i:Int)) (w':=wC) (by simp only[execOp,ha7];simp[Instr.loadAt,go_sem,cBi]) ?_;have apb:(a.put (some 36) (.int .i64 (i:Int))).eval (.tmp 36)=.int .i64 (i:Int):=WY ω;refine BP rfl (by simp[Oper.about]) (λc h=>by cases h) (v:=.int .i64 ((i+1:Nat):Int)) (w':=wC) ?_ ?_
  .have e1:IntKind.i64.wrap ((i:Int)+1)=((i+1:Nat):Int):=cZ i ω;simp only[execOp,apb];simp[go_sem,e1]
  have apc:((a.put (some 36) (.int .i64 (i:Int))).put (some 37) (.int .i64 ((i+1:Nat):Int))).eval (.tmp 37)=.int .i64 ((i+1:Nat):Int):=WY (by rw[Jd];omega);have apd:((a.put (some 36) (.int .i64 (i:Int))).put (some 37) (.int .i64 ((i+1:Nat):Int))).eval (.tmp 7)=.pointer (some ⟨Bi,0,none⟩):=(adH δ).trans ((adH δ).trans ha7);refine WX rfl (by simp[Oper.about]) (λc h=>by cases h) (w':=wC.setCell ⟨Bi,0,none⟩ (.int .i64 ((i+1:Nat):Int))) (by simp only[execOp,apc,apd];simp[Instr.storeAt,go_sem,cBi,fBi]) ?_;refine wpListIn_nil ?_;obtain⟨A,s⟩:∃A,wC.setCell ⟨Bi,0,none⟩ (.int .i64 ((i+1:Nat):Int))=A:=⟨_,rfl⟩;rw[s];have V:wC.grownBy A (some Bi):=by rw[<-s];exact grownBy_setCell0_a _ _ _
  have ak0:A.heap[Bi]?=some (.cells #[.int .i64 ((i+1:Nat):Int)] 3 (0,0)):=by rw[<-s];exact heap_setCell_box_a _ aiR
  have hsD:A.heap.size=wC.heap.size:=by rw[<-s];show(wC.heap.modify Bi _).size=_;rw[Array.size_modify]
  have hLD:A.heap[l]?=some (.loop {rec with state:=.busy}):=(V.block l ω (λe=>aiN (by cases e;rfl))).trans hLC;have mBi:¬(Mx Bi\/M Bi):=λh=>h.elim h6.1 λh=>(hM Bi h).2.1 z;have ml:¬(Mx l\/M l):=λh=>h.elim h6.2 λh=>(hM l h).2.1 x;have H3:Held w0 M0 Bl Br (λb=>Mx b\/M b) (vs.set i v') (lI qs (ps.take (i+1))) A:=H2.other hBi aiR ⟨akV,ahG⟩ mBi (λy e=>by have:=(Obj.cells.inj e).2.1;exact absurd this δ) V;clear s;have L:=run_endRound (P:=Tryz.prog) none hLD;have adK:({({rec with state:=.busy}:Loop)with state:=if(none:Option Code).isNone then .ready else .done,pending:=none}:Loop)=rec:=by rw[g];rfl
  rw[adK]at L;refine⟨_,_,L,?_⟩;obtain⟨B,C⟩:∃B,A.putObj l (.loop rec)=B:=⟨_,rfl⟩;rw[C];have U:A.grownBy B (some l):=by rw[<-C];exact grownBy_putObj_a _ _ _
  have hsE:B.heap.size=A.heap.size:=by rw[<-C];exact World.putObj_size
  have hLE:B.heap[l]?=some (.loop rec):=by rw[<-C];exact World.putObj_heap_same (qAa.1 hLD).1
  have apg:B.heap[Bi]?=some (.cells #[.int .i64 ((i+1:Nat):Int)] 3 (0,0)):=(U.block Bi (qAa.1 ak0).1 (λe=>aiN (by cases e;rfl))).trans ak0;have H4:Held w0 M0 Bl Br (λb=>Mx b\/M b) (vs.set i v') (lI qs (ps.take (i+1))) B:=H3.other hl0 hLD ⟨akW,aiM⟩ ml (λy e=>by cases e) U;have hkE:∀b,b<W.heap.size->¬O b->B.heap[b]?=W.heap[b]?:=λb f S=>by have q1:b≠l:=λe=>S (e▸x);have q2:b≠Bi:=λe=>S (e▸z);have q3:b≠Br:=λe=>S (e▸aiK);have q4:vs[i].ownBlock≠some b:=λe=>S (hownO b e);exact(U.block b ω (λe=>q1 (by cases e;rfl))).trans ((V.block b ω (λe=>q2 (by cases e;rfl))).trans (hkC b f q1 q4 q3))
  have adL:∀b,(b=Bi\/b=Bl\/b=Br\/b=l\/∃(j:Nat) (v:Value),(vs.set i v')[j]?=some v/\v.ownBlock=some b)->O b\/W.heap.size<=b:=by
   intro b f;rcases f with rfl|rfl|rfl|rfl |⟨j,v,hv,hg⟩
   .exact .inl z
   .exact .inl aiJ
   .exact .inl aiK
   .exact .inl x
   .by_cases e:j=i
    .subst e;rw[List.getElem?_set_self m]at hv;cases hv;rcases k7 b hg with e |e
     .exact .inl (hownO b e)
     .right;have:W1.heap.size<=b:=e;omega
    .rw[List.getElem?_set_ne (Ne.symm e)]at hv;exact .inl ((h7 b).2 (.inr (.inr (.inr (.inr ⟨j,v,hv,hg⟩)))))
  have ak1:Turns gl O W B:=by
   have Z:=H4.below;refine⟨ω,hkE,?_,?_,?_,λe=>absurd e hne⟩
   .exact Z.os.trans I.below.os.symm
   .exact Z.tape.trans I.below.tape.symm
   .exact Z.output.trans I.below.output.symm
  refine⟨ak1,λb=>b=Bi\/b=Bl\/b=Br\/b=l\/∃(j:Nat) (v:Value),(vs.set i v')[j]?=some v/\v.ownBlock=some b,λb=>K b\/M b,.inl ⟨rfl,⟨i+1,λb=>Mx b\/M b,vs.set i v',ω,h2b,H4,apg,hLE,⟨mBi,ml⟩,λb=>Iff.rfl,λb f=>?_,λb f S=>?_,ω,λb f=>?_,λb f=>?_,λb f=>?_⟩⟩,adL,λb f=>f.imp id .inl⟩
  .rcases adL b f with h |h
   .exact h8 b h
   .right;omega
  .have hno:¬O b:=λh=>by
     rcases h8 b h with h |h
     .exact S h
     .omega
   exact(hkE b ω hno).trans (h9 b f S)
  .rcases f with f |f
   .exact h11 b f
   .exact(hM b f).2.2.imp (hMS b) id
  .rcases f with f |f
   .exact(h12 b f).imp id .inl
   .exact .inr (.inr f)
  .rcases f with f |f
   .have:=h13 b f;omega
   .have:=(hM b f).1;omega
end
end
end Go.Skm.Prg
