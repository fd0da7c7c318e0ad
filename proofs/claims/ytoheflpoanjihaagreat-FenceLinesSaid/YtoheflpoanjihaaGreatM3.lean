import Derived.Test.YtoheflpoanjihaaGreatM1
import Derived.Test.YtoheflpoanjihaaGreatJ7
import Derived.Test.YtoheflpoanjihaaGreatG19
set_option linter.all false
namespace Go.Skm.Fen
open Go Go.Skm
section
variable {t:Rt}{f:Fen}{a b:V3}{l:List Rt}
theorem Qe(f:Fen)(u v w:Int){k:Int}(c:0<k):GR f (u*k) (v*k) (w*k)=GR f u v w:=by
 have e:∀ l,uz l (u*k) (v*k) (w*k)=uz l u v w:=λl=>by rw[Int.mul_comm u,Int.mul_comm v,Int.mul_comm w];exact yU l u v w c
 grind[GR]
theorem RV(f:Fen)(a b:V3)(h:0<t.d):RF f a b t=En f a b t:=Qe f _ _ _ h
theorem F9(f:Fen)(a b:V3):∀{L:List Rt},(∀ x∈L,0<x.d)->(rU f a b L=true↔allP (λx y=>En f a b (iq x y)=true) L)
 |[],_=>⟨λ_=>trivial,λ_=>rfl⟩
 |[_],_=>⟨λ_=>trivial,λ_=>rfl⟩
 | s::t::r,h=>by have m:=(BA (h s (by simp)) (h t (by simp))).1;rw[rU,qBa,RV f a b m,F9 f a b λx c=>h x (List.mem_cons_of_mem _ c)];exact Iff.rfl
theorem OJ(g:0<xq a b){L:List Rt}(hd:∀ x∈(⟨0,1⟩:Rt)::L,Np x)(k:NY (⟨0,1⟩::L))(o:⟨1,1⟩∈L)
    (m:∀ e∈dS f,∀ q∈jX a b e.1 e.2,Jj ⟨0,1⟩ ⟨1,1⟩ q->∃ z∈L,z.n*q.2=q.1*z.d):allP (λx y=>En f a b (iq x y)=true) (⟨0,1⟩::L)↔All f a b:=by
  constructor
  . intro h;refine all_in g (λx c=>(hd x (List.mem_cons_of_mem _ c)).1) k o m ?_;have mono:∀{L:List Rt},allP (λx y=>En f a b (iq x y)=true) L->allP (λx y=>nK x y->En f a b (iq x y)=true) L:=λ{L}=>by
     induction L with
     | nil=>exact λ_=>trivial
     | cons s r i =>
      cases r with
      | nil=>exact λ_=>trivial
      | cons t r=>exact λh=>⟨λ_=>h.1,i h.2⟩
    exact mono h
  . exact λh=>OI λx c y j=>h _ (Wn (hd x c) (hd y j))
theorem Nq{q:Int × Int}(h:Jj ⟨0,1⟩ ⟨1,1⟩ q):q.2≠0/\0<(low q.1 q.2).n/\(low q.1 q.2).n<(low q.1 q.2).d/\(low q.1 q.2).n*q.2=q.1*(low q.1 q.2).d:=by
 obtain⟨p,q⟩:=q;obtain⟨c,i⟩:=h;have c:0<(p*1-0*q)*q:=c;have i:0<(1*q-p*1)*q:=i;have g:q≠0:=λe=>by rw[e,Int.mul_zero]at c;omega
 have k:(low p q).n*q=p*(low p q).d:=y9 p g;have m:0<(low p q).d:=rC g;have j:0<q*q:=by grind
 show q≠0/\0<(low p q).n/\(low p q).n<(low p q).d/\(low p q).n*q=p*(low p q).d;generalize (low p q).n=n at *;generalize (low p q).d=d at *;refine⟨g,?_,?_,k⟩
 . refine nN j ?_;have e:q*q*n=d*((p*1-0*q)*q):=by grind
   rw[e];exact Int.mul_pos m c
 . have e:q*q*(d-n)=d*((1*q-p*1)*q):=by grind
   have:=nN j (a:=d-n) (by rw[e];exact Int.mul_pos m i);omega
theorem Qg{p:Int × Int}{x:Rt}(h:x∈l):x∈zS l p:=by grind[zS]
theorem zW:∀(c:List (Int × Int)) {l:List Rt} {x:Rt},x∈l->x∈nG l c
 |[],_,_,h=>h
 | p::c,_,_,h=>zW c (Qg (p:=p) h)
theorem Ie:∀(c:List (Int × Int)) {l:List Rt} {p:Int × Int},p∈c->0<=(low p.1 p.2).n->(low p.1 p.2).n<=(low p.1 p.2).d->low p.1 p.2∈nG l c
 | q::c,l,p,h,h1,h2=>by
  rcases List.mem_cons.1 h with rfl | h
  . refine zW c ?_;grind[zS]
  . exact Ie c (l:=zS l q) h h1 h2
theorem xE(a b:V3):∀(c:List jW) {l:List Rt} {x:Rt},x∈l->x∈zG a b l c
 |[],_,_,h=>h
 | e::c,_,_,h=>xE a b c (zW (jX a b e.1 e.2) h)
theorem Ig(a b:V3):∀(c:List jW) {l:List Rt} {e:jW} {p:Int × Int},e∈c->p∈jX a b e.1 e.2->0<=(low p.1 p.2).n->(low p.1 p.2).n<=(low p.1 p.2).d->low p.1 p.2∈zG a b l c
 | e'::c,l,e,p,h,hp,h1,h2=>by
  rcases List.mem_cons.1 h with rfl | h
  . exact xE a b c (Ie (jX a b e.1 e.2) hp h1 h2)
  . exact Ig a b c (l:=nG l (jX a b e'.1 e'.2)) h hp h1 h2
theorem Ih{a b:V3}(i:iy a)(g:iy b)(c:¬(a.x=b.x/\a.y=b.y)):∀(d:List jW) {l:List Rt},(∀ e∈d,iy e.1/\iy e.2)->(∀ r∈l,Num r)->∀ r∈zG a b l d,Num r
 |[],_,_,hl=>hl
 | e::d,_,he,hl=>by obtain⟨j,hd⟩:=he e (by simp);exact Ih i g c d (λk h=>he k (List.mem_cons_of_mem _ h)) (CO (jX a b e.1 e.2) hl (FT i g j hd c).2).1
theorem Gf:∀{l:List Rt} {x y:Rt},y∈l->y=x\/y∈CG x l
 | z::r,x,y,h=>by
  unfold CG;by_cases c:z=x
  . rw[if_pos c];rcases List.mem_cons.1 h with rfl | h
    . exact .inl c
    . exact Gf h
  . rw[if_neg c];right;rcases List.mem_cons.1 h with rfl | h
    . simp
    . rcases Gf (x:=z) h with rfl | h;all_goals grind
theorem RX{y:Rt}(h:y∈l):y∈CJ l:=by
 cases l with
 | nil=>simp at h
 | cons x r =>
  rcases List.mem_cons.1 h with rfl | h
  . simp[CJ]
  . rcases Gf (x:=x) h with rfl | h
    . simp[CJ]
    . exact List.mem_cons_of_mem _ h
theorem Jk:∀(l:List Rt) (x:Rt),List.Sublist (CG x l) l
 |[],_=>.slnil
 | z::r,x=>by
  unfold CG;split
  . exact(Jk r x).cons z
  . exact(Jk r z).cons_cons z
theorem UH(h:NY l):NY (CJ l):=by
 cases l with
 | nil=>exact h
 | cons x r=>exact List.Pairwise.sublist ((Jk r x).cons_cons x) h
theorem OL(c:¬(a.x=b.x/\a.y=b.y)):0<xq a b:=Ei c
theorem Jl{r:Rt}(h:Num r):Np r:=⟨h.cn.1,h.lo,h.hi⟩
theorem RY(E:validP f=true)(G:iy a)(F:iy b)(g:¬(a.x=b.x/\a.y=b.y)):rU f a b (numsL f a b)=true↔All f a b:=by
 have d:∀ r∈zG a b [⟨0,1⟩,⟨1,1⟩] (dS f),Num r:=Ih G F g _ (tK E) λr u=>by
  simp only[List.mem_cons,List.not_mem_nil,or_false]at u;rcases u with rfl | rfl
  . exact Rx
  . exact num1
 have o:∀ r∈numsL f a b,Num r:=Oy (KE d);have p:∀{r:Rt},r∈zG a b [⟨0,1⟩,⟨1,1⟩] (dS f)->r∈numsL f a b:=λh=>RX ((wu _).mem_iff.2 h);have c:NY (numsL f a b):=UH (Kz λy D=>(d y D).cn.1);have s:=p (xE a b (dS f) (l:=[⟨0,1⟩,⟨1,1⟩]) (x:=⟨0,1⟩) (by simp));have B:=p (xE a b (dS f) (l:=[⟨0,1⟩,⟨1,1⟩]) (x:=⟨1,1⟩) (by simp));have I:∀ e∈dS f,∀ q∈jX a b e.1 e.2,Jj ⟨0,1⟩ ⟨1,1⟩ q->low q.1 q.2∈numsL f a b:=λe w q v m=>by obtain⟨_,i,C,_⟩:=Nq m;exact p (Ig a b (dS f) w v (by omega) (by omega))
 rw[F9 f a b λx j=>(o x j).cn.1];generalize numsL f a b=N at *;cases N with
 | nil=>simp at s
 | cons h L =>
  have H:h=⟨0,1⟩:=by
   rcases List.mem_cons.1 s with e | e
   . exact e.symm
   . have k:=(List.pairwise_cons.1 c).1 _ e;have i:=o h (by simp);have C:=i.lo;unfold nK at k;exact Vh i.cn Rx.cn (by simp at k ⊢;omega)
  subst H;have A:∀{z:Rt},z∈(⟨0,1⟩:Rt)::L->0<z.n->z∈L:=λ{z} K M=>by grind
  refine OJ (OL g) (λx j=>Jl (o x j)) c (A B (by decide)) λe w q v m=>?_;obtain⟨_,i,_,J⟩:=Nq m;grind
def uY(a b c d:V3):List Rt:=if uG a b c d=0 then [low (pU a b c) (xq a b),low (pU a b d) (xq a b)]else [low (uG a c c d) (uG a b c d)]
def oO(l:List Rt)(t:Rt):List Rt:=if 0<t.n/\t.n<t.d then nH t l else l
def numsD(a b:V3)(l:List Rt)(es:List jW):List Rt:=es.foldl (λl e=>(uY a b e.1 e.2).foldl oO l) l
def Xd(f:Fen)(a b:V3)(p:Rt):List Rt->Bool
 |[]=>true
 | t::r=>En f a b t&&(En f a b (iq p t)&&Xd f a b t r)
def Jm(f:Fen)(a b:V3):List Rt->Bool
 |[]=>true
 | t::r=>En f a b t&&Xd f a b t r
theorem CV{c d:V3}(i:iy a)(g:iy b)(j:iy c)(hd:iy d)(k:¬(a.x=b.x/\a.y=b.y)):(uY a b c d).length<=2/\∀ t∈uY a b c d,Cn t/\Lt2 46 t.n/\Lt2 46 t.d:=by
 have hp:=Ei k;have b1:=xw i g g;have one:∀{p q:Int},I43 p->I43 q->q≠0->Cn (low p q)/\Lt2 46 (low p q).n/\Lt2 46 (low p q).d:=λr o m=>⟨Rw m,Ej (I9 r) (I9 o)⟩;unfold uY;split
 . refine⟨by simp,λt e=>?_⟩;simp only[List.mem_cons,List.not_mem_nil,or_false]at e;rcases e with rfl | rfl
   . exact one (xw i g j) b1 (by show xq a b≠0;omega)
   . exact one (xw i g hd) b1 (by show xq a b≠0;omega)
 . next h =>refine⟨by simp,λt e=>?_⟩;simp only[List.mem_cons,List.not_mem_nil,or_false]at e;subst e;exact one (yY i j j hd) (yY i g j hd) h
structure DL (l:List Rt):Prop where
 num:∀ x∈l,Num x
 srt:NY l
 hd:∃ L,l=⟨0,1⟩::L/\⟨1,1⟩∈L
theorem Qh(h:0<t.n)(L:List Rt):nH t (⟨0,1⟩::L)=⟨0,1⟩::nH t L:=by grind[nH,nK]
theorem Eo(i:DL l)(h:Cn t/\Lt2 46 t.n/\Lt2 46 t.d):DL (oO l t)/\(oO l t).length<=l.length+1/\(∀ x∈l,x∈oO l t)/\(0<t.n->t.n<t.d->t∈oO l t):=by
 unfold oO;split
 . next hc =>obtain⟨k,j,L,rfl,h4⟩:=i;have c:=yZ t (⟨0,1⟩::L);have m:Num t:=⟨h.1,h.2.1,h.2.2,by omega,by omega⟩;refine⟨⟨λx e=>?_,Ky h.1.1 (λy g=>(k y g).cn.1) j,nH t L,Qh hc.1 L,(yZ t L).mem_iff.2 (by simp[h4])⟩,by rw[c.length_eq,qLl];exact qNr _,λx e=>c.mem_iff.2 (List.mem_cons_of_mem _ e),λ_ _=>c.mem_iff.2 (by simp)⟩;grind
 grind
theorem BD:∀(ts:List Rt) {l:List Rt},DL l->(∀ t∈ts,Cn t/\Lt2 46 t.n/\Lt2 46 t.d)->DL (ts.foldl oO l)/\(ts.foldl oO l).length<=l.length+ts.length/\(∀ x∈l,x∈ts.foldl oO l)/\∀ t∈ts,0<t.n->t.n<t.d->t∈ts.foldl oO l
 |[],l,hl,_=>⟨hl,qNr _,λ_ h=>h,λt h=>by simp at h⟩
 | t::ts,l,hl,ht=>by obtain⟨e,o,m,k⟩:=Eo hl (ht t (by simp));obtain⟨b1,j,i,g⟩:=BD ts e λx c=>ht x (List.mem_cons_of_mem _ c);grind
theorem Lc{a b:V3}(m:iy a)(k:iy b)(i:¬(a.x=b.x/\a.y=b.y)):∀(g:List jW) {l:List Rt},DL l->(∀ e∈g,iy e.1/\iy e.2)->DL (numsD a b l g)/\(∀ x∈l,x∈numsD a b l g)/\∀ e∈g,∀ t∈uY a b e.1 e.2,0<t.n->t.n<t.d->t∈numsD a b l g
 |[],l,hl,_=>⟨hl,λ_ h=>h,λe h=>by simp at h⟩
 | e::g,l,hl,he=>by
  obtain⟨r,hd⟩:=he e (by simp);obtain⟨w,_,v,u⟩:=BD (uY a b e.1 e.2) hl (CV m k r hd i).2;obtain⟨b1,q,s⟩:=Lc m k i g w λx c=>he x (List.mem_cons_of_mem _ c);refine⟨b1,λx c=>q x (v x c),λx c t j p o=>?_⟩;rcases List.mem_cons.1 c with rfl | c
  . exact q _ (u t j p o)
  . exact s x c t j p o
theorem Vm:DL [⟨0,1⟩,⟨1,1⟩]:=⟨λr d=>by
    simp only[List.mem_cons,List.not_mem_nil,or_false]at d;rcases d with rfl | rfl
    . exact Rx
    . exact num1,by
    refine List.pairwise_cons.2 ⟨λy c=>?_,List.pairwise_cons.2 ⟨λy c=>by simp at c,List.Pairwise.nil⟩⟩;simp only[List.mem_cons,List.not_mem_nil,or_false]at c;subst c;decide,_,rfl,by simp⟩
theorem OM(f:Fen)(a b:V3):∀(L:List Rt) (p:Rt),Xd f a b p L=true↔(∀ t∈L,En f a b t=true)/\allP (λx y=>En f a b (iq x y)=true) (p::L)
 |[],p=>⟨λ_=>⟨λt h=>by simp at h,trivial⟩,λ_=>rfl⟩
 | t::r,p=>by
  rw[Xd,qBa,qBa,OM f a b r t];constructor
  . rintro ⟨d,c,i,h4⟩;exact⟨λx g=>(List.mem_cons.1 g).elim (λe=>e▸d) (i x),c,h4⟩
  . rintro ⟨d,c,h4⟩;grind
theorem UJ(k:validP f=true)(r:iy a)(p:iy b)(c:¬(a.x=b.x/\a.y=b.y)):Jm f a b (numsD a b [⟨0,1⟩,⟨1,1⟩] (dS f))=true↔All f a b:=by
 obtain⟨⟨g,i,L,u,h4⟩,_,s⟩:=Lc r p c (dS f) Vm (tK k);rw[u]at g i s ⊢;have d:=OJ (f:=f) (OL c) (λx j=>Jl (g x j)) i h4 λe B q n o=>by
  obtain⟨_,z,w,v⟩:=Nq o;have A:low q.1 q.2∈uY a b e.1 e.2:=by unfold jX at n;unfold uY;grind
  grind
 rw[Jm,qBa,OM];constructor
 . grind
 . exact λh=>⟨h _ (Jl Rx),λt m=>h t (Jl (g t (List.mem_cons_of_mem _ m))),d.2 h⟩
theorem Nr(d:validP f=true)(g:iy a)(e:iy b)(c:¬(a.x=b.x/\a.y=b.y)):rU f a b (numsL f a b)=Jm f a b (numsD a b [⟨0,1⟩,⟨1,1⟩] (dS f)):=by rw[Bool.eq_iff_iff,RY d g e c,UJ d g e c]
end
section
open Go.Skm.Dig
variable {d m n q u v w:Int}{k:Nat}
section
variable (X:Ext) (hX:Mine X)
include hX
theorem l68(z:List PV)(y t:Int)(a:List (List V3))(o:∀ h∈a,dO h=true)(A:a.length<=16)(h:Vk n d m q u v w k)(j:0<w)(s:3<=k)(l:k<=60000):∀(r:List (List V3)) (i:Nat),a.drop i=r->i<=a.length ->
    L tab (run tab X) 68 [] [.lp [1,1,0,1,0]] (yR (i:Int) z (bK a) y t (decide (n<0)) (nI n.natAbs) (decide (d<0)) (nI d.natAbs) (decide (m<0)) (nI m.natAbs) (decide (q<0)) (nI q.natAbs))=some ([Ac (!(r.any λh=>decide (0<uz h u v w)))],[]):=by
  intro r;induction r with
  | nil =>intro i hd b;have c:i=a.length:=Nat.le_antisymm b (List.drop_eq_nil_iff.1 hd);subst c;refine L_of ?_;rw[Hg,bM,xO (by omega),qCf];rfl
  | cons x r g =>
   intro i hd _;have e:a[i]?=some x:=by have:=congrArg (·[0]?) hd;grind
   have b:=(qLa.1 e).1;have p:gh a i=x:=by simp[gh,List.getD,e]
   have f:=c49 X hX (o x (qLe e)) h j s l;rw[Em]at f;refine L_of ?_;rw[Hg,bM,rZ b,qCt];simp only[rng b,qCt,qIt,gY a b,p,dL (show i<=9000000000000000000 by omega)];show(run tab X 49 [Al (encL x),_] []).bind _=_;rw[f,qOb,List.any_cons];simp only[qLh,pv_p,toInt_int];rw[show gtI (uz x u v w) 0=decide (0<uz x u v w) from rfl];cases decide (0<uz x u v w)with
   | true=>rfl
   | false=>rw[qCf,Bool.false_or];exact g (i+1) (by rw[<- List.drop_drop,hd];rfl) b
theorem Qb{f:Fen}(a:validP f=true):f.holes.length<=16:=by have _:=hX;unfold validP Dx at a;grind
theorem c68(f:Fen)(b:validP f=true)(h:Vk n d m q u v w k)(a:0<w)(g:3<=k)(e:k<=60000):run tab X 68 [.p (encF f),.p (Em n d m q)] []=some ([Ac (GR f u v w)],[]):=by
 obtain⟨l,j⟩:=nT b;have i:=c49 X hX l h a g e;rw[Em]at i ⊢;refine run_of (hX _ rfl) ?_;rw[encF,e68,i,qOb];simp only[qLh,pv_p,toInt_int];unfold GR;by_cases c:0<=uz f.outer u v w
 . rw[show ltI (uz f.outer u v w) 0=false from decide_eq_false (by omega),qCf,decide_eq_true c,Bool.true_and];exact l68 X hX (encL f.outer) f.low f.high f.holes j (Qb X hX b) h a g e f.holes 0 qLy (Nat.zero_le _)
 grind
theorem c25(f:Fen)(j:validP f=true)(h:Vk n d m q u v w k)(x:0<w){a b N D:Int}(i:y8 (eQ a b) N D k)(l:0<D)(e:3<=k)(C:k<=60000) :
    run tab X 25 [.p (encF f),.p (Em n d m q),.p (eQ a b)] []=some ([Ac ((decide (f.low*D<=N)&&decide (N<=f.high*D))&&GR f u v w)],[]):=by
  obtain⟨_,B,A,z,y⟩:=oJ j;have g:=c68 X hX f j h x e C;have t:=(P6 X hX (a:=f.low) ⟨by omega,by omega⟩ i l e (by omega)).1;have s:=(P6 X hX (a:=f.high) ⟨by omega,by omega⟩ i l e (by omega)).2;have r:=c57 X hX f.low (by omega) (by omega);have o:=c57 X hX f.high (by omega) (by omega);have E:=@nM (f.low*D-N);have s2:=@nM (N-f.high*D);refine run_of (hX _ rfl) ?_;rw[encF]at g ⊢;rw[Em]at g ⊢;rw[show eQ a b=PV.agg [PV.bool (decide (a<0)),At (nI a.natAbs),PV.bool (decide (b<0)),At (nI b.natAbs)] from rfl,e25,r];simp only[qOb,qLh,pv_p,iC];rw[zV a b,t];simp only[qOb,qLh,pv_p,toInt_int];by_cases c:f.low*D<=N
  . rw[show leI (iY (f.low*D-N)) 0=true from decide_eq_true (by omega),qCt,o,decide_eq_true c];simp only[qOb,qLh,pv_p,iC];rw[s];simp only[qOb,qLh,pv_p,toInt_int];by_cases c2:N<=f.high*D
    . rw[show leI (iY (N-f.high*D)) 0=true from decide_eq_true (by omega),qCt,g,decide_eq_true c2];rfl
    grind
  . grind
theorem c22(f:Fen)(i:validP f=true)(p:V3)(hp:mW p):run tab X 22 [.p (encF f),.p (encV p)] []=some ([Ac (kJ f p)],[]):=by have g:=hp;obtain⟨_,_,⟨a,b⟩⟩:=g;have c:=c50 X hX p hp;have h:=c57 X hX p.z (by omega) (by omega);have e:=c25 X hX f i (RQ hp) (by decide) (n24 X hX ⟨a,b⟩) (by decide) (by decide) (by decide);refine run_of (hX _ rfl) ?_;rw[encF]at e ⊢;rw[encV]at c ⊢;rw[e22,c];simp_all[qOb,qLh,pv_p,Jg,iC,toBool_bool,Int.mul_one,kJ]
end
end
section
open Go.Skm.Dig
variable {s t:Rt}{ts:List Rt}
abbrev DI(r:Rt):PV:=eQ r.n r.d
abbrev kQ:List Kd:=[.bool,.slice false [.int .i64],.bool,.slice false [.int .i64]]
def gU(l:List Rt):List PV:=l.map DI
theorem rG(l:List Rt):(gU l).length=l.length:=by simp[gU]
theorem rH{l r:List Rt}{i:Nat}(h:l.drop i=t::r):(gU l).getD i .nil=DI t/\i<l.length/\l.drop (i+1)=r/\t∈l:=by
 have c:l[i]?=some t:=by have:=congrArg (·[0]?) h;grind
 have d:=(qLa.1 c).1;refine⟨by simp[List.getD,c,gU],d,?_,qLe c⟩;rw[<- List.drop_drop,h];rfl
theorem Gg(A S:List PV)(t:PV):(((((A++S).drop (0+0)).take A.length).drop 0).take A.length)++((([t]++(((A++S).drop (0+A.length)).take S.length)).drop 0).take (1+S.length))=A++t::S:=by grind
abbrev Ld(t:Rt):Prop:=Cn t/\Lt2 46 t.n/\Lt2 46 t.d
theorem Gh(h:Ld t):y8 (DI t) t.n t.d 3:=by obtain⟨g,e,c⟩:=h;unfold Lt2 at e c;exact⟨t.n,t.d,rfl,g.1,rfl,jS (by omega) (by omega),jS (by omega) (by omega)⟩
theorem Jo(h:Num t):y8 (DI t) t.n t.d 3:=Gh ⟨h.cn,h.bn,h.bd⟩
theorem RZ{f:Fen}{a b:V3}{r:Rt}(j:0<r.d)(i:0<s.d)(h:r.n*s.d=s.n*r.d):En f a b r=En f a b s:=by
 have q:∀ g c:Int,fD g c r*s.d=fD g c s*r.d:=λg c=>by grind[fD]
 have e:∀ l,uz l (fD a.x b.x r) (fD a.y b.y r) r.d=uz l (fD a.x b.x s) (fD a.y b.y s) s.d:=λl=>Rk l j i (q _ _) (q _ _);grind[En,GR]
theorem Yq{v:V3}(h:iy v):Bd 34359738368 v:=by
 obtain⟨h1,h2,h3⟩:=h
 exact⟨by omega,by omega,by omega⟩
theorem Le{x y z w:Int}(e:-2097152<=x/\x<=2097152)(d:-2097152<=y/\y<=2097152)(c:-2097152<=z/\z<=2097152)(g:-2097152<=w/\w<=2097152) :
    IntKind.i64.wrap ((IntKind.i64.wrap (x*y))-(IntKind.i64.wrap (z*w)))=x*y-z*w/\IntKind.i64.wrap ((IntKind.i64.wrap (x*y))+(IntKind.i64.wrap (z*w)))=x*y+z*w:=by
  have i:=lD e d;have h:=lD c g;rw[wrap_eq (x:=x*y) (by omega) (by omega),wrap_eq (x:=z*w) (by omega) (by omega),wrap_eq (by omega) (by omega),wrap_eq (by omega) (by omega)];exact⟨rfl,rfl⟩
section
variable (X:Ext) (hX:Mine X)
include hX
theorem c83(a b c d:V3)(e:iy a)(i:iy b)(g:iy c)(hd:iy d)(o:¬(a.x=b.x/\a.y=b.y)):run tab X 83 [.p (encV a),.p (encV b),.p (sW c d)] []=some ([.fresh true kQ (gU (uY a b c d))],[]):=by
 have hp:=Ei o;have G:=c105 X hX d c (Yq hd) (Yq g);obtain⟨j,y1⟩:=jD e i;obtain⟨A,y2⟩:=jD g hd;obtain⟨r,y3⟩:=jD e g;obtain⟨H,y4⟩:=jD e hd;have n:∀{z:Int},I43 z->run tab X 71 [Ab z] []=some ([.p (eI z)],[])/\jd z 800000:=λ{z} h=>by unfold I43 at h;exact⟨c71 X hX z (by omega) (by omega),bJ (jS (by omega) (by omega)) (by decide)⟩
 have l:∀{p q:Int},I43 p->I43 q->q≠0->run tab X 93 [.p (eI p),.p (eI q)] []=some ([.p (eQ (sV p q) (rQ p q))],[]):=λM L K=>c93 X hX _ _ (n M).2 (n L).2 K;have w:∀ u v:V3,iy u->iy v->IntKind.i64.wrap (v.x-u.x)=v.x-u.x/\IntKind.i64.wrap (v.y-u.y)=v.y-u.y:=λu v J I=>by obtain⟨p,q⟩:=jD J I;exact⟨wrap_eq (by omega) (by omega),wrap_eq (by omega) (by omega)⟩
 refine run_of (hX _ rfl) ?_;rw[encV,encV,encV,yD]at G;rw[encV,encV,CS,e83,G,qOb];simp only[qLh,pv_p,cell_agg,qLz,List.getD_cons_succ,toInt_int,(w a b e i).1,(w a b e i).2,(w a c e g).1,(w a c e g).2,(w a d e hd).1,(w a d e hd).2,(Le j y2 y1 A).1,(Le r y2 y3 A).1,(Le j r y1 y3).2,(Le j H y1 y4).2,(Le j j y1 y1).2];have F:=yY e i g hd;have E:=yY e g g hd;have D:=xw e i g;have C:=xw e i hd;have m:I43 (xq a b):=xw e i i
 show(bif (uG a b c d != 0)then(run tab X 71 [Ab (uG a c c d)] []).bind λR=>(run tab X 71 [Ab (uG a b c d)] []).bind _ else
  (run tab X 71 [Ab (pU a b c)] []).bind λQ=>(run tab X 71 [Ab (xq a b)] []).bind λP=>(run tab X 93 _ []).bind λO=>(run tab X 71 [Ab (pU a b d)] []).bind λN=>(run tab X 71 [Ab (xq a b)] []).bind _)=_
 unfold uY;by_cases k:uG a b c d=0
 . rw[if_pos k,k,show((0:Int) != 0)=false from rfl,qCf,(n D).1,qOb,(n m).1,qOb];simp only[qLh,pv_p,dI];rw[l D m (by omega),qOb,(n C).1,qOb,qOb];simp only[qLh,pv_p,dI,iC];rw[l C m (by omega)];rfl
 . rw[if_neg k,show(uG a b c d != 0)=true from bne_iff_ne.2 k,qCt,(n E).1,qOb,(n F).1,qOb];simp only[qLh,pv_p,dI];rw[l E F k];rfl
theorem c0t(h:Ld t):run tab X 67 [.p (DI t),.p (eQ 0 1)] []=some ([Ab t.n.sign],[]):=by have q:=P5 X hX (Gh h) (uV (n:=0) (jS (by decide) (by decide)) (by decide)) (by decide) h.1.1 (by decide);grind
theorem c1t(h:Ld t):run tab X 67 [.p (DI t),.p (eQ 1 1)] []=some ([Ab (t.n-t.d).sign],[]):=by have q:=P5 X hX (Gh h) (uV (n:=1) (jS (by decide) (by decide)) (by decide)) (by decide) h.1.1 (by decide);grind
theorem ctt(e:Ld s)(c:Ld t):run tab X 67 [.p (DI s),.p (DI t)] []=some ([Ab (s.n*t.d-t.n*s.d).sign],[]):=P5 X hX (Gh e) (Gh c) (by decide) e.1.1 c.1.1
variable (f:Fen) (a b:V3) (eo el:Nat) (en:Int) (B:List PV)
theorem acM(C:Ld t)(k:Int)(j:Nat)(N:j<=1000)(x:List AV × List Blk):∀(e c:List Rt),(∀ y∈c ++ e,Ld y)->(∃ y∈e,¬ nK y t)->(c ++ e).length<=900000 ->
    L tab (run tab X) 29 [] [.lp [1,1,1,1,0,1,0],.lp [1,1,0,0,1,1,0]] (bW 0 ((c++nH t e).length) eo el en k 0 ts.length (ts.length:Int) ((j+1:Nat):Int) (encL f.outer) (bK f.holes) f.low f.high a.x a.y a.z b.x b.y b.z B (gU ts) (gU (c++nH t e)))=some x ->
    L tab (run tab X) 29 [] [.lp [1,1,1,1,0,1,0],.lp [1,1,0,0,1,1,0],.lp [1,1,0,0,1,1,1,0,0]] (fJ 0 (c++e).length (c.length:Int) eo el en k 0 ts.length (ts.length:Int) (j:Int) (encL f.outer) (bK f.holes) f.low f.high a.x a.y a.z b.x b.y b.z (gU (c++e)) B (gU ts) (((DI t).cell 0).toBool) (((DI t).cell 1).toList) (((DI t).cell 2).toBool) (((DI t).cell 3).toList))=some x:=by
  intro e;induction e with
  | nil=>intro c _ h;obtain⟨y,A,_⟩:=h;simp at A
  | cons y s w =>
   intro c v h u g;have m:(c++y::s).drop c.length=y::s:=by simp
   obtain⟨F,E,_,D⟩:=rH m;have q:=ctt X hX (v y D) C;rw[qLp,qLl]at u;refine L_of ?_;rw[qP,rng E,qCt];simp only[qIt,qNz,F,iC];rw[q,qOb];simp only[qLh,pv_p,toInt_int];rw[Eh];by_cases l:nK y t
   . have i:(c++[y])++s=c++y::s:=by simp
     have r:=w (c++[y]) (by rw[i];exact v) (by
      simp_all) (by rw[i,qLp,qLl];exact u) (by
      rw[nH,if_pos l]at g;rw[show(c++[y])++nH t s=c++y::nH t s by simp];exact g)
     rw[i,show(c++[y]).length=c.length+1 by simp]at r;rw[decide_eq_true (show y.n*t.d-t.n*y.d<0 by unfold nK at l;omega),qCt,dL (by omega)];exact r
   . rw[nH,if_neg l]at g;rw[decide_eq_false (show ¬ y.n*t.d-t.n*y.d<0 by unfold nK at l;omega),qCf];have i:((((c++y::s).length:Nat):Int)-((c.length:Nat):Int)).toNat=(y::s).length:=by rw[qLp];omega
     have M:(((c.length:Nat):Int)-0).toNat=c.length:=by omega
     have o:=Gg (gU c) (gU (y::s)) (DI t);rw[rG,rG]at o;have K:gU c++gU (y::s)=gU (c++y::s):=by simp[gU]
     have J:gU c++DI t::gU (y::s)=gU (c++t::y::s):=by simp[gU]
     rw[K,J,qNz,qNz]at o;have I:leI ((c.length:Nat):Int) (((c++y::s).length:Nat):Int)=true:=decide_eq_true (by rw[qLp];omega);have e7:leI (((c++y::s).length:Nat):Int) (((c++y::s).length:Nat):Int)=true:=decide_eq_true (by omega);have H:leN (1+(y::s).length) 2147483648=true:=decide_eq_true (by rw[qLl];omega);have G:leN c.length 2147483648=true:=decide_eq_true (by omega);have p:leN (c.length+(1+(y::s).length)) 2147483648=true:=decide_eq_true (by rw[qLl];omega);have e11:(c++t::y::s).length=c.length+(1+(y::s).length):=by simp;omega
     rw[e11]at g;simp only[i,M,I,e7,H,G,p,le0,qBs,qCt,o,dL (show j<=9000000000000000000 by omega)];exact g
theorem acN(C:Ld t)(k:Int)(j:Nat)(N:j<=1000)(x:List AV × List Blk):∀(e c:List Rt),(∀ y∈c ++ e,Ld y)->(∃ y∈e,¬ nK y t)->(c ++ e).length<=900000 ->
    L tab (run tab X) 29 [] [.lp [1,1,1,1,0,1,0],.lp [1,1,0,0,1,1,0]] (bW 0 ((c++nH t e).length) eo el en k 0 ts.length (ts.length:Int) ((j+1:Nat):Int) (encL f.outer) (bK f.holes) f.low f.high a.x a.y a.z b.x b.y b.z B (gU ts) (gU (c++nH t e)))=some x ->
    L tab (run tab X) 29 [] [.lp [1,1,1,1,0,1,0],.lp [1,1,0,0,1,1,0],.lp [1,1,0,0,1,1,1,0,0]] (eH 0 (c++e).length (c.length:Int) eo el en k 0 ts.length (ts.length:Int) (j:Int) (encL f.outer) (bK f.holes) f.low f.high a.x a.y a.z b.x b.y b.z B (gU ts) (gU (c++e)) (((DI t).cell 0).toBool) (((DI t).cell 1).toList) (((DI t).cell 2).toBool) (((DI t).cell 3).toList))=some x:=by
  intro e;induction e with
  | nil=>intro c _ h;obtain⟨y,A,_⟩:=h;simp at A
  | cons y s w =>
   intro c v h u g;have m:(c++y::s).drop c.length=y::s:=by simp
   obtain⟨F,E,_,D⟩:=rH m;have q:=ctt X hX (v y D) C;rw[qLp,qLl]at u;refine L_of ?_;rw[pz,rng E,qCt];simp only[qIt,qNz,F,iC];rw[q,qOb];simp only[qLh,pv_p,toInt_int];rw[Eh];by_cases l:nK y t
   . have i:(c++[y])++s=c++y::s:=by simp
     have r:=w (c++[y]) (by rw[i];exact v) (by
      simp_all) (by rw[i,qLp,qLl];exact u) (by
      rw[nH,if_pos l]at g;rw[show(c++[y])++nH t s=c++y::nH t s by simp];exact g)
     rw[i,show(c++[y]).length=c.length+1 by simp]at r;rw[decide_eq_true (show y.n*t.d-t.n*y.d<0 by unfold nK at l;omega),qCt,dL (by omega)];exact r
   . rw[nH,if_neg l]at g;rw[decide_eq_false (show ¬ y.n*t.d-t.n*y.d<0 by unfold nK at l;omega),qCf];have i:((((c++y::s).length:Nat):Int)-((c.length:Nat):Int)).toNat=(y::s).length:=by rw[qLp];omega
     have M:(((c.length:Nat):Int)-0).toNat=c.length:=by omega
     have o:=Gg (gU c) (gU (y::s)) (DI t);rw[rG,rG]at o;have K:gU c++gU (y::s)=gU (c++y::s):=by simp[gU]
     have J:gU c++DI t::gU (y::s)=gU (c++t::y::s):=by simp[gU]
     rw[K,J,qNz,qNz]at o;have I:leI ((c.length:Nat):Int) (((c++y::s).length:Nat):Int)=true:=decide_eq_true (by rw[qLp];omega);have e7:leI (((c++y::s).length:Nat):Int) (((c++y::s).length:Nat):Int)=true:=decide_eq_true (by omega);have H:leN (1+(y::s).length) 2147483648=true:=decide_eq_true (by rw[qLl];omega);have G:leN c.length 2147483648=true:=decide_eq_true (by omega);have p:leN (c.length+(1+(y::s).length)) 2147483648=true:=decide_eq_true (by rw[qLl];omega);have e11:(c++t::y::s).length=c.length+(1+(y::s).length):=by simp;omega
     rw[e11]at g;simp only[i,M,I,e7,H,G,p,le0,qBs,qCt,o,dL (show j<=9000000000000000000 by omega)];exact g
theorem acO(C:Ld t)(k:Int)(j:Nat)(N:j<=1000)(x:List AV × List Blk):∀(e c:List Rt),(∀ y∈c ++ e,Ld y)->(∃ y∈e,¬ nK y t)->(c ++ e).length<=900000 ->
    L tab (run tab X) 29 [] [.lp [1,1,1,1,0,1,0],.lp [1,1,0,0,1,1,0]] (bW 0 ((c++nH t e).length) eo el en k 0 ts.length (ts.length:Int) ((j+1:Nat):Int) (encL f.outer) (bK f.holes) f.low f.high a.x a.y a.z b.x b.y b.z B (gU ts) (gU (c++nH t e)))=some x ->
    L tab (run tab X) 29 [] [.lp [1,1,1,1,0,1,0],.lp [1,1,0,0,1,1,0],.lp [1,1,0,0,1,1,1,0,0]] (eU 0 (c++e).length (c.length:Int) eo el en k 0 ts.length (ts.length:Int) (j:Int) (encL f.outer) (bK f.holes) f.low f.high a.x a.y a.z b.x b.y b.z B (gU (c++e)) (gU ts) (((DI t).cell 0).toBool) (((DI t).cell 1).toList) (((DI t).cell 2).toBool) (((DI t).cell 3).toList))=some x:=by
  intro e;induction e with
  | nil=>intro c _ h;obtain⟨y,A,_⟩:=h;simp at A
  | cons y s w =>
   intro c v h u g;have m:(c++y::s).drop c.length=y::s:=by simp
   obtain⟨F,E,_,D⟩:=rH m;have q:=ctt X hX (v y D) C;rw[qLp,qLl]at u;refine L_of ?_;rw[pG,rng E,qCt];simp only[qIt,qNz,F,iC];rw[q,qOb];simp only[qLh,pv_p,toInt_int];rw[Eh];by_cases l:nK y t
   . have i:(c++[y])++s=c++y::s:=by simp
     have r:=w (c++[y]) (by rw[i];exact v) (by
      simp_all) (by rw[i,qLp,qLl];exact u) (by
      rw[nH,if_pos l]at g;rw[show(c++[y])++nH t s=c++y::nH t s by simp];exact g)
     rw[i,show(c++[y]).length=c.length+1 by simp]at r;rw[decide_eq_true (show y.n*t.d-t.n*y.d<0 by unfold nK at l;omega),qCt,dL (by omega)];exact r
   . rw[nH,if_neg l]at g;rw[decide_eq_false (show ¬ y.n*t.d-t.n*y.d<0 by unfold nK at l;omega),qCf];have i:((((c++y::s).length:Nat):Int)-((c.length:Nat):Int)).toNat=(y::s).length:=by rw[qLp];omega
     have M:(((c.length:Nat):Int)-0).toNat=c.length:=by omega
     have o:=Gg (gU c) (gU (y::s)) (DI t);rw[rG,rG]at o;have K:gU c++gU (y::s)=gU (c++y::s):=by simp[gU]
     have J:gU c++DI t::gU (y::s)=gU (c++t::y::s):=by simp[gU]
     rw[K,J,qNz,qNz]at o;have I:leI ((c.length:Nat):Int) (((c++y::s).length:Nat):Int)=true:=decide_eq_true (by rw[qLp];omega);have e7:leI (((c++y::s).length:Nat):Int) (((c++y::s).length:Nat):Int)=true:=decide_eq_true (by omega);have H:leN (1+(y::s).length) 2147483648=true:=decide_eq_true (by rw[qLl];omega);have G:leN c.length 2147483648=true:=decide_eq_true (by omega);have p:leN (c.length+(1+(y::s).length)) 2147483648=true:=decide_eq_true (by rw[qLl];omega);have e11:(c++t::y::s).length=c.length+(1+(y::s).length):=by simp;omega
     rw[e11]at g;simp only[i,M,I,e7,H,G,p,le0,qBs,qCt,o,dL (show j<=9000000000000000000 by omega)];exact g
theorem Yt(m:∀ t∈ts,Ld t)(K:ts.length<=2)(k:Nat)(S:k<=100000)(x:List AV × List Blk):∀(c:List Rt) (j:Nat) (l:List Rt),ts.drop j=c->j<=ts.length->DL l->l.length+c.length<=800000 ->
    (L tab (run tab X) 29 [] [.lp [1,1,1,1,0,1,0]] (jm 0 (c.foldl oO l).length eo el en ((k+1:Nat):Int) (encL f.outer) (bK f.holes) f.low f.high a.x a.y a.z b.x b.y b.z B (gU (c.foldl oO l)))=some x) ->
    
    L tab (run tab X) 29 [] [.lp [1,1,1,1,0,1,0],.lp [1,1,0,0,1,1,0]] (bW 0 l.length eo el en (k:Int) 0 ts.length (ts.length:Int) (j:Int) (encL f.outer) (bK f.holes) f.low f.high a.x a.y a.z b.x b.y b.z B (gU ts) (gU l))=some x:=by
  intro c;induction c with
  | nil =>intro j l hd v _ _ h ;have q:j=ts.length:=Nat.le_antisymm v (List.drop_eq_nil_iff.1 hd);subst q;refine L_of ?_;rw[pq,xO (by omega),qCf,dL (by omega)];exact h
  | cons t c H =>
   intro j l hd v e M h ;obtain⟨P,w,O,N⟩:=rH hd;have g:=m t N;obtain⟨J,I,_,_⟩:=Eo e g;rw[qLl]at M;have R:=λG p o=>H (j+1) G O w p o;have E:=c0t X hX g;have D:=c1t X hX g;have C:=c57 X hX 0 (by decide) (by decide);have A:=c57 X hX 1 (by decide) (by decide);rw[List.foldl_cons]at h ;refine L_of ?_;rw[pq,rZ w,qCt,le0,qBs,qCt,C,qOb];simp only[qLh,pv_p,qIt,qNz,P,iC];rw[E,qOb];simp only[qLh,pv_p,toInt_int];rw[AX,dL (by omega)];by_cases c1:t.n<=0
   . rw[decide_eq_true c1,qCt];grind[oO]
   . rw[decide_eq_false c1,qCf,A,qOb];simp only[qLh,pv_p,iC];rw[D,qOb];simp only[qLh,pv_p,toInt_int];rw[AU];by_cases c2:0<=t.n-t.d
     . rw[decide_eq_true c2,qCt];grind[oO]
     . rw[decide_eq_false c2,qCf];have r:oO l t=nH t l:=by rw[oO,if_pos (by omega)]
       have u:∀ y∈l,Ld y:=λy i=>⟨(e.num y i).cn,(e.num y i).bn,(e.num y i).bd⟩;obtain⟨L1,Q,F⟩:=e.hd;rw[r]at h J I;exact acN X hX f a b eo el en B g k j (by omega) x l [] u ⟨⟨1,1⟩,by rw[Q];exact List.mem_cons_of_mem _ F,by unfold nK;simp;omega⟩ (by rw[List.nil_append];omega) (by grind)
theorem acP(e:∀ t∈ts,Ld t)(o:ts.length<=2)(k:Nat)(P:k<=100000)(x:List AV × List Blk):∀(c:List Rt) (j:Nat) (l:List Rt),ts.drop j=c->j<=ts.length->DL l->l.length+c.length<=800000 ->
    (L tab (run tab X) 29 [] [.lp [1,1,1,1,0,1,0]] (jm 0 (c.foldl oO l).length eo el en ((k+1:Nat):Int) (encL f.outer) (bK f.holes) f.low f.high a.x a.y a.z b.x b.y b.z B (gU (c.foldl oO l)))=some x) ->
    (L tab (run tab X) 29 [] [.lp [1,1,1,1,0,1,0]] (lT 0 (c.foldl oO l).length eo el en ((k+1:Nat):Int) (encL f.outer) (bK f.holes) f.low f.high a.x a.y a.z b.x b.y b.z (gU (c.foldl oO l)) B)=some x) ->
    L tab (run tab X) 29 [] [.lp [1,1,1,1,0,1,0],.lp [1,1,0,0,1,1,0]] (iU 0 l.length eo el en (k:Int) 0 ts.length (ts.length:Int) (j:Int) (encL f.outer) (bK f.holes) f.low f.high a.x a.y a.z b.x b.y b.z (gU l) B (gU ts))=some x:=by
  intro c;induction c with
  | nil =>intro j l hd D _ _ i w;have r:j=ts.length:=Nat.le_antisymm D (List.drop_eq_nil_iff.1 hd);subst r;refine L_of ?_;rw[rY,xO (by omega),qCf,dL (by omega)];exact w
  | cons t c M =>
   intro j l hd D g O i w;obtain⟨R,A,E,Q⟩:=rH hd;have h:=e t Q;obtain⟨C,N,_,_⟩:=Eo g h;rw[qLl]at O;have T:=λK q p=>M (j+1) K E A q p;have I:=c0t X hX h;have H:=c1t X hX h;have G:=c57 X hX 0 (by decide) (by decide);have F:=c57 X hX 1 (by decide) (by decide);rw[List.foldl_cons]at i w;refine L_of ?_;rw[rY,rZ A,qCt,le0,qBs,qCt,G,qOb];simp only[qLh,pv_p,qIt,qNz,R,iC];rw[I,qOb];simp only[qLh,pv_p,toInt_int];rw[AX,dL (by omega)];by_cases c1:t.n<=0
   . rw[decide_eq_true c1,qCt];grind[oO]
   . rw[decide_eq_false c1,qCf,F,qOb];simp only[qLh,pv_p,iC];rw[H,qOb];simp only[qLh,pv_p,toInt_int];rw[AU];by_cases c2:0<=t.n-t.d
     . rw[decide_eq_true c2,qCt];grind[oO]
     . rw[decide_eq_false c2,qCf];have u:oO l t=nH t l:=by rw[oO,if_pos (by omega)]
       have v:∀ y∈l,Ld y:=λy m=>⟨(g.num y m).cn,(g.num y m).bn,(g.num y m).bd⟩;obtain⟨L1,S,J⟩:=g.hd;rw[u]at i C N;exact acM X hX f a b eo el en B h k j (by omega) x l [] v ⟨⟨1,1⟩,by rw[S];exact List.mem_cons_of_mem _ J,by unfold nK;simp;omega⟩ (by rw[List.nil_append];omega) (by rw[List.nil_append];exact Yt X hX f a b eo el en B e o k P x c (j+1) _ E A C (by omega) i)
theorem acQ(e:∀ t∈ts,Ld t)(o:ts.length<=2)(k:Nat)(O:k<=100000)(x:List AV × List Blk):∀(c:List Rt) (j:Nat) (l:List Rt),ts.drop j=c->j<=ts.length->DL l->l.length+c.length<=800000 ->
    (L tab (run tab X) 29 [] [.lp [1,1,1,1,0,1,0]] (jm 0 (c.foldl oO l).length eo el en ((k+1:Nat):Int) (encL f.outer) (bK f.holes) f.low f.high a.x a.y a.z b.x b.y b.z B (gU (c.foldl oO l)))=some x) ->
    
    L tab (run tab X) 29 [] [.lp [1,1,1,1,0,1,0],.lp [1,1,0,0,1,1,0]] (gV 0 l.length eo el en (k:Int) 0 ts.length (ts.length:Int) (j:Int) (encL f.outer) (bK f.holes) f.low f.high a.x a.y a.z b.x b.y b.z B (gU l) (gU ts))=some x:=by
  intro c;induction c with
  | nil =>intro j l hd C _ _ h ;have r:j=ts.length:=Nat.le_antisymm C (List.drop_eq_nil_iff.1 hd);subst r;refine L_of ?_;rw[pF,xO (by omega),qCf,dL (by omega)];exact h
  | cons t c K =>
   intro j l hd C g N h ;obtain⟨Q,w,D,P⟩:=rH hd;have i:=e t P;obtain⟨A,M,_,_⟩:=Eo g i;rw[qLl]at N;have S:=λJ q p=>K (j+1) J D w q p;have H:=c0t X hX i;have G:=c1t X hX i;have F:=c57 X hX 0 (by decide) (by decide);have E:=c57 X hX 1 (by decide) (by decide);rw[List.foldl_cons]at h ;refine L_of ?_;rw[pF,rZ w,qCt,le0,qBs,qCt,F,qOb];simp only[qLh,pv_p,qIt,qNz,Q,iC];rw[H,qOb];simp only[qLh,pv_p,toInt_int];rw[AX,dL (by omega)];by_cases c1:t.n<=0
   . rw[decide_eq_true c1,qCt];grind[oO]
   . rw[decide_eq_false c1,qCf,E,qOb];simp only[qLh,pv_p,iC];rw[G,qOb];simp only[qLh,pv_p,toInt_int];rw[AU];by_cases c2:0<=t.n-t.d
     . rw[decide_eq_true c2,qCt];grind[oO]
     . rw[decide_eq_false c2,qCf];have u:oO l t=nH t l:=by rw[oO,if_pos (by omega)]
       have v:∀ y∈l,Ld y:=λy m=>⟨(g.num y m).cn,(g.num y m).bn,(g.num y m).bd⟩;obtain⟨L1,R,I⟩:=g.hd;rw[u]at h A M;exact acO X hX f a b eo el en B i k j (by omega) x l [] v ⟨⟨1,1⟩,by rw[R];exact List.mem_cons_of_mem _ I,by unfold nK;simp;omega⟩ (by rw[List.nil_append];omega) (by rw[List.nil_append];exact Yt X hX f a b eo el en B e o k O x c (j+1) _ D w A (by omega) h)
end
end
end Go.Skm.Fen
