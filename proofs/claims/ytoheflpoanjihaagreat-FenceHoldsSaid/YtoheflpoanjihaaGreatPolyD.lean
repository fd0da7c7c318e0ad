import Derived.Test.YtoheflpoanjihaaGreatG8
import Derived.Test.YtoheflpoanjihaaGreatEqv1
set_option linter.all false
namespace Go.Skm.Fen
section
open Go Go.Skm
variable {v:V3}{l:List V3}
abbrev pG:=V3 × V3
def EM(l:List V3)(n:Nat):List pG:=(List.range n).map λi=>(flat (ca l i),flat (cb l i))
abbrev fH(l:List V3):List pG:=EM l l.length
def eY(e:pG):PV:=.agg [cO e.1,cO e.2]
theorem Ic(l:List V3)(n:Nat):EM l (n+1)=EM l n++[(flat (ca l n),flat (cb l n))]:=by simp[EM,List.range_succ,List.map_append]
theorem qA(l:List V3)(n:Nat):(EM l n).length=n:=by simp[EM]
def QS(e:pG):Int:=e.1.x*e.2.y-e.1.y*e.2.x
def BA:List pG->Int
 |[]=>0
 | e::r=>QS e+BA r
theorem VJ(a b:List pG):BA (a++b)=BA a+BA b:=by
 induction a with
 | nil=>simp[BA]
 | cons e r c=>simp only[List.cons_append,BA,c];omega
abbrev qY(v:V3):Prop:=Bd 1048576 v
theorem qY.up(h:qY v):vN v:=h.mono (by decide)
theorem afQ(h:l.all (rF 1048576)=true)(i:Nat):qY (gt l i):=by
 by_cases a:i<l.length
 . simp_all[ug,qLb]
 . have e:gt l i=default:=by grind
   rw[e];refine⟨⟨?_,?_⟩,⟨?_,?_⟩,⟨?_,?_⟩⟩<;>decide
theorem ai8(h:qY v):qY (flat v):=⟨h.1,h.2.1,⟨by show(-1048576:Int)<=0;decide,by show(0:Int)<=1048576;decide⟩⟩
def OkE(es:List pG):Prop:=∀ e∈es,qY e.1/\qY e.2
theorem Lj(h:l.all (rF 1048576)=true)(n:Nat):OkE (EM l n):=by intro e a;simp only[EM,List.mem_map]at a;obtain⟨i,_,rfl⟩:=a;exact⟨ai8 (afQ h _),ai8 (afQ h _)⟩
theorem Yx{e:pG}(h:qY e.1/\qY e.2):(-1099511627776<=e.1.x*e.2.y/\e.1.x*e.2.y<=1099511627776)/\(-1099511627776<=e.1.y*e.2.x/\e.1.y*e.2.x<=1099511627776):=by obtain⟨⟨c,b,_⟩,⟨b1,a,_⟩⟩:=h;exact⟨ald (m:=1048576) (n:=1048576) c a,ald (m:=1048576) (n:=1048576) b b1⟩
section
variable (X:Ext) (hX:Mine X)
include hX
theorem c51(l:List V3):run tab X 51 [.p (.list true aU (bT l))] []=some ([.p (.fn 100 [.ref [.list true aU (bT l)]])],[]):=aY (hX _ rfl) (e51 _ _)
theorem avl(l:List V3)(f:l.length<=1000000):∀ k i,i+k=l.length ->
    L tab (run tab X) 100 [.log true []] [.lp [1,0]] (Ug (bT l) (bT l) ((l.length:Nat):Int) (i:Int) ((EM l i).map eY))=some ([],[.log true ((fH l).map eY)]):=by
  have _:=hX;intro k;induction k with
  | zero =>
   intro i e;have:i=l.length:=by omega
   subst this;refine dU ?_;rw[afr,O3 (by omega),qCf]
  | succ k c =>
   intro i e;have a:i<l.length:=by omega
   have d:=aea (n:=l.length) (i:=i) (by omega);refine dU ?_;rw[afr,F6 a,qCt];simp only[lY,le0,F6 a,F6 d,nz (show 0<l.length by omega),kG (show i<=9000000000000000000 by omega),ab3,Bool.and_true,qCt,qIt,JA,JB];have b:=c (i+1) (by omega);rw[Ic,List.map_append]at b;refine afR rfl ?_;exact b
theorem ag0(l:List V3)(a:l.length<=1000000):run tab X 100 [.yL,.p (.ref [.list true aU (bT l)])] [.log true []]=some ([],[.log true ((fH l).map eY)]):=
 aY (hX _ rfl) (by rw[e100,lY];exact avl X hX l a l.length 0 (by omega))
theorem l47(l:List PV):∀(a:List pG) (s:Int),OkE a→-(4398046511104*(1000000-a.length))<=s/\s<=4398046511104*(1000000-a.length)->a.length<=1000000 ->
    L tab (run tab X) 47 [] [.rg [1,1,0,1,0] [(true,aU),(true,aU)] (a.map eY)] (Dj l s)=some ([Ab (s+BA a)],[]):=by
  have _:=hX;intro a;induction a with
  | nil=>simp[List.map_nil,XV,BA,Int.add_zero]
  | cons e r d =>intro s b f g;simp only[qLl]at f g;have j:=Yx (b e (by simp));rw[List.map_cons];show L tab (run tab X) 47 [] [.rg [1,1,0,1,0] [(true,aU),(true,aU)] (.agg [.agg [Ap e.1.x,Ap e.1.y,Ap e.1.z],.agg [Ap e.2.x,Ap e.2.y,Ap e.2.z]]::r.map eY)] (Dj l s)=_;rw[UU,wrap_eq (x:=e.1.x*e.2.y) (by omega) (by omega),wrap_eq (x:=e.1.y*e.2.x) (by omega) (by omega),wrap_eq (x:=e.1.x*e.2.y-e.1.y*e.2.x) (by omega) (by omega),wrap_eq (x:=s+_) (by omega) (by omega)];have h:=d (s+QS e) (λi c=>b i (by simp[c])) (by unfold QS;omega) (by omega);rw[BA,<- Int.add_assoc];exact h
def lX(l:List V3):Int:=BA (fH l)
theorem c47(l:List V3)(c:l.length<=1000)(a:l.all (rF 1048576)=true):run tab X 47 [.p (.list true aU (bT l))] []=some ([Ab (lX l)],[]):=
 aY (hX _ rfl) (by rw[e47,c51 X hX l,qOb];show(run tab X 100 [.yL,.p (.ref [.list true aU (bT l)])] [.log true []]).bind _=_;rw[ag0 X hX l (by omega),qOb];have b:=l47 X hX (bT l) (fH l) 0 (Lj a _) (by rw[qA];omega) (by rw[qA];omega);rw[Int.zero_add]at b;exact b)
theorem c48(n:Int):run tab X 48 [Ab n] []=some ([Ab (nG n)],[]):=
 aY (hX _ rfl) (by rw[e48];simp only[O4,nG];grind)
end
section
variable (X:Ext) (hX:Mine X)
include hX
end
end
section
variable {a b:Int}
structure Pt where
 x:Int
 y:Int
 deriving DecidableEq,Inhabited
def turn(a b c:Pt):Int:=(b.x-a.x)*(c.y-a.y)-(b.y-a.y)*(c.x-a.x)
def cr(p a b:Pt):Int:=if a.y<=p.y/\p.y<b.y/\0<turn a b p then 1 else if b.y<=p.y/\p.y<a.y/\turn a b p<0 then -1 else 0
def BP(a b c:Int):Prop:=(a<=c/\c<=b)\/(b<=c/\c<=a)
def on(a b p:Pt):Prop:=turn a b p=0/\BP a.x b.x p.x/\BP a.y b.y p.y
def meet(a b c d:Pt):Prop:=on a b c\/on a b d\/on c d a\/on c d b\/(turn a b c*turn a b d<0/\turn c d a*turn c d b<0)
theorem uh(a b c:Pt):turn b c a=turn a b c:=by unfold turn;grind
theorem mG(a b c:Pt):turn b a c=- turn a b c:=by unfold turn;grind
theorem V6(a b c:Pt):turn a c b=- turn a b c:=by unfold turn;grind
theorem Pz(a b:Pt):turn a b a=0:=by unfold turn;grind
theorem acu(a b:Pt):turn a b b=0:=by unfold turn;grind
theorem aam(p a b:Pt):cr p b a=- cr p a b:=by have e:=mG a b p;grind[cr]
theorem YP(a b x z:Pt):turn x z b*(b.y-a.y)=turn a b x*(b.y-z.y)-turn a b z*(b.y-x.y):=by unfold turn;grind
theorem NS(a b x z:Pt):turn x z a*(b.y-a.y)=turn a b x*(a.y-z.y)-turn a b z*(a.y-x.y):=by unfold turn;grind
theorem ahh(a b p q:Pt):(b.y-a.y)*turn p q a=turn a b p*(a.y-q.y)-turn a b q*(a.y-p.y):=by unfold turn;grind
theorem lH(d:0<b)(h:0<a*b):0<a:=by
 rcases Int.lt_trichotomy a 0 with c | c | c
 . have:=Int.mul_neg_of_neg_of_pos c d;omega
 all_goals grind
theorem iH(d:0<b)(h:a*b<0):a<0:=by
 rcases Int.lt_trichotomy a 0 with c | c | c
 . exact c
 . grind
 . have:=Int.mul_pos c d;omega
theorem SI(c:0<b)(h:a*b=0):a=0:=by rcases Int.mul_eq_zero.1 h with h | h;all_goals omega
theorem yE(d:0<a)(c:b<0):a*b<0:=Int.mul_neg_of_pos_of_neg d c
theorem qC(d:a<0)(c:0<b):a*b<0:=Int.mul_neg_of_neg_of_pos d c
theorem GL{a b p:Pt}(h:turn a b p=0)(k:a.y<b.y)(m:a.y<=p.y)(l:p.y<=b.y):on a b p:=by
 refine⟨h,?_,.inl ⟨m,l⟩⟩;have e:(b.x-a.x)*(p.y-a.y)=(p.x-a.x)*(b.y-a.y):=by grind[turn]
 have n:(b.x-a.x)*(b.y-p.y)=(b.x-p.x)*(b.y-a.y):=by grind
 have hd:0<b.y-a.y:=by omega
 have g:0<=p.y-a.y:=by omega
 have f:0<=b.y-p.y:=by omega
 by_cases o:a.x<=b.x
 . left;have d:0<=(p.x-a.x)*(b.y-a.y):=by rw[<- e];exact Int.mul_nonneg (by omega) g
   have c:0<=(b.x-p.x)*(b.y-a.y):=by rw[<- n];exact Int.mul_nonneg (by omega) f
   have j:0<=p.x-a.x:=Int.nonneg_of_mul_nonneg_left d hd;have i:0<=b.x-p.x:=Int.nonneg_of_mul_nonneg_left c hd;omega
 . right;have d:0<=(a.x-p.x)*(b.y-a.y):=by
    have:(a.x-p.x)*(b.y-a.y)=(a.x-b.x)*(p.y-a.y):=by grind
    rw[this];exact Int.mul_nonneg (by omega) g
   have c:0<=(p.x-b.x)*(b.y-a.y):=by
    have:(p.x-b.x)*(b.y-a.y)=(a.x-b.x)*(b.y-p.y):=by grind
    rw[this];exact Int.mul_nonneg (by omega) f
   have j:0<=a.x-p.x:=Int.nonneg_of_mul_nonneg_left d hd;have i:0<=p.x-b.x:=Int.nonneg_of_mul_nonneg_left c hd;omega
theorem acv{c:Int}:BP a b c↔BP b a c:=by unfold BP;omega
theorem sD{a b p:Pt}:on a b p↔on b a p:=by unfold on;rw[mG a b p,acv (a:=a.x),acv (a:=a.y)];simp
theorem meet_comm{a b c d:Pt}:meet a b c d↔meet a b d c:=by unfold meet;rw[sD (a:=c) (b:=d),sD (a:=c) (b:=d) (p:=b),mG c d a,mG c d b];grind
def hit(x z v:Pt):Int:=if x.y<v.y/\v.y<=z.y/\turn x z v<0 then 1 else 0
theorem af5{x z a b:Pt}(m:x.y<z.y)(r:a.y<b.y)(n:¬ meet x z a b):cr x a b-cr z a b=hit x z b-hit x z a:=by
 have G:¬ on a b x:=λh=>n (.inr (.inr (.inl h)));have nz:¬ on a b z:=λh=>n (.inr (.inr (.inr (.inl h))));have I:¬ on x z a:=λh=>n (.inl h);have H:¬ on x z b:=λh=>n (.inr (.inl h));have D:¬(turn x z a*turn x z b<0/\turn a b x*turn a b z<0):=λh=>n (.inr (.inr (.inr (.inr h))));have P:=YP a b x z;have O:=NS a b x z;have hd:0<b.y-a.y:=by omega
 have g:0<z.y-x.y:=by omega
 have N:=YP x z a b;have M:=NS x z a b;have w:a.y<=x.y->x.y<=b.y->turn a b x≠0:=λf e h=>G (GL h r f e);have l:a.y<=z.y->z.y<=b.y->turn a b z≠0:=λf e h=>nz (GL h r f e);have A:x.y<=a.y->a.y<=z.y->turn x z a≠0:=λf e h=>I (GL h m f e);have o:x.y<=b.y->b.y<=z.y->turn x z b≠0:=λf e h=>H (GL h m f e);unfold cr hit;generalize turn a b x=Tx at *;generalize turn a b z=Tz at *;generalize turn x z a=Ua at *;generalize turn x z b=Ub at *;have c1:0<Tx->Tz<0->Ua<0->0<Ub->False:=λf e B h4=>D ⟨qC B h4,yE f e⟩;have c2:Tx<0->0<Tz->0<Ua->Ub<0->False:=λf e B h4=>D ⟨yE B h4,qC f e⟩;have K:∀{p q:Prop},((p->q)/\(q->p))->(p↔q):=λh=>⟨h.1,h.2⟩;by_cases J:a.y<=x.y
 . by_cases L:b.y<=x.y
   . grind
   . have i:=w J (by omega);by_cases s:b.y<=z.y
     . -- low,between
       have F:=o (by omega) s;have v:0<Tx->0<Ub->False:=λh k=>by
        have j:Tz<0:=by
         by_cases q:Tz<0
         . exact q
         . have t:=Int.mul_pos k hd;have d:Tx*(b.y-z.y)<=0:=Int.mul_nonpos_of_nonneg_of_nonpos (by omega) (by omega);have c:0<=Tz*(b.y-x.y):=Int.mul_nonneg (by omega) (by omega);omega
        refine c1 h j (iH hd ?_) k;have d:Tx*(a.y-z.y)<0:=yE h (by omega);have c:0<=Tz*(a.y-x.y):=Int.mul_nonneg_of_nonpos_of_nonpos (by omega) (by omega);omega
       have u:Tx<0->Ub<0->False:=λh k=>by
        have j:0<Tz:=by
         by_cases q:0<Tz
         . exact q
         . have t:=qC k hd;have d:0<=Tx*(b.y-z.y):=Int.mul_nonneg_of_nonpos_of_nonpos (by omega) (by omega);have c:Tz*(b.y-x.y)<=0:=Int.mul_nonpos_of_nonpos_of_nonneg (by omega) (by omega);omega
        refine c2 h j (lH hd ?_) k;have d:0<Tx*(a.y-z.y):=Int.mul_pos_of_neg_of_neg h (by omega);have c:Tz*(a.y-x.y)<=0:=Int.mul_nonpos_of_nonneg_of_nonpos (by omega) (by omega);omega
       grind
     . -- low,high
       have j:=l (by omega) (by omega);have v:0<Tx->Tz<0->False:=λh k=>by
        refine c1 h k (iH hd ?_) (lH hd ?_)
        . have d:Tx*(a.y-z.y)<0:=yE h (by omega);have c:0<=Tz*(a.y-x.y):=Int.mul_nonneg_of_nonpos_of_nonpos (by omega) (by omega);omega
        . have d:0<Tx*(b.y-z.y):=Int.mul_pos h (by omega);have c:Tz*(b.y-x.y)<0:=qC k (by omega);omega
       have u:Tx<0->0<Tz->False:=λh k=>by
        refine c2 h k (lH hd ?_) (iH hd ?_)
        . have d:0<Tx*(a.y-z.y):=Int.mul_pos_of_neg_of_neg h (by omega);have c:Tz*(a.y-x.y)<=0:=Int.mul_nonpos_of_nonneg_of_nonpos (by omega) (by omega);omega
        . have d:Tx*(b.y-z.y)<0:=qC h (by omega);have c:0<Tz*(b.y-x.y):=Int.mul_pos k (by omega);omega
       grind
 . have C:a.y<=z.y->Ua≠0:=λh=>A (by omega) h;by_cases E:a.y<=z.y
   . have C:=C E;by_cases s:b.y<=z.y
     . -- both between
       have F:=o (by omega) s;have v:Ua<0->0<Ub->False:=λh k=>by
        refine c1 (lH g ?_) (iH g ?_) h k
        . have d:0<Ua*(x.y-b.y):=Int.mul_pos_of_neg_of_neg h (by omega);have c:Ub*(x.y-a.y)<0:=yE k (by omega);omega
        . have d:Ua*(z.y-b.y)<=0:=Int.mul_nonpos_of_nonpos_of_nonneg (by omega) (by omega);have c:0<Ub*(z.y-a.y):=Int.mul_pos k (by omega);omega
       have u:0<Ua->Ub<0->False:=λh k=>by
        refine c2 (iH g ?_) (lH g ?_) h k
        . have d:Ua*(x.y-b.y)<0:=yE h (by omega);have c:0<Ub*(x.y-a.y):=Int.mul_pos_of_neg_of_neg k (by omega);omega
        . have d:0<=Ua*(z.y-b.y):=Int.mul_nonneg (by omega) (by omega);have c:Ub*(z.y-a.y)<0:=qC k (by omega);omega
       grind
     . -- between,high
       have j:=l E (by omega);have v:0<Tz->0<Ua->False:=λh k=>by
        have i:Tx<0:=by
         by_cases q:Tx<0
         . exact q
         . have t:=Int.mul_pos k hd;have d:Tx*(a.y-z.y)<=0:=Int.mul_nonpos_of_nonneg_of_nonpos (by omega) (by omega);have c:0<Tz*(a.y-x.y):=Int.mul_pos h (by omega);omega
        refine c2 i h k (iH hd ?_);have d:Tx*(b.y-z.y)<0:=qC i (by omega);have c:0<Tz*(b.y-x.y):=Int.mul_pos h (by omega);omega
       have u:Tz<0->Ua<0->False:=λh k=>by
        have i:0<Tx:=by
         by_cases q:0<Tx
         . exact q
         . have t:=qC k hd;have d:0<=Tx*(a.y-z.y):=Int.mul_nonneg_of_nonpos_of_nonpos (by omega) (by omega);have c:Tz*(a.y-x.y)<0:=qC h (by omega);omega
        refine c1 i h k (lH hd ?_);have d:0<Tx*(b.y-z.y):=Int.mul_pos i (by omega);have c:Tz*(b.y-x.y)<0:=qC h (by omega);omega
       grind
   grind
theorem PE{x z a b:Pt}(c:x.y<z.y)(d:a.y≠b.y)(e:¬ meet x z a b):cr x a b-cr z a b=hit x z b-hit x z a:=by
 rcases Int.lt_or_gt_of_ne d with h | h
 . exact af5 c h e
 . have:=af5 c h λh=>e (meet_comm.1 h);rw[aam x a b,aam z a b]at this;omega
end
section
variable {n:Nat}{t u v z:Pt}{p:Nat->Pt}
def sg(f:Nat->Int)(k:Nat):Nat->Int
 | 0=>0
 | n+1=>sg f k n+f (k+n)
theorem Uo(f:Nat->Int)(k:Nat):∀ n,sg f k (n+1)=f k+sg f (k+1) n
 | 0=>by simp[sg]
 | n+1=>by rw[sg,Uo f k n,sg,show k+1+n=k+(n+1) by omega];omega
theorem ajp(f:Nat->Int)(hp:∀ i,f (i+n)=f i)(k:Nat):sg f (k+1) n=sg f k n:=by have b:=Uo f k n;have a:sg f k (n+1)=sg f k n+f (k+n):=rfl;grind
theorem ael(f:Nat->Int){n:Nat}(hp:∀ i,f (i+n)=f i):∀ k,sg f k n=sg f 0 n
 | 0=>rfl
 | k+1=>by rw[ajp f hp k,ael f hp k]
theorem aan(h:Nat->Int)(k:Nat):∀ n,sg (λi=>h (i+1)-h i) k n=h (k+n)-h k
 | 0=>by simp[sg]
 | n+1=>by rw[sg,aan h k n];grind
theorem vP{f g:Nat->Int}{k:Nat}:∀{n},(∀ i,k<=i->i<k+n->f i=g i)->sg f k n=sg g k n
 | 0,_=>rfl
 | n+1,h=>by rw[sg,sg,vP λi a b=>h i a (by omega),h (k+n) (by omega) (by omega)]
theorem aer(f g:Nat->Int)(k:Nat):∀ n,sg (λi=>f i-g i) k n=sg f k n-sg g k n
 | 0=>by simp[sg]
 | n+1=>by rw[sg,sg,sg,aer f g k n];omega
def qB(p:Nat->Pt)(n:Nat)(x:Pt):Int:=sg (λi=>cr x (p i) (p (i+1))) 0 n
structure Simp (p:Nat->Pt) (n:Nat):Prop where
 n3:3<=n
 per:∀ i,p (i+n)=p i
 far:∀ i m,2<=m->m+1<n->¬ meet (p i) (p (i+1)) (p (i+m)) (p (i+m+1))
 Po:∀ i,¬ on (p i) (p (i+1)) (p (i+2))
 Pq:∀ i,¬ on (p (i+1)) (p (i+2)) (p i)
 hts:∀ i m,0<m->m<n->(p i).y≠(p (i+m)).y
def lam(t u v:Pt):Int:=if t.y<u.y/\u.y<v.y then 0 else if u.y<t.y/\v.y<u.y then -1 else if turn t u v<0 then -1 else 0
theorem ajq(h:u.y<v.y)(a:t.y≠u.y)(b:u.y<t.y->turn t u v≠0):cr v t u-hit u v t=lam t u v:=by
 have c:turn u v t=turn t u v:=by rw[<- uh t u v]
 grind[cr,hit,lam]
theorem alO(h:u.y<v.y)(_:z.y≠v.y):cr u v z-hit u v z=lam u v z:=by have a:turn v z u=turn u v z:=uh u v z;grind[cr,hit,lam]
theorem acw(h:v.y<u.y)(a:t.y≠u.y)(b:t.y<u.y->turn t u v≠0):cr v t u+hit v u t=lam t u v+1:=by
 have c:turn v u t=- turn t u v:=by rw[mG u v t,<- uh t u v]
 grind[cr,hit,lam]
theorem ahi(h:v.y<u.y)(a:z.y≠v.y)(b:v.y<z.y->turn u v z≠0):cr u v z+hit v u z=lam u v z+1:=by have d:turn v u z=- turn u v z:=mG u v z;have c:turn v z u=turn u v z:=uh u v z;grind[cr,hit,lam]
theorem acy(hp:∀ i,p (i+n)=p i)(x:Pt)(k:Nat):sg (λi=>cr x (p i) (p (i+1))) k n=qB p n x:=
 ael _ (λi=>by grind) k
theorem Io(h:Simp p n)(x:Pt)(k:Nat):qB p n x=cr x (p k) (p (k+1))+cr x (p (k+1)) (p (k+2))+cr x (p (k+2)) (p (k+3))+sg (λi=>cr x (p i) (p (i+1))) (k+3) (n-3):=by rw[<- acy h.per x k];obtain⟨m,a⟩:∃ m,n=m+3:=⟨n-3,by have:=h.n3;omega⟩;grind[Uo]
theorem aes(a b:Pt):cr a a b=0:=by simp[Pz,cr]
theorem aao(a b:Pt):cr b a b=0:=by simp[acu,cr]
theorem Dp{a b c d:Pt}:meet a b c d↔meet b a c d:=by unfold meet;rw[sD (a:=a) (b:=b),sD (a:=a) (b:=b) (p:=d),mG a b c,mG a b d];grind
theorem Us(h:Simp p n)(k:Nat){x:Pt}(a:x.y<z.y)(b:∀ i,k+3<=i->i<k+n->¬ meet x z (p i) (p (i+1))) :
    sg (λi=>cr x (p i) (p (i+1))) (k+3) (n-3)-sg (λi=>cr z (p i) (p (i+1))) (k+3) (n-3)=hit x z (p k)-hit x z (p (k+3)):=by
  have d:=h.n3;rw[<- aer];have:sg (λi=>cr x (p i) (p (i+1))-cr z (p i) (p (i+1))) (k+3) (n-3)=sg (λi=>hit x z (p (i+1))-hit x z (p i)) (k+3) (n-3):=by refine vP λi c e=>PE a (h.hts i 1 (by omega) (by omega)) (b i c (by omega))
  rw[this,aan (λi=>hit x z (p i)),show k+3+(n-3)=k+n by omega,h.per k]
theorem V7(h:Simp p n){k i:Nat}(b:k+3<=i)(a:i<k+n):¬ meet (p (k+1)) (p (k+2)) (p i) (p (i+1)):=by have:=h.far (k+1) (i-(k+1)) (by omega) (by omega);grind
theorem PG(h:Simp p n)(k:Nat)(f:((p k).y<(p (k+1)).y/\(p (k+2)).y<(p (k+1)).y)\/((p (k+1)).y<(p k).y/\(p (k+1)).y<(p (k+2)).y)):turn (p k) (p (k+1)) (p (k+2))≠0:=by
 intro d;have g:=h.n3;have e:turn (p (k+1)) (p (k+2)) (p k)=0:=by rw[uh,d]
 have i:=h.hts k 2 (by omega) (by omega);rcases f with⟨a,b⟩ |⟨a,b⟩
 . by_cases c:(p k).y<(p (k+2)).y
   . exact h.Po k (GL d a (by omega) (by omega))
   . exact h.Pq k (sD.1 (GL (by rw[mG,e];rfl) b (by omega) (by omega)))
 . by_cases c:(p k).y<(p (k+2)).y
   . exact h.Pq k (GL e b (by omega) (by omega))
   . exact h.Po k (sD.1 (GL (by rw[mG,d];rfl) a (by omega) (by omega)))
def kap(p:Nat->Pt)(n k:Nat):Int:=qB p n (p (k+1))+lam (p k) (p (k+1)) (p (k+2))
theorem ajs(h:Simp p n)(k:Nat):kap p n k=kap p n (k+1):=by
 have l:=h.n3;unfold kap;show qB p n (p (k+1))+lam (p k) (p (k+1)) (p (k+2))=qB p n (p (k+2))+lam (p (k+1)) (p (k+2)) (p (k+3));rw[Io h (p (k+1)) k,Io h (p (k+2)) k,aao,aes,aao,aes];have y1:=h.hts k 1 (by omega) (by omega);have y2:=h.hts (k+1) 1 (by omega) (by omega);have y3:=h.hts (k+2) 1 (by omega) (by omega);rcases Int.lt_or_gt_of_ne y2 with b | hd
 . have s:=Us h k b λi d c=>V7 h d c;have g:=ajq b y1 (λa=>PG h k (.inr ⟨a,b⟩));have f:=alO b (z:=p (k+3)) (λe=>y3 e.symm);grind
 . have s:=Us h k hd λi d c j=>V7 h d c (Dp.1 j);have g:=acw hd y1 (λa=>PG h k (.inl ⟨a,hd⟩));have f:=ahi hd (z:=p (k+3)) (λe=>y3 e.symm) (λa=>PG h (k+1) (.inr ⟨hd,a⟩));grind
theorem QY{p:Nat->Pt}{n:Nat}(h:Simp p n):∀ k,kap p n k=kap p n 0
 | 0=>rfl
 | k+1=>by rw[<- ajs h k,QY h k]
theorem highest(p:Nat->Pt):∀ n,∃ i,i<=n/\∀ j,j<=n->(p j).y<=(p i).y
 | 0=>⟨0,Nat.le_refl _,λj a=>by rw[show j=0 by omega];exact Int.le_refl _⟩
 | n+1=>by
  obtain⟨i,c,b⟩:=highest p n;by_cases h:(p i).y<=(p (n+1)).y
  . refine⟨n+1,Nat.le_refl _,λj a=>?_⟩;grind
  . refine⟨i,by omega,λj a=>?_⟩;grind
theorem Il(h:∀ i,p (i+n)=p i):∀ i,p i=p (i%n):=by
 intro i;have:∀ q r,p (r+n*q)=p r:=λq r=>by
  induction q with
  | zero=>rfl
  | succ q a=>rw[show r+n*(q+1)=r+n*q+n by rw[Nat.mul_succ];omega,h,a]
 grind[Nat.mod_add_div]
theorem alP(h:Simp p n):kap p n 0=0\/kap p n 0=-1:=by
 have l:=h.n3;obtain⟨i,o,d⟩:=highest p (n-1);have a:∀ j,(p j).y<=(p i).y:=λj=>by rw[Il h.per j];exact d _ (by have:=Nat.mod_lt j (show 0<n by omega);omega)
 obtain⟨k,c⟩:∃ k,p (k+1)=p i:=⟨i+n-1,by rw[show i+n-1+1=i+n by omega,h.per]⟩;rw[<- QY h k];have g:qB p n (p (k+1))=0:=by
  unfold qB;have:∀ m,sg (λj=>cr (p (k+1)) (p j) (p (j+1))) 0 m=0:=λm=>by
   induction m with
   | zero=>rfl
   | succ m b =>
    rw[sg,b];have f:=a m;have e:=a (m+1);rw[<- c]at f e;have:cr (p (k+1)) (p (0+m)) (p (0+m+1))=0:=by rw[Nat.zero_add];grind[cr]
    omega
  exact this n
 grind[kap,lam]
end
section
variable {a b p q u v:Pt}
theorem GR(c:turn u v q=0):turn u v a*(q.y-u.y)=turn u q a*(v.y-u.y):=by grind[turn]
theorem CW(a b u v q:Pt)(c:turn u v q=0):(q.y-u.y)*turn a b v=(v.y-u.y)*turn a b q-(v.y-q.y)*turn a b u:=by
 have e:(q.y-u.y)*turn a b v=(v.y-u.y)*turn a b q-(v.y-q.y)*turn a b u-turn u v q*(b.y-a.y):=by unfold turn;grind
 grind
theorem alQ(c:turn u v q=0)(h:u.y<q.y/\q.y<v.y)(d:on u q a):on u v a:=by obtain⟨g,_,f⟩:=d;have e:=GR (a:=a) c;rw[g]at e;have:turn u v a=0:=SI (b:=q.y-u.y) (by omega) (by rw[e];simp);unfold BP at f;exact GL this (by omega) (by omega) (by omega)
theorem ajt(c:turn u v q=0)(h:v.y<q.y/\q.y<u.y)(d:on u q a):on u v a:=by
 obtain⟨g,_,f⟩:=d;have e:=GR (a:=a) c;rw[g]at e;have:turn u v a=0:=by have:=SI (a:=turn u v a) (b:=u.y-q.y) (by omega) (by grind);exact this
 unfold BP at f;exact sD.1 (GL (by rw[mG,this];rfl) (by omega) (by omega) (by omega))
def mid(u v q:Pt):Prop:=(u.y<q.y/\q.y<v.y)\/(v.y<q.y/\q.y<u.y)
theorem QZ(c:turn u v q=0)(h:mid u v q)(d:on u q a):on u v a:=by
 rcases h with h | h
 . exact alQ c h d
 . exact ajt c h d
theorem uP(h:turn a b p=0)(c:a.y≠b.y)(d:BP a.y b.y p.y):on a b p:=by
 unfold BP at d;rcases Int.lt_or_gt_of_ne c with k | k
 . exact GL h k (by omega) (by omega)
 . exact sD.1 (GL (by rw[mG,h];rfl) k (by omega) (by omega))
theorem af6(c:a.y≠b.y)(h:turn a b p=0)(d:p.y=a.y):p=a:=by
 have e:(b.y-a.y)*(p.x-a.x)=0:=by have:turn a b p=(b.x-a.x)*(p.y-a.y)-(b.y-a.y)*(p.x-a.x):=rfl;grind
 have:p.x=a.x:=by rcases Int.mul_eq_zero.1 e with e | e<;>omega
 cases p;cases a;simp_all
theorem V8(z:turn u v q=0)(D:mid u v q)(x:turn a b q=0)(C:mid a b q):meet u v a b:=by
 have g:u.y≠v.y:=by unfold mid at D;omega
 have j:a.y≠b.y:=by unfold mid at C;omega
 have i:=CW u v a b q x;have d:=CW a b u v q z;rw[z,Int.mul_zero,Int.zero_sub]at i;rw[x,Int.mul_zero,Int.zero_sub]at d;have f:∀{A B s t:Int},(0<s/\0<t)\/(s<0/\t<0)->s*B=-(t*A)->A≠0->A*B<0:=λ{A B s t} n F hA=>by
  rcases n with⟨o,l⟩ |⟨o,l⟩
  . rcases Int.lt_or_gt_of_ne hA with k | k
    . have m:=yE l k;exact qC k (lH o (by rw[Int.mul_comm];omega))
    . have m:=Int.mul_pos l k;exact yE k (iH o (by rw[Int.mul_comm];omega))
  . have E:(-s)*B=-((-t)*A):=by grind
    rcases Int.lt_or_gt_of_ne hA with k | k
    . have m:=yE (show 0 < -t by omega) k;exact qC k (lH (show 0 < -s by omega) (by rw[Int.mul_comm];omega))
    . have m:=Int.mul_pos (show 0 < -t by omega) k;exact yE k (iH (show 0 < -s by omega) (by rw[Int.mul_comm];omega))
 by_cases h:turn u v a=0
 . -- all on one line
   have w:turn u v b=0:=by rw[h,Int.mul_zero,Int.neg_zero]at i;rcases Int.mul_eq_zero.1 i with e | e;all_goals grind[mid]
   have c:turn a b u=0:=by have:(v.y-u.y)*turn a b u=turn u v a*(u.y-b.y)-turn u v b*(u.y-a.y):=ahh u v a b;rw[h,w,Int.zero_mul,Int.zero_mul,Int.sub_zero]at this;rcases Int.mul_eq_zero.1 this with e | e;all_goals omega
   have r:turn a b v=0:=by rw[c,Int.mul_zero,Int.neg_zero]at d;rcases Int.mul_eq_zero.1 d with e | e;all_goals grind[mid]
   by_cases c1:BP u.y v.y a.y
   . exact .inl (uP h g c1)
   by_cases c2:BP u.y v.y b.y
   . exact .inr (.inl (uP w g c2))
   . refine .inr (.inr (.inl (uP c j ?_)));grind[BP,mid]
 . by_cases c:turn a b u=0
   . exfalso;have r:turn a b v=0:=by rw[c,Int.mul_zero,Int.neg_zero]at d;rcases Int.mul_eq_zero.1 d with e | e;all_goals grind[mid]
     have:turn u v a*(b.y-a.y)=turn a b u*(a.y-v.y)-turn a b v*(a.y-u.y):=NS a b u v;rw[c,r,Int.zero_mul,Int.zero_mul,Int.sub_zero]at this;rcases Int.mul_eq_zero.1 this with e | e;all_goals omega
   . refine .inr (.inr (.inr (.inr ⟨f ?_ i h,f ?_ d c⟩)));all_goals grind[mid]
theorem ahj(d:turn u v q=0)(c:mid u v q)(f:a.y≠b.y)(h:meet u q a b):meet u v a b:=by
 rcases h with h | h | h | h |⟨s,i⟩
 . exact .inl (QZ d c h)
 . exact .inr (.inl (QZ d c h))
 . exact .inr (.inr (.inl h))
 . -- q is on the other edge
   by_cases l:q.y=a.y
   . have:=af6 f h.1 l;subst this;exact .inl (uP d (by unfold mid at c;omega) (by unfold mid at c;unfold BP;omega))
   by_cases j:q.y=b.y
   . have:=af6 (a:=b) (b:=a) (λe=>f e.symm) (by rw[mG,h.1];rfl) j;subst this;exact .inr (.inl (uP d (by unfold mid at c;omega) (by unfold mid at c;unfold BP;omega)))
   . refine V8 d c h.1 ?_;have:=h.2.2;grind[BP,mid]
 . have x:=GR (a:=a) d;have w:=GR (a:=b) d;have t:=CW a b u v q d;refine .inr (.inr (.inr (.inr ⟨?_,?_⟩)))
   . have k:(turn u v a*turn u v b)*((q.y-u.y)*(q.y-u.y))=(turn u q a*turn u q b)*((v.y-u.y)*(v.y-u.y)):=by grind
     have g:0<(q.y-u.y)*(q.y-u.y):=by
      rcases c with h | h
      . exact Int.mul_pos (by omega) (by omega)
      . exact Int.mul_pos_of_neg_of_neg (by omega) (by omega)
     have m:0<(v.y-u.y)*(v.y-u.y):=by
      rcases c with h | h
      . exact Int.mul_pos (by omega) (by omega)
      . exact Int.mul_pos_of_neg_of_neg (by omega) (by omega)
     exact iH g (by rw[k];exact qC s m)
   . -- (q-u)*(U*V)=(v-u)*(U*Q)-(v-q)*U*U
     have k:(turn a b u*turn a b v)*(q.y-u.y)=(v.y-u.y)*(turn a b u*turn a b q)-(v.y-q.y)*(turn a b u*turn a b u):=by grind
     have r:turn a b u≠0:=λe=>by rw[e]at i;simp at i
     have g:0<turn a b u*turn a b u:=by
      rcases Int.lt_or_gt_of_ne r with h | h
      . exact Int.mul_pos_of_neg_of_neg h h
      . exact Int.mul_pos h h
     rcases c with h | h
     . have o:=yE (show 0<v.y-u.y by omega) i;have n:=Int.mul_pos (show 0<v.y-q.y by omega) g;exact iH (show 0<q.y-u.y by omega) (by omega)
     . have o:=Int.mul_pos_of_neg_of_neg (show v.y-u.y<0 by omega) i;have n:=qC (show v.y-q.y<0 by omega) g;refine iH (show 0<u.y-q.y by omega) ?_;grind
end
section
variable {p:Nat->Pt}{n:Nat}{q t u v:Pt}
theorem V9(h:Simp p n)(k:Nat)(g:turn (p k) (p (k+1)) q=0)(i:mid (p k) (p (k+1)) q):¬ meet (p k) q (p (k+1)) (p (k+2)):=by
 have j:=h.n3;have y1:=h.hts k 1 (by omega) (by omega);have y2:=h.hts (k+1) 1 (by omega) (by omega);have y3:=h.hts k 2 (by omega) (by omega);simp only[show k+1+1=k+2 by omega]at y2;have d:=h.Po k;have a:=h.Pq k;generalize p k=u at *;generalize p (k+1)=v at *;generalize p (k+2)=z at *;rintro (c | c | c | c |⟨c,_⟩)
 . obtain⟨_,_,c⟩:=c;grind[mid,BP]
 . exact d (QZ g i c)
 . exact a c
 . -- q on the next edge
   have e:=CW u v v z q c.1;rw[acu,Int.mul_zero,Int.sub_zero,g,Int.mul_zero]at e;have f:turn u v z=0:=by rcases Int.mul_eq_zero.1 e with e | e;all_goals grind[mid]
   have c2:=c.2.2;by_cases b:BP u.y v.y z.y
   . exact d (uP f y1 b)
   . refine a (uP (by rw[uh,f]) y2 ?_);grind[BP,mid]
 grind[V6]
theorem aju{x z b:Pt}(h:turn x z v=0):hit x z v=0:=by grind[hit]
theorem ajv(d:turn u v q=0)(f:mid u v q):lam t u q=lam t u v:=by
 have e:=GR (a:=t) d;have i:turn t u q=turn u q t:=by rw[<- uh t u q]
 have g:turn t u v=turn u v t:=by rw[<- uh t u v]
 unfold lam;rw[i,g];have c:turn u q t<0↔turn u v t<0:=by
  rcases f with h | h
  . constructor
    . intro k;exact iH (show 0<q.y-u.y by omega) (by rw[e];exact qC k (by omega))
    . intro k;exact iH (show 0<v.y-u.y by omega) (by rw[<- e];exact qC k (by omega))
  . have b:turn u v t*(u.y-q.y)=turn u q t*(u.y-v.y):=by grind
    constructor
    . intro k;exact iH (show 0<u.y-q.y by omega) (by rw[b];exact qC k (by omega))
    . intro k;exact iH (show 0<u.y-v.y by omega) (by rw[<- b];exact qC k (by omega))
 grind[mid]
theorem ahk(b:turn u v q=0)(f:mid u v q)(h:turn t u v≠0):turn t u q≠0:=by
 intro k;have e:=GR (a:=t) b;have d:turn t u q=turn u q t:=by rw[<- uh t u q]
 have c:turn t u v=turn u v t:=by rw[<- uh t u v]
 rw[<- d,<- c,k,Int.zero_mul]at e;rcases Int.mul_eq_zero.1 e with e | e;all_goals grind[mid]
theorem ahl(h:Simp p n)(k:Nat)(c:turn (p (k+1)) (p (k+2)) q=0)(d:mid (p (k+1)) (p (k+2)) q) :
    qB p n q=kap p n 0+if(p (k+1)).y<(p (k+2)).y then 0 else 1:=by
  have B:=h.n3;rw[<- QY h k];unfold kap;rw[Io h (p (k+1)) k,Io h q k,aao,aes];have y1:=h.hts k 1 (by omega) (by omega);have y2:=h.hts (k+1) 1 (by omega) (by omega);have y3:=h.hts (k+2) 1 (by omega) (by omega);have w:∀ x z,turn x z (p (k+2))=0->hit x z (p (k+2))=0:=λx z e=>aju (b:=x) e;have C:cr q (p (k+1)) (p (k+2))=0:=by grind[cr]
  have A:=ajv (t:=p k) c d;have m:((p k).y<(p (k+1)).y/\(p (k+2)).y<(p (k+1)).y)\/((p (k+1)).y<(p k).y/\(p (k+1)).y<(p (k+2)).y)->turn (p k) (p (k+1)) q≠0:=λa=>ahk c d (PG h k a);have f:∀ i,k+3<=i->i<k+n->¬ meet (p (k+1)) q (p i) (p (i+1)):=λi l j a=>V7 h l j (ahj c d (h.hts i 1 (by omega) (by omega)) a);have o:=V9 h (k+1) (q:=q) c d;simp only[show k+1+1=k+2 by omega,show k+1+2=k+3 by omega]at *;rcases d with g | hd
  . rw[if_pos (show(p (k+1)).y<(p (k+2)).y by omega)];have s:=Us h k g.1 f;have s2:=PE g.1 y3 o;have r:=ajq g.1 y1 (λa=>m (.inr ⟨a,by omega⟩));grind[V6]
  . rw[if_neg (show ¬(p (k+1)).y<(p (k+2)).y by omega)];have s:=Us h k hd.2 λi l j a=>f i l j (Dp.1 a);have s2:=PE hd.2 y3 λa=>o (Dp.1 a);have r:=acw hd.2 y1 (λa=>m (.inl ⟨a,by omega⟩));have z:=w q (p (k+1)) (by rw[<- uh q,c]);omega
end
end Go.Skm.Fen
