import Derived.Test.YtoheflpoanjihaaGreatG10
import Derived.Test.YtoheflpoanjihaaGreatG22
set_option linter.all false
namespace Go.Skm.Fen
section
variable {D N1 N2 k m s sd sn td tn u v:Int}{a b c e x z:Pt}
theorem yF{a:Int}(f:0<s)(h:0<=s*a):0<=a:=by
 rcases Int.lt_or_le a 0 with d | d
 . exact absurd (Int.mul_neg_of_pos_of_neg f d) (by omega)
 . exact d
theorem Lp{c e x:Int}(g:0<=u)(f:0<=v)(d:0<u+v)(h:(u+v)*x=u*c+v*e):btw c e x:=by
 rcases Int.le_total c e with i | i
 . have a:=yF d (a:=x-c) (by have q:(u+v)*(x-c)=v*(e-c):=by grind
                             rw[q];exact Int.mul_nonneg f (by omega))
   have b:=yF d (a:=e-x) (by have q:(u+v)*(e-x)=u*(e-c):=by grind
                             rw[q];exact Int.mul_nonneg g (by omega))
   grind[btw]
 . have a:=yF d (a:=c-x) (by have q:(u+v)*(c-x)=v*(c-e):=by grind
                             rw[q];exact Int.mul_nonneg f (by omega))
   have b:=yF d (a:=x-e) (by have q:(u+v)*(x-e)=u*(c-e):=by grind
                             rw[q];exact Int.mul_nonneg g (by omega))
   grind[btw]
theorem SL(f:0<=u)(d:0<=v)(g:0<u+v)(j:(u+v)*x.x=u*c.x+v*e.x)(i:(u+v)*x.y=u*c.y+v*e.y):on c e x:=by
 refine⟨?_,Lp f d g j,Lp f d g i⟩;have o:(u+v)*(x.x-c.x)=v*(e.x-c.x):=by grind
 have n:(u+v)*(x.y-c.y)=v*(e.y-c.y):=by grind
 have l:(u+v)*turn c e x=0:=by grind[turn]
 rcases Int.mul_eq_zero.1 l with h | h;all_goals omega
theorem Jw(h:on x z c):∃ k m:Int,0<=k/\0<=m/\0<k+m/\k*x.x+m*z.x=(k+m)*c.x/\k*x.y+m*z.y=(k+m)*c.y:=by
 obtain⟨g,f,d⟩:=h;unfold turn at g;unfold btw at f d;rcases Int.lt_trichotomy x.x z.x with q | q | q
 . exact⟨z.x-c.x,c.x-x.x,by omega,by omega,by omega,by grind,by grind⟩
 . rcases Int.lt_trichotomy x.y z.y with r | r | r
   . exact⟨z.y-c.y,c.y-x.y,by omega,by omega,by omega,by rw[show c.x=x.x by omega,<- q];grind,by grind⟩
   . exact⟨1,0,by omega,by omega,by omega,by rw[show c.x=x.x by omega];omega,by rw[show c.y=x.y by omega];omega⟩
   . exact⟨c.y-z.y,x.y-c.y,by omega,by omega,by omega,by rw[show c.x=x.x by omega,<- q];grind,by grind⟩
 . exact⟨c.x-z.x,x.x-c.x,by omega,by omega,by omega,by grind,by grind⟩
def Com(x z c e:Pt):Prop:=∃ k m u v:Int,0<=k/\0<=m/\0<=u/\0<=v/\0<k+m/\k+m=u+v/\k*x.x+m*z.x=u*c.x+v*e.x/\k*x.y+m*z.y=u*c.y+v*e.y
theorem SN(h:meet x z c e):Com x z c e:=by
 rcases h with h | h | h | h |⟨l,o⟩
 . obtain⟨k,m,i,g,j,f,d⟩:=Jw h;exact⟨k,m,k+m,0,i,g,by omega,by omega,j,by omega,by rw[f];omega,by rw[d];omega⟩
 . obtain⟨k,m,i,g,j,f,d⟩:=Jw h;exact⟨k,m,0,k+m,i,g,by omega,by omega,j,by omega,by rw[f];omega,by rw[d];omega⟩
 . obtain⟨k,m,i,g,j,f,d⟩:=Jw h;exact⟨k+m,0,k,m,by omega,by omega,i,g,by omega,by omega,by rw[f];omega,by rw[d];omega⟩
 . obtain⟨k,m,i,g,j,f,d⟩:=Jw h;exact⟨0,k+m,k,m,by omega,by omega,i,g,by omega,by omega,by rw[f];omega,by rw[d];omega⟩
 . have w:turn c e x-turn c e z=turn x z e-turn x z c:=by unfold turn;grind
   have t:turn c e x*z.x-turn c e z*x.x=turn x z e*c.x-turn x z c*e.x:=by unfold turn;grind
   have r:turn c e x*z.y-turn c e z*x.y=turn x z e*c.y-turn x z c*e.y:=by unfold turn;grind
   generalize turn c e x=g1 at *;generalize turn c e z=g2 at *;generalize turn x z c=t1 at *;generalize turn x z e=t2 at *;have sg:∀{a b:Int},a*b<0->(0<a/\b<0)\/(a<0/\0<b):=λ{a b} h=>by
    rcases Int.lt_trichotomy a 0 with p | p | p
    . rcases Int.lt_or_le 0 b with q | q
      . omega
      . exact absurd (Int.mul_nonneg_of_nonpos_of_nonpos (Int.le_of_lt p) q) (by omega)
    . grind
    . rcases Int.lt_or_le b 0 with q | q
      . omega
      . exact absurd (Int.mul_nonneg (Int.le_of_lt p) q) (by omega)
   rcases sg o with⟨p,q⟩ |⟨p,q⟩
   . have n:=sg l;exact⟨-g2,g1,t2,-t1,by omega,by omega,by omega,by omega,by omega,by omega,by grind,by grind⟩
   . have n:=sg l;exact⟨g2,-g1,-t2,t1,by omega,by omega,by omega,by omega,by omega,by omega,by grind,by grind⟩
def way(a b:Pt)(D N:Int):Pt:=⟨D*a.x+N*(b.x-a.x),D*a.y+N*(b.y-a.y)⟩
def lG(a b c e:Pt):Int:=(b.x-a.x)*(e.y-c.y)-(b.y-a.y)*(e.x-c.x)
def iw(a b c:Pt):Int:=(b.x-a.x)*(c.x-a.x)+(b.y-a.y)*(c.y-a.y)
def Opn(sn sd tn td p q:Int):Prop:=0<(p*sd-sn*q)*q/\0<(tn*q-p*td)*q
structure Rng (D N1 N2 sn sd tn td:Int):Prop where
 D0:0<D
 s0:0<sd
 t0:0<td
 u1:sn*D<=N1*sd
 u2:N1*td<=tn*D
 v1:sn*D<N2*sd
 v2:N2*td<tn*D
theorem comb{f d h g w t o n:Int}(p q:Int)(l:k*(D*f+N1*h)+m*(D*f+N2*h)=u*(D*w)+v*(D*o))(j:k*(D*d+N1*g)+m*(D*d+N2*g)=u*(D*t)+v*(D*n))(i:k+m=u+v) :
    (k*N1+m*N2)*(p*h+q*g)=D*(u*(p*(w-f)+q*(t-d))+v*(p*(o-f)+q*(n-d))):=by
  have r:(k*N1+m*N2)*(p*h+q*g)=p*(k*(D*f+N1*h)+m*(D*f+N2*h))+q*(k*(D*d+N1*g)+m*(D*d+N2*g))-(k+m)*(D*(p*f+q*d)):=by clear l j i;grind
  rw[r,l,j,i];clear r l j i;grind
theorem SQ(f:lG a b c e=0)(j:0<k+m)(l:0<D)(d:k+m=u+v)
    (i:k*(D*a.x+N1*(b.x-a.x))+m*(D*a.x+N2*(b.x-a.x))=u*(D*c.x)+v*(D*e.x))(g:k*(D*a.y+N1*(b.y-a.y))+m*(D*a.y+N2*(b.y-a.y))=u*(D*c.y)+v*(D*e.y)):turn a b c=0:=by
  have h:=comb (-(b.y-a.y)) (b.x-a.x) i g d;have p:-(b.y-a.y)*(b.x-a.x)+(b.x-a.x)*(b.y-a.y)=0:=by clear h i g d f j l;grind
  have o:-(b.y-a.y)*(c.x-a.x)+(b.x-a.x)*(c.y-a.y)=turn a b c:=by clear h i g d f j l;unfold turn;grind
  have n:-(b.y-a.y)*(e.x-a.x)+(b.x-a.x)*(e.y-a.y)=turn a b c+lG a b c e:=by clear h i g d f j l;unfold turn lG;grind
  rw[p,o,n,f,Int.add_zero,Int.mul_zero,<- Int.add_mul,<- d]at h;rcases Int.mul_eq_zero.1 h.symm with h | h
  . omega
  . rcases Int.mul_eq_zero.1 h with h | h;all_goals omega
theorem nN{a:Int}(f:0<s)(h:0<s*a):0<a:=by
 rcases Int.lt_or_le 0 a with d | d
 . exact d
 . exact absurd (Int.mul_nonpos_of_nonneg_of_nonpos (Int.le_of_lt f) d) (by omega)
theorem Lr(h:turn a b c=0):iw a b b*(c.x-a.x)=iw a b c*(b.x-a.x)/\iw a b b*(c.y-a.y)=iw a b c*(b.y-a.y):=by grind[turn,iw]
theorem Ic(h:turn a b c=0)(d:lG a b c e=0):turn a b e=0:=by grind[turn,lG]
theorem Wx(r:Rng D N1 N2 sn sd tn td):sn*td<tn*sd:=by
 obtain⟨D0,d,t0,_,_,g,f⟩:=r;have i:=Int.mul_pos d (show 0<tn*D-N2*td by omega);have h:=Int.mul_pos t0 (show 0<N2*sd-sn*D by omega);have e:D*(tn*sd-sn*td)=sd*(tn*D-N2*td)+td*(N2*sd-sn*D):=by grind
 have:=nN D0 (a:=tn*sd-sn*td) (by omega);omega
theorem SS(r:Rng D N1 N2 sn sd tn td)(l:0<iw a b b)(G:turn a b c=0)(F:turn a b e=0)(O:iw a b c*sd<=sn*iw a b b)(N:tn*iw a b b<=iw a b e*td):on (scp D c) (scp D e) (way a b D N1):=by
 have st:=Wx r;obtain⟨D0,j,t0,M,L,_,_⟩:=r;obtain⟨K,J⟩:=Lr G;obtain⟨I,H⟩:=Lr F;generalize iw a b b=q at *;generalize iw a b c=p at *;generalize iw a b e=p' at *;have A:0<=p'*D-N1*q:=yF t0 (by
  have f:td*(p'*D-N1*q)=D*(p'*td-tn*q)+q*(tn*D-N1*td):=by grind
  have o:=Int.mul_nonneg (Int.le_of_lt D0) (show 0<=p'*td-tn*q by omega);have n:=Int.mul_nonneg (Int.le_of_lt l) (show 0<=tn*D-N1*td by omega);omega)
 have y:0<=N1*q-p*D:=yF j (by
  have f:sd*(N1*q-p*D)=q*(N1*sd-sn*D)+D*(sn*q-p*sd):=by grind
  have o:=Int.mul_nonneg (Int.le_of_lt l) (show 0<=N1*sd-sn*D by omega);have n:=Int.mul_nonneg (Int.le_of_lt D0) (show 0<=sn*q-p*sd by omega);omega)
 have w:0<p'-p:=nN (Int.mul_pos j t0) (by
  have f:sd*td*(p'-p)=sd*(p'*td-tn*q)+td*(sn*q-p*sd)+q*(tn*sd-sn*td):=by grind
  have o:=Int.mul_nonneg (Int.le_of_lt j) (show 0<=p'*td-tn*q by omega);have n:=Int.mul_nonneg (Int.le_of_lt t0) (show 0<=sn*q-p*sd by omega);have P:=Int.mul_pos l (show 0<tn*sd-sn*td by omega);omega)
 have E:0<(p'*D-N1*q)+(N1*q-p*D):=by
  have f:(p'*D-N1*q)+(N1*q-p*D)=D*(p'-p):=by grind
  rw[f];exact Int.mul_pos D0 w
 have t:∀{d i h g:Int},q*(h-d)=p*(i-d)->q*(g-d)=p'*(i-d)->((p'*D-N1*q)+(N1*q-p*D))*(D*d+N1*(i-d))=(p'*D-N1*q)*(D*h)+(N1*q-p*D)*(D*g):=λ{d i h g} C B=>by
  refine Int.eq_of_mul_eq_mul_left (show q≠0 by omega) ?_;have f:q*((p'*D-N1*q)*(D*h)+(N1*q-p*D)*(D*g))=D*((p'*D-N1*q)*(q*(h-d))+(N1*q-p*D)*(q*(g-d)))+q*((p'*D-N1*q)+(N1*q-p*D))*(D*d):=by grind
  rw[f,C,B];grind
 exact SL A y E (t K I) (t J H)
theorem UQ(r:Rng D N1 N2 sn sd tn td)(n:0<iw a b b)(h:Com (way a b D N1) (way a b D N2) (scp D c) (scp D e))
    (c1:lG a b c e≠0->¬ Opn sn sd tn td (lG a c c e) (lG a b c e))
    (c2:lG a b c e=0->turn a b c=0->¬ Opn sn sd tn td (iw a b c) (iw a b b)/\¬ Opn sn sd tn td (iw a b e) (iw a b b)):on (scp D c) (scp D e) (way a b D N1):=by
  obtain⟨k,m,u,v,J,Z,F,E,L,i,l,j⟩:=h;have M:=r;obtain⟨D0,Y,t0,X,W,V,U⟩:=M;by_cases Q:m=0
  . subst Q;refine SL F E (by omega) ?_ ?_;all_goals grind
  have lo:0<(k*N1+m*N2)*sd-(k+m)*(sn*D):=by
   have f:(k*N1+m*N2)*sd-(k+m)*(sn*D)=k*(N1*sd-sn*D)+m*(N2*sd-sn*D):=by grind
   have d:=Int.mul_nonneg J (show 0<=N1*sd-sn*D by omega);have o:=Int.mul_pos (show 0<m by omega) (show 0<N2*sd-sn*D by omega);omega
  have A:0<(k+m)*(tn*D)-(k*N1+m*N2)*td:=by
   have f:(k+m)*(tn*D)-(k*N1+m*N2)*td=k*(tn*D-N1*td)+m*(tn*D-N2*td):=by grind
   have d:=Int.mul_nonneg J (show 0<=tn*D-N1*td by omega);have o:=Int.mul_pos (show 0<m by omega) (show 0<tn*D-N2*td by omega);omega
  have l:k*(D*a.x+N1*(b.x-a.x))+m*(D*a.x+N2*(b.x-a.x))=u*(D*c.x)+v*(D*e.x):=l;have j:k*(D*a.y+N1*(b.y-a.y))+m*(D*a.y+N2*(b.y-a.y))=u*(D*c.y)+v*(D*e.y):=j;by_cases w:lG a b c e=0
  . have C:=SQ w L D0 i l j;have t:=Ic C w;obtain⟨O,N⟩:=c2 w C;have B:(k*N1+m*N2)*iw a b b=D*(u*iw a b c+v*iw a b e):=comb (b.x-a.x) (b.y-a.y) l j i;have q:∀{p:Int},¬ Opn sn sd tn td p (iw a b b)->p*sd<=sn*iw a b b\/tn*iw a b b<=p*td:=λ{p} h=>by
     rcases Int.lt_or_le (sn*iw a b b) (p*sd)with g | g
     . rcases Int.lt_or_le (p*td) (tn*iw a b b)with R | R
       . exact absurd ⟨Int.mul_pos (by omega) n,Int.mul_pos (by omega) n⟩ h
       omega
     omega
    rcases q O with H | H<;>rcases q N with G | G
    . exfalso;have f:D*(u*(sn*iw a b b-iw a b c*sd)+v*(sn*iw a b b-iw a b e*sd))=(u+v)*(sn*D)*iw a b b-D*(u*iw a b c+v*iw a b e)*sd:=by grind
      rw[<- B,<- i]at f;have d:=Int.mul_nonneg F (show 0<=sn*iw a b b-iw a b c*sd by omega);have o:=Int.mul_nonneg E (show 0<=sn*iw a b b-iw a b e*sd by omega);have T:=Int.mul_nonneg (Int.le_of_lt D0) (Int.add_nonneg d o);have S:=Int.mul_pos lo n;grind
    . exact SS r n C t H G
    . exact qF.1 (SS r n t C G H)
    . exfalso;have f:D*(u*(iw a b c*td-tn*iw a b b)+v*(iw a b e*td-tn*iw a b b))=D*(u*iw a b c+v*iw a b e)*td-(u+v)*(tn*D)*iw a b b:=by grind
      rw[<- B,<- i]at f;have d:=Int.mul_nonneg F (show 0<=iw a b c*td-tn*iw a b b by omega);have o:=Int.mul_nonneg E (show 0<=iw a b e*td-tn*iw a b b by omega);have T:=Int.mul_nonneg (Int.le_of_lt D0) (Int.add_nonneg d o);have S:=Int.mul_pos A n;grind
  . exfalso;refine c1 w ?_;have B:(k*N1+m*N2)*lG a b c e=D*(k+m)*lG a c c e:=by
     have h:=comb (e.y-c.y) (-(e.x-c.x)) l j i;have f:(e.y-c.y)*(b.x-a.x)+-(e.x-c.x)*(b.y-a.y)=lG a b c e:=by clear h l j i lo A;unfold lG;grind
     have d:(e.y-c.y)*(c.x-a.x)+-(e.x-c.x)*(c.y-a.y)=lG a c c e:=by clear h l j i lo A;unfold lG;grind
     have o:(e.y-c.y)*(e.x-a.x)+-(e.x-c.x)*(e.y-a.y)=lG a c c e:=by clear h l j i lo A;unfold lG;grind
     simp_all[Int.add_mul,Int.mul_assoc]
    have W0:0<D*(k+m):=Int.mul_pos D0 L;have I:0<lG a b c e*lG a b c e:=by
     rcases Int.lt_or_gt_of_ne w with g | g
     . exact Int.mul_pos_of_neg_of_neg g g
     . exact Int.mul_pos g g
    generalize lG a b c e=K at *;generalize lG a c c e=P at *;constructor
    . refine nN W0 ?_;have f:D*(k+m)*((P*sd-sn*K)*K)=(D*(k+m)*P)*sd*K-sn*(D*(k+m))*K*K:=by grind
      rw[f,<- B];have d:(k*N1+m*N2)*K*sd*K-sn*(D*(k+m))*K*K=((k*N1+m*N2)*sd-(k+m)*(sn*D))*(K*K):=by grind
      rw[d];exact Int.mul_pos lo I
    . refine nN W0 ?_;have f:D*(k+m)*((tn*K-P*td)*K)=tn*(D*(k+m))*K*K-(D*(k+m)*P)*td*K:=by grind
      rw[f,<- B];have d:tn*(D*(k+m))*K*K-(k*N1+m*N2)*K*td*K=((k+m)*(tn*D)-(k*N1+m*N2)*td)*(K*K):=by grind
      rw[d];exact Int.mul_pos A I
theorem RU{p:Nat->Pt}{n:Nat}(hp:∀ i,p (i+n)=p i)(g:0<iw a b b)(r:Rng D N1 N2 sn sd tn td)
    (f:∀ i,i<n->(lG a b (p i) (p (i+1))≠0->¬ Opn sn sd tn td (lG a (p i) (p i) (p (i+1))) (lG a b (p i) (p (i+1)))) /\
      (lG a b (p i) (p (i+1))=0->turn a b (p i)=0->¬ Opn sn sd tn td (iw a b (p i)) (iw a b b)/\¬ Opn sn sd tn td (iw a b (p (i+1))) (iw a b b))) :
    LY (λi=>scp D (p i)) n (way a b D N1)=0\/LY (λi=>scp D (p i)) n (way a b D N1)=LY (λi=>scp D (p i)) n (way a b D N2):=by
  by_cases j:D8 (λi=>scp D (p i)) n (way a b D N1)
  . grind[LY]
  . right;exact KX (p:=λi=>scp D (p i)) (λi=>by rw[hp]) λi d h=>j ⟨i,d,UQ r g (SN h) (f i d).1 (f i d).2⟩
end
section
open Go Go.Skm
variable {l:List Rt}{s t:Rt}
structure Num (r:Rt):Prop where
 cn:Cn r
 bn:Lt2 46 r.n
 bd:Lt2 46 r.d
 lo:0<=r.n
 hi:r.n<=r.d
theorem Num.ok{r:Rt}(h:Num r):r.ok:=⟨h.bn.okW (by omega),h.bd.okW (by omega),h.cn.1⟩
theorem Rx:Num ⟨0,1⟩:=⟨⟨by decide,by decide⟩,by unfold Lt2;decide,by unfold Lt2;decide,by decide,by decide⟩
theorem num1:Num ⟨1,1⟩:=⟨⟨by decide,by decide⟩,by unfold Lt2;decide,by unfold Lt2;decide,by decide,by decide⟩
theorem Ej{a b:Int}{k:Nat}(e:Lt2 k a)(c:Lt2 k b):Lt2 k (low a b).n/\Lt2 k (low a b).d:=⟨Nat.lt_of_le_of_lt (FD a b) e,Nat.lt_of_le_of_lt (FH a b) c⟩
theorem I9{z:Int}(h:I43 z):Lt2 46 z:=by unfold I43 at h;exact tJ (n:=35184372088832) (by omega) (by decide)
theorem RD{p:Int × Int}(b:∀ r∈l,Num r)(hp:I43 p.1/\I43 p.2/\p.2≠0):∀ r∈zS l p,Num r:=by
 intro r a;rcases Ru a with h |⟨rfl,d,c⟩
 . exact b r h
 . obtain⟨b1,e⟩:=Ej (I9 hp.1) (I9 hp.2.1);exact⟨Rw hp.2.2,b1,e,d,c⟩
theorem CO:∀(a:List (Int × Int)) {l:List Rt},(∀ r∈l,Num r)->(∀ p∈a,I43 p.1/\I43 p.2/\p.2≠0)->(∀ r∈nG l a,Num r)/\(nG l a).length<=l.length+a.length
 |[],l,hl,_=>⟨hl,by simp[nG]⟩
 | p::a,l,hl,hp=>by obtain⟨c,b⟩:=CO a (RD hl (hp p (by simp))) λq d=>hp q (by simp[d]);refine⟨c,?_⟩;have:=Kv l p;rw[qLl];exact Nat.le_trans b (by omega)
def uM(s t:Rt):Rt:=low (s.n*t.d+t.n*s.d) (s.d*t.d)
def iq(s t:Rt):Rt:=low ((uM s t).n*1) ((uM s t).d*2)
def fD(x0 x1:Int)(t:Rt):Int:=(x1-x0)*t.n+x0*t.d
def RF(f:Fen)(a b:V3)(t:Rt):Bool:=GR f (fD a.x b.x t*t.d) (fD a.y b.y t*t.d) (t.d*t.d)
def rU(f:Fen)(a b:V3):List Rt->Bool
 | s::t::r=>RF f a b (iq s t)&&rU f a b (t::r)
 | _=>true
def numsL(f:Fen)(a b:V3):List Rt:=CJ (zy (zG a b [⟨0,1⟩,⟨1,1⟩] (dS f)))
def pK(f:Fen)(a b:V3):Bool × Int:=
 if validP f then(if inM 1048576 a then(if inM 1048576 b then(if kJ f a then(if kJ f b then(if a.x=b.x/\a.y=b.y then(true,0)else(rU f a b (numsL f a b),0))else(false,0))else(false,0))else(false,2))else(false,2))else(false,2)
theorem MO:∀{l:List Rt} {x y:Rt},y∈CG x l->y∈l
 |[],_,_,h=>by simp[CG]at h
 | z::r,x,y,h=>by
  unfold CG at h;split at h
  . exact List.mem_cons_of_mem _ (MO h)
  . rcases List.mem_cons.1 h with rfl | h
    . simp
    . exact List.mem_cons_of_mem _ (MO h)
theorem Uw{y:Rt}(h:y∈CJ l):y∈l:=by
 cases l with
 | nil=>simp[CJ]at h
 | cons x r =>
  rcases List.mem_cons.1 h with rfl | h
  . simp
  . exact List.mem_cons_of_mem _ (MO h)
theorem Ux(l:List Rt):(CJ l).length<=l.length:=by
 cases l with
 | nil=>simp[CJ]
 | cons x r=>have:=Uu x r;simp only[CJ,qLl];omega
theorem A8(l:List Rt):(zy l).length=l.length:=(wu l).length_eq
theorem sum_lt(b:Num s)(a:Num t):Lt2 93 (s.n*t.d+t.n*s.d)/\Lt2 93 (s.d*t.d)/\0<s.d*t.d:=
 ⟨((b.bn.mul a.bd).add (a.bn.mul b.bd)).mono (by omega),(b.bd.mul a.bd).mono (by omega),Int.mul_pos b.cn.1 a.cn.1⟩
theorem Ov:Lt2 2 2:=by unfold Lt2;decide
theorem Ox:Lt2 1 1:=by unfold Lt2;decide
theorem V6(j:Num s)(i:Num t):Lt2 100 (iq s t).n/\Lt2 100 (iq s t).d/\0<(iq s t).d/\Lt2 93 (uM s t).n/\Lt2 93 (uM s t).d/\0<(uM s t).d:=by obtain⟨m,k,o⟩:=sum_lt j i;obtain⟨b,a⟩:=Ej m k;have h:0<(uM s t).d:=rC (by omega);have e:Lt2 100 ((uM s t).n*1):=(Lt2.mul b Ox).mono (by omega);have c:Lt2 100 ((uM s t).d*2):=(Lt2.mul a Ov).mono (by omega);obtain⟨g,f⟩:=Ej e c;exact⟨g,f,rC (by omega),b,a,h⟩
section
variable (X:Ext) (hX:Mine X)
include hX
variable (hB:Bits X)
include hB
theorem c76(a b:Int)(c:Lt2 25 a)(o:Lt2 25 b)(t:Rt)(i:Lt2 100 t.n)(hd:Lt2 100 t.d):run tab X 76 [Ab a,Ab (b-a),.p (mX t),.p pZ] []=some ([.p (eR (fD a b t) t.d)],[]):=
 run_of (hX _ rfl) (by
  have g:Lt2 26 (b-a):=o.sub c;have f:Lt2 200 ((b-a)*t.n):=(g.mul i).mono (by omega);have e:Lt2 200 (a*t.d):=(c.mul hd).mono (by omega);have m:=Um X hX hB (b-a) t.n (g.okW (by omega)) (i.okW (by omega)) (f.okW (by omega));have k:=Um X hX hB a t.d (c.okW (by omega)) (hd.okW (by omega)) (e.okW (by omega));have h:=c79 X hX hB ((b-a)*t.n) (a*t.d) (f.okW (by omega)) (e.okW (by omega));rw[yt,if_pos ((f.add e).okW (by omega))]at h;have b1:-9223372036854775808<=b-a/\b-a<=9223372036854775807:=by unfold Lt2 at g;omega
  have j:-9223372036854775808<=a/\a<=9223372036854775807:=by unfold Lt2 at c;omega
  rw[mX,eR,e76,c61 X hX hB _ b1.1 b1.2,qOb];simp only[qLh,pv_p,iV];show(run tab X 77 [.p pZ,.p (eW (b-a)),.p (eW t.n)] []).bind _=_;rw[m,qOb,c61 X hX hB _ j.1 j.2,qOb];simp only[qLh,pv_p,iV];show(run tab X 77 [.p pZ,.p (eW a),.p (eW t.d)] []).bind _=_;rw[k,qOb];simp only[qLh,pv_p,iV];rw[h,qOb];simp only[qLh,List.tail_cons,pv_p,iV,toInt_int];rw[c78 X hX,qOb];rfl)
abbrev w28:List Wy:=[.lp [1,1,1,1,1,1,1,1,1,1,1,1,0,1,0]]
abbrev S28(f:Fen)(a b:V3)(i:Nat)(n:Nat)(buf:List PV):St:=iZ (i:Int) (encL f.outer) (bK f.holes) f.low f.high a.x a.y a.z b.x b.y b.z (decide ((1:Int)<0)) (mQ (1:Int).natAbs) 0 n buf 0
theorem l28b(f:Fen)(hf:Ul f)(a b:V3)(N:iy a)(M:iy b)(D:List Rt)(hD:∀ r∈D,Num r)(hDl:D.length<=1000000)(h:List PV)(K:h.take D.length=encR D):∀(r:List Rt) (i:Nat),D.drop i=r->i<D.length ->
    L tab (run tab X) 28 [] w28 (S28 f a b (i+1) D.length h)=some (Cm (rU f a b r,0),[]):=by
  have get:∀ i,i<D.length->h.getD i .nil=mX (gr D i):=λi g=>by rw[<- qx D g];grind
  have V:∀ i,i<D.length->Num (gr D i):=λi g=>hD _ (by grind);intro r;induction r with
  | nil =>intro i u g;have:=congrArg List.length u;grind
  | cons s r ih =>
   intro i u g;have J:gr D i=s:=by grind[qLb,List.head?_drop]
   have hnext:D.drop (i+1)=r:=by rw[<- List.tail_drop,u];rfl
   cases r with
   | nil =>
    have c:D.length=i+1:=by have:=congrArg List.length hnext;grind
    refine L_of ?_;rw[o7,xO (by omega),qCf];rfl
   | cons t r' =>
    have c:i+1<D.length:=by grind
    have I:gr D (i+1)=t:=by show D.getD (i+1) ⟨0,0⟩=t;rw[qLb,<- List.head?_drop,hnext];rfl
    have q:=J▸V i g;have o:=I▸V (i+1) c;have W:IntKind.i64.wrap (((i+1:Nat):Int)-1)=(i:Int):=by rw[wrap_eq (by omega) (by omega)];omega
    obtain⟨o1,o2,o3⟩:=sum_lt q o;obtain⟨k,e,F,H,G,k3⟩:=V6 q o;have A:=c80 X hX hB s.n s.d t.n t.d q.ok o.ok;rw[AY (o1.okW (by omega)) (o2.okW (by omega)) (by omega)]at A;have j:okR 1 2:=⟨qw (by decide),qw (by decide),by decide⟩;have m:okR (uM s t).n (uM s t).d:=⟨H.okW (by omega),G.okW (by omega),k3⟩;have z:=c81 X hX hB (uM s t).n (uM s t).d 1 2 m j;rw[AY ((Lt2.mul H Ox).okW (by omega)) ((Lt2.mul G Ov).okW (by omega)) (by omega)]at z;obtain⟨S,R⟩:=vZ N.up;obtain⟨bx,v⟩:=vZ M.up;have q3:=c76 X hX hB a.x b.x S bx (iq s t) k e;have Z:=c76 X hX hB a.y b.y R v (iq s t) k e
    obtain⟨Q,P⟩:=J8 N.up M.up;have U:Lt2 130 (fD a.x b.x (iq s t)):=((Q.mul k).add ((S.mul e).mono (by omega))).mono (by omega);have T:Lt2 130 (fD a.y b.y (iq s t)):=((P.mul k).add ((R.mul e).mono (by omega))).mono (by omega);have E:Lt2 20000 (fD a.x b.x (iq s t)*(iq s t).d):=(U.mul e).mono (by omega);have C:Lt2 20000 (fD a.y b.y (iq s t)*(iq s t).d):=(T.mul e).mono (by omega);have B:Lt2 20000 ((iq s t).d*(iq s t).d):=(e.mul e).mono (by omega);have Y:=c63 X hX hB (fD a.x b.x (iq s t)) (iq s t).d (fD a.y b.y (iq s t)) (iq s t).d (U.okW (by omega)) (e.okW (by omega)) (T.okW (by omega)) (e.okW (by omega)) (E.okW (by omega)) (C.okW (by omega)) (B.okW (by omega));have w:=abS X hX hB f hf _ _ _ ⟨E,C,B,Int.mul_pos F F⟩;rw[encF]at w;have dX:IntKind.i64.wrap (b.x-a.x)=b.x-a.x:=by unfold Lt2 at Q;exact wrap_eq (by omega) (by omega)
    have dY:IntKind.i64.wrap (b.y-a.y)=b.y-a.y:=by unfold Lt2 at P;exact wrap_eq (by omega) (by omega)
    have g1:ltI ((i:Nat):Int) (D.length:Int)=true:=rZ g;have O:ltI ((i+1:Nat):Int) (D.length:Int)=true:=rZ c;refine L_of ?_;rw[o7,O,qCt,W];simp only[le0,g1,O,qBs,qCt,qIt,qNz,get i g,get (i+1) c,J,I,dL (show i+1<=9000000000000000000 by omega),dX,dY];show(run tab X 80 [.p (eR s.n s.d),.p (eR t.n t.d)] []).bind _=_;rw[A,qOb,c61 X hX hB 2 (by omega) (by omega),qOb];show(run tab X 81 [.p (eR (uM s t).n (uM s t).d),.p (eR 1 2)] []).bind _=_;rw[z,qOb];show(run tab X 76 [Ab a.x,Ab (b.x-a.x),.p (mX (iq s t)),.p pZ] []).bind _=_;rw[q3,qOb];show(run tab X 76 [Ab a.y,Ab (b.y-a.y),.p (mX (iq s t)),.p pZ] []).bind _=_;rw[Z,qOb];show(run tab X 63 [.p pZ,.p (eR (fD a.x b.x (iq s t)) (iq s t).d),.p (eR (fD a.y b.y (iq s t)) (iq s t).d)] []).bind _=_;rw[Y,qOb];show(run tab X 64 [_,.p (.fn 82 [pZ,.ref (J9 (fD a.x b.x (iq s t)*(iq s t).d) (fD a.y b.y (iq s t)*(iq s t).d) ((iq s t).d*(iq s t).d))])] []).bind _=_;rw[w,qOb];simp only[qLh,pv_p,toBool_bool];have oP:=ih (i+1) hnext c;rw[rU];unfold RF;cases GR f (fD a.x b.x (iq s t)*(iq s t).d) (fD a.y b.y (iq s t)*(iq s t).d) ((iq s t).d*(iq s t).d)with
    | false=>rfl
    | true=>grind
end
end
section
open Go Go.Skm
variable {l:List Rt}
theorem MP(a b:V3)(l:List Rt)(e:jW)(c:List jW):zG a b l (e::c)=zG a b (nG l (jX a b e.1 e.2)) c:=rfl
theorem KE(h:∀ r∈l,Num r):∀ r∈zy l,Num r:=λr a=>h r ((wu l).mem_iff.1 a)
theorem Oy(h:∀ r∈l,Num r):∀ r∈CJ l,Num r:=λr a=>h r (Uw a)
theorem V7(h:l≠[]):0<(CJ l).length:=by
 cases l with
 | nil=>exact absurd rfl h
 | cons x r=>simp[CJ]
abbrev KF(ys:List PV):List Wy:=[.rg [1,1,1,1,1,1,0,1,0] [(true,kV3),(true,kV3)] ys]
abbrev Uy(f:Fen)(a b:V3)(n:Nat)(buf:List PV):St:=jO (encL f.outer) (bK f.holes) f.low f.high (encL f.outer) (bK f.holes) f.low f.high a.x a.y a.z b.x b.y b.z (decide ((1:Int)<0)) (mQ (1:Int).natAbs) 0 n buf
abbrev Yi(f:Fen)(a b:V3)(n:Nat)(buf:List PV):St:=qE (encL f.outer) (bK f.holes) f.low f.high (encL f.outer) (bK f.holes) f.low f.high a.x a.y a.z b.x b.y b.z (decide ((1:Int)<0)) (mQ (1:Int).natAbs) buf 0 n
section
variable (X:Ext) (hX:Mine X)
include hX
variable (hB:Bits X) (hE:EH X) (hS:Sorts X)
include hB hS
theorem c74(l:List Rt)(a:∀ r∈l,Num r)(g:l.length<=100000):run tab X 74 [.slice 100000 4 0 l.length,.p (.fn 73 [])] [.arr true kR (encR l)]=some ([],[.arr true kR (encR (zy l))]):=by
 have _:=hX;have _:=hB;let vs:List Vr:=l.attach.map λx=>⟨x.1,(a x.1 x.2).ok⟩;have j:vs.map (·.1)=l:=by show(l.attach.map λx=>(⟨x.1,(a x.1 x.2).ok⟩:Vr)).map (·.1)=l;simp
 have i:vs.length=l.length:=by grind
 obtain⟨m,f,b,e⟩:=hS.s vs (by omega);have h:m.map (·.1)=zy l:=by
  have hp:(m.map (·.1)).Perm l:=by grind
  refine FV (hp.trans (wu l).symm) b (Kz λy c=>(a y c).cn.1) λx d=>(a x (hp.mem_iff.1 d)).cn
 grind[JM]
theorem n28(f:Fen)(j:Ul f)(a b:V3)(m:iy a)(k:iy b)(l:List Rt)(e:∀ r∈l,Num r)(i:l.length<=100000)(o:l≠[]) :
    L tab (run tab X) 28 [] (KF []) (Uy f a b l.length (encR l))=some (Cm (rU f a b (CJ (zy l)),0),[]):=by
  rw[x9,c74 X hX hB hS l e i,qOb];obtain⟨n,d,g⟩:=c75 X hX (zy l) (by rw[A8];omega);rw[A8]at d;show(run tab X 75 [.slice 100000 4 0 l.length] [.arr true kR (encR (zy l))]).bind _=_;rw[d,qOb];have c:zy l≠[]:=λh=>by have:=A8 l;grind
  exact l28b X hX hB f j a b m k (CJ (zy l)) (Oy (KE e)) (by have:=Ux (zy l);rw[A8]at this;omega) n g (CJ (zy l)) 0 rfl (V7 c)
theorem l28a(f:Fen)(D:Ul f)(a b:V3)(u:iy a)(t:iy b)(g:¬(a.x=b.x/\a.y=b.y)):∀(c:List jW) (l:List Rt),(∀ e∈c,iy e.1/\iy e.2)->(∀ r∈l,Num r)->l≠[]->l.length+2*c.length<=100000 ->
    L tab (run tab X) 28 [] (KF (c.map eY)) (Uy f a b l.length (encR l))=some (Cm (rU f a b (CJ (zy (zG a b l c))),0),[]):=by
  intro c;induction c with
  | nil =>intro l _ o w n;exact n28 X hX hB hS f D a b u t l o (by simp at n;omega) w
  | cons e r k =>
   intro l d o w n;obtain⟨v,hd⟩:=d e (by simp);simp only[qLl]at n;have q:=c72 X hX hB l (by omega) a b e.1 e.2 u t v hd g;simp only[encV]at q;obtain⟨F,A⟩:=FT u t v hd g;obtain⟨B,G⟩:=CO (jX a b e.1 e.2) o A;rw[List.map_cons,MP];show L tab (run tab X) 28 [] (KF (.agg [.agg [Av e.1.x,Av e.1.y,Av e.1.z],.agg [Av e.2.x,Av e.2.y,Av e.2.z]]::r.map eY)) (Uy f a b l.length (encR l))=_;rw[pW,q,qOb];have C:l.length<=(nG l (jX a b e.1 e.2)).length:=by
    have j:∀(i:List (Int × Int)) (l:List Rt),l.length<=(nG l i).length:=by
     intro i;induction i with
     | nil=>intro l;exact qNr _
     | cons p i k =>intro l;refine Nat.le_trans ?_ (k (zS l p));grind[zS]
    exact j _ _
   have m:nG l (jX a b e.1 e.2)≠[]:=λh=>by grind
   have oP:=k (nG l (jX a b e.1 e.2)) (λE s=>d E (by simp[s])) B m (by omega);show L tab (run tab X) 28 [] (KF (r.map eY)) (Uy f a b (encR (nG l (jX a b e.1 e.2))).length (encR (nG l (jX a b e.1 e.2))))=_;grind[yA]
theorem ab3(f:Fen)(m:Ul f)(a b:V3)(o:iy a)(n:iy b)(i:¬(a.x=b.x/\a.y=b.y))(c:List jW)(l:List Rt)(h:c≠[])(g:∀ e∈c,iy e.1/\iy e.2)(k:∀ r∈l,Num r)(p:l≠[])(j:l.length+2*c.length<=100000) :
    L tab (run tab X) 28 [] (KF (c.map eY)) (Yi f a b l.length (encR l))=some (Cm (rU f a b (CJ (zy (zG a b l c))),0),[]):=by
  cases c with
  | nil=>exact absurd rfl h
  | cons e r =>have d:=l28a X hX hB hS f m a b o n i (e::r) l g k p j;rw[List.map_cons]at d ⊢;have q:∀ ys:List PV,KF (eY e::ys)=KF (.agg [.agg [Av e.1.x,Av e.1.y,Av e.1.z],.agg [Av e.2.x,Av e.2.y,Av e.2.z]]::ys):=λ_=>rfl;grind[pW,zM]
include hE
theorem PZ{f:Fen}(h:validP f=true):dS f≠[]:=by have _:=hX;have _:=hB;have _:=hE;have _:=hS;have a:=(nT h).1;have b:=(mD (b:=true) a).2;have c:=(gX a).1;grind[qLp,jr,List.length_nil,dS]
theorem c28(f:Fen)(u:tY f)(a b:V3):run tab X 28 [.p (encF f),.p (encV a),.p (encV b)] []=some (Cm (pK f a b),[]):=
 run_of (hX _ rfl) (by
  have z:=c18 X hX f u;have w:=c40 X hX a;have v:=c40 X hX b;have d:=c31 X hX f;have c:=hE.e f u;rw[encF]at z d;rw[encV]at w v;rw[encF,encV,encV,e28,z,qOb];simp only[qLh,pv_p,toBool_bool];unfold pK;cases j:validP f with
  | false=>rfl
  | true =>
   obtain⟨o,_⟩:=oJ j;rw[qBt,qCf,w,qOb,if_pos rfl];simp only[qLh,pv_p,toBool_bool];cases D:inM 1048576 a with
   | false=>rfl
   | true =>
    rw[qBt,qCf,v,qOb,if_pos rfl];simp only[qLh,pv_p,toBool_bool];cases C:inM 1048576 b with
    | false=>rfl
    | true =>
     have s:=pJ.1 D;have q:=pJ.1 C;have h4:=c55 X hX f o a (s.mono (by decide));have h5:=c55 X hX f o b (q.mono (by decide));rw[encF,encV]at h4 h5;rw[qBt,qCf,h4,qOb,if_pos rfl];simp only[qLh,pv_p,toBool_bool];cases B:kJ f a with
     | false=>rfl
     | true =>
      rw[qBt,qCf,h5,qOb,if_pos rfl];simp only[qLh,pv_p,toBool_bool];cases A:kJ f b with
      | false=>rfl
      | true =>
       rw[qBt,qCf,if_pos rfl];have m:¬(a.x=b.x/\a.y=b.y)->L tab (run tab X) 28 [] (KF ((dS f).map eY)) (Yi f a b 2 [.agg [.bool false,.str ⟨#[]⟩,.bool (decide ((1:Int)<0)),.str (mQ (1:Int).natAbs)],.agg [.bool (decide ((1:Int)<0)),.str (mQ (1:Int).natAbs),.bool (decide ((1:Int)<0)),.str (mQ (1:Int).natAbs)]])=some (Cm (rU f a b (numsL f a b),0),[]):=λn=>by
        have k:=ab3 X hX hB hS f o a b s q n (dS f) [⟨0,1⟩,⟨1,1⟩] (PZ X hX hB hE hS j) (tK j) (by
         intro r t;simp only[List.mem_cons,List.not_mem_nil,or_false]at t;rcases t with rfl | rfl
         . exact Rx
         . exact num1) (by simp) (by have:=FP j;simp only[qLl,List.length_nil];omega)
        have F:encR [⟨0,1⟩,⟨1,1⟩]=[.agg [.bool false,.str ⟨#[]⟩,.bool (decide ((1:Int)<0)),.str (mQ (1:Int).natAbs)],.agg [.bool (decide ((1:Int)<0)),.str (mQ (1:Int).natAbs),.bool (decide ((1:Int)<0)),.str (mQ (1:Int).natAbs)]]:=by show [PV.agg [.bool (decide ((0:Int)<0)),.str (mQ (0:Int).natAbs),.bool (decide ((1:Int)<0)),.str (mQ (1:Int).natAbs)],_]=_;rw[show(0:Int).natAbs=0 from rfl,yx];rfl
        rw[F]at k;exact k
       have E:nO f=dS f:=by unfold nO;rw[if_pos j]
       rw[E]at c;by_cases i:a.x=b.x
       . rw[show(a.x==b.x)=true from beq_iff_eq.2 i,qCt];by_cases g:a.y=b.y
         . rw[show(a.y==b.y)=true from beq_iff_eq.2 g,qCt,if_pos ⟨i,g⟩];rfl
         . rw[show(a.y==b.y)=false from beq_eq_false_iff_ne.2 g,qCf,if_neg λh=>g h.2,c61 X hX hB 1 (by omega) (by omega),qOb,d,qOb];show(run tab X 87 [.yld,.p (.ref (xX f))] [.log true []]).bind _=_;rw[c,qOb];exact m λh=>g h.2
       . rw[show(a.x==b.x)=false from beq_eq_false_iff_ne.2 i,qCf,if_neg λh=>i h.1,c61 X hX hB 1 (by omega) (by omega),qOb,d,qOb];show(run tab X 87 [.yld,.p (.ref (xX f))] [.log true []]).bind _=_;rw[c,qOb];exact m λh=>i h.1)
end
end
end Go.Skm.Fen
