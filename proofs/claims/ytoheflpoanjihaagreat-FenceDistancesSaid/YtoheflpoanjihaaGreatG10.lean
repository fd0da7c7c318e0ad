import Derived.Test.YtoheflpoanjihaaGreatPolyD
set_option linter.all false
namespace Go.Skm.Fen
section
variable {D a b t:Int}{c q:Pt}{p:Nat->Pt}{n:Nat}
def scp(D:Int)(a:Pt):Pt:=⟨D*a.x,D*a.y⟩
theorem wP(D:Int)(a b c:Pt):turn (scp D a) (scp D b) (scp D c)=D*D*turn a b c:=by unfold turn scp;grind
theorem rQ(h:0<D):D*a<=D*b↔a<=b:=⟨λk=>Int.le_of_mul_le_mul_left k h,λk=>Int.mul_le_mul_of_nonneg_left k (by omega)⟩
theorem pG(h:0<D):D*a<D*b↔a<b:=⟨λk=>Int.lt_of_mul_lt_mul_left k (by omega),λk=>Int.mul_lt_mul_of_pos_left k h⟩
theorem Hy{c:Int}(h:0<D):btw (D*a) (D*b) (D*c)↔btw a b c:=by unfold btw;rw[rQ h,rQ h,rQ h,rQ h]
theorem PZ(h:0<D):0<D*D:=Int.mul_pos h h
theorem P5(h:0<D):D*D*t=0↔t=0:=by
 have:=PZ h;constructor
 . intro k;rcases Int.mul_eq_zero.1 k with k | k
   . omega
   . exact k
 . intro k;rw[k,Int.mul_zero]
theorem Hz(h:0<D):D*D*t<0↔t<0:=by
 have:=PZ h;constructor
 . intro k;exact dI this (by rw[Int.mul_comm];exact k)
 . intro k;exact oz this k
theorem wO(h:0<D){a b:Pt}:on (scp D a) (scp D b) (scp D c)↔on a b c:=by unfold on;rw[wP,P5 h];show _/\btw (D*a.x) (D*b.x) (D*c.x)/\btw (D*a.y) (D*b.y) (D*c.y)↔_;rw[Hy h,Hy h]
theorem Jh(h:0<D){a b d:Pt}:meet (scp D a) (scp D b) (scp D c) (scp D d)↔meet a b c d:=by
 unfold meet;rw[wO h,wO h,wO h,wO h,wP,wP,wP,wP];have e:∀ s t:Int,D*D*s*(D*D*t)<0↔s*t<0:=λs t=>by
  have:D*D*s*(D*D*t)=D*D*(D*D*(s*t)):=by grind
  rw[this,Hz h,Hz h]
 rw[e,e]
theorem Simp.scp{p:Nat->Pt}{n:Nat}(h:Simp p n){D:Int}(f:0<D):Simp (λi=>Fen.scp D (p i)) n:=
 ⟨h.n3,λi=>by rw[h.per],λi m j g d=>h.far i m j g ((Jh f).1 d),λi d=>h.Ep i ((wO f).1 d),λi d=>h.Es i ((wO f).1 d),λi m j g e=>by have e:D*(p i).y=D*(p (i+m)).y:=e;exact h.hts i m j g (Int.eq_of_mul_eq_mul_left (by omega) e)⟩
theorem P6{a b:Pt}(h:turn a b q=0)(d:mid a b q):on a b q:=lJ h (by unfold mid at d;omega) (by unfold mid at d;unfold btw;omega)
theorem BF(h:Simp p n)(k m:Nat)(r:0<m)(o:m<n)(g:turn (p k) (p (k+1)) q=0)(e:mid (p k) (p (k+1)) q)(f:turn (p (k+m)) (p (k+m+1)) q=0)(d:mid (p (k+m)) (p (k+m+1)) q):False:=by
 by_cases l:m=1
 . subst l;exact EF h k g e (.inr (.inr (.inr (.inl (P6 f d)))))
 by_cases s:m+1=n
 . have j:p (k+m+1)=p k:=by rw[show k+m+1=k+n by omega,h.per]
   have i:p (k+m+2)=p (k+1):=by rw[show k+m+2=k+1+n by omega,h.per]
   have:=EF h (k+m) f d;rw[j,i]at this;exact this (.inr (.inr (.inr (.inl (P6 g e)))))
 . exact h.far k m (by omega) (by omega) (ED g e f d)
theorem Oa(h:Simp p n){i k:Nat}(m:i<n)(l:k<n)(d:i≠k)(j:turn (p k) (p (k+1)) q=0)(f:mid (p k) (p (k+1)) q)(g:turn (p i) (p (i+1)) q=0)(e:mid (p i) (p (i+1)) q):False:=by
 rcases Nat.lt_or_gt_of_ne d with c | c
 . have:=BF h i (k-i) (by omega) (by omega) g e;rw[show i+(k-i)=k by omega]at this;exact this j f
 . have:=BF h k (i-k) (by omega) (by omega) j f;rw[show k+(i-k)=i by omega]at this;exact this g e
theorem yH(P:Nat->Prop)(num d:Nat->Int)(hp:∀ i,P i->0<d i):∀ n,(∃ i,i<n/\P i)->∃ k,k<n/\P k/\∀ i,i<n->P i->num k*d i<=num i*d k
 | 0,⟨i,h,_⟩=>by omega
 | n+1,hex=>by
  by_cases g:P n
  . by_cases m:∃ i,i<n/\P i
    . obtain⟨k,v,l,r⟩:=yH P num d hp n m;by_cases c:num k*d n<=num n*d k
      . refine⟨k,by omega,l,λi o f=>?_⟩;by_cases e:i=n
        . subst e;exact c
        . exact r i (by omega) f
      . refine⟨n,by omega,g,λi o f=>?_⟩;by_cases e:i=n
        . subst e;exact Int.le_refl _
        . -- num n / d n<num k / d k≤num i / d i
          have a:=r i (by omega) f;have w:=hp k l;have z:=hp n g;have A:=hp i f;have b1:=Int.mul_le_mul_of_nonneg_right (show num n*d k<=num k*d n by omega) (show 0<=d i by omega);have B:=Int.mul_le_mul_of_nonneg_right a (show 0<=d n by omega);have c1:num n*d k*d i=d k*(num n*d i):=by grind
          have c2:num k*d n*d i=num k*d i*d n:=by grind
          have c3:num i*d k*d n=d k*(num i*d n):=by grind
          exact Int.le_of_mul_le_mul_left (show d k*(num n*d i)<=d k*(num i*d n) by omega) w
    . refine⟨n,by omega,g,λi o f=>?_⟩;by_cases e:i=n
      . subst e;exact Int.le_refl _
      . exact absurd ⟨i,by omega,f⟩ m
  . obtain⟨i,v,l⟩:=hex;have:i≠n:=λe=>g (e▸l);obtain⟨k,x,u,s⟩:=yH P num d hp n ⟨i,by omega,l⟩;refine⟨k,by omega,u,λj y f=>s j ?_ f⟩;have:j≠n:=λe=>g (e▸f);omega
theorem P7{f g:Nat->Int}{k:Nat}{c:Int}:∀{n},k<n->(∀ i,i<n->i≠k->f i=g i)->f k=g k+c->sg f 0 n=sg g 0 n+c
 | 0,h,_,_=>by omega
 | n+1,h,he,hk=>by
  rw[sg,sg,Nat.zero_add];by_cases e:k=n
  . subst e;have:sg f 0 k=sg g 0 k:=uD λi _ l=>he i (by omega) (by omega);omega
  . have:=P7 (n:=n) (show k<n by omega) (λi j=>he i (by omega)) hk;have m:=he n (by omega) (λd=>e d.symm);omega
theorem uG(x a b:Pt):(cr x a b=1/\a.y<=x.y/\x.y<b.y/\0<turn a b x)\/(cr x a b=-1/\b.y<=x.y/\x.y<a.y/\turn a b x<0)\/cr x a b=0:=by
 unfold cr;split
 . exact .inl ⟨rfl,by assumption⟩
 . split
   . exact .inr (.inl ⟨rfl,by assumption⟩)
   . exact .inr (.inr rfl)
theorem KG(h:Simp p n)(x:Pt)(E:∀ k,(p k).y≠x.y):-1<=jZ p n x/\jZ p n x<=1:=by
 by_cases B:∃ i,i<n/\cr x (p i) (p (i+1))≠0
 . -- the nearest edge on the right
   obtain⟨k,S,g,l⟩:=yH (λi=>cr x (p i) (p (i+1))≠0) (λi=>cr x (p i) (p (i+1))*turn (p i) (p (i+1)) x) (λi=>cr x (p i) (p (i+1))*((p (i+1)).y-(p i).y)) (λi u=>by
    rcases uG x (p i) (p (i+1))with⟨e,a,b,c⟩ |⟨e,a,b,c⟩ | e
    . rw[e];omega
    . rw[e];omega
    . exact absurd e u) n B
   obtain⟨D,v⟩:∃ D,cr x (p k) (p (k+1))*((p (k+1)).y-(p k).y)=D:=⟨_,rfl⟩;obtain⟨m,r⟩:∃ m,cr x (p k) (p (k+1))*turn (p k) (p (k+1)) x=m:=⟨_,rfl⟩;rw[v,r]at l;have f:0<D:=by
    rw[<- v];rcases uG x (p k) (p (k+1))with⟨e,a,b,c⟩ |⟨e,a,b,c⟩ | e
    . rw[e];omega
    . rw[e];omega
    . exact absurd e g
   have L:0<m:=by
    rw[<- r];rcases uG x (p k) (p (k+1))with⟨e,a,b,c⟩ |⟨e,a,b,c⟩ | e
    . rw[e];omega
    . rw[e];omega
    . exact absurd e g
   have N:=h.scp f;have G:∀ a b:Pt,turn (scp D a) (scp D b) ⟨D*x.x+m,D*x.y⟩=D*(D*turn a b x-(b.y-a.y)*m):=λa b=>by unfold turn scp;grind
   have R:∀ i,mid (p i) (p (i+1)) x->mid (scp D (p i)) (scp D (p (i+1))) ⟨D*x.x+m,D*x.y⟩:=λi u=>by unfold mid at u ⊢;show(D*(p i).y<D*x.y/\D*x.y<D*(p (i+1)).y)\/(D*(p (i+1)).y<D*x.y/\D*x.y<D*(p i).y);rw[pG f,pG f,pG f,pG f];exact u
   have H:turn (scp D (p k)) (scp D (p (k+1))) ⟨D*x.x+m,D*x.y⟩=0:=by
    rw[G,<- v,<- r];have:cr x (p k) (p (k+1))*((p (k+1)).y-(p k).y)*turn (p k) (p (k+1)) x-((p (k+1)).y-(p k).y)*(cr x (p k) (p (k+1))*turn (p k) (p (k+1)) x)=0:=by grind
    rw[this,Int.mul_zero]
   have mk:mid (p k) (p (k+1)) x:=by
    have:=E k;have:=E (k+1);rcases uG x (p k) (p (k+1))with⟨e,a,b,c⟩ |⟨e,a,b,c⟩ | e
    . unfold mid;omega
    . unfold mid;omega
    . exact absurd e g
   have others:∀ i,i<n->i≠k->cr x (p i) (p (i+1))=cr ⟨D*x.x+m,D*x.y⟩ (scp D (p i)) (scp D (p (i+1))):=λi u J=>by
    have y1:=E i;have y2:=E (i+1);have A:=l i u;have strict:mid (p i) (p (i+1)) x->D*turn (p i) (p (i+1)) x-((p (i+1)).y-(p i).y)*m≠0:=λK e =>Oa N u S J H (R k mk) (by rw[G,e,Int.mul_zero]) (R i K);have t0:=G (p i) (p (i+1));have I:0<turn (scp D (p i)) (scp D (p (i+1))) ⟨D*x.x+m,D*x.y⟩↔0<D*turn (p i) (p (i+1)) x-((p (i+1)).y-(p i).y)*m:=by rw[t0];exact⟨λq=>gZ f (by rw[Int.mul_comm];exact q),λq=>Int.mul_pos f q⟩
    have s2:turn (scp D (p i)) (scp D (p (i+1))) ⟨D*x.x+m,D*x.y⟩<0↔D*turn (p i) (p (i+1)) x-((p (i+1)).y-(p i).y)*m<0:=by rw[t0];exact⟨λq=>dI f (by rw[Int.mul_comm];exact q),λq=>oz f q⟩
    have P:∀ j,(D*(p j).y<=D*x.y↔(p j).y<=x.y):=λj=>rQ f;have O:∀ j,(D*x.y<D*(p j).y↔x.y<(p j).y):=λj=>pG f;by_cases up:(p i).y<=x.y/\x.y<(p (i+1)).y
    . have str:=strict (by unfold mid;omega);have Q:0<(p (i+1)).y-(p i).y:=by omega
      have o:0<turn (p i) (p (i+1)) x↔0<D*turn (p i) (p (i+1)) x-((p (i+1)).y-(p i).y)*m:=by
       constructor
       . intro q;have C:cr x (p i) (p (i+1))=1:=by unfold cr;rw[if_pos ⟨up.1,up.2,q⟩]
         have:=A (by rw[C];decide);rw[C,Int.one_mul,Int.one_mul]at this;have W:=Int.mul_comm m ((p (i+1)).y-(p i).y);have V:=Int.mul_comm (turn (p i) (p (i+1)) x) D;omega
       . intro q;have:=Int.mul_pos Q L;exact gZ f (by rw[Int.mul_comm];omega)
      unfold cr;show _=if D*(p i).y<=D*x.y/\D*x.y<D*(p (i+1)).y/\_ then _ else if D*(p (i+1)).y<=D*x.y/\D*x.y<D*(p i).y/\_ then _ else _
      simp only[I,s2,P,O,o];by_cases q:0<D*turn (p i) (p (i+1)) x-((p (i+1)).y-(p i).y)*m
      . rw[if_pos ⟨up.1,up.2,q⟩,if_pos ⟨up.1,up.2,q⟩]
      . rw[if_neg (λd=>q d.2.2),if_neg (λd=>by omega),if_neg (λd=>q d.2.2),if_neg (λd=>by omega)]
    . by_cases w:(p (i+1)).y<=x.y/\x.y<(p i).y
      . have str:=strict (by unfold mid;omega);have Q:(p (i+1)).y-(p i).y<0:=by omega
        have o:turn (p i) (p (i+1)) x<0↔D*turn (p i) (p (i+1)) x-((p (i+1)).y-(p i).y)*m<0:=by
         constructor
         . intro q;have C:cr x (p i) (p (i+1))=-1:=by unfold cr;rw[if_neg (λd=>up ⟨d.1,d.2.1⟩),if_pos ⟨w.1,w.2,q⟩]
           have:=A (by rw[C];decide);rw[C]at this;have W:m*(-1*((p (i+1)).y-(p i).y))=-(((p (i+1)).y-(p i).y)*m):=by grind
           have V:-1*turn (p i) (p (i+1)) x*D=-(D*turn (p i) (p (i+1)) x):=by grind
           omega
         . intro q;have:=jC Q L;exact dI f (by rw[Int.mul_comm];omega)
        unfold cr;show _=if D*(p i).y<=D*x.y/\D*x.y<D*(p (i+1)).y/\_ then _ else if D*(p (i+1)).y<=D*x.y/\D*x.y<D*(p i).y/\_ then _ else _
        simp only[I,s2,P,O,o];by_cases q:D*turn (p i) (p (i+1)) x-((p (i+1)).y-(p i).y)*m<0
        . rw[if_neg (λd=>up ⟨d.1,d.2.1⟩),if_pos ⟨w.1,w.2,q⟩,if_neg (λd=>up ⟨d.1,d.2.1⟩)]
        . rw[if_neg (λd=>up ⟨d.1,d.2.1⟩),if_neg (λd=>q d.2.2),if_neg (λd=>up ⟨d.1,d.2.1⟩)]
      . unfold cr;show _=if D*(p i).y<=D*x.y/\D*x.y<D*(p (i+1)).y/\_ then _ else if D*(p (i+1)).y<=D*x.y/\D*x.y<D*(p i).y/\_ then _ else _
        simp only[I,s2,P,O];rw[if_neg (λd=>up ⟨d.1,d.2.1⟩),if_neg (λd=>w ⟨d.1,d.2.1⟩),if_neg (λd=>up ⟨d.1,d.2.1⟩),if_neg (λd=>w ⟨d.1,d.2.1⟩)]
   have z:jZ p n x=jZ (λi=>scp D (p i)) n ⟨D*x.x+m,D*x.y⟩+cr x (p k) (p (k+1)):=by
    refine P7 S others ?_;have:cr ⟨D*x.x+m,D*x.y⟩ (scp D (p k)) (scp D (p (k+1)))=0:=by unfold cr;rw[H];simp
    rw[this];omega
   obtain⟨j,M,s⟩:∃ j,p (j+1)=p k/\p (j+2)=p (k+1):=⟨k+n-1,by have:=h.n3;rw[show k+n-1+1=k+n by omega,h.per],by have:=h.n3;rw[show k+n-1+2=k+1+n by omega,h.per]⟩;have F:=N9 N j (q:=⟨D*x.x+m,D*x.y⟩) (by show turn (scp D (p (j+1))) (scp D (p (j+2))) _=0;rw[M,s,H]) (by show mid (scp D (p (j+1))) (scp D (p (j+2))) _;rw[M,s];exact R k mk);have F:jZ (λi=>scp D (p i)) n ⟨D*x.x+m,D*x.y⟩=PS (λi=>scp D (p i)) n 0+if D*(p (j+1)).y<D*(p (j+2)).y then 0 else 1:=F
   rw[M,s]at F;have X:=RD N;rw[z,F];simp only[pG f];rcases uG x (p k) (p (k+1))with⟨e,a,b,c⟩ |⟨e,a,b,c⟩ | e
   . rw[e,if_pos (by omega)];omega
   . rw[e,if_neg (by omega)];omega
   . exact absurd e g
 . have:jZ p n x=0:=by
     unfold jZ;have U:∀ m,m<=n->sg (λi=>cr x (p i) (p (i+1))) 0 m=0:=λm L=>by
      induction m with
      | zero=>rfl
      | succ m T =>
       rw[sg,T (by omega),Nat.zero_add];by_cases c:cr x (p m) (p (m+1))=0
       . show 0+cr x (p m) (p (m+1))=0;omega
       . exact absurd ⟨m,by omega,c⟩ B
     exact U n (Nat.le_refl _)
   omega
end
section
variable {a b c p:Pt}{N:Int}{n:Nat}
structure Poly (p:Nat->Pt) (n:Nat):Prop where
 n3:3<=n
 per:∀ i,p (i+n)=p i
 ne:∀ i,p i≠p (i+1)
 far:∀ i m,2<=m->m+1<n->¬ meet (p i) (p (i+1)) (p (i+m)) (p (i+m+1))
 Ep:∀ i,¬ on (p i) (p (i+1)) (p (i+2))
 Es:∀ i,¬ on (p (i+1)) (p (i+2)) (p i)
def shr(N:Int)(a:Pt):Pt:=⟨a.x,N*a.y-a.x⟩
def Uk(a:Pt):Pt:=⟨a.y,a.x⟩
theorem zQ(N:Int)(a b c:Pt):turn (shr N a) (shr N b) (shr N c)=N*turn a b c:=by unfold turn shr;grind
theorem P8(a b c:Pt):turn (Uk a) (Uk b) (Uk c)=- turn a b c:=by unfold turn Uk;grind
theorem P9(h:turn a b p=0)(d:a.x≠b.x)(e:btw a.x b.x p.x):on a b p:=by have:=lJ (a:=Uk a) (b:=Uk b) (p:=Uk p) (by rw[P8,h];rfl) d e;exact⟨h,e,this.2.1⟩
theorem AP(j:0<N)(h:on (shr N a) (shr N b) (shr N c)):on a b c:=by
 obtain⟨d,f,g⟩:=h;rw[zQ]at d;have d:turn a b c=0:=by
  rcases Int.mul_eq_zero.1 d with e | e
  . omega
  . exact e
 have f:btw a.x b.x c.x:=f;by_cases i:a.x=b.x
 . have g:btw (N*a.y-a.x) (N*b.y-b.x) (N*c.y-c.x):=g;refine⟨d,f,?_⟩;refine(Hy j).1 ?_;unfold btw at *;omega
 . exact P9 d i f
theorem EG(f:0<N){d:Pt}(h:meet (shr N a) (shr N b) (shr N c) (shr N d)):meet a b c d:=by
 rcases h with h | h | h | h |⟨i,g⟩
 . exact .inl (AP f h)
 . exact .inr (.inl (AP f h))
 . exact .inr (.inr (.inl (AP f h)))
 . exact .inr (.inr (.inr (.inl (AP f h))))
 . rw[zQ,zQ]at i g;have e:∀ s t:Int,N*s*(N*t)=N*N*(s*t):=λs t=>by grind
   rw[e,Hz f]at i g;exact .inr (.inr (.inr (.inr ⟨i,g⟩)))
theorem AQ(h:-N<a.x-p.x/\a.x-p.x<N):(shr N a).y<=(shr N p).y↔a.y<p.y\/(a.y=p.y/\p.x<=a.x):=by
 show N*a.y-a.x<=N*p.y-p.x↔_;have e:N*p.y-N*a.y=N*(p.y-a.y):=by grind
 rcases Int.lt_trichotomy a.y p.y with k | k | k
 . have:N*1<=N*(p.y-a.y):=Int.mul_le_mul_of_nonneg_left (by omega) (by omega);omega
 . rw[k];omega
 . have:N*(p.y-a.y)<=N*(-1):=Int.mul_le_mul_of_nonneg_left (by omega) (by omega);omega
theorem Qa(d:0<N)(t:-N<a.x-p.x/\a.x-p.x<N)(s:-N<b.x-p.x/\b.x-p.x<N):cr (shr N p) (shr N a) (shr N b)=cr p a b:=by
 have m:=AQ t;have l:=AQ s;have j:(shr N p).y<(shr N a).y↔¬(shr N a).y<=(shr N p).y:=by omega
 have i:(shr N p).y<(shr N b).y↔¬(shr N b).y<=(shr N p).y:=by omega
 have h:0<N*turn a b p↔0<turn a b p:=⟨λq=>gZ d (by rw[Int.mul_comm];exact q),λq=>Int.mul_pos d q⟩;have g:N*turn a b p<0↔turn a b p<0:=⟨λq=>dI d (by rw[Int.mul_comm];exact q),λq=>oz d q⟩;have f:a.y=p.y->turn a b p=(a.y-b.y)*(p.x-a.x):=λe=>by unfold turn;rw[<- e];grind
 have tb:b.y=p.y->turn a b p=(b.y-a.y)*(b.x-p.x):=λe=>by unfold turn;rw[<- e];grind
 have sa:a.y=p.y->a.x<p.x->(b.y<=p.y->0<=turn a b p)/\(p.y<b.y->turn a b p<0):=λe k =>⟨λq=>by rw[f e];exact Int.mul_nonneg (by omega) (by omega),λq=>by rw[f e];exact jC (by omega) (by omega)⟩;have o:b.y=p.y->b.x<p.x->(a.y<=p.y->turn a b p<=0)/\(p.y<a.y->0<turn a b p):=λe k =>⟨λq=>by rw[tb e];exact Int.mul_nonpos_of_nonneg_of_nonpos (by omega) (by omega),λq=>by rw[tb e];exact Int.mul_pos_of_neg_of_neg (by omega) (by omega)⟩;unfold cr;simp only[j,i,m,l,zQ,h,g];clear m l j i h g f tb;generalize turn a b p=T at *;by_cases c1:a.y=p.y/\a.x<p.x
 . obtain⟨r,s2⟩:=sa c1.1 c1.2;by_cases c2:b.y=p.y/\b.x<p.x
   . repeat' split
     all_goals omega
   . repeat' split
     all_goals omega
 . by_cases c2:b.y=p.y/\b.x<p.x
   . obtain⟨r,s2⟩:=o c2.1 c2.2
     repeat' split
     all_goals omega
   . repeat' split
     all_goals omega
theorem H6(p:Nat->Pt):∀ n,∃ B:Int,0<=B/\∀ i,i<n→-B<=(p i).x/\(p i).x<=B
 | 0=>⟨0,by omega,λi h=>by omega⟩
 | n+1=>by
  obtain⟨B,f,h⟩:=H6 p n;refine⟨B+(p n).x.natAbs,by omega,λi d=>?_⟩;by_cases e:i=n
  . subst e;omega
  . have:=h i (by omega);omega
theorem Poly.apart{p:Nat->Pt}(h:Poly p n)(i m:Nat)(j:0<m)(g:m<n):p i≠p (i+m):=by
 intro e;have f:=h.n3;by_cases d:m=1
 . subst d;exact h.ne i e
 by_cases k:m+1=n
 . have:=h.ne (i+m);rw[show i+m+1=i+n by omega,h.per]at this;exact this e.symm
 . refine h.far i m (by omega) (by omega) (.inl ?_);rw[<- e];refine⟨Ez _ _,?_,?_⟩<;>(unfold btw;omega)
theorem Ob{p:Nat->Pt}(h:Poly p n)(x:Pt)(u:∀ i,¬ on (p i) (p (i+1)) x):-1<=jZ p n x/\jZ p n x<=1:=by
 have A:=h.n3;obtain⟨B,D,v⟩:=H6 p n;obtain⟨N,C⟩:∃ N:Int,N=2*B+x.x.natAbs+1:=⟨_,rfl⟩;have f:0<N:=by omega
 have d:∀ i,-B<=(p i).x/\(p i).x<=B:=λi=>by rw[Hw h.per i];exact v _ (Nat.mod_lt _ (by omega))
 have l:∀ a b:Pt,-N<a.x-b.x/\a.x-b.x<N->(shr N a).y=(shr N b).y->a=b:=λa b r e=>by have q:=(AQ r).1 (by omega);have o:=(AQ (N:=N) (a:=b) (p:=a) (by omega)).1 (by omega);cases a;cases b;simp only[Pt.mk.injEq]at *;omega
 have w:Simp (λi=>shr N (p i)) n:=⟨h.n3,λi=>by rw[h.per],λi m q o j=>h.far i m q o (EG f j),λi j=>h.Ep i (AP f j),λi j=>h.Es i (AP f j),λi m q o e=>by have s:=d i;have t:=d (i+m);exact h.apart i m q o (l _ _ (by omega) e)⟩;have g:=KG w (shr N x) λk e=>by have s:=d k;have z:=l (p k) x (by omega) e;refine u k ?_;rw[z];refine⟨Ez _ _,?_,?_⟩<;>(unfold btw;omega)
 have e:jZ (λi=>shr N (p i)) n (shr N x)=jZ p n x:=uD λi _ _=>by have s:=d i;have t:=d (i+1);exact Qa f (by omega) (by omega)
 rw[e]at g;exact g
def cross(p:Nat->Pt)(x:Pt):Nat->Bool
 | 0=>false
 | i+1=>cross p x i !=(cr x (p i) (p (i+1)) != 0)
theorem F5(p:Nat->Pt)(x:Pt):∀ n,(cross p x n=true↔jZ p n x%2=1)
 | 0=>by simp[cross,jZ,sg]
 | n+1=>by
  have d:=F5 p x n;have e:jZ p (n+1) x=jZ p n x+cr x (p n) (p (n+1)):=by unfold jZ;rw[sg,Nat.zero_add]
  rw[e,cross];rcases uG x (p n) (p (n+1))with⟨c,_⟩ |⟨c,_⟩ | c<;>rw[c]<;>cases f:cross p x n<;>rw[f]at d<;>simp at d ⊢<;>omega
theorem Kv{p:Nat->Pt}(h:Poly p n)(x:Pt)(g:∀ i,¬ on (p i) (p (i+1)) x):cross p x n=decide (jZ p n x≠0):=by
 have j:=Ob h x g;have f:=F5 p x n;cases d:cross p x n with
 | true =>have:=f.1 d;rw[eq_comm,decide_eq_true_eq];omega
 | false =>
  have:¬ jZ p n x%2=1:=λe=>by rw[f.2 e]at d;cases d
  rw[eq_comm,decide_eq_false_iff_not];omega
end
section
variable {p:Nat->Pt}{n:Nat}{x z:Pt}
theorem MI(x a:Pt):cr x a a=0:=by unfold cr;split<;>(try split)<;>omega
theorem MJ(hp:∀ i,p (i+n)=p i)(a:x.y<z.y)(d:∀ i,i<n->p i=p (i+1)\/(p i).y≠(p (i+1)).y)(c:∀ i,i<n->¬ meet x z (p i) (p (i+1))):jZ p n x=jZ p n z:=by
 have b:=KE (λi=>cr x (p i) (p (i+1))) (λi=>cr z (p i) (p (i+1))) 0 n;have g:sg (λi=>cr x (p i) (p (i+1))-cr z (p i) (p (i+1))) 0 n=sg (λi=>hit x z (p (i+1))-hit x z (p i)) 0 n:=by
  refine uD λi _ h=>?_;rcases d i (by omega)with e | e
  . show cr x (p i) (p (i+1))-cr z (p i) (p (i+1))=hit x z (p (i+1))-hit x z (p i);rw[<- e,MI,MI];omega
  . exact zM a e (c i (by omega))
 rw[g,Ht (λi=>hit x z (p i)),Nat.zero_add]at b;have f:p n=p 0:=by have:=hp 0;rwa[Nat.zero_add]at this
 rw[f]at b;unfold jZ;omega
theorem KH{a b c d:Pt}(h:¬ meet a b c d):¬ meet b a c d:=λh'=>h (xH.1 h')
theorem Oc(hp:∀ i,p (i+n)=p i)(q:∀ i,i<n->¬ meet x z (p i) (p (i+1))):jZ p n x=jZ p n z:=by
 by_cases u:n=0
 . subst u;rfl
 by_cases f:x=z
 . rw[f]
 obtain⟨B,C,v⟩:=H6 p n;obtain⟨N,A⟩:∃ N:Int,N=2*B+x.x.natAbs+z.x.natAbs+1:=⟨_,rfl⟩;have d:0<N:=by omega
 have c:∀ i,-B<=(p i).x/\(p i).x<=B:=λi=>by rw[Hw hp i];exact v _ (Nat.mod_lt _ (by omega))
 have j:∀ a b:Pt,-N<a.x-b.x/\a.x-b.x<N->(shr N a).y=(shr N b).y->a=b:=λa b o e=>by have E:=(AQ o).1 (by omega);have D:=(AQ (N:=N) (a:=b) (p:=a) (by omega)).1 (by omega);cases a;cases b;simp only[Pt.mk.injEq]at *;omega
 have e:∀ y:Pt,-N<y.x-B/\y.x+B<N->jZ (λi=>shr N (p i)) n (shr N y)=jZ p n y:=λy w=>uD λi _ _=>by have t:=c i;have s:=c (i+1);exact Qa d (by omega) (by omega)
 rw[<- e x (by omega),<- e z (by omega)];have g:∀ i,shr N (p (i+n))=shr N (p i):=λi=>by rw[hp]
 have r:∀ i,i<n->shr N (p i)=shr N (p (i+1))\/(shr N (p i)).y≠(shr N (p (i+1))).y:=λi _=>by
  by_cases h:(shr N (p i)).y=(shr N (p (i+1))).y
  . have t:=c i;have s:=c (i+1);left;rw[j _ _ (by omega) h]
  . exact .inr h
 have k:(shr N x).y≠(shr N z).y:=λh=>f (j _ _ (by omega) h);rcases Int.lt_or_gt_of_ne k with h | h
 . exact MJ (p:=λi=>shr N (p i)) g h r λi l m=>q i l (EG d m)
 . exact(MJ (p:=λi=>shr N (p i)) g h r λi l m=>KH (q i l) (EG d m)).symm
def JX(p:Nat->Pt)(n:Nat)(x:Pt):Prop:=∃ i,i<n/\on (p i) (p (i+1)) x
instance (a b c:Int):Decidable (btw a b c):=inferInstanceAs (Decidable (_\/_))
instance (a b c:Pt):Decidable (on a b c):=inferInstanceAs (Decidable (_/\_))
instance (a b c d:Pt):Decidable (meet a b c d):=inferInstanceAs (Decidable (_\/_))
instance (p:Nat->Pt) (n:Nat) (x:Pt):Decidable (JX p n x):=decidable_of_iff (∃ i:Fin n,on (p i) (p (i+1)) x) ⟨λ⟨i,h⟩=>⟨i.1,i.2,h⟩,λ⟨i,hi,h⟩=>⟨⟨i,hi⟩,h⟩⟩
def SG(p:Nat->Pt)(n:Nat)(x:Pt):Int:=if JX p n x then 0 else if jZ p n x≠0 then 1 else -1
theorem PG(hp:∀ i,p (i+n)=p i)(a:∀ i,i<n->¬ meet x z (p i) (p (i+1))):SG p n x=SG p n z:=by have d:¬ JX p n x:=λ⟨i,b,h⟩=>a i b (.inr (.inr (.inl h)));have c:¬ JX p n z:=λ⟨i,b,h⟩=>a i b (.inr (.inr (.inr (.inl h))));rw[SG,SG,if_neg d,if_neg c,Oc hp a]
end
section
open Go Go.Skm
variable {n u v w:Int}{l:List V3}
def pt(v:V3):Pt:=⟨v.x,v.y⟩
theorem LD(a b c:V3):turn (pt a) (pt b) (pt c)=area a b c:=rfl
theorem oh:0<iE n↔0<n:=by unfold iE;split<;>(try split)<;>omega
theorem zh:iE n<0↔n<0:=by unfold iE;split<;>(try split)<;>omega
theorem zi:iE n=0↔n=0:=by unfold iE;split<;>(try split)<;>omega
theorem rH(n:Int):iE n=-1\/iE n=0\/iE n=1:=by grind[iE]
theorem Cm(a b c:Int):decide (iE (a-c)*iE (b-c)<=0)=decide (btw a b c):=by rw[decide_eq_decide];have h:=oh (n:=a-c);have g:=zh (n:=a-c);have f:=oh (n:=b-c);have h4:=zh (n:=b-c);unfold btw;rcases rH (a-c)with e | e | e<;>rcases rH (b-c)with d | d | d<;>rw[e,d]<;>rw[e]at h g<;>rw[d]at f h4<;>omega
theorem GH(a b p:V3):vM a b p=decide (on (pt a) (pt b) (pt p)):=by
 have c:∀ x y z:Int,(goMin x y<=z/\z<=goMax x y)↔btw x y z:=by grind[goMin,goMax,btw]
 rw[Bool.eq_iff_iff,qDa];unfold vM on;simp only[qBa,qDa,beq_iff_eq,iZ,zi,LD];show _↔area a b p=0/\btw a.x b.x p.x/\btw a.y b.y p.y;grind
theorem LG(a b:Int):decide (iE a*iE b<0)=decide (a*b<0):=by
 rw[decide_eq_decide];rcases Int.lt_trichotomy a 0 with c | c | c<;>rcases Int.lt_trichotomy b 0 with d | d | d
 . have:=Int.mul_pos_of_neg_of_neg c d;have f:iE a=-1:=if_pos c;have e:iE b=-1:=if_pos d;grind
 . subst d;simp[iE]
 . have:=Int.mul_neg_of_neg_of_pos c d;grind[iE]
 . subst c;simp[iE]
 . subst c;simp[iE]
 . subst c;simp[iE]
 . have:=Int.mul_neg_of_pos_of_neg c d;grind[iE]
 . subst d;simp[iE]
 . have:=Int.mul_pos c d;grind[iE]
theorem Fp(a b c d:V3):qH a b c d=decide (meet (pt a) (pt b) (pt c) (pt d)):=by have f:=LG (area a b c) (area a b d);have e:=LG (area c d a) (area c d b);rw[decide_eq_decide]at f e;rw[Bool.eq_iff_iff,qDa];simp_all[GH,Bool.or_eq_true,qBa,qDa,LD,iZ,qH,meet]
theorem LH(v:V3):pt (flat v)=pt v:=rfl
def pts(l:List V3)(i:Nat):Pt:=pt (gt l (i%l.length))
theorem LJ(l:List V3)(i:Nat):pts l (i+l.length)=pts l i:=by unfold pts;rw[Nat.add_mod_right]
theorem Ap{i:Nat}(h:i<l.length):pts l i=pt (ca l i):=by unfold pts;rw[Nat.mod_eq_of_lt h]
theorem xw(l:List V3)(i:Nat):pts l (i+1)=pt (cb l i):=rfl
def Tq(a b:V3)(u v w:Int):Int:=(b.x-a.x)*(v-a.y*w)-(b.y-a.y)*(u-a.x*w)
def GK(u v w:Int)(e:ku):Bool:=(iE (Tq e.1 e.2 u v w)==0)&&(decide (iE (e.1.x*w-u)*iE (e.2.x*w-u)<=0)&&decide (iE (e.1.y*w-v)*iE (e.2.y*w-v)<=0))
def Ie(u v w:Int)(e:ku):Int:=if iE (e.1.y*w-v)<=0/\0<iE (e.2.y*w-v)/\0<iE (Tq e.1 e.2 u v w)then 1 else if iE (e.2.y*w-v)<=0/\0<iE (e.1.y*w-v)/\iE (Tq e.1 e.2 u v w)<0 then -1 else 0
theorem CG(a b:V3)(u v w:Int):turn (scp w (pt a)) (scp w (pt b)) ⟨u,v⟩=w*Tq a b u v w:=by unfold turn scp pt Tq;grind
theorem CJ(d:0<w)(e:ku):GK u v w e=decide (on (scp w (pt e.1)) (scp w (pt e.2)) ⟨u,v⟩):=by
 have a:∀ x:Int,x*w=w*x:=λx=>Int.mul_comm _ _;have b:(iE (Tq e.1 e.2 u v w)==0)=decide (turn (scp w (pt e.1)) (scp w (pt e.2)) ⟨u,v⟩=0):=by
  rw[CG];have c:=zi (n:=Tq e.1 e.2 u v w);by_cases h:Tq e.1 e.2 u v w=0
  . grind
  . rw[decide_eq_false λh'=>h ((Int.mul_eq_zero.1 h').resolve_left (by omega))];grind
 unfold GK;rw[b,a,a,a,a,Cm,Cm,Bool.eq_iff_iff,qDa];unfold on;simp only[qBa,qDa];exact Iff.rfl
theorem O3(a:0<w)(e:ku):Ie u v w e=cr ⟨u,v⟩ (scp w (pt e.1)) (scp w (pt e.2)):=by
 have f:∀ x:Int,x*w=w*x:=λx=>Int.mul_comm _ _;have d:0<iE (Tq e.1 e.2 u v w)↔0<turn (scp w (pt e.1)) (scp w (pt e.2)) ⟨u,v⟩:=by rw[CG,oh];exact⟨λh=>Int.mul_pos a h,λh=>gZ a (by rw[Int.mul_comm];exact h)⟩
 have c:iE (Tq e.1 e.2 u v w)<0↔turn (scp w (pt e.1)) (scp w (pt e.2)) ⟨u,v⟩<0:=by rw[CG,zh];exact⟨λh=>Int.mul_neg_of_pos_of_neg a h,λh=>dI a (by rw[Int.mul_comm];exact h)⟩
 have b:∀ x y:Int,(iE (x-y)<=0↔x<=y)/\(0<iE (x-y)↔y<x):=λx y=>by have g:=oh (n:=x-y);omega
 unfold Ie cr;simp only[d,c,f,(b _ _).1,(b _ _).2];rfl
def BQ(u v w:Int):List ku->Int
 |[]=>0
 | e::r=>Ie u v w e+BQ u v w r
def VP(u v w:Int)(es:List ku):Int:=if es.any (GK u v w)then 0 else if BQ u v w es≠0 then 1 else -1
def Aq(l:List V3)(u v w:Int):Int:=SG (λi=>scp w (pts l i)) l.length ⟨u,v⟩
theorem GL{u v w:Int}(d:0<w)(l:List V3):∀ n,n<=l.length->BQ u v w (sJ l n)=sg (λi=>cr ⟨u,v⟩ (scp w (pts l i)) (scp w (pts l (i+1)))) 0 n
 | 0,_=>rfl
 | n+1,hn=>by
  have c:∀ a b:List ku,BQ u v w (a++b)=BQ u v w a+BQ u v w b:=by
   intro a b;induction a with
   | nil=>simp[BQ]
   | cons e r f=>simp only[List.cons_append,BQ,f];omega
  rw[rJ,c,GL d l n (by omega),sg,qNz];show _+(Ie u v w (flat (ca l n),flat (cb l n))+0)=_;rw[O3 d,Int.add_zero,Ap (by omega),xw];rfl
theorem JW(b:0<w)(l:List V3):VP u v w (dA l)=Aq l u v w:=by
 unfold VP Aq SG;have f:(dA l).any (GK u v w)=decide (JX (λi=>scp w (pts l i)) l.length ⟨u,v⟩):=by
  rw[Bool.eq_iff_iff,qDa,List.any_eq_true];unfold JX;constructor
  . rintro ⟨e,c,h⟩;simp only[dA,sJ,List.mem_map,List.mem_range]at c;obtain⟨i,a,rfl⟩:=c;rw[CJ b,qDa]at h;refine⟨i,a,?_⟩;show on (scp w (pts l i)) (scp w (pts l (i+1))) _;rw[Ap a,xw];exact h
  . rintro ⟨i,a,h⟩;have h:on (scp w (pts l i)) (scp w (pts l (i+1))) ⟨u,v⟩:=h;rw[Ap a,xw]at h;refine⟨(flat (ca l i),flat (cb l i)),List.mem_map.2 ⟨i,List.mem_range.2 a,rfl⟩,?_⟩;rw[CJ b,qDa];exact h
 rw[f,GL b l _ (qNr _)];by_cases d:JX (λi=>scp w (pts l i)) l.length ⟨u,v⟩
 . grind
 . rw[if_neg d,if_neg (by rw[decide_eq_false d];decide)];rfl
theorem Fq(h:dG l=true):Poly (pts l) l.length:=by
 rw[<- DZ]at h;unfold II at h;rw[qBa,iP]at h;obtain⟨r,hp⟩:=h;unfold Bq at r;simp only[qBa,qDa]at r;obtain⟨⟨t,_⟩,_⟩:=r;have d:∀ i,i<l.length->LK l i=true/\∀ k,k<l.length->okD l i k=true:=λi A=>by simp_all[qBa,iP]
 have c:∀ i,i%l.length<l.length:=λi=>qNm _ (by omega);have o:∀ i,pts l i=pt (ca l (i%l.length)):=λi=>rfl;have s:∀ i,pts l (i+1)=pt (cb l (i%l.length)):=λi=>by unfold pts cb jX;simp
 have a:∀ i m,(i+m)%l.length=(i%l.length+m)%l.length:=λi m=>(Nat.mod_add_mod _ _ _).symm;refine⟨t,LJ l,λi e=>?_,λi m C B q=>?_,λi p=>?_,λi p=>?_⟩
 . have:=(d _ (c i)).1;rw[o,s]at e;unfold LK at this;simp only[pt,Pt.mk.injEq]at e;grind
 . have g:=(d _ (c i)).2 _ (c (i+m));rw[o,s,o (i+m),s]at q;have f:=c i;have b:(i+m)%l.length=if i%l.length+m<l.length then i%l.length+m else i%l.length+m-l.length:=by
    rw[a];split
    . rename_i h;exact Nat.mod_eq_of_lt h
    . rename_i h;rw[Nat.mod_eq_sub_mod (by omega),Nat.mod_eq_of_lt (by omega)]
   have nv:∀ k,k<l.length->jX l.length k=if k+1<l.length then k+1 else 0:=λk z=>by
    unfold jX;split
    . rename_i h;exact Nat.mod_eq_of_lt h
    . rename_i h;have:k+1=l.length:=by omega
      simp_all
   have j:¬(i+m)%l.length=i%l.length:=by rw[b];split<;>omega
   have y:¬(i+m)%l.length=jX l.length (i%l.length):=by rw[b,nv _ f];split<;>split<;>omega
   have x:¬ i%l.length=jX l.length ((i+m)%l.length):=by rw[nv _ (c _),b];split<;>split<;>omega
   grind[Fp,okD]
 . have g:=(d _ (c i)).2 _ (c (i+1));have e:(i+1)%l.length=jX l.length (i%l.length):=by unfold jX;exact a i 1
   have f:=c i;have j:¬(i+1)%l.length=i%l.length:=by
    rw[a];by_cases h:i%l.length+1<l.length
    . rw[Nat.mod_eq_of_lt h];omega
    . have:i%l.length+1=l.length:=by omega
      rw[this,Nat.mod_self];omega
   unfold okD at g;rw[if_neg j,if_pos e,qBa]at g;grind[GH]
 . have g:=(d _ (c i)).2 _ (c (i+1));have e:(i+1)%l.length=jX l.length (i%l.length):=by unfold jX;exact a i 1
   have f:=c i;have j:¬(i+1)%l.length=i%l.length:=by
    rw[a];by_cases h:i%l.length+1<l.length
    . rw[Nat.mod_eq_of_lt h];omega
    . have:i%l.length+1=l.length:=by omega
      rw[this,Nat.mod_self];omega
   unfold okD at g;rw[if_neg j,if_pos e,qBa]at g;grind[GH]
end
end Go.Skm.Fen
