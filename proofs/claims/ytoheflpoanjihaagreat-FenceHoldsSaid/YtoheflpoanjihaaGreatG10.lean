import Derived.Test.YtoheflpoanjihaaGreatPolyD
set_option linter.all false
namespace Go.Skm.Fen
section
variable {D a b t:Int}{c q:Pt}{p:Nat->Pt}{n:Nat}
def scp(D:Int)(a:Pt):Pt:=⟨D*a.x,D*a.y⟩
theorem GU(D:Int)(a b c:Pt):turn (scp D a) (scp D b) (scp D c)=D*D*turn a b c:=by unfold turn scp;grind
theorem aeu(h:0<D):D*a<=D*b↔a<=b:=⟨λk=>Int.le_of_mul_le_mul_left k h,λk=>Int.mul_le_mul_of_nonneg_left k (by omega)⟩
theorem Wh(h:0<D):D*a<D*b↔a<b:=⟨λk=>Int.lt_of_mul_lt_mul_left k (by omega),λk=>Int.mul_lt_mul_of_pos_left k h⟩
theorem aap{c:Int}(h:0<D):BP (D*a) (D*b) (D*c)↔BP a b c:=by simp_all[BP]
theorem aev(h:0<D):0<D*D:=Int.mul_pos h h
theorem ajw(h:0<D):D*D*t=0↔t=0:=by
 have:=aev h;constructor
 . intro k;rcases Int.mul_eq_zero.1 k with k | k;all_goals omega
 grind
theorem alR(h:0<D):0<D*D*t↔0<t:=by
 have:=aev h;constructor
 . intro k;exact lH this (by rw[Int.mul_comm];exact k)
 . intro k;exact Int.mul_pos this k
theorem Ut(h:0<D):D*D*t<0↔t<0:=by
 have:=aev h;constructor
 . intro k;exact iH this (by rw[Int.mul_comm];exact k)
 . intro k;exact yE this k
theorem Ii(h:0<D){a b:Pt}:on (scp D a) (scp D b) (scp D c)↔on a b c:=by unfold on;rw[GU,ajw h];show _/\BP (D*a.x) (D*b.x) (D*c.x)/\BP (D*a.y) (D*b.y) (D*c.y)↔_;rw[aap h,aap h]
theorem ab8(h:0<D){a b d:Pt}:meet (scp D a) (scp D b) (scp D c) (scp D d)↔meet a b c d:=by
 unfold meet;rw[Ii h,Ii h,Ii h,Ii h,GU,GU,GU,GU];have e:∀ s t:Int,D*D*s*(D*D*t)<0↔s*t<0:=λs t=>by
  have:D*D*s*(D*D*t)=D*D*(D*D*(s*t)):=by grind
  rw[this,Ut h,Ut h]
 rw[e,e]
theorem anH(h:0<D)(x a b:Pt):cr (scp D x) (scp D a) (scp D b)=cr x a b:=by unfold cr;simp only[GU,alR h,Ut h];show(if D*a.y<=D*x.y/\D*x.y<D*b.y/\_ then _ else if D*b.y<=D*x.y/\D*x.y<D*a.y/\_ then _ else _)=_;simp_all
theorem Simp.scp{p:Nat->Pt}{n:Nat}(h:Simp p n){D:Int}(f:0<D):Simp (λi=>Fen.scp D (p i)) n:=
 ⟨h.n3,λi=>by rw[h.per],λi m j g d=>h.far i m j g ((ab8 f).1 d),λi d=>h.Po i ((Ii f).1 d),λi d=>h.Pq i ((Ii f).1 d),λi m j g e=>by have e:D*(p i).y=D*(p (i+m)).y:=e;exact h.hts i m j g (Int.eq_of_mul_eq_mul_left (by omega) e)⟩
theorem ajx{a b:Pt}(h:turn a b q=0)(d:mid a b q):on a b q:=uP h (by unfold mid at d;omega) (by unfold mid at d;unfold BP;omega)
theorem SK(h:Simp p n)(k m:Nat)(r:0<m)(o:m<n)(g:turn (p k) (p (k+1)) q=0)(e:mid (p k) (p (k+1)) q)(f:turn (p (k+m)) (p (k+m+1)) q=0)(d:mid (p (k+m)) (p (k+m+1)) q):False:=by
 by_cases l:m=1
 . subst l;exact V9 h k g e (.inr (.inr (.inr (.inl (ajx f d)))))
 by_cases s:m+1=n
 . have j:p (k+m+1)=p k:=by rw[show k+m+1=k+n by omega,h.per]
   have i:p (k+m+2)=p (k+1):=by rw[show k+m+2=k+1+n by omega,h.per]
   have:=V9 h (k+m) f d;rw[j,i]at this;exact this (.inr (.inr (.inr (.inl (ajx g e)))))
 . exact h.far k m (by omega) (by omega) (V8 g e f d)
theorem ahm(h:Simp p n){i k:Nat}(m:i<n)(l:k<n)(d:i≠k)(j:turn (p k) (p (k+1)) q=0)(f:mid (p k) (p (k+1)) q)(g:turn (p i) (p (i+1)) q=0)(e:mid (p i) (p (i+1)) q):False:=by
 rcases Nat.lt_or_gt_of_ne d with c | c
 . have:=SK h i (k-i) (by omega) (by omega) g e;grind
 . have:=SK h k (i-k) (by omega) (by omega) j f;grind
theorem NT(P:Nat->Prop)(num d:Nat->Int)(hp:∀ i,P i->0<d i):∀ n,(∃ i,i<n/\P i)->∃ k,k<n/\P k/\∀ i,i<n->P i->num k*d i<=num i*d k
 | 0,⟨i,h,_⟩=>by omega
 | n+1,hex=>by
  by_cases g:P n
  . by_cases l:∃ i,i<n/\P i
    . obtain⟨k,o,f,m⟩:=NT P num d hp n l;by_cases c:num k*d n<=num n*d k
      . grind
      . refine⟨n,by omega,g,λi w j=>?_⟩;by_cases e:i=n
        . grind
        . -- num n / d n<num k / d k≤num i / d i
          have a:=m i (by omega) j;have r:=hp k f;have x:=hp n g;have y:=hp i j;have b1:=Int.mul_le_mul_of_nonneg_right (show num n*d k<=num k*d n by omega) (show 0<=d i by omega);have z:=Int.mul_le_mul_of_nonneg_right a (show 0<=d n by omega);have c1:num n*d k*d i=d k*(num n*d i):=by grind
          have c2:num k*d n*d i=num k*d i*d n:=by grind
          have c3:num i*d k*d n=d k*(num i*d n):=by grind
          exact Int.le_of_mul_le_mul_left (show d k*(num n*d i)<=d k*(num i*d n) by omega) r
    grind
  . obtain⟨i,o,f⟩:=hex;have:i≠n:=λe=>g (e▸f);obtain⟨k,v,u,s⟩:=NT P num d hp n ⟨i,by omega,f⟩;grind
theorem ajy{f g:Nat->Int}{k:Nat}{c:Int}:∀{n},k<n->(∀ i,i<n->i≠k->f i=g i)->f k=g k+c->sg f 0 n=sg g 0 n+c
 | 0,h,_,_=>by omega
 | n+1,h,he,hk=>by
  rw[sg,sg,Nat.zero_add];by_cases e:k=n
  . subst e;have:sg f 0 k=sg g 0 k:=vP λi _ j=>he i (by omega) (by omega);omega
  . have:=ajy (n:=n) (show k<n by omega) (λi d=>he i (by omega)) hk;grind
theorem D8(x a b:Pt):(cr x a b=1/\a.y<=x.y/\x.y<b.y/\0<turn a b x)\/(cr x a b=-1/\b.y<=x.y/\x.y<a.y/\turn a b x<0)\/cr x a b=0:=by grind[cr]
theorem aew(h:Simp p n)(x:Pt)(A:∀ k,(p k).y≠x.y):-1<=qB p n x/\qB p n x<=1:=by
 by_cases I:∃ i,i<n/\cr x (p i) (p (i+1))≠0
 . -- the nearest edge on the right
   obtain⟨k,P,T,f⟩:=NT (λi=>cr x (p i) (p (i+1))≠0) (λi=>cr x (p i) (p (i+1))*turn (p i) (p (i+1)) x) (λi=>cr x (p i) (p (i+1))*((p (i+1)).y-(p i).y)) (λi v=>by rcases D8 x (p i) (p (i+1))with⟨e,a,b,c⟩ |⟨e,a,b,c⟩ | e;all_goals grind) n I;obtain⟨D,w⟩:∃ D,cr x (p k) (p (k+1))*((p (k+1)).y-(p k).y)=D:=⟨_,rfl⟩;obtain⟨m,u⟩:∃ m,cr x (p k) (p (k+1))*turn (p k) (p (k+1)) x=m:=⟨_,rfl⟩;rw[w,u]at f;have d:0<D:=by rw[<- w];rcases D8 x (p k) (p (k+1))with⟨e,a,b,c⟩ |⟨e,a,b,c⟩ | e;all_goals grind
   have G:0<m:=by rw[<- u];rcases D8 x (p k) (p (k+1))with⟨e,a,b,c⟩ |⟨e,a,b,c⟩ | e;all_goals grind
   have J:=h.scp d;have N:∀ a b:Pt,turn (scp D a) (scp D b) ⟨D*x.x+m,D*x.y⟩=D*(D*turn a b x-(b.y-a.y)*m):=λa b=>by unfold turn scp;grind
   have o:∀ i,mid (p i) (p (i+1)) x->mid (scp D (p i)) (scp D (p (i+1))) ⟨D*x.x+m,D*x.y⟩:=λi v=>by unfold mid at v ⊢;show(D*(p i).y<D*x.y/\D*x.y<D*(p (i+1)).y)\/(D*(p (i+1)).y<D*x.y/\D*x.y<D*(p i).y);simp_all
   have O:turn (scp D (p k)) (scp D (p (k+1))) ⟨D*x.x+m,D*x.y⟩=0:=by grind
   have mk:mid (p k) (p (k+1)) x:=by have:=A k;have:=A (k+1);rcases D8 x (p k) (p (k+1))with⟨e,a,b,c⟩ |⟨e,a,b,c⟩ | e;all_goals grind[mid]
   have others:∀ i,i<n->i≠k->cr x (p i) (p (i+1))=cr ⟨D*x.x+m,D*x.y⟩ (scp D (p i)) (scp D (p (i+1))):=λi v E=>by
    have y1:=A i;have y2:=A (i+1);have s:=f i v;have strict:mid (p i) (p (i+1)) x->D*turn (p i) (p (i+1)) x-((p (i+1)).y-(p i).y)*m≠0:=λF e =>ahm J v P E O (o k mk) (by rw[N,e,Int.mul_zero]) (o i F);have t0:=N (p i) (p (i+1));have C:0<turn (scp D (p i)) (scp D (p (i+1))) ⟨D*x.x+m,D*x.y⟩↔0<D*turn (p i) (p (i+1)) x-((p (i+1)).y-(p i).y)*m:=by rw[t0];exact⟨λq=>lH d (by rw[Int.mul_comm];exact q),λq=>Int.mul_pos d q⟩
    have s2:turn (scp D (p i)) (scp D (p (i+1))) ⟨D*x.x+m,D*x.y⟩<0↔D*turn (p i) (p (i+1)) x-((p (i+1)).y-(p i).y)*m<0:=by rw[t0];exact⟨λq=>iH d (by rw[Int.mul_comm];exact q),λq=>yE d q⟩
    have L:∀ j,(D*(p j).y<=D*x.y↔(p j).y<=x.y):=λj=>aeu d;have K:∀ j,(D*x.y<D*(p j).y↔x.y<(p j).y):=λj=>Wh d;by_cases up:(p i).y<=x.y/\x.y<(p (i+1)).y
    . have str:=strict (by unfold mid;omega);have M:0<(p (i+1)).y-(p i).y:=by omega
      have g:0<turn (p i) (p (i+1)) x↔0<D*turn (p i) (p (i+1)) x-((p (i+1)).y-(p i).y)*m:=by
       constructor
       . intro q;have z:cr x (p i) (p (i+1))=1:=by unfold cr;rw[if_pos ⟨up.1,up.2,q⟩]
         have:=s (by rw[z];decide);rw[z,Int.one_mul,Int.one_mul]at this;have V:=Int.mul_comm m ((p (i+1)).y-(p i).y);have U:=Int.mul_comm (turn (p i) (p (i+1)) x) D;omega
       . intro q;have:=Int.mul_pos M G;exact lH d (by rw[Int.mul_comm];omega)
      unfold cr;show _=if D*(p i).y<=D*x.y/\D*x.y<D*(p (i+1)).y/\_ then _ else if D*(p (i+1)).y<=D*x.y/\D*x.y<D*(p i).y/\_ then _ else _
      simp only[C,s2,L,K,g];omega
    . by_cases R:(p (i+1)).y<=x.y/\x.y<(p i).y
      . have str:=strict (by unfold mid;omega);have M:(p (i+1)).y-(p i).y<0:=by omega
        have g:turn (p i) (p (i+1)) x<0↔D*turn (p i) (p (i+1)) x-((p (i+1)).y-(p i).y)*m<0:=by
         constructor
         . intro q;have z:cr x (p i) (p (i+1))=-1:=by unfold cr;rw[if_neg (λQ=>up ⟨Q.1,Q.2.1⟩),if_pos ⟨R.1,R.2,q⟩]
           have:=s (by rw[z];decide);rw[z]at this;have V:m*(-1*((p (i+1)).y-(p i).y))=-(((p (i+1)).y-(p i).y)*m):=by grind
           have U:-1*turn (p i) (p (i+1)) x*D=-(D*turn (p i) (p (i+1)) x):=by grind
           omega
         . intro q;have:=qC M G;exact iH d (by rw[Int.mul_comm];omega)
        unfold cr;show _=if D*(p i).y<=D*x.y/\D*x.y<D*(p (i+1)).y/\_ then _ else if D*(p (i+1)).y<=D*x.y/\D*x.y<D*(p i).y/\_ then _ else _
        simp only[C,s2,L,K,g];grind
      . unfold cr;show _=if D*(p i).y<=D*x.y/\D*x.y<D*(p (i+1)).y/\_ then _ else if D*(p (i+1)).y<=D*x.y/\D*x.y<D*(p i).y/\_ then _ else _
        simp only[C,s2,L,K];omega
   have r:qB p n x=qB (λi=>scp D (p i)) n ⟨D*x.x+m,D*x.y⟩+cr x (p k) (p (k+1)):=by
    refine ajy P others ?_;have:cr ⟨D*x.x+m,D*x.y⟩ (scp D (p k)) (scp D (p (k+1)))=0:=by grind[cr]
    grind
   obtain⟨j,H,l⟩:∃ j,p (j+1)=p k/\p (j+2)=p (k+1):=⟨k+n-1,by have:=h.n3;rw[show k+n-1+1=k+n by omega,h.per],by have:=h.n3;rw[show k+n-1+2=k+1+n by omega,h.per]⟩;have B:=ahl J j (q:=⟨D*x.x+m,D*x.y⟩) (by show turn (scp D (p (j+1))) (scp D (p (j+2))) _=0;rw[H,l,O]) (by show mid (scp D (p (j+1))) (scp D (p (j+2))) _;rw[H,l];exact o k mk);have B:qB (λi=>scp D (p i)) n ⟨D*x.x+m,D*x.y⟩=kap (λi=>scp D (p i)) n 0+if D*(p (j+1)).y<D*(p (j+2)).y then 0 else 1:=B
   rw[H,l]at B;have W:=alP J;rw[r,B];simp only[Wh d];rcases D8 x (p k) (p (k+1))with⟨e,a,b,c⟩ |⟨e,a,b,c⟩ | e;all_goals omega
 . have:qB p n x=0:=by
     unfold qB;have X:∀ m,m<=n->sg (λi=>cr x (p i) (p (i+1))) 0 m=0:=λm G=>by
      induction m with
      | zero=>rfl
      | succ m S =>rw[sg,S (by omega),Nat.zero_add];grind
     grind
   omega
end
section
variable {a b c p:Pt}{N:Int}{n:Nat}
structure Poly (p:Nat->Pt) (n:Nat):Prop where
 n3:3<=n
 per:∀ i,p (i+n)=p i
 ne:∀ i,p i≠p (i+1)
 far:∀ i m,2<=m->m+1<n->¬ meet (p i) (p (i+1)) (p (i+m)) (p (i+m+1))
 Po:∀ i,¬ on (p i) (p (i+1)) (p (i+2))
 Pq:∀ i,¬ on (p (i+1)) (p (i+2)) (p i)
def shr(N:Int)(a:Pt):Pt:=⟨a.x,N*a.y-a.x⟩
def trp(a:Pt):Pt:=⟨a.y,a.x⟩
theorem PI(N:Int)(a b c:Pt):turn (shr N a) (shr N b) (shr N c)=N*turn a b c:=by unfold turn shr;grind
theorem ajz(a b c:Pt):turn (trp a) (trp b) (trp c)=- turn a b c:=by unfold turn trp;grind
theorem ajA(h:turn a b p=0)(d:a.x≠b.x)(e:BP a.x b.x p.x):on a b p:=by have:=uP (a:=trp a) (b:=trp b) (p:=trp p) (by rw[ajz,h];rfl) d e;exact⟨h,e,this.2.1⟩
theorem Q5(j:0<N)(h:on (shr N a) (shr N b) (shr N c)):on a b c:=by
 obtain⟨d,f,g⟩:=h;rw[PI]at d;have d:turn a b c=0:=by rcases Int.mul_eq_zero.1 d with e | e;all_goals omega
 have f:BP a.x b.x c.x:=f;by_cases i:a.x=b.x
 . have g:BP (N*a.y-a.x) (N*b.y-b.x) (N*c.y-c.x):=g;refine⟨d,f,?_⟩;refine(aap j).1 ?_;grind[BP]
 . exact ajA d i f
theorem Wi(f:0<N){d:Pt}(h:meet (shr N a) (shr N b) (shr N c) (shr N d)):meet a b c d:=by
 rcases h with h | h | h | h |⟨i,g⟩
 . exact .inl (Q5 f h)
 . exact .inr (.inl (Q5 f h))
 . exact .inr (.inr (.inl (Q5 f h)))
 . exact .inr (.inr (.inr (.inl (Q5 f h))))
 . rw[PI,PI]at i g;have e:∀ s t:Int,N*s*(N*t)=N*N*(s*t):=λs t=>by grind
   rw[e,Ut f]at i g;exact .inr (.inr (.inr (.inr ⟨i,g⟩)))
theorem Q7(h:-N<a.x-p.x/\a.x-p.x<N):(shr N a).y<=(shr N p).y↔a.y<p.y\/(a.y=p.y/\p.x<=a.x):=by
 show N*a.y-a.x<=N*p.y-p.x↔_;have e:N*p.y-N*a.y=N*(p.y-a.y):=by grind
 rcases Int.lt_trichotomy a.y p.y with k | k | k
 . have:N*1<=N*(p.y-a.y):=Int.mul_le_mul_of_nonneg_left (by omega) (by omega);omega
 . rw[k];omega
 . have:N*(p.y-a.y)<=N*(-1):=Int.mul_le_mul_of_nonneg_left (by omega) (by omega);omega
theorem ajB(d:0<N)(h:-N<a.x-p.x/\a.x-p.x<N)(g:-N<b.x-p.x/\b.x-p.x<N):cr (shr N p) (shr N a) (shr N b)=cr p a b:=by
 have s:=Q7 h;have r:=Q7 g;have o:(shr N p).y<(shr N a).y↔¬(shr N a).y<=(shr N p).y:=by omega
 have m:(shr N p).y<(shr N b).y↔¬(shr N b).y<=(shr N p).y:=by omega
 have l:0<N*turn a b p↔0<turn a b p:=⟨λq=>lH d (by rw[Int.mul_comm];exact q),λq=>Int.mul_pos d q⟩;have j:N*turn a b p<0↔turn a b p<0:=⟨λq=>iH d (by rw[Int.mul_comm];exact q),λq=>yE d q⟩;have f:a.y=p.y->turn a b p=(a.y-b.y)*(p.x-a.x):=λe=>by unfold turn;rw[<- e];grind
 have tb:b.y=p.y->turn a b p=(b.y-a.y)*(b.x-p.x):=λe=>by unfold turn;rw[<- e];grind
 have sa:a.y=p.y->a.x<p.x->(b.y<=p.y->0<=turn a b p)/\(p.y<b.y->turn a b p<0):=λe k =>⟨λq=>by rw[f e];exact Int.mul_nonneg (by omega) (by omega),λq=>by rw[f e];exact qC (by omega) (by omega)⟩;have i:b.y=p.y->b.x<p.x->(a.y<=p.y->turn a b p<=0)/\(p.y<a.y->0<turn a b p):=λe k =>⟨λq=>by rw[tb e];exact Int.mul_nonpos_of_nonneg_of_nonpos (by omega) (by omega),λq=>by rw[tb e];exact Int.mul_pos_of_neg_of_neg (by omega) (by omega)⟩;grind[PI,cr]
theorem aaq(p:Nat->Pt):∀ n,∃ B:Int,0<=B/\∀ i,i<n→-B<=(p i).x/\(p i).x<=B
 | 0=>⟨0,by omega,λi h=>by omega⟩
 | n+1=>by obtain⟨B,e,h⟩:=aaq p n;refine⟨B+(p n).x.natAbs,by omega,λi d=>?_⟩;grind
theorem Poly.apart{p:Nat->Pt}(h:Poly p n)(i m:Nat)(j:0<m)(g:m<n):p i≠p (i+m):=by
 intro e;have f:=h.n3;by_cases d:m=1
 . subst d;exact h.ne i e
 by_cases k:m+1=n
 . have:=h.ne (i+m);rw[show i+m+1=i+n by omega,h.per]at this;grind
 . refine h.far i m (by omega) (by omega) (.inl ?_);rw[<- e];refine⟨Pz _ _,?_,?_⟩<;>(unfold BP;omega)
theorem ahn{p:Nat->Pt}(h:Poly p n)(x:Pt)(u:∀ i,¬ on (p i) (p (i+1)) x):-1<=qB p n x/\qB p n x<=1:=by
 have A:=h.n3;obtain⟨B,D,v⟩:=aaq p n;obtain⟨N,C⟩:∃ N:Int,N=2*B+x.x.natAbs+1:=⟨_,rfl⟩;have f:0<N:=by omega
 have d:∀ i,-B<=(p i).x/\(p i).x<=B:=λi=>by rw[Il h.per i];exact v _ (Nat.mod_lt _ (by omega))
 have j:∀ a b:Pt,-N<a.x-b.x/\a.x-b.x<N->(shr N a).y=(shr N b).y->a=b:=λa b q e=>by have o:=(Q7 q).1 (by omega);have l:=(Q7 (N:=N) (a:=b) (p:=a) (by omega)).1 (by omega);cases a;cases b;grind
 have w:Simp (λi=>shr N (p i)) n:=⟨h.n3,λi=>by rw[h.per],λi m o l g=>h.far i m o l (Wi f g),λi g=>h.Po i (Q5 f g),λi g=>h.Pq i (Q5 f g),λi m o l e=>by have r:=d i;have s:=d (i+m);exact h.apart i m o l (j _ _ (by omega) e)⟩;have t:=aew w (shr N x) λk e=>by have r:=d k;have z:=j (p k) x (by omega) e;refine u k ?_;rw[z];refine⟨Pz _ _,?_,?_⟩<;>(unfold BP;omega)
 have e:qB (λi=>shr N (p i)) n (shr N x)=qB p n x:=vP λi _ _=>by have r:=d i;have s:=d (i+1);exact ajB f (by omega) (by omega)
 omega
def cross(p:Nat->Pt)(x:Pt):Nat->Bool
 | 0=>false
 | i+1=>cross p x i !=(cr x (p i) (p (i+1)) != 0)
theorem YQ(p:Nat->Pt)(x:Pt):∀ n,(cross p x n=true↔qB p n x%2=1)
 | 0=>by simp[cross,qB,sg]
 | n+1=>by
  have d:=YQ p x n;have e:qB p (n+1) x=qB p n x+cr x (p n) (p (n+1)):=by unfold qB;rw[sg,Nat.zero_add]
  rw[e,cross];rcases D8 x (p n) (p (n+1))with⟨c,_⟩ |⟨c,_⟩ | c<;>rw[c]<;>cases f:cross p x n<;>rw[f]at d<;>simp at d ⊢<;>omega
theorem aed{p:Nat->Pt}(h:Poly p n)(x:Pt)(d:∀ i,¬ on (p i) (p (i+1)) x):cross p x n=decide (qB p n x≠0):=by have f:=ahn h x d;have e:=YQ p x n;grind
end
section
variable {p:Nat->Pt}{n:Nat}{x z:Pt}{D:Int}
theorem alS(x a:Pt):cr x a a=0:=by unfold cr;split<;>(try split)<;>omega
theorem af7(hp:∀ i,p (i+n)=p i)(a:x.y<z.y)(c:∀ i,i<n->p i=p (i+1)\/(p i).y≠(p (i+1)).y)(b:∀ i,i<n->¬ meet x z (p i) (p (i+1))):qB p n x=qB p n z:=by
 have f:=aer (λi=>cr x (p i) (p (i+1))) (λi=>cr z (p i) (p (i+1))) 0 n;have d:sg (λi=>cr x (p i) (p (i+1))-cr z (p i) (p (i+1))) 0 n=sg (λi=>hit x z (p (i+1))-hit x z (p i)) 0 n:=by
  refine vP λi _ g=>?_;rcases c i (by omega)with e | e
  . grind[alS]
  . exact PE a e (b i (by omega))
 rw[d,aan (λi=>hit x z (p i)),Nat.zero_add]at f;have h:p n=p 0:=by have:=hp 0;rwa[Nat.zero_add]at this
 grind[qB]
theorem aex{a b c d:Pt}(h:¬ meet a b c d):¬ meet b a c d:=λh'=>h (Dp.1 h')
theorem aho(hp:∀ i,p (i+n)=p i)(q:∀ i,i<n->¬ meet x z (p i) (p (i+1))):qB p n x=qB p n z:=by
 by_cases u:n=0
 . subst u;rfl
 by_cases f:x=z
 . rw[f]
 obtain⟨B,C,v⟩:=aaq p n;obtain⟨N,A⟩:∃ N:Int,N=2*B+x.x.natAbs+z.x.natAbs+1:=⟨_,rfl⟩;have d:0<N:=by omega
 have c:∀ i,-B<=(p i).x/\(p i).x<=B:=λi=>by rw[Il hp i];exact v _ (Nat.mod_lt _ (by omega))
 have j:∀ a b:Pt,-N<a.x-b.x/\a.x-b.x<N->(shr N a).y=(shr N b).y->a=b:=λa b o e=>by have F:=(Q7 o).1 (by omega);have E:=(Q7 (N:=N) (a:=b) (p:=a) (by omega)).1 (by omega);cases a;cases b;grind
 have e:∀ y:Pt,-N<y.x-B/\y.x+B<N->qB (λi=>shr N (p i)) n (shr N y)=qB p n y:=λy w=>vP λi _ _=>by have t:=c i;have s:=c (i+1);exact ajB d (by omega) (by omega)
 rw[<- e x (by omega),<- e z (by omega)];have g:∀ i,shr N (p (i+n))=shr N (p i):=λi=>by rw[hp]
 have r:∀ i,i<n->shr N (p i)=shr N (p (i+1))\/(shr N (p i)).y≠(shr N (p (i+1))).y:=λi _=>by
  by_cases h:(shr N (p i)).y=(shr N (p (i+1))).y
  . have t:=c i;have s:=c (i+1);left;rw[j _ _ (by omega) h]
  omega
 have k:(shr N x).y≠(shr N z).y:=λh=>f (j _ _ (by omega) h);rcases Int.lt_or_gt_of_ne k with h | h
 . exact af7 (p:=λi=>shr N (p i)) g h r λi l m=>q i l (Wi d m)
 . exact(af7 (p:=λi=>shr N (p i)) g h r λi l m=>aex (q i l) (Wi d m)).symm
def Jw(p:Nat->Pt)(n:Nat)(x:Pt):Prop:=∃ i,i<n/\on (p i) (p (i+1)) x
instance (a b c:Int):Decidable (BP a b c):=inferInstanceAs (Decidable (_\/_))
instance (a b c:Pt):Decidable (on a b c):=inferInstanceAs (Decidable (_/\_))
instance (a b c d:Pt):Decidable (meet a b c d):=inferInstanceAs (Decidable (_\/_))
instance (p:Nat->Pt) (n:Nat) (x:Pt):Decidable (Jw p n x):=decidable_of_iff (∃ i:Fin n,on (p i) (p (i+1)) x) ⟨λ⟨i,h⟩=>⟨i.1,i.2,h⟩,λ⟨i,hi,h⟩=>⟨⟨i,hi⟩,h⟩⟩
def Oz(p:Nat->Pt)(n:Nat)(x:Pt):Int:=if Jw p n x then 0 else if qB p n x≠0 then 1 else -1
theorem ahe(p:Nat->Pt)(n:Nat)(x:Pt):Oz p n x=1\/Oz p n x=0\/Oz p n x=-1:=by grind[Oz]
theorem acd(hp:∀ i,p (i+n)=p i)(a:∀ i,i<n->¬ meet x z (p i) (p (i+1))):Oz p n x=Oz p n z:=by have d:¬ Jw p n x:=λ⟨i,b,h⟩=>a i b (.inr (.inr (.inl h)));have c:¬ Jw p n z:=λ⟨i,b,h⟩=>a i b (.inr (.inr (.inr (.inl h))));rw[Oz,Oz,if_neg d,if_neg c,aho hp a]
theorem acz(a:0<D)(x:Pt):Jw (λi=>scp D (p i)) n (scp D x)↔Jw p n x:=by unfold Jw;exact exists_congr λi=>and_congr Iff.rfl (Ii a)
theorem ale(a:0<D)(x:Pt):Oz (λi=>scp D (p i)) n (scp D x)=Oz p n x:=by
 have e:qB (λi=>scp D (p i)) n (scp D x)=qB p n x:=vP λi _ _=>anH a x _ _;unfold Oz;rw[e];by_cases h:Jw p n x
 . rw[if_pos h,if_pos ((acz a x).2 h)]
 . rw[if_neg h,if_neg λh'=>h ((acz a x).1 h')]
end
section
open Go Go.Skm
variable {n u v w:Int}{l:List V3}
def pt(v:V3):Pt:=⟨v.x,v.y⟩
theorem afB(a b c:V3):turn (pt a) (pt b) (pt c)=area a b c:=rfl
theorem zN:0<nG n↔0<n:=by unfold nG;split<;>(try split)<;>omega
theorem O5:nG n<0↔n<0:=by unfold nG;split<;>(try split)<;>omega
theorem O6:nG n=0↔n=0:=by unfold nG;split<;>(try split)<;>omega
theorem DY(n:Int):nG n=-1\/nG n=0\/nG n=1:=by grind[nG]
theorem Uh(a b c:Int):decide (nG (a-c)*nG (b-c)<=0)=decide (BP a b c):=by rw[decide_eq_decide];have h:=zN (n:=a-c);have g:=O5 (n:=a-c);have f:=zN (n:=b-c);have h4:=O5 (n:=b-c);unfold BP;rcases DY (a-c)with e | e | e<;>rcases DY (b-c)with d | d | d<;>rw[e,d]<;>rw[e]at h g<;>rw[d]at f h4<;>omega
theorem O7(a b p:V3):Jg a b p=decide (on (pt a) (pt b) (pt p)):=by
 have c:∀ x y z:Int,(sV x y<=z/\z<=sW x y)↔BP x y z:=by grind[sV,sW,BP]
 rw[Bool.eq_iff_iff,qDa];unfold Jg on;simp only[qBa,qDa,beq_iff_eq,qy,O6,afB];show _↔area a b p=0/\BP a.x b.x p.x/\BP a.y b.y p.y;grind
theorem afC(a b:Int):decide (nG a*nG b<0)=decide (a*b<0):=by
 rw[decide_eq_decide];rcases Int.lt_trichotomy a 0 with c | c | c<;>rcases Int.lt_trichotomy b 0 with d | d | d
 . have:=Int.mul_pos_of_neg_of_neg c d;have f:nG a=-1:=if_pos c;have e:nG b=-1:=if_pos d;grind
 . subst d;simp[nG]
 . have:=Int.mul_neg_of_neg_of_pos c d;grind[nG]
 . subst c;simp[nG]
 . subst c;simp[nG]
 . subst c;simp[nG]
 . have:=Int.mul_neg_of_pos_of_neg c d;grind[nG]
 . subst d;simp[nG]
 . have:=Int.mul_pos c d;grind[nG]
theorem Gw(a b c d:V3):tZ a b c d=decide (meet (pt a) (pt b) (pt c) (pt d)):=by have f:=afC (area a b c) (area a b d);have e:=afC (area c d a) (area c d b);rw[decide_eq_decide]at f e;rw[Bool.eq_iff_iff,qDa];simp_all[O7,Bool.or_eq_true,qBa,qDa,afB,qy,tZ,meet]
theorem afD(v:V3):pt (flat v)=pt v:=rfl
def pts(l:List V3)(i:Nat):Pt:=pt (gt l (i%l.length))
theorem yw(l:List V3)(i:Nat):pts l (i+l.length)=pts l i:=by unfold pts;rw[Nat.add_mod_right]
theorem DZ{i:Nat}(h:i<l.length):pts l i=pt (ca l i):=by unfold pts;rw[Nat.mod_eq_of_lt h]
theorem zO(l:List V3)(i:Nat):pts l (i+1)=pt (cb l i):=rfl
def Tq(a b:V3)(u v w:Int):Int:=(b.x-a.x)*(v-a.y*w)-(b.y-a.y)*(u-a.x*w)
def onQ(u v w:Int)(e:pG):Bool:=(nG (Tq e.1 e.2 u v w)==0)&&(decide (nG (e.1.x*w-u)*nG (e.2.x*w-u)<=0)&&decide (nG (e.1.y*w-v)*nG (e.2.y*w-v)<=0))
def crQ(u v w:Int)(e:pG):Int:=if nG (e.1.y*w-v)<=0/\0<nG (e.2.y*w-v)/\0<nG (Tq e.1 e.2 u v w)then 1 else if nG (e.2.y*w-v)<=0/\0<nG (e.1.y*w-v)/\nG (Tq e.1 e.2 u v w)<0 then -1 else 0
theorem Ui(a b:V3)(u v w:Int):turn (scp w (pt a)) (scp w (pt b)) ⟨u,v⟩=w*Tq a b u v w:=by unfold turn scp pt Tq;grind
theorem Uj(d:0<w)(e:pG):onQ u v w e=decide (on (scp w (pt e.1)) (scp w (pt e.2)) ⟨u,v⟩):=by
 have a:∀ x:Int,x*w=w*x:=λx=>Int.mul_comm _ _;have b:(nG (Tq e.1 e.2 u v w)==0)=decide (turn (scp w (pt e.1)) (scp w (pt e.2)) ⟨u,v⟩=0):=by
  rw[Ui];have c:=O6 (n:=Tq e.1 e.2 u v w);by_cases h:Tq e.1 e.2 u v w=0
  . grind
  . rw[decide_eq_false λh'=>h ((Int.mul_eq_zero.1 h').resolve_left (by omega))];grind
 unfold onQ;rw[b,a,a,a,a,Uh,Uh,Bool.eq_iff_iff,qDa];unfold on;simp only[qBa,qDa];exact Iff.rfl
theorem aiT(a:0<w)(e:pG):crQ u v w e=cr ⟨u,v⟩ (scp w (pt e.1)) (scp w (pt e.2)):=by
 have f:∀ x:Int,x*w=w*x:=λx=>Int.mul_comm _ _;have d:0<nG (Tq e.1 e.2 u v w)↔0<turn (scp w (pt e.1)) (scp w (pt e.2)) ⟨u,v⟩:=by rw[Ui,zN];exact⟨λh=>Int.mul_pos a h,λh=>lH a (by rw[Int.mul_comm];exact h)⟩
 have c:nG (Tq e.1 e.2 u v w)<0↔turn (scp w (pt e.1)) (scp w (pt e.2)) ⟨u,v⟩<0:=by rw[Ui,O5];exact⟨λh=>Int.mul_neg_of_pos_of_neg a h,λh=>iH a (by rw[Int.mul_comm];exact h)⟩
 have b:∀ x y:Int,(nG (x-y)<=0↔x<=y)/\(0<nG (x-y)↔y<x):=λx y=>by have g:=zN (n:=x-y);omega
 unfold crQ cr;simp only[d,c,f,(b _ _).1,(b _ _).2];rfl
def TU(u v w:Int):List pG->Int
 |[]=>0
 | e::r=>crQ u v w e+TU u v w r
def whE(u v w:Int)(es:List pG):Int:=if es.any (onQ u v w)then 0 else if TU u v w es≠0 then 1 else -1
def Ez(l:List V3)(u v w:Int):Int:=Oz (λi=>scp w (pts l i)) l.length ⟨u,v⟩
theorem ZO{u v w:Int}(d:0<w)(l:List V3):∀ n,n<=l.length->TU u v w (EM l n)=sg (λi=>cr ⟨u,v⟩ (scp w (pts l i)) (scp w (pts l (i+1)))) 0 n
 | 0,_=>rfl
 | n+1,hn=>by
  have c:∀ a b:List pG,TU u v w (a++b)=TU u v w a+TU u v w b:=by
   intro a b;induction a with
   | nil=>simp[TU]
   | cons e r f=>simp only[List.cons_append,TU,f];omega
  rw[Ic,c,ZO d l n (by omega),sg,qNz];show _+(crQ u v w (flat (ca l n),flat (cb l n))+0)=_;rw[aiT d,Int.add_zero,DZ (by omega),zO];rfl
theorem ad1(b:0<w)(l:List V3):whE u v w (fH l)=Ez l u v w:=by
 unfold whE Ez Oz;have f:(fH l).any (onQ u v w)=decide (Jw (λi=>scp w (pts l i)) l.length ⟨u,v⟩):=by
  rw[Bool.eq_iff_iff,qDa,List.any_eq_true];unfold Jw;constructor
  . rintro ⟨e,c,h⟩;simp only[fH,EM,List.mem_map,List.mem_range]at c;obtain⟨i,a,rfl⟩:=c;rw[Uj b,qDa]at h;refine⟨i,a,?_⟩;show on (scp w (pts l i)) (scp w (pts l (i+1))) _;rw[DZ a,zO];exact h
  . rintro ⟨i,a,h⟩;have h:on (scp w (pts l i)) (scp w (pts l (i+1))) ⟨u,v⟩:=h;rw[DZ a,zO]at h;refine⟨(flat (ca l i),flat (cb l i)),List.mem_map.2 ⟨i,List.mem_range.2 a,rfl⟩,?_⟩;rw[Uj b,qDa];exact h
 rw[f,ZO b l _ (qNr _)];by_cases d:Jw (λi=>scp w (pts l i)) l.length ⟨u,v⟩
 . grind
 . rw[if_neg d,if_neg (by rw[decide_eq_false d];decide)];rfl
theorem Yr(l:List V3)(u v w:Int){k:Int}(a:0<k):Ez l (k*u) (k*v) (k*w)=Ez l u v w:=by
 unfold Ez;have e:(λi=>scp (k*w) (pts l i))=λi=>scp k (scp w (pts l i)):=by simp[Int.mul_assoc,scp]
 rw[e];exact ale a ⟨u,v⟩
theorem QM(h:gG l=true):Poly (pts l) l.length:=by
 rw[<- O8]at h;unfold Yt at h;rw[qBa,kJ]at h;obtain⟨s,hp⟩:=h;unfold O9 at s;simp only[qBa,qDa]at s;obtain⟨⟨t,_⟩,_⟩:=s;have d:∀ i,i<l.length->okE l i=true/\∀ k,k<l.length->okD l i k=true:=λi A=>by simp_all[qBa,kJ]
 have c:∀ i,i%l.length<l.length:=λi=>qNm _ (by omega);have p:∀ i,pts l i=pt (ca l (i%l.length)):=λi=>rfl;have f:∀ i,pts l (i+1)=pt (cb l (i%l.length)):=λi=>by unfold pts cb qx;simp
 have a:∀ i m,(i+m)%l.length=(i%l.length+m)%l.length:=λi m=>(Nat.mod_add_mod _ _ _).symm;refine⟨t,yw l,λi e=>?_,λi m C B r=>?_,λi q=>?_,λi q=>?_⟩
 . have:=(d _ (c i)).1;rw[p,f]at e;unfold okE at this;simp only[pt,Pt.mk.injEq]at e;grind
 . have j:=(d _ (c i)).2 _ (c (i+m));rw[p,f,p (i+m),f]at r;have g:=c i;have b:(i+m)%l.length=if i%l.length+m<l.length then i%l.length+m else i%l.length+m-l.length:=by
    rw[a];split
    . rename_i h;exact Nat.mod_eq_of_lt h
    . rename_i h;rw[Nat.mod_eq_sub_mod (by omega),Nat.mod_eq_of_lt (by omega)]
   have nv:∀ k,k<l.length->qx l.length k=if k+1<l.length then k+1 else 0:=λk z=>by
    unfold qx;split
    . rename_i h;exact Nat.mod_eq_of_lt h
    . rename_i h;have:k+1=l.length:=by omega
      simp_all
   have o:¬(i+m)%l.length=i%l.length:=by rw[b];split<;>omega
   have y:¬(i+m)%l.length=qx l.length (i%l.length):=by rw[b,nv _ g];split<;>split<;>omega
   have x:¬ i%l.length=qx l.length ((i+m)%l.length):=by rw[nv _ (c _),b];split<;>split<;>omega
   grind[Gw,okD]
 . have j:=(d _ (c i)).2 _ (c (i+1));have e:(i+1)%l.length=qx l.length (i%l.length):=by unfold qx;exact a i 1
   have g:=c i;have o:¬(i+1)%l.length=i%l.length:=by
    rw[a];by_cases h:i%l.length+1<l.length
    . rw[Nat.mod_eq_of_lt h];omega
    . have:i%l.length+1=l.length:=by omega
      rw[this,Nat.mod_self];omega
   unfold okD at j;rw[if_neg o,if_pos e,qBa]at j;grind[O7]
 . have j:=(d _ (c i)).2 _ (c (i+1));have e:(i+1)%l.length=qx l.length (i%l.length):=by unfold qx;exact a i 1
   have g:=c i;have o:¬(i+1)%l.length=i%l.length:=by
    rw[a];by_cases h:i%l.length+1<l.length
    . rw[Nat.mod_eq_of_lt h];omega
    . have:i%l.length+1=l.length:=by omega
      rw[this,Nat.mod_self];omega
   unfold okD at j;rw[if_neg o,if_pos e,qBa]at j;grind[O7]
end
end Go.Skm.Fen
