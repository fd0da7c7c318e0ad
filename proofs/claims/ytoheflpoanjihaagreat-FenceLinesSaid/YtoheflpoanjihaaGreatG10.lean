import Derived.Test.YtoheflpoanjihaaGreatPolyD
set_option linter.all false
namespace Go.Skm.Fen
section
variable {D a b t:Int}{c q:Pt}{p:Nat->Pt}{n:Nat}
def scp(D:Int)(a:Pt):Pt:=⟨D*a.x,D*a.y⟩
theorem wG(D:Int)(a b c:Pt):turn (scp D a) (scp D b) (scp D c)=D*D*turn a b c:=by unfold turn scp;grind
theorem Nv(h:0<D):D*a<=D*b↔a<=b:=⟨λk=>Int.le_of_mul_le_mul_left k h,λk=>Int.mul_le_mul_of_nonneg_left k (by omega)⟩
theorem Gp(h:0<D):D*a<D*b↔a<b:=⟨λk=>Int.lt_of_mul_lt_mul_left k (by omega),λk=>Int.mul_lt_mul_of_pos_left k h⟩
theorem Ju{c:Int}(h:0<D):btw (D*a) (D*b) (D*c)↔btw a b c:=by simp_all[btw]
theorem Nw(h:0<D):0<D*D:=Int.mul_pos h h
theorem SC(h:0<D):D*D*t=0↔t=0:=by
 have:=Nw h;constructor
 . intro k;rcases Int.mul_eq_zero.1 k with k | k;all_goals omega
 grind
theorem UN(h:0<D):0<D*D*t↔0<t:=by
 have:=Nw h;constructor
 . intro k;exact iH this (by rw[Int.mul_comm];exact k)
 . intro k;exact Int.mul_pos this k
theorem Es(h:0<D):D*D*t<0↔t<0:=by
 have:=Nw h;constructor
 . intro k;exact dQ this (by rw[Int.mul_comm];exact k)
 . intro k;exact pO this k
theorem xB(h:0<D){a b:Pt}:on (scp D a) (scp D b) (scp D c)↔on a b c:=by unfold on;rw[wG,SC h];show _/\btw (D*a.x) (D*b.x) (D*c.x)/\btw (D*a.y) (D*b.y) (D*c.y)↔_;rw[Ju h,Ju h]
theorem KU(h:0<D){a b d:Pt}:meet (scp D a) (scp D b) (scp D c) (scp D d)↔meet a b c d:=by
 unfold meet;rw[xB h,xB h,xB h,xB h,wG,wG,wG,wG];have e:∀ s t:Int,D*D*s*(D*D*t)<0↔s*t<0:=λs t=>by
  have:D*D*s*(D*D*t)=D*D*(D*D*(s*t)):=by grind
  rw[this,Es h,Es h]
 rw[e,e]
theorem Wq(h:0<D)(x a b:Pt):cr (scp D x) (scp D a) (scp D b)=cr x a b:=by unfold cr;simp only[wG,UN h,Es h];show(if D*a.y<=D*x.y/\D*x.y<D*b.y/\_ then _ else if D*b.y<=D*x.y/\D*x.y<D*a.y/\_ then _ else _)=_;simp_all
theorem Simp.scp{p:Nat->Pt}{n:Nat}(h:Simp p n){D:Int}(f:0<D):Simp (λi=>Fen.scp D (p i)) n:=
 ⟨h.n3,λi=>by rw[h.per],λi m j g d=>h.far i m j g ((KU f).1 d),λi d=>h.F5 i ((xB f).1 d),λi d=>h.F6 i ((xB f).1 d),λi m j g e=>by have e:D*(p i).y=D*(p (i+m)).y:=e;exact h.hts i m j g (Int.eq_of_mul_eq_mul_left (by omega) e)⟩
theorem SE{a b:Pt}(h:turn a b q=0)(d:mid a b q):on a b q:=mJ h (by unfold mid at d;omega) (by unfold mid at d;unfold btw;omega)
theorem DK(h:Simp p n)(k m:Nat)(r:0<m)(o:m<n)(g:turn (p k) (p (k+1)) q=0)(e:mid (p k) (p (k+1)) q)(f:turn (p (k+m)) (p (k+m+1)) q=0)(d:mid (p (k+m)) (p (k+m+1)) q):False:=by
 by_cases l:m=1
 . subst l;exact Gn h k g e (.inr (.inr (.inr (.inl (SE f d)))))
 by_cases s:m+1=n
 . have j:p (k+m+1)=p k:=by rw[show k+m+1=k+n by omega,h.per]
   have i:p (k+m+2)=p (k+1):=by rw[show k+m+2=k+1+n by omega,h.per]
   have:=Gn h (k+m) f d;rw[j,i]at this;exact this (.inr (.inr (.inr (.inl (SE g e)))))
 . exact h.far k m (by omega) (by omega) (Gm g e f d)
theorem Qo(h:Simp p n){i k:Nat}(m:i<n)(l:k<n)(d:i≠k)(j:turn (p k) (p (k+1)) q=0)(f:mid (p k) (p (k+1)) q)(g:turn (p i) (p (i+1)) q=0)(e:mid (p i) (p (i+1)) q):False:=by
 rcases Nat.lt_or_gt_of_ne d with c | c
 . have:=DK h i (k-i) (by omega) (by omega) g e;grind
 . have:=DK h k (i-k) (by omega) (by omega) j f;grind
theorem zY(P:Nat->Prop)(num d:Nat->Int)(hp:∀ i,P i->0<d i):∀ n,(∃ i,i<n/\P i)->∃ k,k<n/\P k/\∀ i,i<n->P i->num k*d i<=num i*d k
 | 0,⟨i,h,_⟩=>by omega
 | n+1,hex=>by
  by_cases g:P n
  . by_cases l:∃ i,i<n/\P i
    . obtain⟨k,o,f,m⟩:=zY P num d hp n l;by_cases c:num k*d n<=num n*d k
      . grind
      . refine⟨n,by omega,g,λi w j=>?_⟩;by_cases e:i=n
        . grind
        . -- num n / d n<num k / d k≤num i / d i
          have a:=m i (by omega) j;have r:=hp k f;have x:=hp n g;have y:=hp i j;have b1:=Int.mul_le_mul_of_nonneg_right (show num n*d k<=num k*d n by omega) (show 0<=d i by omega);have z:=Int.mul_le_mul_of_nonneg_right a (show 0<=d n by omega);have c1:num n*d k*d i=d k*(num n*d i):=by grind
          have c2:num k*d n*d i=num k*d i*d n:=by grind
          have c3:num i*d k*d n=d k*(num i*d n):=by grind
          exact Int.le_of_mul_le_mul_left (show d k*(num n*d i)<=d k*(num i*d n) by omega) r
    grind
  . obtain⟨i,o,f⟩:=hex;have:i≠n:=λe=>g (e▸f);obtain⟨k,v,u,s⟩:=zY P num d hp n ⟨i,by omega,f⟩;grind
theorem SG{f g:Nat->Int}{k:Nat}{c:Int}:∀{n},k<n->(∀ i,i<n->i≠k->f i=g i)->f k=g k+c->sg f 0 n=sg g 0 n+c
 | 0,h,_,_=>by omega
 | n+1,h,he,hk=>by
  rw[sg,sg,Nat.zero_add];by_cases e:k=n
  . subst e;have:sg f 0 k=sg g 0 k:=uH λi _ j=>he i (by omega) (by omega);omega
  . have:=SG (n:=n) (show k<n by omega) (λi d=>he i (by omega)) hk;grind
theorem wH(x a b:Pt):(cr x a b=1/\a.y<=x.y/\x.y<b.y/\0<turn a b x)\/(cr x a b=-1/\b.y<=x.y/\x.y<a.y/\turn a b x<0)\/cr x a b=0:=by grind[cr]
theorem Ny(h:Simp p n)(x:Pt)(z:∀ k,(p k).y≠x.y):-1<=lq p n x/\lq p n x<=1:=by
 by_cases H:∃ i,i<n/\cr x (p i) (p (i+1))≠0
 . -- the nearest edge on the right
   obtain⟨k,P,T,f⟩:=zY (λi=>cr x (p i) (p (i+1))≠0) (λi=>cr x (p i) (p (i+1))*turn (p i) (p (i+1)) x) (λi=>cr x (p i) (p (i+1))*((p (i+1)).y-(p i).y)) (λi u=>by rcases wH x (p i) (p (i+1))with⟨e,a,b,c⟩ |⟨e,a,b,c⟩ | e;all_goals grind) n H;obtain⟨D,v⟩:∃ D,cr x (p k) (p (k+1))*((p (k+1)).y-(p k).y)=D:=⟨_,rfl⟩;obtain⟨m,s⟩:∃ m,cr x (p k) (p (k+1))*turn (p k) (p (k+1)) x=m:=⟨_,rfl⟩;rw[v,s]at f;have d:0<D:=by rw[<- v];rcases wH x (p k) (p (k+1))with⟨e,a,b,c⟩ |⟨e,a,b,c⟩ | e;all_goals grind
   have F:0<m:=by rw[<- s];rcases wH x (p k) (p (k+1))with⟨e,a,b,c⟩ |⟨e,a,b,c⟩ | e;all_goals grind
   have I:=h.scp d;have N:∀ a b:Pt,turn (scp D a) (scp D b) ⟨D*x.x+m,D*x.y⟩=D*(D*turn a b x-(b.y-a.y)*m):=λa b=>by unfold turn scp;grind
   have M:∀ i,mid (p i) (p (i+1)) x->mid (scp D (p i)) (scp D (p (i+1))) ⟨D*x.x+m,D*x.y⟩:=λi u=>by unfold mid at u ⊢;show(D*(p i).y<D*x.y/\D*x.y<D*(p (i+1)).y)\/(D*(p (i+1)).y<D*x.y/\D*x.y<D*(p i).y);simp_all
   have O:turn (scp D (p k)) (scp D (p (k+1))) ⟨D*x.x+m,D*x.y⟩=0:=by grind
   have mk:mid (p k) (p (k+1)) x:=by have:=z k;have:=z (k+1);rcases wH x (p k) (p (k+1))with⟨e,a,b,c⟩ |⟨e,a,b,c⟩ | e;all_goals grind[mid]
   have others:∀ i,i<n->i≠k->cr x (p i) (p (i+1))=cr ⟨D*x.x+m,D*x.y⟩ (scp D (p i)) (scp D (p (i+1))):=λi u C=>by
    have y1:=z i;have y2:=z (i+1);have r:=f i u;have strict:mid (p i) (p (i+1)) x->D*turn (p i) (p (i+1)) x-((p (i+1)).y-(p i).y)*m≠0:=λE e =>Qo I u P C O (M k mk) (by rw[N,e,Int.mul_zero]) (M i E);have t0:=N (p i) (p (i+1));have B:0<turn (scp D (p i)) (scp D (p (i+1))) ⟨D*x.x+m,D*x.y⟩↔0<D*turn (p i) (p (i+1)) x-((p (i+1)).y-(p i).y)*m:=by rw[t0];exact⟨λq=>iH d (by rw[Int.mul_comm];exact q),λq=>Int.mul_pos d q⟩
    have s2:turn (scp D (p i)) (scp D (p (i+1))) ⟨D*x.x+m,D*x.y⟩<0↔D*turn (p i) (p (i+1)) x-((p (i+1)).y-(p i).y)*m<0:=by rw[t0];exact⟨λq=>dQ d (by rw[Int.mul_comm];exact q),λq=>pO d q⟩
    have K:∀ j,(D*(p j).y<=D*x.y↔(p j).y<=x.y):=λj=>Nv d;have J:∀ j,(D*x.y<D*(p j).y↔x.y<(p j).y):=λj=>Gp d;by_cases up:(p i).y<=x.y/\x.y<(p (i+1)).y
    . have str:=strict (by unfold mid;omega);have L:0<(p (i+1)).y-(p i).y:=by omega
      have g:0<turn (p i) (p (i+1)) x↔0<D*turn (p i) (p (i+1)) x-((p (i+1)).y-(p i).y)*m:=by
       constructor
       . intro q;have w:cr x (p i) (p (i+1))=1:=by unfold cr;rw[if_pos ⟨up.1,up.2,q⟩]
         have:=r (by rw[w];decide);rw[w,Int.one_mul,Int.one_mul]at this;have V:=Int.mul_comm m ((p (i+1)).y-(p i).y);have U:=Int.mul_comm (turn (p i) (p (i+1)) x) D;omega
       . intro q;have:=Int.mul_pos L F;exact iH d (by rw[Int.mul_comm];omega)
      unfold cr;show _=if D*(p i).y<=D*x.y/\D*x.y<D*(p (i+1)).y/\_ then _ else if D*(p (i+1)).y<=D*x.y/\D*x.y<D*(p i).y/\_ then _ else _
      simp only[B,s2,K,J,g];omega
    . by_cases R:(p (i+1)).y<=x.y/\x.y<(p i).y
      . have str:=strict (by unfold mid;omega);have L:(p (i+1)).y-(p i).y<0:=by omega
        have g:turn (p i) (p (i+1)) x<0↔D*turn (p i) (p (i+1)) x-((p (i+1)).y-(p i).y)*m<0:=by
         constructor
         . intro q;have w:cr x (p i) (p (i+1))=-1:=by unfold cr;rw[if_neg (λQ=>up ⟨Q.1,Q.2.1⟩),if_pos ⟨R.1,R.2,q⟩]
           have:=r (by rw[w];decide);rw[w]at this;have V:m*(-1*((p (i+1)).y-(p i).y))=-(((p (i+1)).y-(p i).y)*m):=by grind
           have U:-1*turn (p i) (p (i+1)) x*D=-(D*turn (p i) (p (i+1)) x):=by grind
           omega
         . intro q;have:=jT L F;exact dQ d (by rw[Int.mul_comm];omega)
        unfold cr;show _=if D*(p i).y<=D*x.y/\D*x.y<D*(p (i+1)).y/\_ then _ else if D*(p (i+1)).y<=D*x.y/\D*x.y<D*(p i).y/\_ then _ else _
        simp only[B,s2,K,J,g];grind
      . unfold cr;show _=if D*(p i).y<=D*x.y/\D*x.y<D*(p (i+1)).y/\_ then _ else if D*(p (i+1)).y<=D*x.y/\D*x.y<D*(p i).y/\_ then _ else _
        simp only[B,s2,K,J];omega
   have o:lq p n x=lq (λi=>scp D (p i)) n ⟨D*x.x+m,D*x.y⟩+cr x (p k) (p (k+1)):=by
    refine SG P others ?_;have:cr ⟨D*x.x+m,D*x.y⟩ (scp D (p k)) (scp D (p (k+1)))=0:=by grind[cr]
    grind
   obtain⟨j,G,l⟩:∃ j,p (j+1)=p k/\p (j+2)=p (k+1):=⟨k+n-1,by have:=h.n3;rw[show k+n-1+1=k+n by omega,h.per],by have:=h.n3;rw[show k+n-1+2=k+1+n by omega,h.per]⟩;have A:=Qn I j (q:=⟨D*x.x+m,D*x.y⟩) (by show turn (scp D (p (j+1))) (scp D (p (j+2))) _=0;rw[G,l,O]) (by show mid (scp D (p (j+1))) (scp D (p (j+2))) _;rw[G,l];exact M k mk);have A:lq (λi=>scp D (p i)) n ⟨D*x.x+m,D*x.y⟩=Sr (λi=>scp D (p i)) n 0+if D*(p (j+1)).y<D*(p (j+2)).y then 0 else 1:=A
   rw[G,l]at A;have W:=UL I;rw[o,A];simp only[Gp d];rcases wH x (p k) (p (k+1))with⟨e,a,b,c⟩ |⟨e,a,b,c⟩ | e;all_goals omega
 . have:lq p n x=0:=by
     unfold lq;have X:∀ m,m<=n->sg (λi=>cr x (p i) (p (i+1))) 0 m=0:=λm F=>by
      induction m with
      | zero=>rfl
      | succ m S =>rw[sg,S (by omega),Nat.zero_add];grind
     grind
   omega
end
section
variable {a b c p:Pt}{N:Int}{n:Nat}
structure Poly (p:Nat->Pt) (n:Nat):Prop where
 n3:3<=n
 per:∀ i,p (i+n)=p i
 ne:∀ i,p i≠p (i+1)
 far:∀ i m,2<=m->m+1<n->¬ meet (p i) (p (i+1)) (p (i+m)) (p (i+m+1))
 F5:∀ i,¬ on (p i) (p (i+1)) (p (i+2))
 F6:∀ i,¬ on (p (i+1)) (p (i+2)) (p i)
def shr(N:Int)(a:Pt):Pt:=⟨a.x,N*a.y-a.x⟩
def Wv(a:Pt):Pt:=⟨a.y,a.x⟩
theorem BH(N:Int)(a b c:Pt):turn (shr N a) (shr N b) (shr N c)=N*turn a b c:=by unfold turn shr;grind
theorem SH(a b c:Pt):turn (Wv a) (Wv b) (Wv c)=- turn a b c:=by unfold turn Wv;grind
theorem SI(h:turn a b p=0)(d:a.x≠b.x)(e:btw a.x b.x p.x):on a b p:=by have:=mJ (a:=Wv a) (b:=Wv b) (p:=Wv p) (by rw[SH,h];rfl) d e;exact⟨h,e,this.2.1⟩
theorem CY(j:0<N)(h:on (shr N a) (shr N b) (shr N c)):on a b c:=by
 obtain⟨d,f,g⟩:=h;rw[BH]at d;have d:turn a b c=0:=by rcases Int.mul_eq_zero.1 d with e | e;all_goals omega
 have f:btw a.x b.x c.x:=f;by_cases i:a.x=b.x
 . have g:btw (N*a.y-a.x) (N*b.y-b.x) (N*c.y-c.x):=g;refine⟨d,f,?_⟩;refine(Ju j).1 ?_;grind[btw]
 . exact SI d i f
theorem Gq(f:0<N){d:Pt}(h:meet (shr N a) (shr N b) (shr N c) (shr N d)):meet a b c d:=by
 rcases h with h | h | h | h |⟨i,g⟩
 . exact .inl (CY f h)
 . exact .inr (.inl (CY f h))
 . exact .inr (.inr (.inl (CY f h)))
 . exact .inr (.inr (.inr (.inl (CY f h))))
 . rw[BH,BH]at i g;have e:∀ s t:Int,N*s*(N*t)=N*N*(s*t):=λs t=>by grind
   rw[e,Es f]at i g;exact .inr (.inr (.inr (.inr ⟨i,g⟩)))
theorem CZ(h:-N<a.x-p.x/\a.x-p.x<N):(shr N a).y<=(shr N p).y↔a.y<p.y\/(a.y=p.y/\p.x<=a.x):=by
 show N*a.y-a.x<=N*p.y-p.x↔_;have e:N*p.y-N*a.y=N*(p.y-a.y):=by grind
 rcases Int.lt_trichotomy a.y p.y with k | k | k
 . have:N*1<=N*(p.y-a.y):=Int.mul_le_mul_of_nonneg_left (by omega) (by omega);omega
 . rw[k];omega
 . have:N*(p.y-a.y)<=N*(-1):=Int.mul_le_mul_of_nonneg_left (by omega) (by omega);omega
theorem SK(d:0<N)(h:-N<a.x-p.x/\a.x-p.x<N)(g:-N<b.x-p.x/\b.x-p.x<N):cr (shr N p) (shr N a) (shr N b)=cr p a b:=by
 have s:=CZ h;have r:=CZ g;have o:(shr N p).y<(shr N a).y↔¬(shr N a).y<=(shr N p).y:=by omega
 have m:(shr N p).y<(shr N b).y↔¬(shr N b).y<=(shr N p).y:=by omega
 have l:0<N*turn a b p↔0<turn a b p:=⟨λq=>iH d (by rw[Int.mul_comm];exact q),λq=>Int.mul_pos d q⟩;have j:N*turn a b p<0↔turn a b p<0:=⟨λq=>dQ d (by rw[Int.mul_comm];exact q),λq=>pO d q⟩;have f:a.y=p.y->turn a b p=(a.y-b.y)*(p.x-a.x):=λe=>by unfold turn;rw[<- e];grind
 have tb:b.y=p.y->turn a b p=(b.y-a.y)*(b.x-p.x):=λe=>by unfold turn;rw[<- e];grind
 have sa:a.y=p.y->a.x<p.x->(b.y<=p.y->0<=turn a b p)/\(p.y<b.y->turn a b p<0):=λe k =>⟨λq=>by rw[f e];exact Int.mul_nonneg (by omega) (by omega),λq=>by rw[f e];exact jT (by omega) (by omega)⟩;have i:b.y=p.y->b.x<p.x->(a.y<=p.y->turn a b p<=0)/\(p.y<a.y->0<turn a b p):=λe k =>⟨λq=>by rw[tb e];exact Int.mul_nonpos_of_nonneg_of_nonpos (by omega) (by omega),λq=>by rw[tb e];exact Int.mul_pos_of_neg_of_neg (by omega) (by omega)⟩;grind[BH,cr]
theorem Jv(p:Nat->Pt):∀ n,∃ B:Int,0<=B/\∀ i,i<n→-B<=(p i).x/\(p i).x<=B
 | 0=>⟨0,by omega,λi h=>by omega⟩
 | n+1=>by obtain⟨B,e,h⟩:=Jv p n;refine⟨B+(p n).x.natAbs,by omega,λi d=>?_⟩;grind
theorem Poly.apart{p:Nat->Pt}(h:Poly p n)(i m:Nat)(j:0<m)(g:m<n):p i≠p (i+m):=by
 intro e;have f:=h.n3;by_cases d:m=1
 . subst d;exact h.ne i e
 by_cases k:m+1=n
 . have:=h.ne (i+m);rw[show i+m+1=i+n by omega,h.per]at this;grind
 . refine h.far i m (by omega) (by omega) (.inl ?_);rw[<- e];refine⟨Gj _ _,?_,?_⟩<;>(unfold btw;omega)
theorem Qp{p:Nat->Pt}(h:Poly p n)(x:Pt)(u:∀ i,¬ on (p i) (p (i+1)) x):-1<=lq p n x/\lq p n x<=1:=by
 have A:=h.n3;obtain⟨B,D,v⟩:=Jv p n;obtain⟨N,C⟩:∃ N:Int,N=2*B+x.x.natAbs+1:=⟨_,rfl⟩;have f:0<N:=by omega
 have d:∀ i,-B<=(p i).x/\(p i).x<=B:=λi=>by rw[Jt h.per i];exact v _ (Nat.mod_lt _ (by omega))
 have j:∀ a b:Pt,-N<a.x-b.x/\a.x-b.x<N->(shr N a).y=(shr N b).y->a=b:=λa b q e=>by have o:=(CZ q).1 (by omega);have l:=(CZ (N:=N) (a:=b) (p:=a) (by omega)).1 (by omega);cases a;cases b;grind
 have w:Simp (λi=>shr N (p i)) n:=⟨h.n3,λi=>by rw[h.per],λi m o l g=>h.far i m o l (Gq f g),λi g=>h.F5 i (CY f g),λi g=>h.F6 i (CY f g),λi m o l e=>by have r:=d i;have s:=d (i+m);exact h.apart i m o l (j _ _ (by omega) e)⟩;have t:=Ny w (shr N x) λk e=>by have r:=d k;have z:=j (p k) x (by omega) e;refine u k ?_;rw[z];refine⟨Gj _ _,?_,?_⟩<;>(unfold btw;omega)
 have e:lq (λi=>shr N (p i)) n (shr N x)=lq p n x:=uH λi _ _=>by have r:=d i;have s:=d (i+1);exact SK f (by omega) (by omega)
 omega
def cross(p:Nat->Pt)(x:Pt):Nat->Bool
 | 0=>false
 | i+1=>cross p x i !=(cr x (p i) (p (i+1)) != 0)
theorem Ij(p:Nat->Pt)(x:Pt):∀ n,(cross p x n=true↔lq p n x%2=1)
 | 0=>by simp[cross,lq,sg]
 | n+1=>by
  have d:=Ij p x n;have e:lq p (n+1) x=lq p n x+cr x (p n) (p (n+1)):=by unfold lq;rw[sg,Nat.zero_add]
  rw[e,cross];rcases wH x (p n) (p (n+1))with⟨c,_⟩ |⟨c,_⟩ | c<;>rw[c]<;>cases f:cross p x n<;>rw[f]at d<;>simp at d ⊢<;>omega
theorem Nh{p:Nat->Pt}(h:Poly p n)(x:Pt)(d:∀ i,¬ on (p i) (p (i+1)) x):cross p x n=decide (lq p n x≠0):=by have f:=Qp h x d;have e:=Ij p x n;grind
end
section
variable {p:Nat->Pt}{n:Nat}{x z:Pt}{D:Int}
theorem UO(x a:Pt):cr x a a=0:=by unfold cr;split<;>(try split)<;>omega
theorem OU(hp:∀ i,p (i+n)=p i)(a:x.y<z.y)(c:∀ i,i<n->p i=p (i+1)\/(p i).y≠(p (i+1)).y)(b:∀ i,i<n->¬ meet x z (p i) (p (i+1))):lq p n x=lq p n z:=by
 have f:=Ns (λi=>cr x (p i) (p (i+1))) (λi=>cr z (p i) (p (i+1))) 0 n;have d:sg (λi=>cr x (p i) (p (i+1))-cr z (p i) (p (i+1))) 0 n=sg (λi=>hit x z (p (i+1))-hit x z (p i)) 0 n:=by
  refine uH λi _ g=>?_;rcases c i (by omega)with e | e
  . grind[UO]
  . exact BF a e (b i (by omega))
 rw[d,Jr (λi=>hit x z (p i)),Nat.zero_add]at f;have h:p n=p 0:=by have:=hp 0;rwa[Nat.zero_add]at this
 grind[lq]
theorem Nz{a b c d:Pt}(h:¬ meet a b c d):¬ meet b a c d:=λh'=>h (zh.1 h')
theorem Qq(hp:∀ i,p (i+n)=p i)(q:∀ i,i<n->¬ meet x z (p i) (p (i+1))):lq p n x=lq p n z:=by
 by_cases u:n=0
 . subst u;rfl
 by_cases f:x=z
 . rw[f]
 obtain⟨B,C,v⟩:=Jv p n;obtain⟨N,A⟩:∃ N:Int,N=2*B+x.x.natAbs+z.x.natAbs+1:=⟨_,rfl⟩;have d:0<N:=by omega
 have c:∀ i,-B<=(p i).x/\(p i).x<=B:=λi=>by rw[Jt hp i];exact v _ (Nat.mod_lt _ (by omega))
 have j:∀ a b:Pt,-N<a.x-b.x/\a.x-b.x<N->(shr N a).y=(shr N b).y->a=b:=λa b o e=>by have F:=(CZ o).1 (by omega);have E:=(CZ (N:=N) (a:=b) (p:=a) (by omega)).1 (by omega);cases a;cases b;grind
 have e:∀ y:Pt,-N<y.x-B/\y.x+B<N->lq (λi=>shr N (p i)) n (shr N y)=lq p n y:=λy w=>uH λi _ _=>by have t:=c i;have s:=c (i+1);exact SK d (by omega) (by omega)
 rw[<- e x (by omega),<- e z (by omega)];have g:∀ i,shr N (p (i+n))=shr N (p i):=λi=>by rw[hp]
 have r:∀ i,i<n->shr N (p i)=shr N (p (i+1))\/(shr N (p i)).y≠(shr N (p (i+1))).y:=λi _=>by
  by_cases h:(shr N (p i)).y=(shr N (p (i+1))).y
  . have t:=c i;have s:=c (i+1);left;rw[j _ _ (by omega) h]
  omega
 have k:(shr N x).y≠(shr N z).y:=λh=>f (j _ _ (by omega) h);rcases Int.lt_or_gt_of_ne k with h | h
 . exact OU (p:=λi=>shr N (p i)) g h r λi l m=>q i l (Gq d m)
 . exact(OU (p:=λi=>shr N (p i)) g h r λi l m=>Nz (q i l) (Gq d m)).symm
def D8(p:Nat->Pt)(n:Nat)(x:Pt):Prop:=∃ i,i<n/\on (p i) (p (i+1)) x
instance (a b c:Int):Decidable (btw a b c):=inferInstanceAs (Decidable (_\/_))
instance (a b c:Pt):Decidable (on a b c):=inferInstanceAs (Decidable (_/\_))
instance (a b c d:Pt):Decidable (meet a b c d):=inferInstanceAs (Decidable (_\/_))
instance (p:Nat->Pt) (n:Nat) (x:Pt):Decidable (D8 p n x):=decidable_of_iff (∃ i:Fin n,on (p i) (p (i+1)) x) ⟨λ⟨i,h⟩=>⟨i.1,i.2,h⟩,λ⟨i,hi,h⟩=>⟨⟨i,hi⟩,h⟩⟩
def LY(p:Nat->Pt)(n:Nat)(x:Pt):Int:=if D8 p n x then 0 else if lq p n x≠0 then 1 else -1
theorem KX(hp:∀ i,p (i+n)=p i)(a:∀ i,i<n->¬ meet x z (p i) (p (i+1))):LY p n x=LY p n z:=by have d:¬ D8 p n x:=λ⟨i,b,h⟩=>a i b (.inr (.inr (.inl h)));have c:¬ D8 p n z:=λ⟨i,b,h⟩=>a i b (.inr (.inr (.inr (.inl h))));rw[LY,LY,if_neg d,if_neg c,Qq hp a]
theorem Lm(a:0<D)(x:Pt):D8 (λi=>scp D (p i)) n (scp D x)↔D8 p n x:=by unfold D8;exact exists_congr λi=>and_congr Iff.rfl (xB a)
theorem Uj(a:0<D)(x:Pt):LY (λi=>scp D (p i)) n (scp D x)=LY p n x:=by
 have e:lq (λi=>scp D (p i)) n (scp D x)=lq p n x:=uH λi _ _=>Wq a x _ _;unfold LY;rw[e];by_cases h:D8 p n x
 . rw[if_pos h,if_pos ((Lm a x).2 h)]
 . rw[if_neg h,if_neg λh'=>h ((Lm a x).1 h')]
end
section
open Go Go.Skm
variable {n u v w:Int}{l:List V3}
def pt(v:V3):Pt:=⟨v.x,v.y⟩
theorem Oh(a b c:V3):turn (pt a) (pt b) (pt c)=area a b c:=rfl
theorem nM:0<iY n↔0<n:=by unfold iY;split<;>(try split)<;>omega
theorem AO:iY n<0↔n<0:=by unfold iY;split<;>(try split)<;>omega
theorem AP:iY n=0↔n=0:=by unfold iY;split<;>(try split)<;>omega
theorem uy(n:Int):iY n=-1\/iY n=0\/iY n=1:=by grind[iY]
theorem Ed(a b c:Int):decide (iY (a-c)*iY (b-c)<=0)=decide (btw a b c):=by rw[decide_eq_decide];have h:=nM (n:=a-c);have g:=AO (n:=a-c);have f:=nM (n:=b-c);have h4:=AO (n:=b-c);unfold btw;rcases uy (a-c)with e | e | e<;>rcases uy (b-c)with d | d | d<;>rw[e,d]<;>rw[e]at h g<;>rw[d]at f h4<;>omega
theorem IL(a b p:V3):xP a b p=decide (on (pt a) (pt b) (pt p)):=by
 have c:∀ x y z:Int,(goMin x y<=z/\z<=goMax x y)↔btw x y z:=by grind[goMin,goMax,btw]
 rw[Bool.eq_iff_iff,qDa];unfold xP on;simp only[qBa,qDa,beq_iff_eq,jR,AP,Oh];show _↔area a b p=0/\btw a.x b.x p.x/\btw a.y b.y p.y;grind
theorem Oi(a b:Int):decide (iY a*iY b<0)=decide (a*b<0):=by
 rw[decide_eq_decide];rcases Int.lt_trichotomy a 0 with c | c | c<;>rcases Int.lt_trichotomy b 0 with d | d | d
 . have:=Int.mul_pos_of_neg_of_neg c d;have f:iY a=-1:=if_pos c;have e:iY b=-1:=if_pos d;grind
 . subst d;simp[iY]
 . have:=Int.mul_neg_of_neg_of_pos c d;grind[iY]
 . subst c;simp[iY]
 . subst c;simp[iY]
 . subst c;simp[iY]
 . have:=Int.mul_neg_of_pos_of_neg c d;grind[iY]
 . subst d;simp[iY]
 . have:=Int.mul_pos c d;grind[iY]
theorem Ho(a b c d:V3):sD a b c d=decide (meet (pt a) (pt b) (pt c) (pt d)):=by have f:=Oi (area a b c) (area a b d);have e:=Oi (area c d a) (area c d b);rw[decide_eq_decide]at f e;rw[Bool.eq_iff_iff,qDa];simp_all[IL,Bool.or_eq_true,qBa,qDa,Oh,jR,sD,meet]
theorem Oj(v:V3):pt (flat v)=pt v:=rfl
def pts(l:List V3)(i:Nat):Pt:=pt (gt l (i%l.length))
theorem IQ(l:List V3)(i:Nat):pts l (i+l.length)=pts l i:=by unfold pts;rw[Nat.add_mod_right]
theorem Cj{i:Nat}(h:i<l.length):pts l i=pt (ca l i):=by unfold pts;rw[Nat.mod_eq_of_lt h]
theorem yT(l:List V3)(i:Nat):pts l (i+1)=pt (cb l i):=rfl
def Tq(a b:V3)(u v w:Int):Int:=(b.x-a.x)*(v-a.y*w)-(b.y-a.y)*(u-a.x*w)
def JE(u v w:Int)(e:jW):Bool:=(iY (Tq e.1 e.2 u v w)==0)&&(decide (iY (e.1.x*w-u)*iY (e.2.x*w-u)<=0)&&decide (iY (e.1.y*w-v)*iY (e.2.y*w-v)<=0))
def JF(u v w:Int)(e:jW):Int:=if iY (e.1.y*w-v)<=0/\0<iY (e.2.y*w-v)/\0<iY (Tq e.1 e.2 u v w)then 1 else if iY (e.2.y*w-v)<=0/\0<iY (e.1.y*w-v)/\iY (Tq e.1 e.2 u v w)<0 then -1 else 0
theorem Ee(a b:V3)(u v w:Int):turn (scp w (pt a)) (scp w (pt b)) ⟨u,v⟩=w*Tq a b u v w:=by unfold turn scp pt Tq;grind
theorem Ef(d:0<w)(e:jW):JE u v w e=decide (on (scp w (pt e.1)) (scp w (pt e.2)) ⟨u,v⟩):=by
 have a:∀ x:Int,x*w=w*x:=λx=>Int.mul_comm _ _;have b:(iY (Tq e.1 e.2 u v w)==0)=decide (turn (scp w (pt e.1)) (scp w (pt e.2)) ⟨u,v⟩=0):=by
  rw[Ee];have c:=AP (n:=Tq e.1 e.2 u v w);by_cases h:Tq e.1 e.2 u v w=0
  . grind
  . rw[decide_eq_false λh'=>h ((Int.mul_eq_zero.1 h').resolve_left (by omega))];grind
 unfold JE;rw[b,a,a,a,a,Ed,Ed,Bool.eq_iff_iff,qDa];unfold on;simp only[qBa,qDa];exact Iff.rfl
theorem Rj(a:0<w)(e:jW):JF u v w e=cr ⟨u,v⟩ (scp w (pt e.1)) (scp w (pt e.2)):=by
 have f:∀ x:Int,x*w=w*x:=λx=>Int.mul_comm _ _;have d:0<iY (Tq e.1 e.2 u v w)↔0<turn (scp w (pt e.1)) (scp w (pt e.2)) ⟨u,v⟩:=by rw[Ee,nM];exact⟨λh=>Int.mul_pos a h,λh=>iH a (by rw[Int.mul_comm];exact h)⟩
 have c:iY (Tq e.1 e.2 u v w)<0↔turn (scp w (pt e.1)) (scp w (pt e.2)) ⟨u,v⟩<0:=by rw[Ee,AO];exact⟨λh=>Int.mul_neg_of_pos_of_neg a h,λh=>dQ a (by rw[Int.mul_comm];exact h)⟩
 have b:∀ x y:Int,(iY (x-y)<=0↔x<=y)/\(0<iY (x-y)↔y<x):=λx y=>by have g:=nM (n:=x-y);omega
 unfold JF cr;simp only[d,c,f,(b _ _).1,(b _ _).2];rfl
def D7(u v w:Int):List jW->Int
 |[]=>0
 | e::r=>JF u v w e+D7 u v w r
def X3(u v w:Int)(es:List jW):Int:=if es.any (JE u v w)then 0 else if D7 u v w es≠0 then 1 else -1
def uz(l:List V3)(u v w:Int):Int:=LY (λi=>scp w (pts l i)) l.length ⟨u,v⟩
theorem IU{u v w:Int}(d:0<w)(l:List V3):∀ n,n<=l.length->D7 u v w (uU l n)=sg (λi=>cr ⟨u,v⟩ (scp w (pts l i)) (scp w (pts l (i+1)))) 0 n
 | 0,_=>rfl
 | n+1,hn=>by
  have c:∀ a b:List jW,D7 u v w (a++b)=D7 u v w a+D7 u v w b:=by
   intro a b;induction a with
   | nil=>simp[D7]
   | cons e r f=>simp only[List.cons_append,D7,f];omega
  rw[uD,c,IU d l n (by omega),sg,qNz];show _+(JF u v w (flat (ca l n),flat (cb l n))+0)=_;rw[Rj d,Int.add_zero,Cj (by omega),yT];rfl
theorem MK(b:0<w)(l:List V3):X3 u v w (dJ l)=uz l u v w:=by
 unfold X3 uz LY;have f:(dJ l).any (JE u v w)=decide (D8 (λi=>scp w (pts l i)) l.length ⟨u,v⟩):=by
  rw[Bool.eq_iff_iff,qDa,List.any_eq_true];unfold D8;constructor
  . rintro ⟨e,c,h⟩;simp only[dJ,uU,List.mem_map,List.mem_range]at c;obtain⟨i,a,rfl⟩:=c;rw[Ef b,qDa]at h;refine⟨i,a,?_⟩;show on (scp w (pts l i)) (scp w (pts l (i+1))) _;rw[Cj a,yT];exact h
  . rintro ⟨i,a,h⟩;have h:on (scp w (pts l i)) (scp w (pts l (i+1))) ⟨u,v⟩:=h;rw[Cj a,yT]at h;refine⟨(flat (ca l i),flat (cb l i)),List.mem_map.2 ⟨i,List.mem_range.2 a,rfl⟩,?_⟩;rw[Ef b,qDa];exact h
 rw[f,IU b l _ (qNr _)];by_cases d:D8 (λi=>scp w (pts l i)) l.length ⟨u,v⟩
 . grind
 . rw[if_neg d,if_neg (by rw[decide_eq_false d];decide)];rfl
theorem yU(l:List V3)(u v w:Int){k:Int}(a:0<k):uz l (k*u) (k*v) (k*w)=uz l u v w:=by
 unfold uz;have e:(λi=>scp (k*w) (pts l i))=λi=>scp k (scp w (pts l i)):=by simp[Int.mul_assoc,scp]
 rw[e];exact Uj a ⟨u,v⟩
theorem Rk(l:List V3){b a w':Int}(d:0<w)(c:0<w')(f:u*w'=b*w)(e:v*w'=a*w):uz l u v w=uz l b a w':=by rw[<- yU l u v w c,<- yU l b a w' d];grind
theorem PU(h:dO l=true):Poly (pts l) l.length:=by
 rw[<- Fp]at h;unfold J5 at h;rw[qBa,jo]at h;obtain⟨s,hp⟩:=h;unfold Dw at s;simp only[qBa,qDa]at s;obtain⟨⟨t,_⟩,_⟩:=s;have d:∀ i,i<l.length->Ol l i=true/\∀ k,k<l.length->okD l i k=true:=λi A=>by simp_all[qBa,jo]
 have c:∀ i,i%l.length<l.length:=λi=>qNm _ (by omega);have p:∀ i,pts l i=pt (ca l (i%l.length)):=λi=>rfl;have f:∀ i,pts l (i+1)=pt (cb l (i%l.length)):=λi=>by unfold pts cb oP;simp
 have a:∀ i m,(i+m)%l.length=(i%l.length+m)%l.length:=λi m=>(Nat.mod_add_mod _ _ _).symm;refine⟨t,IQ l,λi e=>?_,λi m C B r=>?_,λi q=>?_,λi q=>?_⟩
 . have:=(d _ (c i)).1;rw[p,f]at e;unfold Ol at this;simp only[pt,Pt.mk.injEq]at e;grind
 . have j:=(d _ (c i)).2 _ (c (i+m));rw[p,f,p (i+m),f]at r;have g:=c i;have b:(i+m)%l.length=if i%l.length+m<l.length then i%l.length+m else i%l.length+m-l.length:=by
    rw[a];split
    . rename_i h;exact Nat.mod_eq_of_lt h
    . rename_i h;rw[Nat.mod_eq_sub_mod (by omega),Nat.mod_eq_of_lt (by omega)]
   have nv:∀ k,k<l.length->oP l.length k=if k+1<l.length then k+1 else 0:=λk z=>by
    unfold oP;split
    . rename_i h;exact Nat.mod_eq_of_lt h
    . rename_i h;have:k+1=l.length:=by omega
      simp_all
   have o:¬(i+m)%l.length=i%l.length:=by rw[b];split<;>omega
   have y:¬(i+m)%l.length=oP l.length (i%l.length):=by rw[b,nv _ g];split<;>split<;>omega
   have x:¬ i%l.length=oP l.length ((i+m)%l.length):=by rw[nv _ (c _),b];split<;>split<;>omega
   grind[Ho,okD]
 . have j:=(d _ (c i)).2 _ (c (i+1));have e:(i+1)%l.length=oP l.length (i%l.length):=by unfold oP;exact a i 1
   have g:=c i;have o:¬(i+1)%l.length=i%l.length:=by
    rw[a];by_cases h:i%l.length+1<l.length
    . rw[Nat.mod_eq_of_lt h];omega
    . have:i%l.length+1=l.length:=by omega
      rw[this,Nat.mod_self];omega
   unfold okD at j;rw[if_neg o,if_pos e,qBa]at j;grind[IL]
 . have j:=(d _ (c i)).2 _ (c (i+1));have e:(i+1)%l.length=oP l.length (i%l.length):=by unfold oP;exact a i 1
   have g:=c i;have o:¬(i+1)%l.length=i%l.length:=by
    rw[a];by_cases h:i%l.length+1<l.length
    . rw[Nat.mod_eq_of_lt h];omega
    . have:i%l.length+1=l.length:=by omega
      rw[this,Nat.mod_self];omega
   unfold okD at j;rw[if_neg o,if_pos e,qBa]at j;grind[IL]
end
end Go.Skm.Fen
