import Derived.Test.YtoheflpoanjihaaGreatO2
import Derived.Test.YtoheflpoanjihaaGreatM2
import Derived.Test.YtoheflpoanjihaaGreatN1
import Derived.Test.YtoheflpoanjihaaGreatG19
import Derived.Test.YtoheflpoanjihaaGreatPolyH
set_option linter.all false
namespace Go.Skm.Fen
open Go Go.Skm
section
open Go.Skm.Dig
variable {f:Fen}{t:Int}{a:V3}
theorem alM{c:Bool}{α:Type}{a b x:α}(e:c=true->a=x)(d:c=false->b=x):cond c a b=x:=by cases c<;>simp_all
theorem Lm(c:sS f)(b:Int):sS (jd f b):=by refine⟨by simpa[jd,nP] using c.outer,?_,by simpa[jd] using c.len⟩;intro h d;simp only[jd,List.mem_map]at d;obtain⟨x,e,rfl⟩:=d;rw[nP];exact c.holes x e
theorem aak{n:Int}(h:-1048576000<=n/\n<=1048576000):Rt.ok ⟨n,100⟩/\yA ⟨n,100⟩=false:=by have b1:bl n.natAbs<=64:=JC (by show n.natAbs<2^64;omega);have b:bl (100:Int).natAbs<=64:=JC (by decide);refine⟨⟨Nat.le_trans b1 (by decide),Nat.le_trans b (by decide),show(0:Int)<100 by decide⟩,?_⟩;unfold yA;refine decide_eq_false ?_;rw[not_or];exact⟨by show ¬ 8192<bl n.natAbs;omega,by show ¬ 8192<bl (100:Int).natAbs;omega⟩
theorem aal{s p:Int}(c:-1048576<=s/\s<=1048576)(b:-1048576<=t/\t<=1048576)(hp:0<=p/\p<=100):-1048576000<=s*(100-p)+t*p/\s*(100-p)+t*p<=1048576000:=by have g:=Int.mul_le_mul_of_nonneg_right c.1 (show 0<=100-p by omega);have e:=Int.mul_le_mul_of_nonneg_right c.2 (show 0<=100-p by omega);have d:=Int.mul_le_mul_of_nonneg_right b.1 hp.1;have h4:=Int.mul_le_mul_of_nonneg_right b.2 hp.1;omega
theorem alN{e:pG}(h:qY e.1/\qY e.2):(-1099511627776<=e.1.x*e.2.y/\e.1.x*e.2.y<=1099511627776)∧-1099511627776<=e.1.y*e.2.x/\e.1.y*e.2.x<=1099511627776:=by
 obtain⟨⟨⟨o,n⟩,⟨m,l⟩,-⟩,⟨b1,k⟩,⟨j,i⟩,-⟩:=h;have b:∀ u v:Int,-1048576<=u->u<=1048576→-1048576<=v->v<=1048576→-1099511627776<=u*v/\u*v<=1099511627776:=λu v g d p h4=>by
  rcases Int.le_total 0 v with c | c
  . have:=Int.mul_le_mul_of_nonneg_right g c;have:=Int.mul_le_mul_of_nonneg_right d c;omega
  . have:=Int.mul_le_mul_of_nonpos_right g c;have:=Int.mul_le_mul_of_nonpos_right d c;omega
 exact⟨b _ _ o n j i,b _ _ m l b1 k⟩
theorem holds_zero(c:eX f=true){b:V3}(e:rF 1048576 a=true)(d:rF 1048576 b=true):(vC f a b).2=0:=by
 unfold vC;rw[if_pos c,if_pos e,if_pos d];split
 . split
   . split<;>rfl
   . rfl
 . rfl
theorem aep(c:eX f=true)(b:rF 1048576 a=true):(vC f a a).1=kK f a:=by unfold vC;rw[if_pos c,if_pos b];cases kK f a<;>simp[b]
theorem af4{i:Nat}(h:i<f.holes.length):(dG (jd f t).holes).take i++[.list true aU (bT (iJ (gh f.holes i) t))]=(dG (jd f t).holes).take (i+1):=by
 have b:i<(dG (jd f t).holes).length:=by simp[dG,jd];exact h
 rw[List.take_succ_eq_append_getElem b];congr 2;simp[dG,jd,gh,h]
section
variable (X:Ext) (hX:Mine X) (hB:Bits X) (hE:OE X) (hS:Sorts X)
include hX hB hE hS
theorem apS(f:Fen)(k:sS f)(e:eX f=true)(a b:V3)(j:rF 1048576 a=true)(i:rF 1048576 b=true)(t p m:Int)(hp:0<=p/\p<=100) :
    ak4 (run tab X) (bT f.outer) (dG f.holes) f.low f.high a.x a.y a.z b.x b.y b.z p (bT (jd f t).outer) (dG (jd f t).holes) f.low f.high m m=some ([Ac true],[]):=by
  have r:=c11 X hX hB hE hS;have q:=c28 X hX hB hE hS f k a b;have g:=c28 X hX hB hE hS (jd f t) (Lm k t) b a;rw[aen e t j i]at g;rw[kZ,cO,cO]at q g;change run tab X 28 [.p (.agg [.list true aU (bT (jd f t).outer),.list false [.slice true aU] (dG (jd f t).holes),Ap f.low,Ap f.high]),_,_] []=_ at g;unfold ak4;rw[bne_self_eq_false,qCf,q,qOb,g,qOb];simp only[ND,qLh,List.tail_cons,bV,bf,toInt_int,holds_zero e j i,bne_self_eq_false,qCf,beq_self_eq_true,qBt];cases h:(vC f a b).1 with
  | false=>rw[qCf,r];rfl
  | true =>have hA:=Le.1 j;have c:=Le.1 i;have v:=c36 X hX hB a.x b.x p hA.1 c.1 hp;have u:=c36 X hX hB a.y b.y p hA.2.1 c.2.1 hp;have s:=c36 X hX hB a.z b.z p hA.2.2 c.2.2 hp;have o:=aak (aal hA.1 c.1 hp);have n:=aak (aal hA.2.1 c.2.1 hp);have l:=aak (aal hA.2.2 c.2.2 hp);have d:=c24 X hX hB f k ⟨a.x*(100-p)+b.x*p,100⟩ ⟨a.y*(100-p)+b.y*p,100⟩ ⟨a.z*(100-p)+b.z*p,100⟩;rw[kZ,uG,uG,uG,atP,if_pos ⟨o.1,n.1,l.1⟩,if_pos e,o.2,n.2,l.2,Bool.or_self,Bool.or_self,if_neg Bool.false_ne_true,alK e (ajm e j i h) hp]at d;rw[qCt,v,qOb,u,qOb,s,qOb];simp only[qLh,bV,ajo];rw[d,qOb,r];rfl
theorem apT(f:Fen)(c:sS f)(b:eX f=true)(a:V3)(g:rF 1048576 a=true)(t:Int)(k:Int->List PV->List PV->Int->Int->St)(r:Option (List AV × List bZ))
    (h:L tab (run tab X) 10 [] [.rg [1,1,1,1,1,1,1,1,1,1,1,1,1,0,1,0] [(true,aU),(true,aU)] ((iD f).map eY)] (k (BQ f) (bT f.outer) (dG f.holes) f.low f.high)=r) :
    ak3 (run tab X) (bT f.outer) (dG f.holes) f.low f.high a.x a.y a.z (bT (jd f t).outer) (dG (jd f t).holes) f.low f.high k=r:=by
  have m:=V4 b t;have l:=c20 X hX f c a;have d:=c20 X hX (jd f t) (Lm c t) a;have o:=c28 X hX hB hE hS f c a a;have j:=c18 X hX (jd f t) (Lm c t);have n:=c16 X hX f c;have i:=c16 X hX (jd f t) (Lm c t);have s:=c31 X hX f;have q:=hE.e f c;have v:QO f a=(kK f a,0):=by unfold QO;rw[if_pos b,if_pos g]
  have u:QO (jd f t) a=(kK f a,0):=by unfold QO;rw[if_pos m,if_pos g,JR b]
  have C:JH f=(BQ f,0):=by unfold JH;rw[if_pos b]
  have B:JH (jd f t)=(BQ f,0):=by unfold JH;rw[if_pos m,aem b]
  rw[v]at l;rw[u]at d;rw[m]at j;rw[C]at n;rw[B]at i;rw[vg,if_pos b]at q;rw[kZ]at l d o j n i s;rw[cO]at l d o;have A:(jd f t).low=f.low:=rfl;have w:(jd f t).high=f.high:=rfl;rw[A,w]at d j i;unfold ak3;rw[l,qOb,d,qOb,o,qOb,j,qOb];simp only[ND,qLh,List.tail_cons,bV,bf,toInt_int,holds_zero b g g,aep b g,bne_self_eq_false,qCf,beq_self_eq_true,qBt];rw[n,qOb,i,qOb,s,qOb];simp only[qLh,List.tail_cons,bV,toInt_int,bne_self_eq_false,qCf];show(run tab X 87 [.yL,.p (.ref (I4 f))] [.log true []]).bind _=_;rw[q,qOb];exact h
abbrev w10(ys:List PV):Wy:=.rg [1,1,1,1,1,1,1,1,1,1,1,1,1,0,1,0] [(true,aU),(true,aU)] ys
abbrev v10:Wy:=.lp [1,0,1,1,0]
theorem l10(f:Fen)(w:sS f)(k:eX f=true)(K:Int->St)(Z:Int->V3->Int->St)(m:Int)(r:List AV × List bZ)
    (D:∀ s,s=m->L tab (run tab X) 10 [] [w10 []] (K s)=some r)
    (C:∀ s (e:pG) ys,L tab (run tab X) 10 [] [w10 (eY e::ys)] (K s)=L tab (run tab X) 10 [] [w10 ys,v10] (Z (IntKind.i64.wrap (s+(IntKind.i64.wrap ((IntKind.i64.wrap (e.1.x*e.2.y))-(IntKind.i64.wrap (e.1.y*e.2.x)))))) e.1 0))
    (j:∀ ys s c i,R tab (run tab X) 10 [] [w10 ys,v10] (Z s c i)=agW (run tab X) (bT f.outer) (dG f.holes) f.low f.high 0 2 2 i c.x c.y [Ap f.low,Ap f.high] (L tab (run tab X) 10 [] [w10 ys,v10] (Z s c (IntKind.i64.wrap (i+1)))) (L tab (run tab X) 10 [] [w10 ys] (K s))) :
    ∀(b:List pG) (s:Int),(∀ e∈b,e∈iD f)->b.length<=2000->s+BA b=m→-4398046511104*(2000-(b.length:Int))<=s->s<=4398046511104*(2000-(b.length:Int))->L tab (run tab X) 10 [] [w10 (b.map eY)] (K s)=some r:=by
  intro b;induction b with
  | nil =>intro s _ _ h _ _;exact D s (by simpa[BA] using h)
  | cons e b v =>
   intro s n A h o s2;have l:=n e (List.mem_cons_self ..);obtain⟨⟨H,G⟩,F,E⟩:=alN (zn k e l);simp only[qLl]at A o s2;have g:s+(e.1.x*e.2.y-e.1.y*e.2.x)+BA b=m:=by rw[<- h];simp only[BA,QS];omega
   have p:=v _ (λd hd=>n d (List.mem_cons_of_mem _ hd)) (by omega) g (by omega) (by omega);rw[List.map_cons,C,wrap_eq (x:=e.1.x*e.2.y) (by omega) (by omega),wrap_eq (x:=e.1.y*e.2.x) (by omega) (by omega),wrap_eq (x:=e.1.x*e.2.y-e.1.y*e.2.x) (by omega) (by omega),wrap_eq (x:=s+(e.1.x*e.2.y-e.1.y*e.2.x)) (by omega) (by omega)];have z:=λu q i B=>avD X hX hB hE hS f w k l u q (i:=i) B;refine dU ?_;rw[j];refine(z _ _ 0 (by decide)).trans ?_;refine dU ?_;rw[show IntKind.i64.wrap (0+1)=1 from rfl,j];refine(z _ _ 1 (by decide)).trans ?_;refine dU ?_;rw[show IntKind.i64.wrap (1+1)=2 from rfl,j,apR];exact p
abbrev apU:List Wy:=[.lp [1,1,1,0,1,0]]
theorem avE(f:Fen)(g:sS f)(d:eX f=true)(a b:V3)(u:rF 1048576 a=true)(A:rF 1048576 b=true)(t p:Int)(w:-1000<=t/\t<=1000)(hp:0<=p/\p<=100):∀(k i:Nat),i+k=f.holes.length->0<i ->
    L tab (run tab X) 10 [] apU (zL t (dG f.holes) ((f.holes.length:Nat):Int) (i:Int) (bT f.outer) (dG f.holes) f.low f.high a.x a.y a.z b.x b.y b.z p false (bT (jd f t).outer) 0 i f.low f.high ((dG (jd f t).holes).take i))=some ([Ac true],[]):=by
  intro k;have l:(dG (jd f t).holes).length=f.holes.length:=by simp[dG,jd]
  induction k with
  | zero =>
   intro i r _;rw[Nat.add_zero]at r;refine dU ?_;rw[MP,O3 (by omega),qCf,qLy,List.take_of_length_le (by simp[l];omega),List.take_of_length_le (by omega)];refine apT X hX hB hE hS f g d a u t _ _ ?_
   refine l10 X hX hB hE hS f g d (λs=>jX (BQ f) (bT f.outer) (dG f.holes) f.low f.high (bT f.outer) (dG f.holes) f.low f.high a.x a.y a.z b.x b.y b.z p false (bT (jd f t).outer) 0 i f.low f.high (dG (jd f t).holes) s)
    (λs c j=>jw (BQ f) (bT f.outer) (dG f.holes) f.low f.high 0 2 2 j (bT f.outer) (dG f.holes) f.low f.high a.x a.y a.z b.x b.y b.z p false (bT (jd f t).outer) 0 i f.low f.high (dG (jd f t).holes) s c.x c.y c.z [Ap f.low,Ap f.high]) (BQ f) _ ?_ ?_ ?_ (iD f) 0 (λ_ h=>h) (wL d) ?_ ?_ ?_
   . rintro s rfl;rw[CP,qLy,List.take_of_length_le (by omega)];exact apS X hX hB hE hS f g d a b u A t p _ hp
   . intro s e ys;exact Bo ..
   . intro ys s c j;exact Am ..
   . rw[Int.zero_add];exact V5 d
   . have:=wL d;omega
   . have:=wL d;omega
  | succ k v =>
   intro i r B;have m:i<f.holes.length:=by omega
   have o:=v (i+1) (by omega) (by omega);have n:=c35 X hX (gh f.holes i) t (by have:=g.holes (gh f.holes i) (by rw[gh];grind);exact this) w;refine dU ?_;rw[MP,F6 m,qCt,dL,rng m,qCt,qIt,kX _ m];simp only[PV.cell,PV.toList];show(run tab X 35 [.p (.list true aU (bT (gh f.holes i))),_] []).bind _=_;have q:=g.len;rw[n,qOb,show F5 (i+1) 2147483648=true from decide_eq_true (by omega),qCt,kG (by omega),qLy,List.take_of_length_le (by simp[l];omega)];rw[<- af4 m]at o;exact o
theorem avF(f:Fen)(g:sS f)(d:eX f=true)(a b:V3)(k:rF 1048576 a=true)(q:rF 1048576 b=true)(t p:Int)(n:-1000<=t/\t<=1000)(hp:0<=p/\p<=100) :
    L tab (run tab X) 10 [] apU (Nv t (dG f.holes) ((f.holes.length:Nat):Int) 0 (bT f.outer) (dG f.holes) f.low f.high a.x a.y a.z b.x b.y b.z p false (bT (jd f t).outer) f.low f.high)=some ([Ac true],[]):=by
  have B:(dG (jd f t).holes).length=f.holes.length:=by simp[dG,jd]
  refine dU ?_;rw[adX];by_cases o:0<f.holes.length
  . have l:=avE X hX hB hE hS f g d a b k q t p n hp (f.holes.length-1) 1 (by omega) (by omega);have i:=c35 X hX (gh f.holes 0) t (by have:=g.holes (gh f.holes 0) (by rw[gh];grind);exact this) n;have C:=kX f.holes o;rw[show cu 0 ((f.holes.length:Nat):Int)=true from decide_eq_true (by omega),qCt,dL,show cu 0 ((f.holes.length:Nat):Int)=true from decide_eq_true (by omega),show leI 0 0=true from rfl,qBs,qCt,show(0:Int).toNat=0 from rfl,C];show(run tab X 35 [.p (.list true aU (bT (gh f.holes 0))),_] []).bind _=_;rw[i,qOb];have:=af4 (f:=f) (t:=t) o;rw[<- this,List.take_zero,List.nil_append]at l;exact l
  . have r:dG (jd f t).holes=[]:=List.eq_nil_of_length_eq_zero (by omega);rw[show cu 0 ((f.holes.length:Nat):Int)=false from decide_eq_false (by omega),qCf];have:=apT X hX hB hE hS f g d a k t (λm A w v u=>jW m A w v u (bT f.outer) (dG f.holes) f.low f.high a.x a.y a.z b.x b.y b.z p false (bT (jd f t).outer) f.low f.high 0) (some ([Ac true],[]));rw[r]at this;refine this ?_
    refine l10 X hX hB hE hS f g d (λs=>jW (BQ f) (bT f.outer) (dG f.holes) f.low f.high (bT f.outer) (dG f.holes) f.low f.high a.x a.y a.z b.x b.y b.z p false (bT (jd f t).outer) f.low f.high s)
     (λs c j=>kD (BQ f) (bT f.outer) (dG f.holes) f.low f.high 0 2 2 j (bT f.outer) (dG f.holes) f.low f.high a.x a.y a.z b.x b.y b.z p false (bT (jd f t).outer) f.low f.high s c.x c.y c.z [Ap f.low,Ap f.high]) (BQ f) _ ?_ ?_ ?_ (iD f) 0 (λ_ h=>h) (wL d) ?_ ?_ ?_
    . rintro s rfl;rw[Fh];have:=apS X hX hB hE hS f g d a b k q t p (BQ f) hp;rw[r]at this;exact this
    . intro s e ys;exact Ey ..
    . intro ys s c j;exact DV ..
    . rw[Int.zero_add];exact V5 d
    . have:=wL d;omega
    . have:=wL d;omega
theorem apr(f:Fen)(l:amY f)(a b:V3)(t p:Int):run tab X 10 [.p (kZ f),.p (cO a),.p (cO b),Ab t,Ab p] []=some ([Ac true],[]):=
 aY (hX _ rfl) (by
  have c:=c11 X hX hB hE hS;have h:=c15 X hX f l;rw[kZ]at h ⊢;rw[cO,cO,e10,h,qOb];simp only[qLh,bV,bf];cases k:aah f with
  | false=>rw[qBf,qCt,c];rfl
  | true =>
   obtain⟨i,_⟩:=ace k;have d:=c17 X hX f i;have g:=c21 X hX a;have e:=c21 X hX b;rw[aha]at d;rw[kZ]at d;rw[cO]at g e;rw[qBt,qCf,d,qOb];simp only[qLh,bV,bf];cases j:eX f with
   | false=>rw[qBf,qCt,c];rfl
   | true =>
    rw[qBt,qCf,g,qOb];simp only[qLh,bV,bf];cases n:rF 1048576 a with
    | false=>rw[qBf,qCt,c];rfl
    | true =>
     rw[qBt,qCf,e,qOb];simp only[qLh,bV,bf];cases m:rF 1048576 b with
     | false=>rw[qBf,qCt,c];rfl
     | true =>rw[qBt,qCf];refine alM (λ_=>by rw[c];rfl) λr=>?_;refine alM (λ_=>by rw[c];rfl) λq=>?_;refine alM (λ_=>by rw[c];rfl) λo=>?_;refine alM (λ_=>by rw[c];rfl) λh4=>?_;have w:¬ t < -1000:=of_decide_eq_false r;have v:¬ t > 1000:=of_decide_eq_false q;have u:¬ p<0:=of_decide_eq_false o;have s:¬ p > 100:=of_decide_eq_false h4;rw[c35 X hX f.outer t i.outer (by omega),qOb,dL];exact avF X hX hB hE hS f i j a b n m t p (by omega) (by omega))
end
end
section
section
variable {P:Program} {w:World} {M:Nat->Prop}
theorem RU{H:Type}{enc:TypeId × Value->H}{base:Nat}{b:Nat->Bool}{a:Bool}:∀{ts:List TypeId} {vs:List Value} {ds:List (DataW H)} {c:List MemPlace},DataW.TrodAll enc P w base b a ts vs ds c->ds.length=ts.length
 |[],[],[],_,_=>rfl
 | _::_,_::_,_::_,_,⟨_,_,_,h2,_⟩=>by rw[qLl,qLl,RU h2]
end
end
end Go.Skm.Fen
