import Derived.Test.YtoheflpoanjihaaGreatW14
import Derived.Test.YtoheflpoanjihaaGreatEqd
import Derived.Shelf.SlGeneric
import Derived.Shelf.SlSortCmp.NoneTotal
import Derived.Shelf.SlicesE.Clone
import Derived.Ground.SlsfProg
import Derived.Ground.SlgnProg
import Derived.Test.YtoheflpoanjihaaGreatProg
import Derived.Test.YtoheflpoanjihaaGreatG22
import Derived.Test.YtoheflpoanjihaaGreatTabOk
import Derived.Test.YtoheflpoanjihaaGreatSkmH
import Derived.Shelf.Spec.BitsCarry
import Derived.Test.YtoheflpoanjihaaGreatF5
set_option linter.all false
namespace Go.Skm.Fen
open Go Go.Skm Go.Skm.Dig
section
theorem wrapM(x:Int):IntKind.u64.wrap x=x%18446744073709551616:=rfl
theorem akJ(x:Nat)(a:x<bH):IntKind.u64.wrap (((BitVec.ofInt IntKind.u64.bits (x:Int)) &&& (BitVec.ofInt IntKind.u64.bits (4294967295:Int))).toNat:Nat)=((x%4294967296:Nat):Int):=by show IntKind.u64.wrap (((BitVec.ofInt 64 (x:Int)) &&& (BitVec.ofInt 64 ((4294967295:Nat):Int))).toNat:Nat)=_;rw[BitVec.ofInt_natCast,BitVec.ofInt_natCast,BitVec.toNat_and,BitVec.toNat_ofNat,BitVec.toNat_ofNat,Nat.mod_eq_of_lt (show x<2^64 from a),Nat.mod_eq_of_lt (show 4294967295<2^64 by decide)];rw[show(4294967295:Nat)=2^32-1 from rfl,Nat.and_two_pow_sub_one_eq_mod];have:x%2^32<2^32:=qNm _ (by decide);exact pF (Nat.lt_trans this (by decide))
structure Dv (y1 y0 u v:Nat):Prop where
 lo:2147483648<=y1
 hi:y1<4294967296
 b0:y0<4294967296
 bv:v<4294967296
 bu:u<y1*4294967296+y0
namespace Dv
variable {p r:Nat}
variable {y1 y0 u v:Nat} (D:Dv y1 y0 u v)
include D
theorem q_lt:(u*4294967296+v) / (y1*4294967296+y0)<4294967296:=by have b:=D.bu;have a:=D.bv;rw[Nat.div_lt_iff_lt_mul (by omega)];omega
theorem le_iff(h:r+p*y1=u):p*y0<=4294967296*r+v↔p<=(u*4294967296+v) / (y1*4294967296+y0):=by rw[Nat.le_div_iff_mul_le (by have:=D.bu;omega)];grind
theorem brk(h:r+p*y1=u)(b:4294967296<=r):p<=(u*4294967296+v) / (y1*4294967296+y0):=by
 rw[<- D.le_iff h];have d:=D.bu;have c:=D.b0;have hp:p<4294967296:=by
  have:p*y1<4294967296*y1:=by omega
  exact Nat.lt_of_mul_lt_mul_right this
 have a:p*y0<=4294967296*4294967296:=Nat.mul_le_mul (by omega) (by omega);omega
theorem start:(u*4294967296+v) / (y1*4294967296+y0)<=u / y1:=by have c:=D.lo;have b:=D.bv;rw[Nat.le_div_iff_mul_le (by omega)];have a:=Nat.div_mul_le_self (u*4294967296+v) (y1*4294967296+y0);grind
end Dv
theorem asc{a v b:Int}{m:Nat}(h:a+v-b=(m:Int))(c:m<bH):IntKind.u64.wrap (IntKind.u64.wrap (IntKind.u64.wrap a+v)-IntKind.u64.wrap b)=(m:Int):=by grind[wrapM]
theorem amq(N y:Nat):(N:Int)-((N / y:Nat):Int)*(y:Int)=((N%y:Nat):Int):=by have h:=Nat.div_add_mod N y;grind
abbrev wD1:List Wy:=[.lp [1,1,1,1,1,1,1,1,1,1,1,1,1,1,0,0]]
abbrev wD2:List Wy:=[.lp [1,1,1,1,1,1,1,1,1,1,1,1,1,1,1,1,1,1,0,0]]
abbrev afi(u v y p:Int):Int:=IntKind.u64.wrap (IntKind.u64.wrap (IntKind.u64.wrap (u*4294967296)+v)-IntKind.u64.wrap (p*y))
abbrev exB(q1 un0 afi y s p:Int):Option (List AV × List bZ):=bif (!(cu s (0:Int)))then some ([.p (.int .u64 (IntKind.u64.wrap ((IntKind.u64.wrap (q1*(4294967296:Int)))+p))),.p (.int .u64 ((IntKind.u64.wrap ((IntKind.u64.wrap ((IntKind.u64.wrap (afi*(4294967296:Int)))+un0))-(IntKind.u64.wrap (p*y)))).fdiv (2^(min s.toNat IntKind.u64.bits))))],[])else none
section
variable (X:Ext) (hX:Mine X)
include hX
noncomputable abbrev exA(y s y1 y0 u v u0 p:Int):Option (List AV × List bZ):=bif (!(Je y1 (0:Int)))then L tab (run tab X) 191 [] wD2 (fZ y s y1 y0 u0 p (IntKind.u64.wrap (afi u v y p-IntKind.u64.wrap (IntKind.u64.wrap ((afi u v y p).tdiv y1)*y1))) (afi u v y p) (IntKind.u64.wrap ((afi u v y p).tdiv y1)))else none
theorem tests{y1 y0 u v:Nat}(D:Dv y1 y0 u v){p r:Nat}(b:r<4294967296)(h:r+p*y1=u) :
    (BJ (p:Int) 4294967296=decide (4294967296<=p))/\(p<4294967296->mg (IntKind.u64.wrap ((p:Int)*(y0:Int))) (IntKind.u64.wrap (IntKind.u64.wrap (4294967296*(r:Int))+(v:Int)))=decide (4294967296*r+v<p*y0))/\IntKind.u64.wrap ((r:Int)+(y1:Int))=((r+y1:Nat):Int)/\BJ ((r+y1:Nat):Int) 4294967296=decide (4294967296<=r+y1):=by
  have _:=hX;have _:=h;have e:=D.hi;have d:=D.bv;have c:=D.b0;refine⟨decide_eq_decide.2 (by omega),λhp=>?_,?_,decide_eq_decide.2 (by omega)⟩
  . have a:p*y0<=(4294967296-1)*(4294967296-1):=Nat.mul_le_mul (by omega) (by omega);have i:IntKind.u64.wrap ((p:Int)*(y0:Int))=((p*y0:Nat):Int):=by rw[show(p:Int)*(y0:Int)=((p*y0:Nat):Int) by simp];exact pF (Nat.lt_of_le_of_lt a (by decide))
    have g:IntKind.u64.wrap (4294967296*(r:Int))=((4294967296*r:Nat):Int):=pF (n:=4294967296*r) (by have:bH=18446744073709551616:=rfl;omega);have f:IntKind.u64.wrap (((4294967296*r:Nat):Int)+(v:Int))=((4294967296*r+v:Nat):Int):=pF (n:=4294967296*r+v) (by have:bH=18446744073709551616:=rfl;omega);grind
  . exact pF (n:=r+y1) (by have:bH=18446744073709551616:=rfl;omega)
theorem pred{p:Nat}(a:0<p)(hp:p<17179869184):IntKind.u64.wrap ((p:Int)-1)=((p-1:Nat):Int):=by have _:=hX;rw[show(p:Int)-1=((p-1:Nat):Int) by omega];exact pF (by have:bH=18446744073709551616:=rfl;omega)
theorem lA(y s d:Int){y1 y0 u v:Nat}(D:Dv y1 y0 u v)(a:List AV × List bZ)(c:exA X y s y1 y0 u v d (((u*4294967296+v) / (y1*4294967296+y0):Nat):Int)=some a):∀ p r:Nat,(u*4294967296+v) / (y1*4294967296+y0)<=p->p<17179869184->r<4294967296->r+p*y1=u ->
    L tab (run tab X) 191 [] wD1 (jB y s y1 y0 u v d p r)=some a:=by
  intro p;induction p with
  | zero =>intro r k hp g h;obtain⟨f,e,_⟩:=tests X hX D g h;have n:(u*4294967296+v) / (y1*4294967296+y0)=0:=Nat.le_zero.1 k;rw[n]at c;refine dU ?_;rw[yR,f,decide_eq_false (by omega),qCf,e (by omega),decide_eq_false (by omega),qCf];exact c
  | succ p w =>
   intro r k hp g h;obtain⟨f,e,m,l⟩:=tests X hX D g h;have o:=D.q_lt;have h':r+y1+p*y1=u:=by rw[Nat.add_mul]at h;omega
   have i:4294967296<=r+y1->(u*4294967296+v) / (y1*4294967296+y0)<=p->exA X y s y1 y0 u v d (p:Int)=some a:=λt b=>by have:=D.brk h' t;rw[show p=(u*4294967296+v) / (y1*4294967296+y0) by omega];exact c
   have j:=pred X hX (p:=p+1) (by omega) hp;rw[show p+1-1=p by omega]at j;refine dU ?_;rw[yR,f,m,l,j];by_cases c1:4294967296<=p+1
   . have b:(u*4294967296+v) / (y1*4294967296+y0)<=p:=by omega
     rw[decide_eq_true c1,qCt];by_cases c2:4294967296<=r+y1;all_goals grind
   . rw[decide_eq_false c1,qCf,e (by omega)];by_cases c3:4294967296*r+v<(p+1)*y0
     . have b:(u*4294967296+v) / (y1*4294967296+y0)<=p:=by have:=Nat.lt_of_not_le λq=>absurd ((D.le_iff h).2 q) (by omega);omega
       rw[decide_eq_true c3,qCt];by_cases c2:4294967296<=r+y1;all_goals grind
     . have:=(D.le_iff h).1 (by omega);rw[decide_eq_false c3,qCf];rw[show(u*4294967296+v) / (y1*4294967296+y0)=p+1 by omega]at c;exact c
theorem lB(y s f:Int){y1 y0 u v:Nat}(D:Dv y1 y0 u v)(a:List AV × List bZ)(c:exB f v u y s (((u*4294967296+v) / (y1*4294967296+y0):Nat):Int)=some a):∀ p r:Nat,(u*4294967296+v) / (y1*4294967296+y0)<=p->p<17179869184->r<4294967296->r+p*y1=u ->
    L tab (run tab X) 191 [] wD2 (fZ y s y1 y0 v f r u p)=some a:=by
  intro p;induction p with
  | zero =>intro r k hp g h;obtain⟨e,d,_⟩:=tests X hX D g h;have n:(u*4294967296+v) / (y1*4294967296+y0)=0:=Nat.le_zero.1 k;rw[n]at c;refine dU ?_;rw[uX,e,decide_eq_false (by omega),qCf,d (by omega),decide_eq_false (by omega),qCf];exact c
  | succ p w =>
   intro r k hp g h;obtain⟨e,d,m,l⟩:=tests X hX D g h;have o:=D.q_lt;have h':r+y1+p*y1=u:=by rw[Nat.add_mul]at h;omega
   have i:4294967296<=r+y1->(u*4294967296+v) / (y1*4294967296+y0)<=p->exB f v u y s (p:Int)=some a:=λt b=>by have:=D.brk h' t;rw[show p=(u*4294967296+v) / (y1*4294967296+y0) by omega];exact c
   have j:=pred X hX (p:=p+1) (by omega) hp;rw[show p+1-1=p by omega]at j;refine dU ?_;rw[uX,e,m,l,j];by_cases c1:4294967296<=p+1
   . have b:(u*4294967296+v) / (y1*4294967296+y0)<=p:=by omega
     rw[decide_eq_true c1,qCt];by_cases c2:4294967296<=r+y1;all_goals grind
   . rw[decide_eq_false c1,qCf,d (by omega)];by_cases c3:4294967296*r+v<(p+1)*y0
     . have b:(u*4294967296+v) / (y1*4294967296+y0)<=p:=by have:=Nat.lt_of_not_le λq=>absurd ((D.le_iff h).2 q) (by omega);omega
       rw[decide_eq_true c3,qCt];by_cases c2:4294967296<=r+y1;all_goals grind
     . have:=(D.le_iff h).1 (by omega);rw[decide_eq_false c3,qCf];rw[show(u*4294967296+v) / (y1*4294967296+y0)=p+1 by omega]at c;exact c
theorem ase{d:Nat}(hd:0<d)(a:d<bH):9223372036854775808<=d*2^(64-bl d)/\d*2^(64-bl d)<bH/\64-bl d<64/\bl d<=64:=by
 have _:=hX;have e:=agt hd;have c:=MR d;have b:=adB a;have h4:=abf hd;refine⟨?_,?_,by omega,b⟩
 . have:2^(bl d-1)*2^(64-bl d)<=d*2^(64-bl d):=Nat.mul_le_mul_right _ e;rw[<- Nat.pow_add,show bl d-1+(64-bl d)=63 by omega]at this;exact this
 . have:d*2^(64-bl d)<2^bl d*2^(64-bl d):=Nat.mul_lt_mul_of_pos_right c (Nat.pow_pos (by decide));rw[<- Nat.pow_add,show bl d+(64-bl d)=64 by omega]at this;exact this
theorem akK{u y1:Nat}(a:u<bH)(h:2147483648<=y1):u / y1<17179869184/\IntKind.u64.wrap ((u:Int).tdiv (y1:Int))=((u / y1:Nat):Int)/\IntKind.u64.wrap ((u:Int)-IntKind.u64.wrap (((u / y1:Nat):Int)*(y1:Int)))=((u%y1:Nat):Int):=by
 have _:=hX;have b0:bH=18446744073709551616:=rfl;have b:=Nat.div_mul_le_self u y1;have e:=Nat.div_add_mod u y1;rw[Nat.mul_comm]at e;refine⟨by rw[Nat.div_lt_iff_lt_mul (by omega)];omega,?_,?_⟩
 . rw[<- Int.ofNat_tdiv];exact pF (Nat.lt_of_le_of_lt (Nat.div_le_self _ _) a)
 . rw[show((u / y1:Nat):Int)*(y1:Int)=((u / y1*y1:Nat):Int) by simp];rw[pF (n:=u / y1*y1) (by omega),show(u:Int)-((u / y1*y1:Nat):Int)=((u%y1:Nat):Int) by omega];exact pF (Nat.lt_of_le_of_lt (Nat.mod_le _ _) a)
theorem amW(u v y:Nat)(b:0<y)(a:y<bH):IntKind.u64.wrap (IntKind.u64.wrap (IntKind.u64.wrap ((u:Int)*4294967296)+(v:Int))-IntKind.u64.wrap ((((u*4294967296+v) / y:Nat):Int)*(y:Int)))=(((u*4294967296+v)%y:Nat):Int):=by have _:=hX;have h:(u*4294967296+v)%y<y:=qNm _ b;refine asc (m:=(u*4294967296+v)%y) ?_ (by omega);grind[amq]
theorem amr(s:Nat)(O:s<64){y1 y0 u e c y:Nat}(h:y1*4294967296+y0=y)(D1:Dv y1 y0 u e)(G:c<4294967296)(F:u<bH)(f:y<bH){Q1 a Q2 R:Nat}(g:(u*4294967296+e) / y=Q1)(q:(u*4294967296+e) % y=a)(l:(a*4294967296+c) / y=Q2)(H:(a*4294967296+c) % y=R) :
    L tab (run tab X) 191 [] wD1 (jB y s y1 y0 u e c ((u / y1:Nat):Int) ((u%y1:Nat):Int))=some ([.p (.int .u64 ((Q1*4294967296+Q2:Nat):Int)),.p (.int .u64 ((R / 2^s:Nat):Int))],[]):=by
  have b0:bH=18446744073709551616:=rfl;have d:=D1.lo;have k:=D1.hi;have b:0<y:=by omega
  have nz:(!(Je (y1:Int) (0:Int)))=true:=by rw[show Je (y1:Int) (0:Int)=false from decide_eq_false (by omega)];rfl
  have z:(!(cu (s:Int) (0:Int)))=true:=by rw[show cu (s:Int) 0=false from decide_eq_false (by omega)];rfl
  have A:min ((s:Int)).toNat IntKind.u64.bits=s:=by show min s 64=s;omega
  have E:a<y:=by rw[<- q];exact qNm _ b
  have D2:Dv y1 y0 a c:=⟨d,k,D1.b0,G,by omega⟩;obtain⟨K,_,_⟩:=akK X hX F d;obtain⟨b1,J,I⟩:=akK X hX (show a<bH by omega) d;have j:=D1.start;have i:=D2.start;have x:=D1.q_lt;have w:=D2.q_lt;rw[h,g]at x;rw[h,l]at w;have C:=Nat.div_add_mod u y1;have B:=Nat.div_add_mod a y1;rw[Nat.mul_comm]at C B;have N:=qNm u (show 0<y1 by omega);have M:=qNm a (show 0<y1 by omega);refine lA X hX (y:Int) (s:Int) (c:Int) D1 _ ?_ (u / y1) (u%y1) j K (by omega) (by omega);rw[h,g];have o:=amW X hX u e y b f;rw[g,q]at o;unfold exA afi;rw[nz,qCt,o,J,I];refine lB X hX (y:Int) (s:Int) _ D2 _ ?_ (a / y1) (a%y1) i b1 (by omega) (by omega);rw[h,l];have m:=amW X hX a c y b f;rw[l,H]at m;unfold exB;rw[z,qCt,A,m,TN];have t:IntKind.u64.wrap (IntKind.u64.wrap ((Q1:Int)*4294967296)+(Q2:Int))=((Q1*4294967296+Q2:Nat):Int):=by have g:IntKind.u64.wrap ((Q1:Int)*4294967296)=((Q1*4294967296:Nat):Int):=pF (n:=Q1*4294967296) (by omega);rw[g];exact pF (n:=Q1*4294967296+Q2) (by omega)
  rw[t]
theorem aod(f lo s y W u d:Nat)(F:s<=64)(m:d*2^s=y)(o:lo*2^s % bH=W)(E:f*2^s+lo / 2^(64-s)=u){g h Q1 i Q2 R:Nat}(C:g*4294967296+h=W)(hd:0<d)
    (B:(u*4294967296+g) / y=Q1)(A:(u*4294967296+g)%y=i)(z:(i*4294967296+h) / y=Q2)(n:(i*4294967296+h)%y=R):(f*bH+lo) / d=Q1*4294967296+Q2/\(f*bH+lo)%d=R / 2^s:=by
  have _:=hX;have hp:2^s*2^(64-s)=bH:=by rw[<- Nat.pow_add,show s+(64-s)=64 by omega]
  have a:0<2^s:=Nat.pow_pos (by decide);have b:0<y:=by rw[<- m];exact Nat.mul_pos hd a
  have t:R<y:=by rw[<- n];exact qNm _ b
  have x:=Nat.div_add_mod (u*4294967296+g) y;have w:=Nat.div_add_mod (i*4294967296+h) y;rw[B,A]at x;rw[z,n]at w;have G:lo*2^s=lo / 2^(64-s)*bH+W:=by
   have:=Nat.div_add_mod (lo*2^s) bH;rw[o]at this;have e:lo*2^s / bH=lo / 2^(64-s):=by rw[<- hp,Nat.mul_comm lo,Nat.mul_div_mul_left _ _ a]
   grind
  have l:(f*bH+lo)*2^s=((Q1*4294967296+Q2)*d)*2^s+R:=by grind
  have q:R=R / 2^s*2^s:=by
   have j:2^s ∣(Q1*4294967296+Q2)*d*2^s+R:=by rw[<- l];exact Nat.dvd_mul_left _ _
   exact(Nat.div_mul_cancel ((Nat.dvd_add_right (Nat.dvd_mul_left _ _)).1 j)).symm
  have k:f*bH+lo=d*(Q1*4294967296+Q2)+R / 2^s:=by grind
  have c:R / 2^s<d:=by rw[Nat.div_lt_iff_lt_mul a,m];exact t
  rw[k];exact⟨by rw[Nat.mul_add_div hd,Nat.div_eq_of_lt c,Nat.add_zero],by rw[Nat.mul_add_mod,Nat.mod_eq_of_lt c]⟩
theorem as4(a lo d:Nat)(Z:X 191=none)(L:a<d)(K:lo<bH)(J:d<bH):run tab X 191 [.p (.int .u64 a),.p (.int .u64 lo),.p (.int .u64 d)] []=some ([.p (.int .u64 (((a*bH+lo) / d:Nat):Int)),.p (.int .u64 (((a*bH+lo)%d:Nat):Int))],[]):=
 aY Z (by
  have O:((d:Int)==0)=false:=beq_eq_false_iff_ne.2 (by omega);have N:leI (d:Int) (a:Int)=false:=decide_eq_false (by omega);have M:(!(Je (d:Int) (0:Int)))=true:=by rw[show Je (d:Int) (0:Int)=false from decide_eq_false (by omega)];rfl
  rw[as5,O,qCf,N,qCf];by_cases h0:a=0
  . subst h0;rw[show(((0:Nat):Int)==0)=true from rfl,qCt,M,qCt,qCt,Nat.zero_mul,qNz];rw[show(lo:Int).tdiv (d:Int)=((lo / d:Nat):Int) from rfl,pF (Nat.lt_of_le_of_lt (Nat.div_le_self _ _) K)];rfl
  . rw[show((a:Int)==0)=false from beq_eq_false_iff_ne.2 (by omega),qCf,an8 X hX d J,qOb];obtain⟨j,e,l,aBt⟩:=ase X hX (show 0<d by omega) J;generalize 64-bl d=s at *;simp only[qLh,bV,toInt_int];have P:IntKind.u64.wrap (s:Int)=(s:Int):=pF (by have:bH=18446744073709551616:=rfl;omega);have k:IntKind.u64.wrap (64-(s:Int))=((64-s:Nat):Int):=by rw[show 64-(s:Int)=((64-s:Nat):Int) by omega];exact pF (by have:bH=18446744073709551616:=rfl;omega)
    have V:min ((s:Int)).toNat IntKind.u64.bits=s:=by show min s 64=s;omega
    have U:min (((64-s:Nat):Int)).toNat IntKind.u64.bits=64-s:=by show min (64-s) 64=64-s;omega
    have T:(!(cu (s:Int) (0:Int)))=true:=by rw[show cu (s:Int) 0=false from decide_eq_false (by omega)];rfl
    have S:(!(cu ((64-s:Nat):Int) (0:Int)))=true:=by rw[show cu ((64-s:Nat):Int) 0=false from decide_eq_false (by omega)];rfl
    have hp:2^s*2^(64-s)=bH:=by rw[<- Nat.pow_add,show s+(64-s)=64 by omega]
    have f:0<2^s:=Nat.pow_pos (by decide);have E:0<2^(64-s):=Nat.pow_pos (by decide);have A:a*2^s<bH:=Nat.lt_trans (Nat.mul_lt_mul_of_pos_right L f) e;have I:lo / 2^(64-s)<2^s:=by rw[Nat.div_lt_iff_lt_mul E,hp];exact K
    have g:=(orL I (by omega) A (Nat.mul_mod_left _ _)).1;have C:∀ x:Nat,(x:Int).fdiv (2^32)=((x / 4294967296:Nat):Int):=λx=>TN x 32;have b:a*2^s+lo / 2^(64-s)<d*2^s:=by have:(a+1)*2^s<=d*2^s:=Nat.mul_le_mul_right _ L;grind
    have B:lo*2^s%bH<bH:=qNm _ (by decide);rw[P,k,V,U,T,S];simp only[qCt];rw[aib d s,aib a s,aib lo s,Nat.mod_eq_of_lt e,Nat.mod_eq_of_lt A,TN lo (64-s),g,C,C,akJ _ e,akJ _ B];obtain⟨y,q⟩:∃ y,d*2^s=y:=⟨_,rfl⟩;obtain⟨W,t⟩:∃ W,lo*2^s%bH=W:=⟨_,rfl⟩;obtain⟨u,z⟩:∃ u,a*2^s+lo / 2^(64-s)=u:=⟨_,rfl⟩;rw[q]at j e b;rw[z]at b;rw[t]at B;rw[q,t,z];obtain⟨y1,y0,H,n,G⟩:∃ y1 y0,y1=y / 4294967296/\y0=y%4294967296/\y1*4294967296+y0=y:=⟨_,_,rfl,rfl,Nat.div_add_mod' y 4294967296⟩;obtain⟨h,i,F,m,Y⟩:∃ h i,h=W / 4294967296/\i=W%4294967296/\h*4294967296+i=W:=⟨_,_,rfl,rfl,Nat.div_add_mod' W 4294967296⟩;have o:y0<4294967296:=by rw[n];exact qNm _ (by decide)
    have w:i<4294967296:=by rw[m];exact qNm _ (by decide)
    rw[<- H,<- n,<- F,<- m];have hb:bH=18446744073709551616:=rfl;rw[hb]at e B;clear H n F m g C I hp A;have D1:Dv y1 y0 u h:=⟨by omega,by omega,o,by omega,by rw[G];exact b⟩;have c:u<bH:=Nat.lt_trans b e;obtain⟨a1,a2,a3⟩:=akK X hX c D1.lo;have nz:(!(Je (y1:Int) (0:Int)))=true:=by grind
    obtain⟨R,Q⟩:=aod X hX a lo s y W u d (by omega) q t z Y (by omega) rfl rfl rfl rfl;rw[R,Q,a2,a3,nz,qCt];exact amr X hX s l G D1 w c e rfl rfl rfl rfl)
end
end
section
theorem aif{f g y1 d a b h c w e H:Nat}(k:g*d=a*H+b)(j:f*d+a=h*H+c)(i:c+g*y1=w*H+e):(f*H+g)*(y1*H+d)=(f*y1+h+w)*(H*H)+(e*H+b):=by
 have l:(f*H+g)*(y1*H+d)=f*y1*(H*H)+(f*d*H+g*y1*H)+g*d:=by grind
 have n:(f*d+a)*H=(h*H+c)*H:=by rw[j]
 have m:(c+g*y1)*H=(w*H+e)*H:=by rw[i]
 rw[l,k];grind
theorem aoe(x y:Nat)(f:x<bH)(d:y<bH):x*y / bH=x / 4294967296*(y / 4294967296)+(x / 4294967296*(y%4294967296)+x%4294967296*(y%4294967296) / 4294967296) / 4294967296+((x / 4294967296*(y%4294967296)+x%4294967296*(y%4294967296) / 4294967296)%4294967296+x%4294967296*(y / 4294967296)) / 4294967296:=by
 have _:=f;have _:=d;have hX:=Nat.div_add_mod' x 4294967296;have g:=Nat.div_add_mod' y 4294967296;have a:=aif (H:=4294967296) (Nat.div_add_mod' (x%4294967296*(y%4294967296)) 4294967296).symm (Nat.div_add_mod' (x / 4294967296*(y%4294967296)+x%4294967296*(y%4294967296) / 4294967296) 4294967296).symm (Nat.div_add_mod' ((x / 4294967296*(y%4294967296)+x%4294967296*(y%4294967296) / 4294967296)%4294967296+x%4294967296*(y / 4294967296)) 4294967296).symm;rw[hX,g]at a;have j:=qNm ((x / 4294967296*(y%4294967296)+x%4294967296*(y%4294967296) / 4294967296)%4294967296+x%4294967296*(y / 4294967296)) (show 0<4294967296 by decide);have i:=qNm (x%4294967296*(y%4294967296)) (show 0<4294967296 by decide);rw[a];generalize ((x / 4294967296*(y%4294967296)+x%4294967296*(y%4294967296) / 4294967296)%4294967296+x%4294967296*(y / 4294967296))%4294967296=e at *;generalize x%4294967296*(y%4294967296)%4294967296=b at *;have h:bH=4294967296*4294967296:=rfl;have c:e*4294967296+b<bH:=by have:bH=18446744073709551616:=rfl;omega
 rw[<- h,Nat.mul_comm,Nat.mul_add_div (by decide),Nat.div_eq_of_lt c,Nat.add_zero]
theorem UG{a b:Nat}(d:a<4294967296)(c:b<4294967296):a*b<=18446744065119617025:=Nat.mul_le_mul (show a<=4294967295 by omega) (show b<=4294967295 by omega)
section
variable (X:Ext) (hX:Mine X)
include hX
theorem as3(x y:Nat)(j:X 187=none)(f:x<bH)(e:y<bH):run tab X 187 [.p (.int .u64 x),.p (.int .u64 y)] []=some ([.p (.int .u64 ((x*y / bH:Nat):Int)),.p (.int .u64 ((x*y%bH:Nat):Int))],[]):=
 aY j (by
  have _:=hX;have c:∀ x:Nat,(x:Int).fdiv (2^32)=((x / 4294967296:Nat):Int):=λx=>TN x 32;have w:bH=18446744073709551616:=rfl;have l:x / 4294967296<4294967296:=by rw[Nat.div_lt_iff_lt_mul (by decide)];exact f
  have y1:y / 4294967296<4294967296:=by rw[Nat.div_lt_iff_lt_mul (by decide)];exact e
  have m:x%4294967296<4294967296:=qNm _ (by decide);have k:y%4294967296<4294967296:=qNm _ (by decide);have o:=UG m k;have s:=UG l k;have r:=UG m y1;have q:=UG l y1;have d:∀ a b:Nat,a*b<=18446744065119617025->IntKind.u64.wrap ((a:Int)*(b:Int))=((a*b:Nat):Int):=λa b h=>by rw[show(a:Int)*(b:Int)=((a*b:Nat):Int) by simp];exact pF (by omega)
  have g:∀ a b:Nat,a+b<bH->IntKind.u64.wrap ((a:Int)+(b:Int))=((a+b:Nat):Int):=λa b h=>pF (n:=a+b) h;have u:x*y / bH<bH:=by rw[Nat.div_lt_iff_lt_mul (by decide)];exact Nat.mul_lt_mul_of_lt_of_lt f e
  have i:=aoe x y f e;have lo:IntKind.u64.wrap ((x:Int)*(y:Int))=((x*y%bH:Nat):Int):=by rw[show(x:Int)*(y:Int)=((x*y:Nat):Int) by simp];rfl
  rw[e187,lo,c,c,akJ x f,akJ y e,d _ _ o,c,d _ _ s];have t:x / 4294967296*(y%4294967296)+x%4294967296*(y%4294967296) / 4294967296<bH:=by
   have:x%4294967296*(y%4294967296) / 4294967296<=4294967295:=by
    have:x%4294967296*(y%4294967296) / 4294967296<4294967296:=by rw[Nat.div_lt_iff_lt_mul (by decide)];exact Nat.lt_of_le_of_lt o (by decide)
    omega
   omega
  rw[g _ _ t,c,akJ _ t,d _ _ r];generalize x / 4294967296*(y%4294967296)+x%4294967296*(y%4294967296) / 4294967296=T at *;have v:T%4294967296<4294967296:=qNm _ (by decide);rw[g (T%4294967296) _ (by omega),c,d _ _ q];generalize (T%4294967296+x%4294967296*(y / 4294967296)) / 4294967296=W at *;rw[g _ _ (by omega),g _ _ (by omega),i])
end
end
end Go.Skm.Fen
namespace Go.Proofs
open Go.Shelf
def Tryz.laysSort_ren:Go.Shelf.Ren:=⟨λ| 6=>74 | 15=>137 | 14=>136 | 28=>169 | 29=>170 | 20=>161 | 21=>162 | 22=>163 | 23=>164 | 24=>165 | 25=>166 | 26=>167 | 27=>168 | 46=>181 | 47=>182 | 48=>183 | 49=>184 | 50=>185 | 57=>188 | n=>n,λ| 22=>46 | 24=>45 | 25=>109 | 3=>3 | 39=>170 | 0=>0 | 53=>195 | 55=>143 | 4=>4 | 46=>188 | 45=>187 | 50=>192 | 5=>5 | 9=>9 | 66=>203 | 70=>207 | 76=>212 | 77=>213 | n=>n,λ| n=>n⟩
theorem Tryz.laysSort:Go.Proofs.SlLaysF0.n6 Tryz.prog Tryz.laysSort_ren:={
 mixed:=by kernel_rfl
 f6:=⟨Tryz.f74.name,by decide,Tryz.func74.trans (congrArg some (by kernel_rfl))⟩
 f14:=⟨Tryz.f136.name,by decide,Tryz.func136.trans (congrArg some (by kernel_rfl))⟩
 f15:=Tryz.func137.trans (congrArg some (by kernel_rfl))
 f20:=⟨Tryz.f161.name,by decide,Tryz.func161.trans (congrArg some (by kernel_rfl))⟩
 f21:=⟨Tryz.f162.name,by decide,Tryz.func162.trans (congrArg some (by kernel_rfl))⟩
 f22:=⟨Tryz.f163.name,by decide,Tryz.func163.trans (congrArg some (by kernel_rfl))⟩
 f23:=⟨Tryz.f164.name,by decide,Tryz.func164.trans (congrArg some (by kernel_rfl))⟩
 f24:=⟨Tryz.f165.name,by decide,Tryz.func165.trans (congrArg some (by kernel_rfl))⟩
 f25:=⟨Tryz.f166.name,by decide,Tryz.func166.trans (congrArg some (by kernel_rfl))⟩
 f26:=⟨Tryz.f167.name,by decide,Tryz.func167.trans (congrArg some (by kernel_rfl))⟩
 f27:=⟨Tryz.f168.name,by decide,Tryz.func168.trans (congrArg some (by kernel_rfl))⟩
 f28:=Tryz.func169.trans (congrArg some (by kernel_rfl))
 f29:=Tryz.func170.trans (congrArg some (by kernel_rfl))
 f46:=⟨Tryz.f181.name,by decide,Tryz.func181.trans (congrArg some (by kernel_rfl))⟩
 f47:=Tryz.func182.trans (congrArg some (by kernel_rfl))
 f48:=Tryz.func183.trans (congrArg some (by kernel_rfl))
 f49:=⟨Tryz.f184.name,by decide,Tryz.func184.trans (congrArg some (by kernel_rfl))⟩
 f50:=⟨Tryz.f185.name,by decide,Tryz.func185.trans (congrArg some (by kernel_rfl))⟩
 f57:=⟨Tryz.f188.name,by decide,Tryz.func188.trans (congrArg some (by kernel_rfl))⟩
 t0:=Tryz.underlying0
 a0:=Tryz.isAgg0
 z0:=Tryz.sizeOf0
 v0:=Tryz.zeroValue0
 t3:=Tryz.underlying3
 a3:=Tryz.isAgg3
 z3:=Tryz.sizeOf3
 v3:=Tryz.zeroValue3
 t4:=Tryz.underlying4
 a4:=Tryz.isAgg4
 z4:=Tryz.sizeOf4
 v4:=Tryz.zeroValue4
 t5:=Tryz.underlying5
 a5:=Tryz.isAgg5
 z5:=Tryz.sizeOf5
 v5:=Tryz.zeroValue5
 t9:=Tryz.underlying9
 a9:=Tryz.isAgg9
 z9:=Tryz.sizeOf9
 v9:=Tryz.zeroValue9
 t22:=Tryz.underlying46
 a22:=Tryz.isAgg46
 z22:=Tryz.sizeOf46
 v22:=Tryz.zeroValue46
 t25:=Tryz.underlying109
 a25:=Tryz.isAgg109
 z25:=Tryz.sizeOf109
 v25:=Tryz.zeroValue109
 t39:=Tryz.underlying170
 a39:=Tryz.isAgg170
 z39:=Tryz.sizeOf170
 v39:=Tryz.zeroValue170
 t45:=Tryz.underlying187
 a45:=Tryz.isAgg187
 z45:=Tryz.sizeOf187
 v45:=Tryz.zeroValue187
 t46:=Tryz.underlying188
 a46:=Tryz.isAgg188
 z46:=Tryz.sizeOf188
 v46:=Tryz.zeroValue188
 t50:=Tryz.underlying192
 a50:=Tryz.isAgg192
 z50:=Tryz.sizeOf192
 v50:=Tryz.zeroValue192
 t53:=Tryz.underlying195
 a53:=Tryz.isAgg195
 z53:=Tryz.sizeOf195
 v53:=Tryz.zeroValue195
 t55:=Tryz.underlying143
 a55:=Tryz.isAgg143
 z55:=Tryz.sizeOf143
 v55:=Tryz.zeroValue143
 t66:=Tryz.underlying203
 a66:=Tryz.isAgg203
 z66:=Tryz.sizeOf203
 v66:=Tryz.zeroValue203
 t70:=Tryz.underlying207
 a70:=Tryz.isAgg207
 z70:=Tryz.sizeOf207
 v70:=Tryz.zeroValue207
 t76:=Tryz.underlying212
 a76:=Tryz.isAgg212
 z76:=Tryz.sizeOf212
 v76:=Tryz.zeroValue212
 t77:=Tryz.underlying213
 a77:=Tryz.isAgg213
 z77:=Tryz.sizeOf213
 v77:=Tryz.zeroValue213}
def Tryz.Jm:Go.Shelf.Ren:=⟨λ| 41=>193 | n=>n,λ| 22=>140 | 23=>143 | 4=>4 | n=>n,λ| n=>n⟩
theorem Tryz.adL:Go.Proofs.SlLaysE0.n41 Tryz.prog Tryz.Jm:={
 mixed:=by kernel_rfl
 f41:=⟨Tryz.f193.name,by decide,Tryz.func193.trans (congrArg some (by kernel_rfl))⟩
 t4:=Tryz.underlying4
 a4:=Tryz.isAgg4
 z4:=Tryz.sizeOf4
 v4:=Tryz.zeroValue4
 t22:=Tryz.underlying140
 a22:=Tryz.isAgg140
 z22:=Tryz.sizeOf140
 v22:=Tryz.zeroValue140}
def Tryz.Jl:Go.Shelf.Ren:=⟨λ| 41=>88 | n=>n,λ| 22=>22 | 23=>26 | 4=>4 | n=>n,λ| n=>n⟩
theorem Tryz.adK:Go.Proofs.SlLaysE0.n41 Tryz.prog Tryz.Jl:={
 mixed:=by kernel_rfl
 f41:=⟨Tryz.f88.name,by decide,Tryz.func88.trans (congrArg some (by kernel_rfl))⟩
 t4:=Tryz.underlying4
 a4:=Tryz.isAgg4
 z4:=Tryz.sizeOf4
 v4:=Tryz.zeroValue4
 t22:=Tryz.underlying22
 a22:=Tryz.isAgg22
 z22:=Tryz.sizeOf22
 v22:=Tryz.zeroValue22}
end Go.Proofs
set_option maxRecDepth 100000
namespace Go.Skm.Fen
open Go Go.Skm Go.Proofs Go.Shelf Go.RowKit Go.Lib Go.Sort
def abo:List (Nat × FI)->List (Nat × FI)
 |[]=>[]
 |(f,fi)::r=>bif fi.cfg.Nr.is then(f,fi)::abo r else abo r
theorem Ye:∀{l:List (Nat × FI)} {f:Nat} {fi:FI},dZ l f=some fi->fi.cfg.Nr.is=true->(f,fi)∈abo l
 |[],_,_,h,_=>by cases h
 |(g,gi)::r,f,fi,h,h2=>by
  rw[dZ]at h;unfold abo;by_cases e:(g==f)=true
  . rw[e]at h;cases h;rw[h2,qCt,eq_of_beq e];simp
  . have a:(g==f)=false:=by simpa using e
    rw[a,qCf]at h;have:=Ye h h2;cases gi.cfg.Nr.is with
    | true=>rw[qCt];exact List.mem_cons_of_mem _ this
    | false=>rw[qCf];exact this
theorem ait:abo tab.funcs=[(179,amw),(180,amx)]:=by kernel_rfl
theorem aoD(w:World)(x y c:Nat)(a:c<=1):(callFunc 179 #[.int .u64 x,.int .u64 y,.int .u64 c]).run Tryz.prog w=.ok (.value (.tuple #[.int .u64 (((x+y+c)%18446744073709551616:Nat):Int),.int .u64 (((x+y+c) / 18446744073709551616:Nat):Int)])) w:=by rw[run_callFunc_extern Tryz.func179 (by kernel_rfl) (by kernel_rfl) (by kernel_rfl) (e:=add64Entry) (by kernel_rfl),run_add64 x y c (by omega) (by omega) (by omega) (by omega)];simp only[Result.andThen];congr 5<;>omega
theorem aoE(w:World)(x y c:Nat)(hc:c<=1):(callFunc 180 #[.int .u64 x,.int .u64 y,.int .u64 c]).run Tryz.prog w=.ok (.value (.tuple #[.int .u64 (((x+18446744073709551616-y-c)%18446744073709551616:Nat):Int),.int .u64 ((if x<y+c then 1 else 0:Nat):Int)])) w:=by rw[run_callFunc_extern Tryz.func180 (by kernel_rfl) (by kernel_rfl) (by kernel_rfl) (e:=sub64Entry) (by kernel_rfl),run_sub64 x y c hc];rfl
theorem am0(w:World)(x y c:Nat)(a:c<=1):(callFunc 179 #[.int .u64 x,.int .u64 y,.int .u64 c]).run Tryz.prog w=.ok (.value (.tuple #[.int .u64 (nS false x y c),.int .u64 (pq false x y c)])) w:=by rw[aoD w x y c a,nS,pq,qCf,qCf]
theorem am1(w:World)(x y c:Nat)(a:c<=1):(callFunc 180 #[.int .u64 x,.int .u64 y,.int .u64 c]).run Tryz.prog w=.ok (.value (.tuple #[.int .u64 (nS true x y c),.int .u64 (pq true x y c)])) w:=by rw[aoE w x y c a,nS,pq,qCt,qCt]
theorem akU:Zu Tryz.prog tab:=λf fi h=>by
 cases hp:fi.cfg.Nr with
 | none=>trivial
 | carry b =>
  have:=Ye h (by rw[hp];rfl);rw[ait]at this;simp only[List.mem_cons,List.not_mem_nil,or_false,Prod.mk.injEq]at this;rcases this with⟨rfl,rfl⟩ |⟨rfl,rfl⟩<;>cases hp
  . exact λw x y c a=>am0 w x y c a
  . exact λw x y c a=>am1 w x y c a
theorem OD:fB Tryz.prog tab:=aoF akU
theorem words{X:Ext}(a:Mine X)(g:X 187=none)(f:X 191=none):Words X:=⟨λx y c b=>as3 X a x y g c b,λh l d e h4 h5=>as4 X a h l d f e h4 h5⟩
theorem adJ{gl:Option (List (Nat × Obj))}:vF Tryz.prog tab gl (MB []):=agC λ_ _=>trivial
end Go.Skm.Fen
set_option maxRecDepth 100000
namespace Go.Skm.Fen
open Go Go.Skm Go.Proofs Go.RowKit
variable {e0:Ex}{S0 st:St}{gl:Option (List (Nat × Obj))}{cx:Cx}{a:Act}{W0 w:World}{J:(Nat->Prop)->(Nat->Prop)->World->Prop}{By L:Nat}{Ko M Oo:Nat->Prop}{β:Nat->Option (Nat × Nat)}
noncomputable def Ib(e0:Ex)(S0:St):Ex->St->Option Unit:=λex st=>open Classical in if ex=e0/\st=S0 then some ()else none
theorem nN(e0:Ex)(S0:St):Ib e0 S0 e0 S0=some ():=by unfold Ib;rw[if_pos ⟨rfl,rfl⟩]
theorem alb{b:Ex}(h:Ib e0 S0 b st=some ()):b=e0/\st=S0:=by grind[Ib]
structure Frm (gl:Option (List (Nat × Obj))) (cx:Cx):Prop where
 hp:cx.hp0=[]
 hgl:cx.w0.gl=gl
 rd:cx.rd=none
 wr:cx.Wr=λt=>t≠2
 ys:cx.Ys=λ_=>False
 t0:cx.t0.size=43
theorem Frm.abH(h:Frm gl cx):BO cx.hp0:=by rw[h.hp];intro xs b;cases b
theorem aum:sU.cfg.nvars<=ah:=by decide
theorem Ld{X:Ext}(l:jT Tryz.prog tab gl (run tab X))(b:Frm gl cx){c:Code}(hd:gy tab sU.hides c=true)(k:gQ c=true)(d:rY c=true) 
    (h:dH tab (run tab X) sU (some 0) c st (Ib e0 S0)=some ())(i:Inv cx st a w){Q:Exit->Act->World->Prop}(s:∀ a' w',Inv cx S0 a' w'->Q e0.ZM a' w'):c.wpIn (FW none) 0 Tryz.prog Q a w:=by
  have f:c.wpIn (FW cx.rd) 0 Tryz.prog Q a w:=oJ (ng:=true) (SA (F:=sU) (n:=0) (m:=0) OD l aum ()) (λh=>by cases h) c ⟨cx,b.abH,b.hgl⟩ st a w (Ib e0 S0) () Q trivial h hd (λ_=>k) (λo j=>⟨λt g=>?_,λt _ r=>?_⟩) ⟨rfl,i⟩ (λu q st' a' w' p d=>?_)
  . grind[b.rd]
  . rw[b.wr];have:=List.all_eq_true.1 d o j;rw[g]at this;intro e;simp_all
  . grind[b.ys]
  . obtain⟨rfl,rfl⟩:=alb p;grind
theorem Inv.apj(i:Inv cx st a w)(b:List AV)(j:b.length<=st.env.length)(g:∀(t:Nat) (v:AV),b[t]?=some v->v=.undef\/st.env[t]?=some v):Inv cx ⟨b,st.heap⟩ a w:=by
 obtain⟨M,β,L,ds,r,e,d,c,k⟩:=i;refine⟨M,β,L,ds,r.slots (a':=a) (Nat.le_trans j r.qK) λt v f=>?_,e,d,c,k⟩;rcases g t v f with rfl | h
 . exact .undef _
 . exact r.env t v h
theorem afw(l:List (Nat × AV)):(E l).length=43:=by simp[E]
theorem amE(l:List (Nat × AV))(t:Nat)(v:AV)(h:(E l)[t]?=some v):t<43/\v=(dZ l t).getD .undef:=by grind[afw,E]
theorem aun(l:List (Nat × AV))(t:Nat)(b:t<43):(E l)[t]?=some ((dZ l t).getD .undef):=by unfold E;grind
theorem Inv.less{l b:List (Nat × AV)}{hp:Heap}(i:Inv cx ⟨E l,hp⟩ a w)(h:∀ p∈b,dZ l p.1=some p.2):Inv cx ⟨E b,hp⟩ a w:=by
 refine Inv.apj i (E b) (by rw[afw];show 43<=(E l).length;rw[afw];exact qNr _) λt v c=>?_;obtain⟨d,rfl⟩:=amE b t v c;cases f:dZ b t with
 | none=>exact .inl rfl
 | some u =>
  right;have e:∀{l:List (Nat × AV)} {t:Nat} {u:AV},dZ l t=some u->(t,u)∈l:=by
   intro l;induction l with
   | nil=>intro t u h;cases h
   | cons p r g=>grind[dZ]
  show(E l)[t]?=some u;rw[aun l t d,h _ (e f)];rfl
structure Sep (gl:Option (List (Nat × Obj))) (W0:World) (J:(Nat->Prop)->(Nat->Prop)->World->Prop) (By L:Nat) (cx:Cx) (Oo Ko:Nat->Prop):Prop where
 frm:Frm gl cx
 j:J Oo Ko cx.w0.wd
 lt:∀ b,Oo b\/Ko b->b<cx.w0.heap.size
 m0:∀ b,cx.M0 b->¬ Oo b
 pr:∀ b,cx.Pr b->¬ Oo b/\¬ Ko b/\W0.heap.size<=b
 l0:∀ p∈cx.L0,¬ Oo p.1/\¬ Ko p.1/\W0.heap.size<=p.1
 box:(By,Obj.cells #[MQ L] 122 (0,0))∈cx.L0
 t2:cx.t0.getD 2 undef=.pointer (some ⟨By,0,none⟩)
 w0:W0.heap.size<=cx.w0.heap.size
 n0:W0.heap.size<=cx.w0.n0
theorem Sep.now(f:Bears gl W0 J)(s:Sep gl W0 J By L cx Oo Ko)(r:Rel cx.w0 cx.Pr cx.M0 M β st a w)(e:mF cx.w0.gl cx.w0.drawn w.drawn):J Oo Ko w:=by have d:=r.turns e;rw[s.frm.hgl]at d;exact f _ _ _ _ _ s.j d λb c=>⟨(s.pr b c).2.2,(s.pr b c).1,(s.pr b c).2.1⟩
theorem Sep.anew{J':(Nat->Prop)->(Nat->Prop)->World->Prop}(s:Sep gl W0 J By L cx Oo Ko){W':World}{z:List (Nat × Obj)}{ds:List Nat}
    (r:Rel cx.w0 cx.Pr cx.M0 M β st a w)(H:∀ x,ah<=x->β x=cx.XR x)(G:nZ cx.hp0 st.heap)(d:Fix cx M β st.heap a w z ds){O' K':Nat->Prop}(P:J' O' K' W')(g:Turns gl Oo w W')(e:W'.heap[w.heap.size]?=some (.deferred (some [])))(B:∀ b,O' b->Oo b\/w.heap.size+2<=b)(U:∀ b,K' b->Ko b\/Oo b\/w.heap.size+2<=b)(v:∀ b,O' b\/K' b->b<W'.heap.size)(I:w.heap.size+2<=W'.heap.size) :
    ∃ F,Sep gl W0 J' By L F O' K'/\Inv F st {a with defers:=Fj w.heap.size::a.defers} W':=by
  have K:=r.size;have N:=cx.w0.le';have Q:∀ b,Oo b->b<cx.w0.heap.size:=λb c=>s.lt b (.inl c);have S:∀ b,Ko b->b<cx.w0.heap.size:=λb c=>s.lt b (.inr c);have R:∀ b,M b->¬ Oo b:=λb c A=>by
   rcases r.oD b c with h |⟨_,h⟩
   . exact s.m0 b h A
   . rcases h with h | h
     . grind
     . exact(s.pr b h).1 A
  have f:∀ b,oQ β st.heap b->¬ Oo b/\¬ Ko b/\W0.heap.size<=b:=λb c=>by
   rcases(r.oU c).2.2 with h | h
   . have:=s.w0;grind
   . exact s.pr b h
  have u:∀ D∈ds,¬ Oo D/\¬ Ko D/\W0.heap.size<=D:=λD e=>by
   rcases(d.mark D e).2.2 with h | h
   . exact s.l0 _ h
   . have:=s.w0;grind
  have up:∀ b,b<w.heap.size->¬ Oo b->¬ Ko b->¬ O' b/\¬ K' b:=λb c i m=>⟨λh=>(B b h).elim i λh=>by omega,λh=>by grind⟩;let L1:List (Nat × Obj):=(w.heap.size,.deferred (some []))::(cx.L0++ds.map λD=>(D,Obj.deferred (some [])));have j:∀ p∈L1,(p=(w.heap.size,Obj.deferred (some [])))\/(p∈z/\¬ Oo p.1/\¬ Ko p.1/\W0.heap.size<=p.1):=λp hp=>by
   rcases List.mem_cons.1 hp with h | h
   . exact .inl h
   . rcases List.mem_append.1 h with h | h
     . exact .inr ⟨d.sub p h,s.l0 p h⟩
     . obtain⟨D,e,rfl⟩:=List.mem_map.1 h;exact .inr ⟨(d.mark D e).1,u D e⟩
  have k:∀ p∈z,p.1<w.heap.size:=λp hp=>(qAa.1 (d.lies p hp).1).1;refine⟨{w0:=⟨W',cx.w0.n0,by have:=g.size;omega,cx.w0.gl⟩,Pr:=oQ β st.heap,M0:=M,XR:=cx.XR,hp0:=cx.hp0,Wr:=cx.Wr,t0:=cx.t0,rd:=none,L0:=L1,nm:=cx.nm},?_,?_⟩
  . refine⟨⟨s.frm.hp,s.frm.hgl,rfl,s.frm.wr,rfl,s.frm.t0⟩,P,v,λb c h=>?_,λb c=>?_,λp hp=>?_,?_,s.t2,by have:=s.w0;show W0.heap.size<=W'.heap.size;omega,s.n0⟩
    . rcases B b h with h | h
      . grind
      . have:=r.iU b c;omega
    . obtain⟨i,m,C⟩:=f b c;exact⟨(up b (r.oU c).2.1 i m).1,(up b (r.oU c).2.1 i m).2,C⟩
    . rcases j p hp with rfl |⟨h,i,m,C⟩
      . refine⟨λh=>?_,λh=>?_,by have:=s.w0;show W0.heap.size<=w.heap.size;omega⟩;all_goals grind
      grind
    . exact List.mem_cons_of_mem _ (List.mem_append_left _ s.box)
  . have q:Rel (⟨W',cx.w0.n0,by have:=g.size;omega,cx.w0.gl⟩:Base) (oQ β st.heap) M M β st a W':=by refine r.to rfl (λb c=>⟨c,g.keep b (r.iU b c) (R b c)⟩) (λx b o t c=>?_) (λb c=>Nat.lt_of_lt_of_le (r.iU b c) g.size) (λb c=>.inl c) (λb c=>c) (λ_ _ _=>rfl) (λ_ _ _ _ h=>h) (qNr _) rfl rfl rfl;obtain⟨y,n,E,T⟩:=r.own x b o t c;exact⟨g.keep b n (f b ⟨x,o,t,c⟩).1,y,Nat.lt_of_lt_of_le n g.size,.inr ⟨x,o,t,c⟩,T⟩
    refine⟨M,β,L1,w.heap.size::ds,q.slots (a':={a with defers:=Fj w.heap.size::a.defers}) q.qK q.env,H,G,.refl _ _,⟨λp hp=>?_,λp hp=>hp,by show _::_=_;rw[d.marks];rfl,List.nodup_cons.2 ⟨λh=>?_,d.nodup⟩,λD e=>?_,λl O=>(by cases O),d.size,d.tmps,λh=>absurd s.frm.abH h,λ_ h=>h.elim,by have:=d.nml;show cx.nm<=W'.heap.size;omega⟩⟩
    . rcases j p hp with rfl |⟨h,i,_,_⟩
      . exact⟨e,λh=>by have:=(r.oU h).2.1;exact absurd this (Nat.lt_irrefl _),λh=>by have:=r.iU _ h;exact absurd this (Nat.lt_irrefl _)⟩
      . obtain⟨y,n,E⟩:=d.lies p h;exact⟨(g.keep _ (k p h) i).trans y,n,E⟩
    . have:=k _ (d.mark _ h).1;omega
    . rcases List.mem_cons.1 e with rfl | e
      . exact⟨List.mem_cons_self,by have:=d.nml;show cx.nm<=w.heap.size;omega,.inl List.mem_cons_self⟩
      . have:(D,Obj.deferred (some []))∈L1:=List.mem_cons_of_mem _ (List.mem_append_right _ (List.mem_map.2 ⟨D,e,rfl⟩));exact⟨this,(d.mark D e).2.1,.inl this⟩
end Go.Skm.Fen
