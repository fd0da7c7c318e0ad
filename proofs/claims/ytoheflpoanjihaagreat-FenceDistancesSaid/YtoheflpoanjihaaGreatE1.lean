import Derived.Test.YtoheflpoanjihaaGreatW13
import Derived.Test.YtoheflpoanjihaaGreatEqd
import Derived.Shelf.SlGeneric
import Derived.Shelf.SlSortCmp.NoneTotal
import Derived.Shelf.SlicesE.Clone
import Derived.Ground.SlsfProg
import Derived.Ground.SlgnProg
import Derived.Test.YtoheflpoanjihaaGreatProg
import Derived.Test.YtoheflpoanjihaaGreatG22
import Derived.Test.YtoheflpoanjihaaGreatTabOk
import Derived.Test.YtoheflpoanjihaaGreatSkmH
import Derived.Shelf.Spec.BitsCarry
set_option linter.all false
namespace Go.Skm.Fen
open Go Go.Skm Go.Skm.Dig
section
theorem wrapM(x:Int):IntKind.u64.wrap x=x%18446744073709551616:=rfl
theorem Qn(x:Nat)(a:x<aX):IntKind.u64.wrap (((BitVec.ofInt IntKind.u64.bits (x:Int)) &&& (BitVec.ofInt IntKind.u64.bits (4294967295:Int))).toNat:Nat)=((x%4294967296:Nat):Int):=by show IntKind.u64.wrap (((BitVec.ofInt 64 (x:Int)) &&& (BitVec.ofInt 64 ((4294967295:Nat):Int))).toNat:Nat)=_;rw[BitVec.ofInt_natCast,BitVec.ofInt_natCast,BitVec.toNat_and,BitVec.toNat_ofNat,BitVec.toNat_ofNat,Nat.mod_eq_of_lt (show x<2^64 from a),Nat.mod_eq_of_lt (show 4294967295<2^64 by decide)];rw[show(4294967295:Nat)=2^32-1 from rfl,Nat.and_two_pow_sub_one_eq_mod];have:x%2^32<2^32:=qNm _ (by decide);exact iY (Nat.lt_trans this (by decide))
structure Dv (y1 y0 u v:Nat):Prop where
 lo:2147483648<=y1
 hi:y1<4294967296
 b0:y0<4294967296
 bv:v<4294967296
 bu:u<y1*4294967296+y0
namespace Dv
variable {p r:Nat}
variable {y1 y0 u v:Nat} (D:Dv y1 y0 u v)
include D
theorem q_lt:(u*4294967296+v) / (y1*4294967296+y0)<4294967296:=by have b:=D.bu;have a:=D.bv;rw[Nat.div_lt_iff_lt_mul (by omega)];omega
theorem le_iff(h:r+p*y1=u):p*y0<=4294967296*r+v↔p<=(u*4294967296+v) / (y1*4294967296+y0):=by rw[Nat.le_div_iff_mul_le (by have:=D.bu;omega)];grind
theorem brk(h:r+p*y1=u)(b:4294967296<=r):p<=(u*4294967296+v) / (y1*4294967296+y0):=by
 rw[<- D.le_iff h];have d:=D.bu;have c:=D.b0;have hp:p<4294967296:=by
  have:p*y1<4294967296*y1:=by omega
  exact Nat.lt_of_mul_lt_mul_right this
 have a:p*y0<=4294967296*4294967296:=Nat.mul_le_mul (by omega) (by omega);omega
theorem start:(u*4294967296+v) / (y1*4294967296+y0)<=u / y1:=by have c:=D.lo;have b:=D.bv;rw[Nat.le_div_iff_mul_le (by omega)];have a:=Nat.div_mul_le_self (u*4294967296+v) (y1*4294967296+y0);grind
end Dv
theorem Ym{a v b:Int}{m:Nat}(h:a+v-b=(m:Int))(c:m<aX):IntKind.u64.wrap (IntKind.u64.wrap (IntKind.u64.wrap a+v)-IntKind.u64.wrap b)=(m:Int):=by grind[wrapM]
theorem RQ(N y:Nat):(N:Int)-((N / y:Nat):Int)*(y:Int)=((N%y:Nat):Int):=by have h:=Nat.div_add_mod N y;grind
abbrev wD1:List Wy:=[.lp [1,1,1,1,1,1,1,1,1,1,1,1,1,1,0,0]]
abbrev wD2:List Wy:=[.lp [1,1,1,1,1,1,1,1,1,1,1,1,1,1,1,1,1,1,0,0]]
abbrev KW(u v y p:Int):Int:=IntKind.u64.wrap (IntKind.u64.wrap (IntKind.u64.wrap (u*4294967296)+v)-IntKind.u64.wrap (p*y))
abbrev exB(q1 un0 KW y s p:Int):Option (List AV × List Blk):=bif (!(ltI s (0:Int)))then some ([.p (.int .u64 (IntKind.u64.wrap ((IntKind.u64.wrap (q1*(4294967296:Int)))+p))),.p (.int .u64 ((IntKind.u64.wrap ((IntKind.u64.wrap ((IntKind.u64.wrap (KW*(4294967296:Int)))+un0))-(IntKind.u64.wrap (p*y)))).fdiv (2^(min s.toNat IntKind.u64.bits))))],[])else none
section
variable (X:Ext) (hX:Mine X)
include hX
noncomputable abbrev exA(y s y1 y0 u v u0 p:Int):Option (List AV × List Blk):=bif (!(eqI y1 (0:Int)))then L tab (run tab X) 191 [] wD2 (bU y s y1 y0 u0 p (IntKind.u64.wrap (KW u v y p-IntKind.u64.wrap (IntKind.u64.wrap ((KW u v y p).tdiv y1)*y1))) (KW u v y p) (IntKind.u64.wrap ((KW u v y p).tdiv y1)))else none
theorem tests {y1 y0 u v : Nat} (D : Dv y1 y0 u v) {p r : Nat} (hr : r < 4294967296) (h : r + p * y1 = u) :
    (geI (p:Int) 4294967296=decide (4294967296<=p))/\(p<4294967296->gtI (IntKind.u64.wrap ((p:Int)*(y0:Int))) (IntKind.u64.wrap (IntKind.u64.wrap (4294967296*(r:Int))+(v:Int)))=decide (4294967296*r+v<p*y0))/\IntKind.u64.wrap ((r:Int)+(y1:Int))=((r+y1:Nat):Int)/\geI ((r+y1:Nat):Int) 4294967296=decide (4294967296<=r+y1):=by
  have _:=hX
  have _:=h
  have h1:=D.hi
  have h2:=D.bv
  have h3:=D.b0
  refine⟨decide_eq_decide.2 (by omega),λhp=>?_,?_,decide_eq_decide.2 (by omega)⟩
  . have a:p*y0<=(4294967296-1)*(4294967296-1):=Nat.mul_le_mul (by omega) (by omega)
    have e1:IntKind.u64.wrap ((p:Int)*(y0:Int))=((p*y0:Nat):Int):=by
     rw[show (p:Int)*(y0:Int)=((p*y0:Nat):Int) by simp]
     exact iY (Nat.lt_of_le_of_lt a (by decide))
    have e2:IntKind.u64.wrap (4294967296*(r:Int))=((4294967296*r:Nat):Int):=iY (n:=4294967296*r) (by have:aX=18446744073709551616:=rfl;omega)
    have e3:IntKind.u64.wrap (((4294967296*r:Nat):Int)+(v:Int))=((4294967296*r+v:Nat):Int):=iY (n:=4294967296*r+v) (by have:aX=18446744073709551616:=rfl;omega)
    grind
  . exact iY (n:=r+y1) (by have:aX=18446744073709551616:=rfl;omega)
theorem pred {p:Nat} (h0:0<p) (hp:p<17179869184):IntKind.u64.wrap ((p:Int)-1)=((p-1:Nat):Int):=by
 have _:=hX
 rw[show (p:Int)-1=((p-1:Nat):Int) by omega]
 exact iY (by have:aX=18446744073709551616:=rfl;omega)
theorem lA (y s u0 : Int) {y1 y0 u v : Nat} (D : Dv y1 y0 u v) (res : List AV × List Blk) (hk : exA X y s y1 y0 u v u0 (((u * 4294967296 + v) / (y1 * 4294967296 + y0) : Nat) : Int) = some res) : ∀ p r : Nat,(u * 4294967296 + v) / (y1 * 4294967296 + y0) <= p -> p < 17179869184 -> r < 4294967296 -> r + p * y1 = u ->
    L tab (run tab X) 191 [] wD1 (eF y s y1 y0 u v u0 p r)=some res:=by
  intro p
  induction p with
  | zero =>
   intro r hq hp hr h
   obtain⟨t1,t2,_⟩:=tests X hX D hr h
   have q0:(u*4294967296+v) / (y1*4294967296+y0)=0:=Nat.le_zero.1 hq
   rw[q0]at hk
   refine L_of ?_
   rw[oG,t1,decide_eq_false (by omega),qCf,t2 (by omega),decide_eq_false (by omega),qCf]
   exact hk
  | succ p ih =>
   intro r hq hp hr h
   obtain⟨t1,t2,t3,t4⟩:=tests X hX D hr h
   have hql:=D.q_lt
   have h':r+y1+p*y1=u:=by rw[Nat.add_mul]at h;omega
   have stop:4294967296<=r+y1->(u*4294967296+v) / (y1*4294967296+y0)<=p->exA X y s y1 y0 u v u0 (p:Int)=some res:=λhb hq'=>by
    have:=D.brk h' hb
    rw[show p=(u*4294967296+v) / (y1*4294967296+y0) by omega]
    exact hk
   have pp:=pred X hX (p:=p+1) (by omega) hp
   rw[show p+1-1=p by omega]at pp
   refine L_of ?_
   rw[oG,t1,t3,t4,pp]
   by_cases c1:4294967296<=p+1
   . have hq':(u*4294967296+v) / (y1*4294967296+y0)<=p:=by omega
     rw[decide_eq_true c1,qCt]
     by_cases c2:4294967296<=r+y1
     all_goals grind
   . rw[decide_eq_false c1,qCf,t2 (by omega)]
     by_cases c3:4294967296*r+v<(p+1)*y0
     . have hq' : (u * 4294967296 + v) / (y1 * 4294967296 + y0) <= p := by
         have:=Nat.lt_of_not_le λhh=>absurd ((D.le_iff h).2 hh) (by omega)
         omega
       rw[decide_eq_true c3,qCt]
       by_cases c2:4294967296<=r+y1
       all_goals grind
     . have:=(D.le_iff h).1 (by omega)
       rw[decide_eq_false c3,qCf]
       rw[show (u*4294967296+v) / (y1*4294967296+y0)=p+1 by omega]at hk
       exact hk
theorem lB (y s q1 : Int) {y1 y0 u v : Nat} (D : Dv y1 y0 u v) (res : List AV × List Blk) (hk : exB q1 v u y s (((u * 4294967296 + v) / (y1 * 4294967296 + y0) : Nat) : Int) = some res) : ∀ p r : Nat,(u * 4294967296 + v) / (y1 * 4294967296 + y0) <= p -> p < 17179869184 -> r < 4294967296 -> r + p * y1 = u ->
    L tab (run tab X) 191 [] wD2 (bU y s y1 y0 v q1 r u p)=some res:=by
  intro p
  induction p with
  | zero =>
   intro r hq hp hr h
   obtain⟨t1,t2,_⟩:=tests X hX D hr h
   have q0:(u*4294967296+v) / (y1*4294967296+y0)=0:=Nat.le_zero.1 hq
   rw[q0]at hk
   refine L_of ?_
   rw[lN,t1,decide_eq_false (by omega),qCf,t2 (by omega),decide_eq_false (by omega),qCf]
   exact hk
  | succ p ih =>
   intro r hq hp hr h
   obtain⟨t1,t2,t3,t4⟩:=tests X hX D hr h
   have hql:=D.q_lt
   have h':r+y1+p*y1=u:=by rw[Nat.add_mul]at h;omega
   have stop:4294967296<=r+y1->(u*4294967296+v) / (y1*4294967296+y0)<=p->exB q1 v u y s (p:Int)=some res:=λhb hq'=>by
    have:=D.brk h' hb
    rw[show p=(u*4294967296+v) / (y1*4294967296+y0) by omega]
    exact hk
   have pp:=pred X hX (p:=p+1) (by omega) hp
   rw[show p+1-1=p by omega]at pp
   refine L_of ?_
   rw[lN,t1,t3,t4,pp]
   by_cases c1:4294967296<=p+1
   . have hq':(u*4294967296+v) / (y1*4294967296+y0)<=p:=by omega
     rw[decide_eq_true c1,qCt]
     by_cases c2:4294967296<=r+y1
     all_goals grind
   . rw[decide_eq_false c1,qCf,t2 (by omega)]
     by_cases c3:4294967296*r+v<(p+1)*y0
     . have hq' : (u * 4294967296 + v) / (y1 * 4294967296 + y0) <= p := by
         have:=Nat.lt_of_not_le λhh=>absurd ((D.le_iff h).2 hh) (by omega)
         omega
       rw[decide_eq_true c3,qCt]
       by_cases c2:4294967296<=r+y1
       all_goals grind
     . have:=(D.le_iff h).1 (by omega)
       rw[decide_eq_false c3,qCf]
       rw[show (u*4294967296+v) / (y1*4294967296+y0)=p+1 by omega]at hk
       exact hk
theorem Yn{d:Nat}(hd:0<d)(a:d<aX):9223372036854775808<=d*2^(64-bl d)/\d*2^(64-bl d)<aX/\64-bl d<64/\bl d<=64:=by
 have _:=hX;have e:=MP hd;have c:=x9 d;have b:=Jz a;have h4:=Ia hd;refine⟨?_,?_,by omega,b⟩
 . have:2^(bl d-1)*2^(64-bl d)<=d*2^(64-bl d):=Nat.mul_le_mul_right _ e;rw[<- Nat.pow_add,show bl d-1+(64-bl d)=63 by omega]at this;exact this
 . have:d*2^(64-bl d)<2^bl d*2^(64-bl d):=Nat.mul_lt_mul_of_pos_right c (Nat.pow_pos (by decide));rw[<- Nat.pow_add,show bl d+(64-bl d)=64 by omega]at this;exact this
theorem Qo{u y1:Nat}(a:u<aX)(h:2147483648<=y1):u / y1<17179869184/\IntKind.u64.wrap ((u:Int).tdiv (y1:Int))=((u / y1:Nat):Int)/\IntKind.u64.wrap ((u:Int)-IntKind.u64.wrap (((u / y1:Nat):Int)*(y1:Int)))=((u%y1:Nat):Int):=by
 have _:=hX;have b0:aX=18446744073709551616:=rfl;have b:=Nat.div_mul_le_self u y1;have e:=Nat.div_add_mod u y1;rw[Nat.mul_comm]at e;refine⟨by rw[Nat.div_lt_iff_lt_mul (by omega)];omega,?_,?_⟩
 . rw[<- Int.ofNat_tdiv];exact iY (Nat.lt_of_le_of_lt (Nat.div_le_self _ _) a)
 . rw[show((u / y1:Nat):Int)*(y1:Int)=((u / y1*y1:Nat):Int) by simp];rw[iY (n:=u / y1*y1) (by omega),show(u:Int)-((u / y1*y1:Nat):Int)=((u%y1:Nat):Int) by omega];exact iY (Nat.lt_of_le_of_lt (Nat.mod_le _ _) a)
theorem SX(u v y:Nat)(b:0<y)(a:y<aX):IntKind.u64.wrap (IntKind.u64.wrap (IntKind.u64.wrap ((u:Int)*4294967296)+(v:Int))-IntKind.u64.wrap ((((u*4294967296+v) / y:Nat):Int)*(y:Int)))=(((u*4294967296+v)%y:Nat):Int):=by have _:=hX;have h:(u*4294967296+v)%y<y:=qNm _ b;refine Ym (m:=(u*4294967296+v)%y) ?_ (by omega);grind[RQ]
theorem RS (s : Nat) (hs : s < 64) {y1 y0 u v1 v0 y : Nat} (hy : y1 * 4294967296 + y0 = y) (D1 : Dv y1 y0 u v1) (h0 : v0 < 4294967296) (hu : u < aX) (hyB : y < aX) {Q1 u2 Q2 R : Nat} (e1 : (u * 4294967296 + v1) / y = Q1) (e2 : (u * 4294967296 + v1) % y = u2) (e3 : (u2 * 4294967296 + v0) / y = Q2) (e4 : (u2 * 4294967296 + v0) % y = R) :
    L tab (run tab X) 191 [] wD1 (eF y s y1 y0 u v1 v0 ((u / y1:Nat):Int) ((u%y1:Nat):Int))=some ([.p (.int .u64 ((Q1*4294967296+Q2:Nat):Int)),.p (.int .u64 ((R / 2 ^ s:Nat):Int))],[]):=by
  have b0:aX=18446744073709551616:=rfl
  have hlo:=D1.lo
  have hhi:=D1.hi
  have hpos:0<y:=by omega
  have nz:(!(eqI (y1:Int) (0:Int)))=true:=by rw[show eqI (y1:Int) (0:Int)=false from decide_eq_false (by omega)];rfl
  have ns:(!(ltI (s:Int) (0:Int)))=true:=by rw[show ltI (s:Int) 0=false from decide_eq_false (by omega)];rfl
  have ms:min ((s:Int)).toNat IntKind.u64.bits=s:=by
   show min s 64=s
   omega
  have hu2:u2<y:=by rw[<- e2];exact qNm _ hpos
  have D2:Dv y1 y0 u2 v0:=⟨hlo,hhi,D1.b0,h0,by omega⟩
  obtain⟨a1,_,_⟩:=Qo X hX hu hlo
  obtain⟨b1,b2,b3⟩:=Qo X hX (show u2<aX by omega) hlo
  have st1:=D1.start
  have st2:=D2.start
  have q1:=D1.q_lt
  have q2:=D2.q_lt
  rw[hy,e1]at q1
  rw[hy,e3]at q2
  have m1:=Nat.div_add_mod u y1
  have m2:=Nat.div_add_mod u2 y1
  rw[Nat.mul_comm]at m1 m2
  have r1:=qNm u (show 0<y1 by omega)
  have r2:=qNm u2 (show 0<y1 by omega)
  refine lA X hX (y:Int) (s:Int) (v0:Int) D1 _ ?_ (u / y1) (u%y1) st1 a1 (by omega) (by omega)
  rw[hy,e1]
  have g1:=SX X hX u v1 y hpos hyB
  rw[e1,e2]at g1
  unfold exA KW
  rw[nz,qCt,g1,b2,b3]
  refine lB X hX (y:Int) (s:Int) _ D2 _ ?_ (u2 / y1) (u2%y1) st2 b1 (by omega) (by omega)
  rw[hy,e3]
  have g2:=SX X hX u2 v0 y hpos hyB
  rw[e3,e4]at g2
  unfold exB
  rw[ns,qCt,ms,g2,BJ]
  have wQ:IntKind.u64.wrap (IntKind.u64.wrap ((Q1:Int)*4294967296)+(Q2:Int))=((Q1*4294967296+Q2:Nat):Int):=by
   have e1:IntKind.u64.wrap ((Q1:Int)*4294967296)=((Q1*4294967296:Nat):Int):=iY (n:=Q1*4294967296) (by omega)
   rw[e1]
   exact iY (n:=Q1*4294967296+Q2) (by omega)
  rw[wQ]
theorem Uz (hi lo s y W u d : Nat) (hs : s <= 64) (hy : d * 2 ^ s = y) (hw : lo * 2 ^ s % aX = W) (hu : hi * 2 ^ s + lo / 2 ^ (64 - s) = u) {v1 v0 Q1 u2 Q2 R : Nat} (hv : v1 * 4294967296 + v0 = W) (hd : 0 < d)
    (e1:(u*4294967296+v1) / y=Q1) (e2:(u*4294967296+v1)%y=u2) (e3:(u2*4294967296+v0) / y=Q2) (e4:(u2*4294967296+v0)%y=R):(hi*aX+lo) / d=Q1*4294967296+Q2/\(hi*aX+lo)%d=R / 2 ^ s:=by
  have _:=hX
  have hp:2 ^ s*2 ^ (64-s)=aX:=by rw[<- Nat.pow_add,show s+(64-s)=64 by omega]
  have hpos:0<2 ^ s:=Nat.pow_pos (by decide)
  have ypos:0<y:=by rw[<- hy];exact Nat.mul_pos hd hpos
  have hR:R<y:=by rw[<- e4];exact qNm _ ypos
  have f1:=Nat.div_add_mod (u*4294967296+v1) y
  have f2:=Nat.div_add_mod (u2*4294967296+v0) y
  rw[e1,e2]at f1
  rw[e3,e4]at f2
  have g1:lo*2 ^ s=lo / 2 ^ (64-s)*aX+W:=by
   have:=Nat.div_add_mod (lo*2 ^ s) aX
   rw[hw]at this
   have e:lo*2 ^ s / aX=lo / 2 ^ (64-s):=by rw[<- hp,Nat.mul_comm lo,Nat.mul_div_mul_left _ _ hpos]
   grind
  have abS:(hi*aX+lo)*2 ^ s=((Q1*4294967296+Q2)*d)*2 ^ s+R:=by grind
  have hdv:R=R / 2 ^ s*2 ^ s:=by
   have h1':2 ^ s ∣ (Q1*4294967296+Q2)*d*2 ^ s+R:=by rw[<- abS];exact Nat.dvd_mul_left _ _
   exact(Nat.div_mul_cancel ((Nat.dvd_add_right (Nat.dvd_mul_left _ _)).1 h1')).symm
  have abT:hi*aX+lo=d*(Q1*4294967296+Q2)+R / 2 ^ s:=by grind
  have hrl:R / 2 ^ s<d:=by rw[Nat.div_lt_iff_lt_mul hpos,hy];exact hR
  rw[abT]
  exact⟨by rw[Nat.mul_add_div hd,Nat.div_eq_of_lt hrl,Nat.add_zero],by rw[Nat.mul_add_mod,Nat.mod_eq_of_lt hrl]⟩
theorem YX (hi lo d:Nat) (hx:X 191=none) (h1:hi<d) (h2:lo<aX) (h3:d<aX):run tab X 191 [.p (.int .u64 hi),.p (.int .u64 lo),.p (.int .u64 d)] []=some ([.p (.int .u64 (((hi*aX+lo) / d:Nat):Int)),.p (.int .u64 (((hi*aX+lo)%d:Nat):Int))],[]) :=
 run_of hx (by
  have z1:((d:Int)==0)=false:=beq_eq_false_iff_ne.2 (by omega)
  have z2:leI (d:Int) (hi:Int)=false:=decide_eq_false (by omega)
  have z3:(!(eqI (d:Int) (0:Int)))=true:=by rw[show eqI (d:Int) (0:Int)=false from decide_eq_false (by omega)];rfl
  rw[YZ,z1,qCf,z2,qCf]
  by_cases h0:hi=0
  . subst h0
    rw[show (((0:Nat):Int)==0)=true from rfl,qCt,z3,qCt,qCt,Nat.zero_mul,qNz]
    rw[show (lo:Int).tdiv (d:Int)=((lo / d:Nat):Int) from rfl,iY (Nat.lt_of_le_of_lt (Nat.div_le_self _ _) h2)];rfl
  . rw[show ((hi:Int)==0)=false from beq_eq_false_iff_ne.2 (by omega),qCf,Ut X hX d h3,qOb]
    obtain⟨y63,yB,s64,adN⟩:=Yn X hX (show 0<d by omega) h3
    generalize 64-bl d=s at *
    simp only[qLh,pv_p,toInt_int]
    have ws:IntKind.u64.wrap (s:Int)=(s:Int):=iY (by have:aX=18446744073709551616:=rfl;omega)
    have ws2:IntKind.u64.wrap (64-(s:Int))=((64-s:Nat):Int):=by
     rw[show 64-(s:Int)=((64-s:Nat):Int) by omega]
     exact iY (by have:aX=18446744073709551616:=rfl;omega)
    have m1:min ((s:Int)).toNat IntKind.u64.bits=s:=by
     show min s 64=s
     omega
    have m2:min (((64-s:Nat):Int)).toNat IntKind.u64.bits=64-s:=by
     show min (64-s) 64=64-s
     omega
    have n1:(!(ltI (s:Int) (0:Int)))=true:=by rw[show ltI (s:Int) 0=false from decide_eq_false (by omega)];rfl
    have n2:(!(ltI ((64-s:Nat):Int) (0:Int)))=true:=by rw[show ltI ((64-s:Nat):Int) 0=false from decide_eq_false (by omega)];rfl
    have hp:2 ^ s*2 ^ (64-s)=aX:=by rw[<- Nat.pow_add,show s+(64-s)=64 by omega]
    have hpos:0<2 ^ s:=Nat.pow_pos (by decide)
    have Yo:0<2 ^ (64-s):=Nat.pow_pos (by decide)
    have hh:hi*2 ^ s<aX:=Nat.lt_trans (Nat.mul_lt_mul_of_pos_right h1 hpos) yB
    have ht:lo / 2 ^ (64-s)<2 ^ s:=by rw[Nat.div_lt_iff_lt_mul Yo,hp];exact h2
    have hor:=(orL ht (by omega) hh (Nat.mul_mod_left _ _)).1
    have fd:∀ x:Nat,(x:Int).fdiv (2 ^ 32)=((x / 4294967296:Nat):Int):=λx=>BJ x 32
    have YU:hi*2 ^ s+lo / 2 ^ (64-s)<d*2 ^ s:=by
     have:(hi+1)*2 ^ s<=d*2 ^ s:=Nat.mul_le_mul_right _ h1
     grind
    have hW:lo*2 ^ s%aX<aX:=qNm _ (by decide)
    rw[ws,ws2,m1,m2,n1,n2]
    simp only[qCt]
    rw[Oj d s,Oj hi s,Oj lo s,Nat.mod_eq_of_lt yB,Nat.mod_eq_of_lt hh,BJ lo (64-s),hor,fd,fd,Qn _ yB,Qn _ hW]
    obtain⟨y,hy⟩:∃ y,d*2 ^ s=y:=⟨_,rfl⟩
    obtain⟨W,hw⟩:∃ W,lo*2 ^ s%aX=W:=⟨_,rfl⟩
    obtain⟨u,hu⟩:∃ u,hi*2 ^ s+lo / 2 ^ (64-s)=u:=⟨_,rfl⟩
    rw[hy]at y63 yB YU
    rw[hu]at YU
    rw[hw]at hW
    rw[hy,hw,hu]
    obtain⟨y1,y0,k1,k2,k3⟩:∃ y1 y0,y1=y / 4294967296/\y0=y%4294967296/\y1*4294967296+y0=y:=⟨_,_,rfl,rfl,Nat.div_add_mod' y 4294967296⟩
    obtain⟨v1,v0,l1,l2,l3⟩:∃ v1 v0,v1=W / 4294967296/\v0=W%4294967296/\v1*4294967296+v0=W:=⟨_,_,rfl,rfl,Nat.div_add_mod' W 4294967296⟩
    have hy0:y0<4294967296:=by rw[k2];exact qNm _ (by decide)
    have hv0:v0<4294967296:=by rw[l2];exact qNm _ (by decide)
    rw[<- k1,<- k2,<- l1,<- l2]
    have hb:aX=18446744073709551616:=rfl
    rw[hb]at yB hW
    clear k1 k2 l1 l2 hor fd ht hp hh
    have D1:Dv y1 y0 u v1:=⟨by omega,by omega,hy0,by omega,by rw[k3];exact YU⟩
    have hu64:u<aX:=Nat.lt_trans YU yB
    obtain⟨a1,a2,a3⟩:=Qo X hX hu64 D1.lo
    have nz:(!(eqI (y1:Int) (0:Int)))=true:=by grind
    obtain⟨t1,t2⟩:=Uz X hX hi lo s y W u d (by omega) hy hw hu l3 (by omega) rfl rfl rfl rfl
    rw[t1,t2,a2,a3,nz,qCt]
    exact RS X hX s s64 k3 D1 hv0 hu64 yB rfl rfl rfl rfl)
end
end
section
theorem Om{f g y1 d a b h c w e H:Nat}(k:g*d=a*H+b)(j:f*d+a=h*H+c)(i:c+g*y1=w*H+e):(f*H+g)*(y1*H+d)=(f*y1+h+w)*(H*H)+(e*H+b):=by
 have l:(f*H+g)*(y1*H+d)=f*y1*(H*H)+(f*d*H+g*y1*H)+g*d:=by grind
 have n:(f*d+a)*H=(h*H+c)*H:=by rw[j]
 have m:(c+g*y1)*H=(w*H+e)*H:=by rw[i]
 rw[l,k];grind
theorem UA(x y:Nat)(f:x<aX)(d:y<aX):x*y / aX=x / 4294967296*(y / 4294967296)+(x / 4294967296*(y%4294967296)+x%4294967296*(y%4294967296) / 4294967296) / 4294967296+((x / 4294967296*(y%4294967296)+x%4294967296*(y%4294967296) / 4294967296)%4294967296+x%4294967296*(y / 4294967296)) / 4294967296:=by
 have _:=f;have _:=d;have hX:=Nat.div_add_mod' x 4294967296;have g:=Nat.div_add_mod' y 4294967296;have a:=Om (H:=4294967296) (Nat.div_add_mod' (x%4294967296*(y%4294967296)) 4294967296).symm (Nat.div_add_mod' (x / 4294967296*(y%4294967296)+x%4294967296*(y%4294967296) / 4294967296) 4294967296).symm (Nat.div_add_mod' ((x / 4294967296*(y%4294967296)+x%4294967296*(y%4294967296) / 4294967296)%4294967296+x%4294967296*(y / 4294967296)) 4294967296).symm;rw[hX,g]at a;have j:=qNm ((x / 4294967296*(y%4294967296)+x%4294967296*(y%4294967296) / 4294967296)%4294967296+x%4294967296*(y / 4294967296)) (show 0<4294967296 by decide);have i:=qNm (x%4294967296*(y%4294967296)) (show 0<4294967296 by decide);rw[a];generalize ((x / 4294967296*(y%4294967296)+x%4294967296*(y%4294967296) / 4294967296)%4294967296+x%4294967296*(y / 4294967296))%4294967296=e at *;generalize x%4294967296*(y%4294967296)%4294967296=b at *;have h:aX=4294967296*4294967296:=rfl;have c:e*4294967296+b<aX:=by have:aX=18446744073709551616:=rfl;omega
 rw[<- h,Nat.mul_comm,Nat.mul_add_div (by decide),Nat.div_eq_of_lt c,Nat.add_zero]
theorem CW{a b:Nat}(d:a<4294967296)(c:b<4294967296):a*b<=18446744065119617025:=Nat.mul_le_mul (show a<=4294967295 by omega) (show b<=4294967295 by omega)
section
variable (X:Ext) (hX:Mine X)
include hX
theorem YW(x y:Nat)(j:X 187=none)(f:x<aX)(e:y<aX):run tab X 187 [.p (.int .u64 x),.p (.int .u64 y)] []=some ([.p (.int .u64 ((x*y / aX:Nat):Int)),.p (.int .u64 ((x*y%aX:Nat):Int))],[]):=
 run_of j (by
  have _:=hX;have c:∀ x:Nat,(x:Int).fdiv (2^32)=((x / 4294967296:Nat):Int):=λx=>BJ x 32;have w:aX=18446744073709551616:=rfl;have l:x / 4294967296<4294967296:=by rw[Nat.div_lt_iff_lt_mul (by decide)];exact f
  have y1:y / 4294967296<4294967296:=by rw[Nat.div_lt_iff_lt_mul (by decide)];exact e
  have m:x%4294967296<4294967296:=qNm _ (by decide);have k:y%4294967296<4294967296:=qNm _ (by decide);have o:=CW m k;have s:=CW l k;have r:=CW m y1;have q:=CW l y1;have d:∀ a b:Nat,a*b<=18446744065119617025->IntKind.u64.wrap ((a:Int)*(b:Int))=((a*b:Nat):Int):=λa b h=>by rw[show(a:Int)*(b:Int)=((a*b:Nat):Int) by simp];exact iY (by omega)
  have g:∀ a b:Nat,a+b<aX->IntKind.u64.wrap ((a:Int)+(b:Int))=((a+b:Nat):Int):=λa b h=>iY (n:=a+b) h;have u:x*y / aX<aX:=by rw[Nat.div_lt_iff_lt_mul (by decide)];exact Nat.mul_lt_mul_of_lt_of_lt f e
  have i:=UA x y f e;have lo:IntKind.u64.wrap ((x:Int)*(y:Int))=((x*y%aX:Nat):Int):=by rw[show(x:Int)*(y:Int)=((x*y:Nat):Int) by simp];rfl
  rw[e187,lo,c,c,Qn x f,Qn y e,d _ _ o,c,d _ _ s];have t:x / 4294967296*(y%4294967296)+x%4294967296*(y%4294967296) / 4294967296<aX:=by
   have:x%4294967296*(y%4294967296) / 4294967296<=4294967295:=by
    have:x%4294967296*(y%4294967296) / 4294967296<4294967296:=by rw[Nat.div_lt_iff_lt_mul (by decide)];exact Nat.lt_of_le_of_lt o (by decide)
    omega
   omega
  rw[g _ _ t,c,Qn _ t,d _ _ r];generalize x / 4294967296*(y%4294967296)+x%4294967296*(y%4294967296) / 4294967296=T at *;have v:T%4294967296<4294967296:=qNm _ (by decide);rw[g (T%4294967296) _ (by omega),c,d _ _ q];generalize (T%4294967296+x%4294967296*(y / 4294967296)) / 4294967296=W at *;rw[g _ _ (by omega),g _ _ (by omega),i])
end
end
end Go.Skm.Fen
namespace Go.Proofs
open Go.Shelf
def Tryz.laysSort_ren:Go.Shelf.Ren:=⟨λ| 6=>74 | 15=>137 | 14=>136 | 28=>169 | 29=>170 | 20=>161 | 21=>162 | 22=>163 | 23=>164 | 24=>165 | 25=>166 | 26=>167 | 27=>168 | 46=>181 | 47=>182 | 48=>183 | 49=>184 | 50=>185 | 57=>188 | n=>n,λ| 22=>46 | 24=>45 | 25=>109 | 3=>3 | 39=>170 | 0=>0 | 53=>195 | 55=>143 | 4=>4 | 46=>188 | 45=>187 | 50=>192 | 5=>5 | 9=>9 | 66=>203 | 70=>207 | 76=>212 | 77=>213 | n=>n,λ| n=>n⟩
theorem Tryz.laysSort:Go.Proofs.SlLaysF0.n6 Tryz.prog Tryz.laysSort_ren:={
 mixed:=by kernel_rfl
 f6:=⟨Tryz.f74.name,by decide,Tryz.func74.trans (congrArg some (by kernel_rfl))⟩
 f14:=⟨Tryz.f136.name,by decide,Tryz.func136.trans (congrArg some (by kernel_rfl))⟩
 f15:=Tryz.func137.trans (congrArg some (by kernel_rfl))
 f20:=⟨Tryz.f161.name,by decide,Tryz.func161.trans (congrArg some (by kernel_rfl))⟩
 f21:=⟨Tryz.f162.name,by decide,Tryz.func162.trans (congrArg some (by kernel_rfl))⟩
 f22:=⟨Tryz.f163.name,by decide,Tryz.func163.trans (congrArg some (by kernel_rfl))⟩
 f23:=⟨Tryz.f164.name,by decide,Tryz.func164.trans (congrArg some (by kernel_rfl))⟩
 f24:=⟨Tryz.f165.name,by decide,Tryz.func165.trans (congrArg some (by kernel_rfl))⟩
 f25:=⟨Tryz.f166.name,by decide,Tryz.func166.trans (congrArg some (by kernel_rfl))⟩
 f26:=⟨Tryz.f167.name,by decide,Tryz.func167.trans (congrArg some (by kernel_rfl))⟩
 f27:=⟨Tryz.f168.name,by decide,Tryz.func168.trans (congrArg some (by kernel_rfl))⟩
 f28:=Tryz.func169.trans (congrArg some (by kernel_rfl))
 f29:=Tryz.func170.trans (congrArg some (by kernel_rfl))
 f46:=⟨Tryz.f181.name,by decide,Tryz.func181.trans (congrArg some (by kernel_rfl))⟩
 f47:=Tryz.func182.trans (congrArg some (by kernel_rfl))
 f48:=Tryz.func183.trans (congrArg some (by kernel_rfl))
 f49:=⟨Tryz.f184.name,by decide,Tryz.func184.trans (congrArg some (by kernel_rfl))⟩
 f50:=⟨Tryz.f185.name,by decide,Tryz.func185.trans (congrArg some (by kernel_rfl))⟩
 f57:=⟨Tryz.f188.name,by decide,Tryz.func188.trans (congrArg some (by kernel_rfl))⟩
 t0:=Tryz.underlying0
 a0:=Tryz.isAgg0
 z0:=Tryz.sizeOf0
 v0:=Tryz.zeroValue0
 t3:=Tryz.underlying3
 a3:=Tryz.isAgg3
 z3:=Tryz.sizeOf3
 v3:=Tryz.zeroValue3
 t4:=Tryz.underlying4
 a4:=Tryz.isAgg4
 z4:=Tryz.sizeOf4
 v4:=Tryz.zeroValue4
 t5:=Tryz.underlying5
 a5:=Tryz.isAgg5
 z5:=Tryz.sizeOf5
 v5:=Tryz.zeroValue5
 t9:=Tryz.underlying9
 a9:=Tryz.isAgg9
 z9:=Tryz.sizeOf9
 v9:=Tryz.zeroValue9
 t22:=Tryz.underlying46
 a22:=Tryz.isAgg46
 z22:=Tryz.sizeOf46
 v22:=Tryz.zeroValue46
 t25:=Tryz.underlying109
 a25:=Tryz.isAgg109
 z25:=Tryz.sizeOf109
 v25:=Tryz.zeroValue109
 t39:=Tryz.underlying170
 a39:=Tryz.isAgg170
 z39:=Tryz.sizeOf170
 v39:=Tryz.zeroValue170
 t45:=Tryz.underlying187
 a45:=Tryz.isAgg187
 z45:=Tryz.sizeOf187
 v45:=Tryz.zeroValue187
 t46:=Tryz.underlying188
 a46:=Tryz.isAgg188
 z46:=Tryz.sizeOf188
 v46:=Tryz.zeroValue188
 t50:=Tryz.underlying192
 a50:=Tryz.isAgg192
 z50:=Tryz.sizeOf192
 v50:=Tryz.zeroValue192
 t53:=Tryz.underlying195
 a53:=Tryz.isAgg195
 z53:=Tryz.sizeOf195
 v53:=Tryz.zeroValue195
 t55:=Tryz.underlying143
 a55:=Tryz.isAgg143
 z55:=Tryz.sizeOf143
 v55:=Tryz.zeroValue143
 t66:=Tryz.underlying203
 a66:=Tryz.isAgg203
 z66:=Tryz.sizeOf203
 v66:=Tryz.zeroValue203
 t70:=Tryz.underlying207
 a70:=Tryz.isAgg207
 z70:=Tryz.sizeOf207
 v70:=Tryz.zeroValue207
 t76:=Tryz.underlying212
 a76:=Tryz.isAgg212
 z76:=Tryz.sizeOf212
 v76:=Tryz.zeroValue212
 t77:=Tryz.underlying213
 a77:=Tryz.isAgg213
 z77:=Tryz.sizeOf213
 v77:=Tryz.zeroValue213}
def Tryz.vS:Go.Shelf.Ren:=⟨λ| 41=>193 | n=>n,λ| 22=>140 | 23=>143 | 4=>4 | n=>n,λ| n=>n⟩
theorem Tryz.JF:Go.Proofs.SlLaysE0.n41 Tryz.prog Tryz.vS:={
 mixed:=by kernel_rfl
 f41:=⟨Tryz.f193.name,by decide,Tryz.func193.trans (congrArg some (by kernel_rfl))⟩
 t4:=Tryz.underlying4
 a4:=Tryz.isAgg4
 z4:=Tryz.sizeOf4
 v4:=Tryz.zeroValue4
 t22:=Tryz.underlying140
 a22:=Tryz.isAgg140
 z22:=Tryz.sizeOf140
 v22:=Tryz.zeroValue140}
def Tryz.vP:Go.Shelf.Ren:=⟨λ| 41=>88 | n=>n,λ| 22=>22 | 23=>26 | 4=>4 | n=>n,λ| n=>n⟩
theorem Tryz.JE:Go.Proofs.SlLaysE0.n41 Tryz.prog Tryz.vP:={
 mixed:=by kernel_rfl
 f41:=⟨Tryz.f88.name,by decide,Tryz.func88.trans (congrArg some (by kernel_rfl))⟩
 t4:=Tryz.underlying4
 a4:=Tryz.isAgg4
 z4:=Tryz.sizeOf4
 v4:=Tryz.zeroValue4
 t22:=Tryz.underlying22
 a22:=Tryz.isAgg22
 z22:=Tryz.sizeOf22
 v22:=Tryz.zeroValue22}
end Go.Proofs
set_option maxRecDepth 100000
namespace Go.Skm.Fen
open Go Go.Skm Go.Proofs Go.Shelf Go.RowKit Go.Lib Go.Sort
def Ij:List (Nat × FI)->List (Nat × FI)
 |[]=>[]
 |(f,fi)::r=>bif fi.cfg.prim.is then(f,fi)::Ij r else Ij r
theorem EY:∀{l:List (Nat × FI)} {f:Nat} {fi:FI},tlook l f=some fi->fi.cfg.prim.is=true->(f,fi)∈Ij l
 |[],_,_,h,_=>by cases h
 |(g,gi)::r,f,fi,h,h2=>by
  rw[tlook]at h;unfold Ij;by_cases e:(g==f)=true
  . rw[e]at h;cases h;rw[h2,qCt,eq_of_beq e];simp
  . have a:(g==f)=false:=by simpa using e
    rw[a,qCf]at h;have:=EY h h2;cases gi.cfg.prim.is with
    | true=>rw[qCt];exact List.mem_cons_of_mem _ this
    | false=>rw[qCf];exact this
theorem prims:Ij tab.funcs=[(179,RY),(180,RZ)]:=by kernel_rfl
theorem UZ(w:World)(x y c:Nat)(a:c<=1):(callFunc 179 #[.int .u64 x,.int .u64 y,.int .u64 c]).run Tryz.prog w=.ok (.value (.tuple #[.int .u64 (((x+y+c)%18446744073709551616:Nat):Int),.int .u64 (((x+y+c) / 18446744073709551616:Nat):Int)])) w:=by rw[run_callFunc_extern Tryz.func179 (by kernel_rfl) (by kernel_rfl) (by kernel_rfl) (e:=add64Entry) (by kernel_rfl),run_add64 x y c (by omega) (by omega) (by omega) (by omega)];simp only[Result.andThen];congr 5<;>omega
theorem U0(w:World)(x y c:Nat)(hc:c<=1):(callFunc 180 #[.int .u64 x,.int .u64 y,.int .u64 c]).run Tryz.prog w=.ok (.value (.tuple #[.int .u64 (((x+18446744073709551616-y-c)%18446744073709551616:Nat):Int),.int .u64 ((if x<y+c then 1 else 0:Nat):Int)])) w:=by rw[run_callFunc_extern Tryz.func180 (by kernel_rfl) (by kernel_rfl) (by kernel_rfl) (e:=sub64Entry) (by kernel_rfl),run_sub64 x y c hc];rfl
theorem Tf(w:World)(x y c:Nat)(a:c<=1):(callFunc 179 #[.int .u64 x,.int .u64 y,.int .u64 c]).run Tryz.prog w=.ok (.value (.tuple #[.int .u64 (iK false x y c),.int .u64 (iW false x y c)])) w:=by rw[UZ w x y c a,iK,iW,qCf,qCf]
theorem Ti(w:World)(x y c:Nat)(a:c<=1):(callFunc 180 #[.int .u64 x,.int .u64 y,.int .u64 c]).run Tryz.prog w=.ok (.value (.tuple #[.int .u64 (iK true x y c),.int .u64 (iW true x y c)])) w:=by rw[U0 w x y c a,iK,iW,qCt,qCt]
theorem primsOk:PrimsOk Tryz.prog tab:=λf fi h=>by
 cases hp:fi.cfg.prim with
 | none=>trivial
 | carry b =>
  have:=EY h (by rw[hp];rfl);rw[prims]at this;simp only[List.mem_cons,List.not_mem_nil,or_false,Prod.mk.injEq]at this;rcases this with⟨rfl,rfl⟩ |⟨rfl,rfl⟩<;>cases hp
  . exact λw x y c a=>Tf w x y c a
  . exact λw x y c a=>Ti w x y c a
theorem tabTrue:TabOk Tryz.prog tab:=tabOk primsOk
theorem words{X:Ext}(a:Mine X)(g:X 187=none)(f:X 191=none):Words X:=⟨λx y c b=>YW X a x y g c b,λh l d e h4 h5=>YX X a h l d f e h4 h5⟩
theorem JD{gl:Option (List (Nat × Obj))}:ExtOk Tryz.prog tab gl (extL []):=extOk_nil λ_ _=>trivial
end Go.Skm.Fen
