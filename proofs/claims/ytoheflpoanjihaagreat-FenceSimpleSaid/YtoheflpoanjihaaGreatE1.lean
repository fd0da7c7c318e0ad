import Derived.Test.YtoheflpoanjihaaGreatW13
import Derived.Test.YtoheflpoanjihaaGreatEqd
import Derived.Shelf.SlGeneric
import Derived.Shelf.SlSortCmp.NoneTotal
import Derived.Shelf.SlicesE.Clone
import Derived.Ground.SlsfProg
import Derived.Ground.SlgnProg
import Derived.Test.YtoheflpoanjihaaGreatProg
import Derived.Test.YtoheflpoanjihaaGreatG22
import Derived.Test.YtoheflpoanjihaaGreatTabOk
import Derived.Test.YtoheflpoanjihaaGreatSkmH
import Derived.Shelf.Spec.BitsCarry
namespace Go.Skm.Fen
open Go Go.Skm Go.Skm.Dig
theorem wrapM (x:Int):IntKind.u64.wrap x=x%18446744073709551616:=rfl
theorem afb (x:Nat) (hx:x<aZ):IntKind.u64.wrap (((BitVec.ofInt IntKind.u64.bits (x:Int)) &&& (BitVec.ofInt IntKind.u64.bits (4294967295:Int))).toNat:Nat)=((x%4294967296:Nat):Int):=by show IntKind.u64.wrap (((BitVec.ofInt 64 (x:Int)) &&& (BitVec.ofInt 64 ((4294967295:Nat):Int))).toNat:Nat)=_;rw[BitVec.ofInt_natCast,BitVec.ofInt_natCast,BitVec.toNat_and,BitVec.toNat_ofNat,BitVec.toNat_ofNat,Nat.mod_eq_of_lt (show x<2 ^ 64 from hx),Nat.mod_eq_of_lt (show 4294967295<2 ^ 64 by decide)];rw[show (4294967295:Nat)=2 ^ 32-1 from rfl,Nat.and_two_pow_sub_one_eq_mod];have:x%2 ^ 32<2 ^ 32:=Nat.mod_lt _ (by decide);exact nJ (Nat.lt_trans this (by decide))
structure Dv (y1 y0 u v:Nat):Prop where
 lo:2147483648≤y1
 hi:y1<4294967296
 b0:y0<4294967296
 bv:v<4294967296
 bu:u<y1*4294967296+y0
namespace Dv
variable {y1 y0 u v:Nat} (D:Dv y1 y0 u v)
include D
theorem q_lt:(u*4294967296+v) / (y1*4294967296+y0)<4294967296:=by
 have h1:=D.bu;have h2:=D.bv;rw[Nat.div_lt_iff_lt_mul (by omega)];have e:(u+1)*4294967296≤4294967296*(y1*4294967296+y0):=by rw[Nat.mul_comm];exact Nat.mul_le_mul_left _ h1
 have:(u+1)*4294967296=u*4294967296+4294967296:=by rw[Nat.add_mul,Nat.one_mul]
 omega
theorem le_iff {p r:Nat} (h:r+p*y1=u):p*y0≤4294967296*r+v↔p≤(u*4294967296+v) / (y1*4294967296+y0):=by
 rw[Nat.le_div_iff_mul_le (by have:=D.bu;omega)];have e1:p*(y1*4294967296+y0)=p*y1*4294967296+p*y0:=by rw[Nat.mul_add,Nat.mul_assoc]
 have e2:u*4294967296=r*4294967296+p*y1*4294967296:=by rw[← h,Nat.add_mul]
 have e3:4294967296*r=r*4294967296:=Nat.mul_comm ..;omega
theorem brk {p r:Nat} (h:r+p*y1=u) (hr:4294967296≤r):p≤(u*4294967296+v) / (y1*4294967296+y0):=by
 rw[← D.le_iff h];have h1:=D.bu;have h2:=D.b0;have hp:p<4294967296:=by
  have:p*y1<4294967296*y1:=by have:4294967296*y1=y1*4294967296:=Nat.mul_comm ..;omega
  exact Nat.lt_of_mul_lt_mul_right this
 have a:p*y0≤4294967296*4294967296:=Nat.mul_le_mul (by omega) (by omega);have b:4294967296*4294967296≤4294967296*r:=Nat.mul_le_mul_left _ hr;omega
theorem start:(u*4294967296+v) / (y1*4294967296+y0)≤u / y1:=by
 have h1:=D.lo;have h2:=D.bv;rw[Nat.le_div_iff_mul_le (by omega)];have h3:=Nat.div_mul_le_self (u*4294967296+v) (y1*4294967296+y0);generalize (u*4294967296+v) / (y1*4294967296+y0)=q at *;have e1:q*(y1*4294967296+y0)=q*y1*4294967296+q*y0:=by rw[Nat.mul_add,Nat.mul_assoc]
 rw[e1]at h3;rcases Nat.lt_or_ge u (q*y1) with h | h
 · exfalso;have:(u+1)*4294967296≤q*y1*4294967296:=Nat.mul_le_mul_right _ h;rw[Nat.add_mul]at this;omega
 · exact h
end Dv
theorem alx {a v b:Int} {m:Nat} (h:a+v-b=(m:Int)) (hm:m<aZ):IntKind.u64.wrap (IntKind.u64.wrap (IntKind.u64.wrap a+v)-IntKind.u64.wrap b)=(m:Int):=by simp only[wrapM];have:m<18446744073709551616:=hm;omega
theorem agt (N y:Nat):(N:Int)-((N / y:Nat):Int)*(y:Int)=((N%y:Nat):Int):=by
 have h:=Nat.div_add_mod N y;have e:((N / y*y:Nat):Int)=((N / y:Nat):Int)*(y:Int):=by simp
 rw[← e,Nat.mul_comm];omega
abbrev wD1:List Wy:=[.lp [1,1,1,1,1,1,1,1,1,1,1,1,1,1,0,0]]
abbrev wD2:List Wy:=[.lp [1,1,1,1,1,1,1,1,1,1,1,1,1,1,1,1,1,1,0,0]]
abbrev aav (u v y p:Int):Int:=IntKind.u64.wrap (IntKind.u64.wrap (IntKind.u64.wrap (u*4294967296)+v)-IntKind.u64.wrap (p*y))
abbrev exB (q1 un0 aav y s p:Int):Option (List AV × List cu):=bif (!(dG s (0:Int))) then some ([.p (.int .u64 (IntKind.u64.wrap ((IntKind.u64.wrap (q1*(4294967296:Int)))+p))),.p (.int .u64 ((IntKind.u64.wrap ((IntKind.u64.wrap ((IntKind.u64.wrap (aav*(4294967296:Int)))+un0))-(IntKind.u64.wrap (p*y)))).fdiv (2 ^ (min s.toNat IntKind.u64.bits))))],[]) else none
section
variable (X:Ext) (hX:Mine X)
include hX
noncomputable abbrev exA (y s y1 y0 u v u0 p:Int):Option (List AV × List cu):=bif (!(FK y1 (0:Int))) then L tab (run tab X) 191 [] wD2 (eH y s y1 y0 u0 p (IntKind.u64.wrap (aav u v y p-IntKind.u64.wrap (IntKind.u64.wrap ((aav u v y p).tdiv y1)*y1))) (aav u v y p) (IntKind.u64.wrap ((aav u v y p).tdiv y1))) else none
theorem tests {y1 y0 u v : Nat} (D : Dv y1 y0 u v) {p r : Nat} (hr : r < 4294967296) (h : r + p * y1 = u) :
    (yH (p:Int) 4294967296=decide (4294967296≤p))∧(p<4294967296→kX (IntKind.u64.wrap ((p:Int)*(y0:Int))) (IntKind.u64.wrap (IntKind.u64.wrap (4294967296*(r:Int))+(v:Int)))=decide (4294967296*r+v<p*y0))∧IntKind.u64.wrap ((r:Int)+(y1:Int))=((r+y1:Nat):Int)∧yH ((r+y1:Nat):Int) 4294967296=decide (4294967296≤r+y1):=by
  have _:=hX;have _:=h;have h1:=D.hi;have h2:=D.bv;have h3:=D.b0;refine⟨decide_eq_decide.2 (by omega),fun hp=>?_,?_,decide_eq_decide.2 (by omega)⟩
  · have a:p*y0≤(4294967296-1)*(4294967296-1):=Nat.mul_le_mul (by omega) (by omega);have e1:IntKind.u64.wrap ((p:Int)*(y0:Int))=((p*y0:Nat):Int):=by rw[show (p:Int)*(y0:Int)=((p*y0:Nat):Int) by simp];exact nJ (Nat.lt_of_le_of_lt a (by decide))
    have e2:IntKind.u64.wrap (4294967296*(r:Int))=((4294967296*r:Nat):Int):=nJ (n:=4294967296*r) (by have:aZ=18446744073709551616:=rfl;omega);have e3:IntKind.u64.wrap (((4294967296*r:Nat):Int)+(v:Int))=((4294967296*r+v:Nat):Int):=nJ (n:=4294967296*r+v) (by have:aZ=18446744073709551616:=rfl;omega);rw[e1,e2,e3];exact decide_eq_decide.2 (by omega)
  · exact nJ (n:=r+y1) (by have:aZ=18446744073709551616:=rfl;omega)
theorem pred {p:Nat} (h0:0<p) (hp:p<17179869184):IntKind.u64.wrap ((p:Int)-1)=((p-1:Nat):Int):=by have _:=hX;rw[show (p:Int)-1=((p-1:Nat):Int) by omega];exact nJ (by have:aZ=18446744073709551616:=rfl;omega)
theorem lA (y s u0 : Int) {y1 y0 u v : Nat} (D : Dv y1 y0 u v) (res : List AV × List cu) (hk : exA X y s y1 y0 u v u0 (((u * 4294967296 + v) / (y1 * 4294967296 + y0) : Nat) : Int) = some res) : ∀ p r : Nat,(u * 4294967296 + v) / (y1 * 4294967296 + y0) ≤ p → p < 17179869184 → r < 4294967296 → r + p * y1 = u →
    L tab (run tab X) 191 [] wD1 (iL y s y1 y0 u v u0 p r)=some res:=by
  intro p;induction p with
  | zero =>intro r hq hp hr h;obtain⟨t1,t2,_⟩:=tests X hX D hr h;have q0:(u*4294967296+v) / (y1*4294967296+y0)=0:=Nat.le_zero.1 hq;rw[q0]at hk;refine dW ?_;rw[vU,t1,decide_eq_false (by omega),cond_false,t2 (by omega),decide_eq_false (by omega),cond_false];exact hk
  | succ p ih =>
   intro r hq hp hr h;obtain⟨t1,t2,t3,t4⟩:=tests X hX D hr h;have hql:=D.q_lt;have h':r+y1+p*y1=u:=by rw[Nat.add_mul]at h;omega
   have stop:4294967296≤r+y1→(u*4294967296+v) / (y1*4294967296+y0)≤p→exA X y s y1 y0 u v u0 (p:Int)=some res:=fun hb hq'=>by have:=D.brk h' hb;rw[show p=(u*4294967296+v) / (y1*4294967296+y0) by omega];exact hk
   have pp:=pred X hX (p:=p+1) (by omega) hp;rw[show p+1-1=p by omega]at pp;refine dW ?_;rw[vU,t1,t3,t4,pp];by_cases c1:4294967296≤p+1
   · have hq':(u*4294967296+v) / (y1*4294967296+y0)≤p:=by omega
     rw[decide_eq_true c1,cond_true];by_cases c2:4294967296≤r+y1
     · rw[decide_eq_true c2,cond_true];exact stop c2 hq'
     · rw[decide_eq_false c2,cond_false];exact ih (r+y1) hq' (by omega) (by omega) h'
   · rw[decide_eq_false c1,cond_false,t2 (by omega)];by_cases c3:4294967296*r+v<(p+1)*y0
     · have hq' : (u * 4294967296 + v) / (y1 * 4294967296 + y0) ≤ p := by have:=Nat.lt_of_not_le fun hh=>absurd ((D.le_iff h).2 hh) (by omega);omega
       rw[decide_eq_true c3,cond_true];by_cases c2:4294967296≤r+y1
       · rw[decide_eq_true c2,cond_true];exact stop c2 hq'
       · rw[decide_eq_false c2,cond_false];exact ih (r+y1) hq' (by omega) (by omega) h'
     · have:=(D.le_iff h).1 (by omega);rw[decide_eq_false c3,cond_false];rw[show (u*4294967296+v) / (y1*4294967296+y0)=p+1 by omega]at hk;exact hk
theorem lB (y s q1 : Int) {y1 y0 u v : Nat} (D : Dv y1 y0 u v) (res : List AV × List cu) (hk : exB q1 v u y s (((u * 4294967296 + v) / (y1 * 4294967296 + y0) : Nat) : Int) = some res) : ∀ p r : Nat,(u * 4294967296 + v) / (y1 * 4294967296 + y0) ≤ p → p < 17179869184 → r < 4294967296 → r + p * y1 = u →
    L tab (run tab X) 191 [] wD2 (eH y s y1 y0 v q1 r u p)=some res:=by
  intro p;induction p with
  | zero =>intro r hq hp hr h;obtain⟨t1,t2,_⟩:=tests X hX D hr h;have q0:(u*4294967296+v) / (y1*4294967296+y0)=0:=Nat.le_zero.1 hq;rw[q0]at hk;refine dW ?_;rw[rU,t1,decide_eq_false (by omega),cond_false,t2 (by omega),decide_eq_false (by omega),cond_false];exact hk
  | succ p ih =>
   intro r hq hp hr h;obtain⟨t1,t2,t3,t4⟩:=tests X hX D hr h;have hql:=D.q_lt;have h':r+y1+p*y1=u:=by rw[Nat.add_mul]at h;omega
   have stop:4294967296≤r+y1→(u*4294967296+v) / (y1*4294967296+y0)≤p→exB q1 v u y s (p:Int)=some res:=fun hb hq'=>by have:=D.brk h' hb;rw[show p=(u*4294967296+v) / (y1*4294967296+y0) by omega];exact hk
   have pp:=pred X hX (p:=p+1) (by omega) hp;rw[show p+1-1=p by omega]at pp;refine dW ?_;rw[rU,t1,t3,t4,pp];by_cases c1:4294967296≤p+1
   · have hq':(u*4294967296+v) / (y1*4294967296+y0)≤p:=by omega
     rw[decide_eq_true c1,cond_true];by_cases c2:4294967296≤r+y1
     · rw[decide_eq_true c2,cond_true];exact stop c2 hq'
     · rw[decide_eq_false c2,cond_false];exact ih (r+y1) hq' (by omega) (by omega) h'
   · rw[decide_eq_false c1,cond_false,t2 (by omega)];by_cases c3:4294967296*r+v<(p+1)*y0
     · have hq' : (u * 4294967296 + v) / (y1 * 4294967296 + y0) ≤ p := by have:=Nat.lt_of_not_le fun hh=>absurd ((D.le_iff h).2 hh) (by omega);omega
       rw[decide_eq_true c3,cond_true];by_cases c2:4294967296≤r+y1
       · rw[decide_eq_true c2,cond_true];exact stop c2 hq'
       · rw[decide_eq_false c2,cond_false];exact ih (r+y1) hq' (by omega) (by omega) h'
     · have:=(D.le_iff h).1 (by omega);rw[decide_eq_false c3,cond_false];rw[show (u*4294967296+v) / (y1*4294967296+y0)=p+1 by omega]at hk;exact hk
theorem aly {d:Nat} (hd:0<d) (hB:d<aZ):9223372036854775808≤d*2 ^ (64-bl d)∧d*2 ^ (64-bl d)<aZ∧64-bl d<64∧bl d≤64:=by
 have _:=hX;have h1:=abr hd;have h2:=IX d;have h3:=YR hB;have h4:=WO hd;refine⟨?_,?_,by omega,h3⟩
 · have:2 ^ (bl d-1)*2 ^ (64-bl d)≤d*2 ^ (64-bl d):=Nat.mul_le_mul_right _ h1;rw[← Nat.pow_add,show bl d-1+(64-bl d)=63 by omega]at this;exact this
 · have:d*2 ^ (64-bl d)<2 ^ bl d*2 ^ (64-bl d):=Nat.mul_lt_mul_of_pos_right h2 (Nat.pow_pos (by decide));rw[← Nat.pow_add,show bl d+(64-bl d)=64 by omega]at this;exact this
omit hX in
theorem ahZ {u v1 v0 y Q1 u2 Q2 R H:Nat} (f1:y*Q1+u2=u*H+v1) (f2:y*Q2+R=u2*H+v0):u*(H*H)+(v1*H+v0)=(Q1*H+Q2)*y+R:=by
 have e1:(y*Q1+u2)*H=(u*H+v1)*H:=by rw[f1]
 have e2:(Q1*H+Q2)*y=y*Q1*H+y*Q2:=by rw[Nat.add_mul,Nat.mul_comm Q2,Nat.mul_right_comm,Nat.mul_comm Q1]
 rw[Nat.add_mul,Nat.add_mul,Nat.mul_assoc u]at e1;rw[e2];omega
theorem afc {u y1:Nat} (hu:u<aZ) (h:2147483648≤y1):u / y1<17179869184∧IntKind.u64.wrap ((u:Int).tdiv (y1:Int))=((u / y1:Nat):Int)∧IntKind.u64.wrap ((u:Int)-IntKind.u64.wrap (((u / y1:Nat):Int)*(y1:Int)))=((u%y1:Nat):Int):=by
 have _:=hX;have b0:aZ=18446744073709551616:=rfl;have hm:=Nat.div_mul_le_self u y1;have e:=Nat.div_add_mod u y1;rw[Nat.mul_comm]at e;refine⟨by rw[Nat.div_lt_iff_lt_mul (by omega)];omega,?_,?_⟩
 · rw[← Int.ofNat_tdiv];exact nJ (Nat.lt_of_le_of_lt (Nat.div_le_self _ _) hu)
 · rw[show ((u / y1:Nat):Int)*(y1:Int)=((u / y1*y1:Nat):Int) by simp];rw[nJ (n:=u / y1*y1) (by omega),show (u:Int)-((u / y1*y1:Nat):Int)=((u%y1:Nat):Int) by omega];exact nJ (Nat.lt_of_le_of_lt (Nat.mod_le _ _) hu)
theorem agX (u v y:Nat) (hy:0<y) (hyB:y<aZ):IntKind.u64.wrap (IntKind.u64.wrap (IntKind.u64.wrap ((u:Int)*4294967296)+(v:Int))-IntKind.u64.wrap ((((u*4294967296+v) / y:Nat):Int)*(y:Int)))=(((u*4294967296+v)%y:Nat):Int):=by
 have _:=hX;have h:(u*4294967296+v)%y<y:=Nat.mod_lt _ hy;refine alx (m:=(u*4294967296+v)%y) ?_ (by omega);rw[← agt];have:((u*4294967296+v:Nat):Int)=(u:Int)*4294967296+(v:Int):=by rw[Int.natCast_add,Int.natCast_mul];rfl
 rw[this]
theorem agu (s : Nat) (hs : s < 64) {y1 y0 u v1 v0 y : Nat} (hy : y1 * 4294967296 + y0 = y) (D1 : Dv y1 y0 u v1) (h0 : v0 < 4294967296) (hu : u < aZ) (hyB : y < aZ) {Q1 u2 Q2 R : Nat} (e1 : (u * 4294967296 + v1) / y = Q1) (e2 : (u * 4294967296 + v1) % y = u2) (e3 : (u2 * 4294967296 + v0) / y = Q2) (e4 : (u2 * 4294967296 + v0) % y = R) :
    L tab (run tab X) 191 [] wD1 (iL y s y1 y0 u v1 v0 ((u / y1:Nat):Int) ((u%y1:Nat):Int))=some ([.p (.int .u64 ((Q1*4294967296+Q2:Nat):Int)),.p (.int .u64 ((R / 2 ^ s:Nat):Int))],[]):=by
  have b0:aZ=18446744073709551616:=rfl;have hlo:=D1.lo;have hhi:=D1.hi;have hpos:0<y:=by omega
  have nz:(!(FK (y1:Int) (0:Int)))=true:=by rw[show FK (y1:Int) (0:Int)=false from decide_eq_false (by omega)];rfl
  have ns:(!(dG (s:Int) (0:Int)))=true:=by rw[show dG (s:Int) 0=false from decide_eq_false (by omega)];rfl
  have ms:min ((s:Int)).toNat IntKind.u64.bits=s:=by show min s 64=s;omega
  have hu2:u2<y:=by rw[← e2];exact Nat.mod_lt _ hpos
  have D2:Dv y1 y0 u2 v0:=⟨hlo,hhi,D1.b0,h0,by omega⟩;obtain⟨a1,_,_⟩:=afc X hX hu hlo;obtain⟨b1,b2,b3⟩:=afc X hX (show u2<aZ by omega) hlo;have st1:=D1.start;have st2:=D2.start;have q1:=D1.q_lt;have q2:=D2.q_lt;rw[hy,e1]at q1;rw[hy,e3]at q2;have m1:=Nat.div_add_mod u y1;have m2:=Nat.div_add_mod u2 y1;rw[Nat.mul_comm]at m1 m2;have r1:=Nat.mod_lt u (show 0<y1 by omega);have r2:=Nat.mod_lt u2 (show 0<y1 by omega);refine lA X hX (y:Int) (s:Int) (v0:Int) D1 _ ?_ (u / y1) (u%y1) st1 a1 (by omega) (by omega);rw[hy,e1];have g1:=agX X hX u v1 y hpos hyB;rw[e1,e2]at g1;unfold exA aav;rw[nz,cond_true,g1,b2,b3];refine lB X hX (y:Int) (s:Int) _ D2 _ ?_ (u2 / y1) (u2%y1) st2 b1 (by omega) (by omega);rw[hy,e3];have g2:=agX X hX u2 v0 y hpos hyB;rw[e3,e4]at g2;unfold exB;rw[ns,cond_true,ms,g2,Oq];have wQ:IntKind.u64.wrap (IntKind.u64.wrap ((Q1:Int)*4294967296)+(Q2:Int))=((Q1*4294967296+Q2:Nat):Int):=by have e1:IntKind.u64.wrap ((Q1:Int)*4294967296)=((Q1*4294967296:Nat):Int):=nJ (n:=Q1*4294967296) (by omega);rw[e1];exact nJ (n:=Q1*4294967296+Q2) (by omega)
  rw[wQ]
theorem ah0 (hi lo s y W u d : Nat) (hs : s ≤ 64) (hy : d * 2 ^ s = y) (hw : lo * 2 ^ s % aZ = W) (hu : hi * 2 ^ s + lo / 2 ^ (64 - s) = u) {v1 v0 Q1 u2 Q2 R : Nat} (hv : v1 * 4294967296 + v0 = W) (hd : 0 < d)
    (e1:(u*4294967296+v1) / y=Q1) (e2:(u*4294967296+v1)%y=u2) (e3:(u2*4294967296+v0) / y=Q2) (e4:(u2*4294967296+v0)%y=R):(hi*aZ+lo) / d=Q1*4294967296+Q2∧(hi*aZ+lo)%d=R / 2 ^ s:=by
  have _:=hX;have hp:2 ^ s*2 ^ (64-s)=aZ:=by rw[← Nat.pow_add,show s+(64-s)=64 by omega]
  have hpos:0<2 ^ s:=Nat.pow_pos (by decide);have ypos:0<y:=by rw[← hy];exact Nat.mul_pos hd hpos
  have hR:R<y:=by rw[← e4];exact Nat.mod_lt _ ypos
  have f1:=Nat.div_add_mod (u*4294967296+v1) y;have f2:=Nat.div_add_mod (u2*4294967296+v0) y;rw[e1,e2]at f1;rw[e3,e4]at f2;have g1:lo*2 ^ s=lo / 2 ^ (64-s)*aZ+W:=by
   have:=Nat.div_add_mod (lo*2 ^ s) aZ;rw[hw]at this;have e:lo*2 ^ s / aZ=lo / 2 ^ (64-s):=by rw[← hp,Nat.mul_comm lo,Nat.mul_div_mul_left _ _ hpos]
   rw[e,Nat.mul_comm]at this;exact this.symm
  have alz:(hi*aZ+lo)*2 ^ s=((Q1*4294967296+Q2)*d)*2 ^ s+R:=by
   have a0:(hi*aZ+lo)*2 ^ s=u*aZ+W:=by rw[Nat.add_mul,g1,← hu,Nat.add_mul,Nat.mul_right_comm,Nat.add_assoc]
   have a2:(Q1*4294967296+Q2)*d*2 ^ s=(Q1*4294967296+Q2)*y:=by rw[Nat.mul_assoc,hy]
   rw[a0,a2,← hv];exact ahZ f1 f2
  have hdv:R=R / 2 ^ s*2 ^ s:=by
   have h1':2 ^ s ∣ (Q1*4294967296+Q2)*d*2 ^ s+R:=by rw[← alz];exact Nat.dvd_mul_left _ _
   exact(Nat.div_mul_cancel ((Nat.dvd_add_right (Nat.dvd_mul_left _ _)).1 h1')).symm
  have aqh:hi*aZ+lo=d*(Q1*4294967296+Q2)+R / 2 ^ s:=by
   have:(hi*aZ+lo)*2 ^ s=(d*(Q1*4294967296+Q2)+R / 2 ^ s)*2 ^ s:=by rw[alz,Nat.add_mul (d*_),← hdv,Nat.mul_comm d]
   exact Nat.eq_of_mul_eq_mul_right hpos this
  have hrl:R / 2 ^ s<d:=by rw[Nat.div_lt_iff_lt_mul hpos,hy];exact hR
  rw[aqh];exact⟨by rw[Nat.mul_add_div hd,Nat.div_eq_of_lt hrl,Nat.add_zero],by rw[Nat.mul_add_mod,Nat.mod_eq_of_lt hrl]⟩
theorem ame (hi lo d:Nat) (hx:X 191=none) (h1:hi<d) (h2:lo<aZ) (h3:d<aZ):run tab X 191 [.p (.int .u64 hi),.p (.int .u64 lo),.p (.int .u64 d)] []=some ([.p (.int .u64 (((hi*aZ+lo) / d:Nat):Int)),.p (.int .u64 (((hi*aZ+lo)%d:Nat):Int))],[]) :=
 bF hx (by
  have z1:((d:Int)==0)=false:=beq_eq_false_iff_ne.2 (by omega);have z2:leI (d:Int) (hi:Int)=false:=decide_eq_false (by omega);have z3:(!(FK (d:Int) (0:Int)))=true:=by rw[show FK (d:Int) (0:Int)=false from decide_eq_false (by omega)];rfl
  rw[amf,z1,cond_false,z2,cond_false];by_cases h0:hi=0
  · subst h0;rw[show (((0:Nat):Int)==0)=true from rfl,cond_true,z3,cond_true,cond_true,Nat.zero_mul,Nat.zero_add];rw[show (lo:Int).tdiv (d:Int)=((lo / d:Nat):Int) from rfl,nJ (Nat.lt_of_le_of_lt (Nat.div_le_self _ _) h2)];rfl
  · rw[show ((hi:Int)==0)=false from beq_eq_false_iff_ne.2 (by omega),cond_false,ahU X hX d h3,Option.bind_some];obtain⟨y63,yB,s64,atH⟩:=aly X hX (show 0<d by omega) h3;generalize 64-bl d=s at *;simp only[List.headD_cons,dA,toInt_int];have ws:IntKind.u64.wrap (s:Int)=(s:Int):=nJ (by have:aZ=18446744073709551616:=rfl;omega);have ws2:IntKind.u64.wrap (64-(s:Int))=((64-s:Nat):Int):=by rw[show 64-(s:Int)=((64-s:Nat):Int) by omega];exact nJ (by have:aZ=18446744073709551616:=rfl;omega)
    have m1:min ((s:Int)).toNat IntKind.u64.bits=s:=by show min s 64=s;omega
    have m2:min (((64-s:Nat):Int)).toNat IntKind.u64.bits=64-s:=by show min (64-s) 64=64-s;omega
    have n1:(!(dG (s:Int) (0:Int)))=true:=by rw[show dG (s:Int) 0=false from decide_eq_false (by omega)];rfl
    have n2:(!(dG ((64-s:Nat):Int) (0:Int)))=true:=by rw[show dG ((64-s:Nat):Int) 0=false from decide_eq_false (by omega)];rfl
    have hp:2 ^ s*2 ^ (64-s)=aZ:=by rw[← Nat.pow_add,show s+(64-s)=64 by omega]
    have hpos:0<2 ^ s:=Nat.pow_pos (by decide);have alA:0<2 ^ (64-s):=Nat.pow_pos (by decide);have hh:hi*2 ^ s<aZ:=Nat.lt_trans (Nat.mul_lt_mul_of_pos_right h1 hpos) yB;have ht:lo / 2 ^ (64-s)<2 ^ s:=by rw[Nat.div_lt_iff_lt_mul alA,hp];exact h2
    have hor:=(orL ht (by omega) hh (Nat.mul_mod_left _ _)).1;have fd:∀ x:Nat,(x:Int).fdiv (2 ^ 32)=((x / 4294967296:Nat):Int):=fun x=>Oq x 32;have huy:hi*2 ^ s+lo / 2 ^ (64-s)<d*2 ^ s:=by have:(hi+1)*2 ^ s≤d*2 ^ s:=Nat.mul_le_mul_right _ h1;rw[Nat.add_mul,Nat.one_mul]at this;exact Nat.lt_of_lt_of_le (Nat.add_lt_add_left ht _) this
    have hW:lo*2 ^ s%aZ<aZ:=Nat.mod_lt _ (by decide);rw[ws,ws2,m1,m2,n1,n2];simp only[cond_true];rw[ade d s,ade hi s,ade lo s,Nat.mod_eq_of_lt yB,Nat.mod_eq_of_lt hh,Oq lo (64-s),hor,fd,fd,afb _ yB,afb _ hW];obtain⟨y,hy⟩:∃ y,d*2 ^ s=y:=⟨_,rfl⟩;obtain⟨W,hw⟩:∃ W,lo*2 ^ s%aZ=W:=⟨_,rfl⟩;obtain⟨u,hu⟩:∃ u,hi*2 ^ s+lo / 2 ^ (64-s)=u:=⟨_,rfl⟩;rw[hy]at y63 yB huy;rw[hu]at huy;rw[hw]at hW;rw[hy,hw,hu];obtain⟨y1,y0,k1,k2,k3⟩:∃ y1 y0,y1=y / 4294967296∧y0=y%4294967296∧y1*4294967296+y0=y:=⟨_,_,rfl,rfl,Nat.div_add_mod' y 4294967296⟩;obtain⟨v1,v0,l1,l2,l3⟩:∃ v1 v0,v1=W / 4294967296∧v0=W%4294967296∧v1*4294967296+v0=W:=⟨_,_,rfl,rfl,Nat.div_add_mod' W 4294967296⟩;have hy0:y0<4294967296:=by rw[k2];exact Nat.mod_lt _ (by decide)
    have hv0:v0<4294967296:=by rw[l2];exact Nat.mod_lt _ (by decide)
    rw[← k1,← k2,← l1,← l2];have hb:aZ=18446744073709551616:=rfl;rw[hb]at yB hW;clear k1 k2 l1 l2 hor fd ht hp hh;have D1:Dv y1 y0 u v1:=⟨by omega,by omega,hy0,by omega,by rw[k3];exact huy⟩;have hu64:u<aZ:=Nat.lt_trans huy yB;obtain⟨a1,a2,a3⟩:=afc X hX hu64 D1.lo;have nz:(!(FK (y1:Int) (0:Int)))=true:=by have:=D1.lo;rw[show FK (y1:Int) (0:Int)=false from decide_eq_false (by omega)];rfl
    obtain⟨t1,t2⟩:=ah0 X hX hi lo s y W u d (by omega) hy hw hu l3 (by omega) rfl rfl rfl rfl;rw[t1,t2,a2,a3,nz,cond_true];exact agu X hX s s64 k3 D1 hv0 hu64 yB rfl rfl rfl rfl)
end
end Go.Skm.Fen
namespace Go.Skm.Fen
open Go Go.Skm Go.Skm.Dig
theorem adh {x1 x0 y1 y0 a b w2 c w e H:Nat} (h1:x0*y0=a*H+b) (h2:x1*y0+a=w2*H+c) (h3:c+x0*y1=w*H+e):(x1*H+x0)*(y1*H+y0)=(x1*y1+w2+w)*(H*H)+(e*H+b):=by
 have e1:(x1*H+x0)*(y1*H+y0)=x1*y1*(H*H)+(x1*y0*H+x0*y1*H)+x0*y0:=by grind
 have e2:(x1*y0+a)*H=(w2*H+c)*H:=by rw[h2]
 have e3:(c+x0*y1)*H=(w*H+e)*H:=by rw[h3]
 rw[e1,h1];grind
theorem ah1 (x y:Nat) (hx:x<aZ) (hy:y<aZ):x*y / aZ=x / 4294967296*(y / 4294967296)+(x / 4294967296*(y%4294967296)+x%4294967296*(y%4294967296) / 4294967296) / 4294967296+((x / 4294967296*(y%4294967296)+x%4294967296*(y%4294967296) / 4294967296)%4294967296+x%4294967296*(y / 4294967296)) / 4294967296:=by
 have _:=hx;have _:=hy;have hX:=Nat.div_add_mod' x 4294967296;have hY:=Nat.div_add_mod' y 4294967296;have key:=adh (H:=4294967296) (Nat.div_add_mod' (x%4294967296*(y%4294967296)) 4294967296).symm (Nat.div_add_mod' (x / 4294967296*(y%4294967296)+x%4294967296*(y%4294967296) / 4294967296) 4294967296).symm (Nat.div_add_mod' ((x / 4294967296*(y%4294967296)+x%4294967296*(y%4294967296) / 4294967296)%4294967296+x%4294967296*(y / 4294967296)) 4294967296).symm;rw[hX,hY]at key;have r1:=Nat.mod_lt ((x / 4294967296*(y%4294967296)+x%4294967296*(y%4294967296) / 4294967296)%4294967296+x%4294967296*(y / 4294967296)) (show 0<4294967296 by decide);have r2:=Nat.mod_lt (x%4294967296*(y%4294967296)) (show 0<4294967296 by decide);rw[key];generalize ((x / 4294967296*(y%4294967296)+x%4294967296*(y%4294967296) / 4294967296)%4294967296+x%4294967296*(y / 4294967296))%4294967296=e at *;generalize x%4294967296*(y%4294967296)%4294967296=b at *;have hB:aZ=4294967296*4294967296:=rfl;have hlt:e*4294967296+b<aZ:=by have:aZ=18446744073709551616:=rfl;omega
 rw[← hB,Nat.mul_comm,Nat.mul_add_div (by decide),Nat.div_eq_of_lt hlt,Nat.add_zero]
theorem O5 {a b:Nat} (ha:a<4294967296) (hb:b<4294967296):a*b≤18446744065119617025:=Nat.mul_le_mul (show a≤4294967295 by omega) (show b≤4294967295 by omega)
section
variable (X:Ext) (hX:Mine X)
include hX
theorem amd (x y:Nat) (hx0:X 187=none) (hx:x<aZ) (hy:y<aZ):run tab X 187 [.p (.int .u64 x),.p (.int .u64 y)] []=some ([.p (.int .u64 ((x*y / aZ:Nat):Int)),.p (.int .u64 ((x*y%aZ:Nat):Int))],[]) :=
 bF hx0 (by
  have _:=hX;have fd:∀ x:Nat,(x:Int).fdiv (2 ^ 32)=((x / 4294967296:Nat):Int):=fun x=>Oq x 32;have hb:aZ=18446744073709551616:=rfl;have x1:x / 4294967296<4294967296:=by rw[Nat.div_lt_iff_lt_mul (by decide)];exact hx
  have y1:y / 4294967296<4294967296:=by rw[Nat.div_lt_iff_lt_mul (by decide)];exact hy
  have x0:x%4294967296<4294967296:=Nat.mod_lt _ (by decide);have y0:y%4294967296<4294967296:=Nat.mod_lt _ (by decide);have p1:=O5 x0 y0;have p2:=O5 x1 y0;have p3:=O5 x0 y1;have p4:=O5 x1 y1;have mN:∀ a b:Nat,a*b≤18446744065119617025→IntKind.u64.wrap ((a:Int)*(b:Int))=((a*b:Nat):Int):=fun a b h=>by rw[show (a:Int)*(b:Int)=((a*b:Nat):Int) by simp];exact nJ (by omega)
  have aN:∀ a b:Nat,a+b<aZ→IntKind.u64.wrap ((a:Int)+(b:Int))=((a+b:Nat):Int):=fun a b h=>nJ (n:=a+b) h;have hhi:x*y / aZ<aZ:=by rw[Nat.div_lt_iff_lt_mul (by decide)];exact Nat.mul_lt_mul_of_lt_of_lt hx hy
  have key:=ah1 x y hx hy;have lo:IntKind.u64.wrap ((x:Int)*(y:Int))=((x*y%aZ:Nat):Int):=by rw[show (x:Int)*(y:Int)=((x*y:Nat):Int) by simp];rfl
  rw[e187,lo,fd,fd,afb x hx,afb y hy,mN _ _ p1,fd,mN _ _ p2];have t:x / 4294967296*(y%4294967296)+x%4294967296*(y%4294967296) / 4294967296<aZ:=by
   have:x%4294967296*(y%4294967296) / 4294967296≤4294967295:=by
    have:x%4294967296*(y%4294967296) / 4294967296<4294967296:=by rw[Nat.div_lt_iff_lt_mul (by decide)];exact Nat.lt_of_le_of_lt p1 (by decide)
    omega
   omega
  rw[aN _ _ t,fd,afb _ t,mN _ _ p3];generalize x / 4294967296*(y%4294967296)+x%4294967296*(y%4294967296) / 4294967296=T at *;have tm:T%4294967296<4294967296:=Nat.mod_lt _ (by decide);rw[aN (T%4294967296) _ (by omega),fd,mN _ _ p4];generalize (T%4294967296+x%4294967296*(y / 4294967296)) / 4294967296=W at *;rw[aN _ _ (by omega),aN _ _ (by omega),key])
end
end Go.Skm.Fen
namespace Go.Proofs
open Go.Shelf
def Tryz.laysSort_ren:Go.Shelf.Ren:=⟨fun | 6=>74 | 15=>137 | 14=>136 | 28=>169 | 29=>170 | 20=>161 | 21=>162 | 22=>163 | 23=>164 | 24=>165 | 25=>166 | 26=>167 | 27=>168 | 46=>181 | 47=>182 | 48=>183 | 49=>184 | 50=>185 | 57=>188 | n=>n,fun | 22=>46 | 24=>45 | 25=>109 | 3=>3 | 39=>170 | 0=>0 | 53=>195 | 55=>143 | 4=>4 | 46=>188 | 45=>187 | 50=>192 | 5=>5 | 9=>9 | 66=>203 | 70=>207 | 76=>212 | 77=>213 | n=>n,fun | n=>n⟩
theorem Tryz.laysSort:Go.Proofs.SlLaysF0.n6 Tryz.prog Tryz.laysSort_ren:={
 mixed:=by kernel_rfl
 f6:=⟨Tryz.f74.name,by decide,Tryz.func74.trans (congrArg some (by kernel_rfl))⟩
 f14:=⟨Tryz.f136.name,by decide,Tryz.func136.trans (congrArg some (by kernel_rfl))⟩
 f15:=Tryz.func137.trans (congrArg some (by kernel_rfl))
 f20:=⟨Tryz.f161.name,by decide,Tryz.func161.trans (congrArg some (by kernel_rfl))⟩
 f21:=⟨Tryz.f162.name,by decide,Tryz.func162.trans (congrArg some (by kernel_rfl))⟩
 f22:=⟨Tryz.f163.name,by decide,Tryz.func163.trans (congrArg some (by kernel_rfl))⟩
 f23:=⟨Tryz.f164.name,by decide,Tryz.func164.trans (congrArg some (by kernel_rfl))⟩
 f24:=⟨Tryz.f165.name,by decide,Tryz.func165.trans (congrArg some (by kernel_rfl))⟩
 f25:=⟨Tryz.f166.name,by decide,Tryz.func166.trans (congrArg some (by kernel_rfl))⟩
 f26:=⟨Tryz.f167.name,by decide,Tryz.func167.trans (congrArg some (by kernel_rfl))⟩
 f27:=⟨Tryz.f168.name,by decide,Tryz.func168.trans (congrArg some (by kernel_rfl))⟩
 f28:=Tryz.func169.trans (congrArg some (by kernel_rfl))
 f29:=Tryz.func170.trans (congrArg some (by kernel_rfl))
 f46:=⟨Tryz.f181.name,by decide,Tryz.func181.trans (congrArg some (by kernel_rfl))⟩
 f47:=Tryz.func182.trans (congrArg some (by kernel_rfl))
 f48:=Tryz.func183.trans (congrArg some (by kernel_rfl))
 f49:=⟨Tryz.f184.name,by decide,Tryz.func184.trans (congrArg some (by kernel_rfl))⟩
 f50:=⟨Tryz.f185.name,by decide,Tryz.func185.trans (congrArg some (by kernel_rfl))⟩
 f57:=⟨Tryz.f188.name,by decide,Tryz.func188.trans (congrArg some (by kernel_rfl))⟩
 t0:=Tryz.underlying0
 a0:=Tryz.isAgg0
 z0:=Tryz.sizeOf0
 v0:=Tryz.zeroValue0
 t3:=Tryz.underlying3
 a3:=Tryz.isAgg3
 z3:=Tryz.sizeOf3
 v3:=Tryz.zeroValue3
 t4:=Tryz.underlying4
 a4:=Tryz.isAgg4
 z4:=Tryz.sizeOf4
 v4:=Tryz.zeroValue4
 t5:=Tryz.underlying5
 a5:=Tryz.isAgg5
 z5:=Tryz.sizeOf5
 v5:=Tryz.zeroValue5
 t9:=Tryz.underlying9
 a9:=Tryz.isAgg9
 z9:=Tryz.sizeOf9
 v9:=Tryz.zeroValue9
 t22:=Tryz.underlying46
 a22:=Tryz.isAgg46
 z22:=Tryz.sizeOf46
 v22:=Tryz.zeroValue46
 t25:=Tryz.underlying109
 a25:=Tryz.isAgg109
 z25:=Tryz.sizeOf109
 v25:=Tryz.zeroValue109
 t39:=Tryz.underlying170
 a39:=Tryz.isAgg170
 z39:=Tryz.sizeOf170
 v39:=Tryz.zeroValue170
 t45:=Tryz.underlying187
 a45:=Tryz.isAgg187
 z45:=Tryz.sizeOf187
 v45:=Tryz.zeroValue187
 t46:=Tryz.underlying188
 a46:=Tryz.isAgg188
 z46:=Tryz.sizeOf188
 v46:=Tryz.zeroValue188
 t50:=Tryz.underlying192
 a50:=Tryz.isAgg192
 z50:=Tryz.sizeOf192
 v50:=Tryz.zeroValue192
 t53:=Tryz.underlying195
 a53:=Tryz.isAgg195
 z53:=Tryz.sizeOf195
 v53:=Tryz.zeroValue195
 t55:=Tryz.underlying143
 a55:=Tryz.isAgg143
 z55:=Tryz.sizeOf143
 v55:=Tryz.zeroValue143
 t66:=Tryz.underlying203
 a66:=Tryz.isAgg203
 z66:=Tryz.sizeOf203
 v66:=Tryz.zeroValue203
 t70:=Tryz.underlying207
 a70:=Tryz.isAgg207
 z70:=Tryz.sizeOf207
 v70:=Tryz.zeroValue207
 t76:=Tryz.underlying212
 a76:=Tryz.isAgg212
 z76:=Tryz.sizeOf212
 v76:=Tryz.zeroValue212
 t77:=Tryz.underlying213
 a77:=Tryz.isAgg213
 z77:=Tryz.sizeOf213
 v77:=Tryz.zeroValue213 }
def Tryz.FC:Go.Shelf.Ren:=⟨fun | 41=>193 | n=>n,fun | 22=>140 | 23=>143 | 4=>4 | n=>n,fun | n=>n⟩
theorem Tryz.Y1:Go.Proofs.SlLaysE0.n41 Tryz.prog Tryz.FC:={
 mixed:=by kernel_rfl
 f41:=⟨Tryz.f193.name,by decide,Tryz.func193.trans (congrArg some (by kernel_rfl))⟩
 t4:=Tryz.underlying4
 a4:=Tryz.isAgg4
 z4:=Tryz.sizeOf4
 v4:=Tryz.zeroValue4
 t22:=Tryz.underlying140
 a22:=Tryz.isAgg140
 z22:=Tryz.sizeOf140
 v22:=Tryz.zeroValue140 }
def Tryz.FB:Go.Shelf.Ren:=⟨fun | 41=>88 | n=>n,fun | 22=>22 | 23=>26 | 4=>4 | n=>n,fun | n=>n⟩
theorem Tryz.Y0:Go.Proofs.SlLaysE0.n41 Tryz.prog Tryz.FB:={
 mixed:=by kernel_rfl
 f41:=⟨Tryz.f88.name,by decide,Tryz.func88.trans (congrArg some (by kernel_rfl))⟩
 t4:=Tryz.underlying4
 a4:=Tryz.isAgg4
 z4:=Tryz.sizeOf4
 v4:=Tryz.zeroValue4
 t22:=Tryz.underlying22
 a22:=Tryz.isAgg22
 z22:=Tryz.sizeOf22
 v22:=Tryz.zeroValue22 }
end Go.Proofs
set_option maxRecDepth 100000
namespace Go.Skm.Fen
open Go Go.Skm Go.Proofs Go.Shelf Go.RowKit Go.Lib Go.Sort
def WZ:List (Nat × FI)→List (Nat × FI)
 | []=>[]
 | (f,fi)::r=>bif fi.cfg.Jg.is then(f,fi)::WZ r else WZ r
theorem TD:∀ {l:List (Nat × FI)} {f:Nat} {fi:FI},dN l f=some fi→fi.cfg.Jg.is=true→(f,fi)∈WZ l
 | [],_,_,h,_=>by cases h
 | (g,gi)::r,f,fi,h,h2=>by
  rw[dN]at h;unfold WZ;by_cases e:(g==f)=true
  · rw[e]at h;cases h;rw[h2,cond_true,eq_of_beq e];simp
  · have e':(g==f)=false:=by simpa using e
    rw[e',cond_false]at h;have:=TD h h2;cases gi.cfg.Jg.is with
    | true=>rw[cond_true];exact List.mem_cons_of_mem _ this
    | false=>rw[cond_false];exact this
theorem adt:WZ tab.funcs=[(179,agz),(180,agA)]:=by kernel_rfl
theorem aiu (w:World) (x y c:Nat) (hc:c≤1):(callFunc 179 #[.int .u64 x,.int .u64 y,.int .u64 c]).run Tryz.prog w=.ok (.value (.tuple #[.int .u64 (((x+y+c)%18446744073709551616:Nat):Int),.int .u64 (((x+y+c) / 18446744073709551616:Nat):Int)])) w:=by rw[run_callFunc_extern Tryz.func179 (by kernel_rfl) (by kernel_rfl) (by kernel_rfl) (e:=add64Entry) (by kernel_rfl),run_add64 x y c (by omega) (by omega) (by omega) (by omega)];simp only[Result.andThen];congr 5<;>omega
theorem aiv (w:World) (x y c:Nat) (hc:c≤1):(callFunc 180 #[.int .u64 x,.int .u64 y,.int .u64 c]).run Tryz.prog w=.ok (.value (.tuple #[.int .u64 (((x+18446744073709551616-y-c)%18446744073709551616:Nat):Int),.int .u64 ((if x<y+c then 1 else 0:Nat):Int)])) w:=by rw[run_callFunc_extern Tryz.func180 (by kernel_rfl) (by kernel_rfl) (by kernel_rfl) (e:=sub64Entry) (by kernel_rfl),run_sub64 x y c hc];rfl
theorem ag1 (w:World) (x y c:Nat) (hc:c≤1):(callFunc 179 #[.int .u64 x,.int .u64 y,.int .u64 c]).run Tryz.prog w=.ok (.value (.tuple #[.int .u64 (lU false x y c),.int .u64 (ni false x y c)])) w:=by rw[aiu w x y c hc,lU,ni,cond_false,cond_false]
theorem ag2 (w:World) (x y c:Nat) (hc:c≤1):(callFunc 180 #[.int .u64 x,.int .u64 y,.int .u64 c]).run Tryz.prog w=.ok (.value (.tuple #[.int .u64 (lU true x y c),.int .u64 (ni true x y c)])) w:=by rw[aiv w x y c hc,lU,ni,cond_true,cond_true]
theorem afl:UZ Tryz.prog tab:=fun f fi h=>by
 cases hp:fi.cfg.Jg with
 | none=>trivial
 | carry b =>
  have:=TD h (by rw[hp];rfl);rw[adt]at this;simp only[List.mem_cons,List.not_mem_nil,or_false,Prod.mk.injEq]at this;rcases this with ⟨rfl,rfl⟩ | ⟨rfl,rfl⟩<;>cases hp
  · exact fun w x y c hc=>ag1 w x y c hc
  · exact fun w x y c hc=>ag2 w x y c hc
theorem JQ:dZ Tryz.prog tab:=aiw afl
theorem words {X:Ext} (hX:Mine X) (h1:X 187=none) (h2:X 191=none):Words X:=⟨fun x y hx hy=>amd X hX x y h1 hx hy,fun h l d h3 h4 h5=>ame X hX h l d h2 h3 h4 h5⟩
theorem YZ {gl:Option (List (Nat × Obj))}:sF Tryz.prog tab gl (II []):=abA fun _ _=>trivial
end Go.Skm.Fen
