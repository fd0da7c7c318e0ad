import Derived.Test.YtoheflpoanjihaaGreatR7
import Derived.Test.YtoheflpoanjihaaGreatEqu
import Derived.Test.YtoheflpoanjihaaGreatEqs
namespace Go.Skm.Fen
open Go Go.Skm Go.Skm.Dig
theorem acp (m:Nat):val B9 [m%1000000000,m / 1000000000%1000000000,m / 1000000000 / 1000000000]=m:=by show m%1000000000+1000000000*(m / 1000000000%1000000000+1000000000*(m / 1000000000 / 1000000000+1000000000*0))=m;omega
theorem aee {m:Nat} (h:m≤9223372036854775808):ok B9 [m%1000000000,m / 1000000000%1000000000,m / 1000000000 / 1000000000]:=by intro d hd;show d<1000000000;simp at hd;rcases hd with h1 | h1 | h1<;>omega
section
variable (X:Ext) (hX:Mine X)
include hX
theorem ajw (x:Int) (hx:SX x 10000000):run tab X 132 [.p (eI x),.p (.agg [.bool false,.nil])] []=some ([.p (eI x)],[]) :=
 bF (hX _ rfl) (by have h0:run tab X 148 [.p (.agg [.bool false,.nil])] []=some ([.p (eI 0)],[]):=bF (hX _ rfl) (by have:=c131 X hX true 0;rw[afT]at this;rw[aiE];erw [this];rfl);have h2:=aoo X hX x 0 hx (by unfold SX;rw[Int.natAbs_zero,gq];simp);rw[Int.add_zero]at h2;rw[ajv x]at h2 ⊢;rw[aiD,h0];simp only[Option.bind_some,List.headD_cons,dA,Ak];rw[h2];rfl)
theorem aa7 (m : Nat) (h : m ≤ 9223372036854775808) (neg : Bool) : (((run tab X) 130 [.slice 100000 1 0 3] [.arr false kI (bP .i64 [m % 1000000000,m / 1000000000 % 1000000000,m / 1000000000 / 1000000000])]).bind fun r1 =>
    (run tab X) 131 [.p (.bool neg),.p (.list false kI ((((r1.2.headD (.box [])).xs).drop ((r1.1.headD .undef).qV)).take ((r1.1.headD .undef).sLen)))] [])=some ([.p (eI (if neg then -(m:Int) else m))],[]):=by
  rw[c130 X hX _ (by simp) 0 3 (by simp)];simp only[Option.bind_some,List.headD_cons,yM,kJ,kK];have t:((bP .i64 [m%1000000000,m / 1000000000%1000000000,m / 1000000000 / 1000000000]).drop 0).take (trim (([m%1000000000,m / 1000000000%1000000000,m / 1000000000 / 1000000000].drop 0).take 3)).length=nI m:=by show (bP .i64 [m%1000000000,m / 1000000000%1000000000,m / 1000000000 / 1000000000]).take (trim [m%1000000000,m / 1000000000%1000000000,m / 1000000000 / 1000000000]).length=nI m;rw[wO,wL,zG b9 (aee h) (acp m)]
  rw[t];exact c131 X hX neg m
theorem c71 (n:Int) (h1:-9223372036854775808≤n) (h2:n≤9223372036854775807):run tab X 71 [.p (.int .i64 n)] []=some ([.p (eI n)],[]) :=
 bF (hX _ rfl) (by
  have hm:n.natAbs≤9223372036854775808:=by omega
  have hl:SX n 10000000:=by have key:∀ k,3≤k→SX n k:=fun k hk=>aa6 (Nat.lt_of_lt_of_le (show n.natAbs<B9 ^ 3 by show _<1000000000 ^ 3;omega) (Nat.pow_le_pow_right (by decide) hk));exact key _ (by decide)
  rw[e71];by_cases h:n ≥ 0
  · refine fF h ?_;have a1:n.tmod 1000000000=((n.natAbs%1000000000:Nat):Int):=by rw[Int.tmod_eq_emod_of_nonneg h];omega
    have a2:n.tdiv 1000000000=((n.natAbs / 1000000000:Nat):Int):=by rw[Int.tdiv_eq_ediv_of_nonneg h];omega
    have a3:IntKind.i64.wrap ((n.natAbs / 1000000000:Nat):Int)=((n.natAbs / 1000000000:Nat):Int):=wrap_eq (by omega) (by omega);have a4:(((n.natAbs / 1000000000:Nat):Int)).tmod 1000000000=((n.natAbs / 1000000000%1000000000:Nat):Int):=aa5 _ 1000000000;have a5:(((n.natAbs / 1000000000:Nat):Int)).tdiv 1000000000=((n.natAbs / 1000000000 / 1000000000:Nat):Int):=aa4 _ 1000000000;have a6:IntKind.i64.wrap ((n.natAbs / 1000000000 / 1000000000:Nat):Int)=((n.natAbs / 1000000000 / 1000000000:Nat):Int):=wrap_eq (by omega) (by omega);have:=aa7 X hX n.natAbs hm false;rw[if_neg (by decide),show (n.natAbs:Int)=n by omega]at this;rw[a1,a2,a3,a4,a5,a6,← Option.bind_assoc];erw [this];rfl
  · refine dO h ?_;have a1:n.tmod 1000000000=-((n.natAbs%1000000000:Nat):Int):=by
     have e:n=-(n.natAbs:Int):=by omega
     rw[e,Int.neg_tmod,Int.natAbs_neg,Int.natAbs_natCast];exact congrArg _ (aa5 n.natAbs 1000000000)
    have a2:n.tdiv 1000000000=-((n.natAbs / 1000000000:Nat):Int):=by
     have e:n=-(n.natAbs:Int):=by omega
     rw[e,Int.neg_tdiv,Int.natAbs_neg,Int.natAbs_natCast];exact congrArg _ (aa4 n.natAbs 1000000000)
    have a3:IntKind.i64.wrap (-((n.natAbs / 1000000000:Nat):Int))=-((n.natAbs / 1000000000:Nat):Int):=wrap_eq (by omega) (by omega);have a4:(-((n.natAbs / 1000000000:Nat):Int)).tmod 1000000000=-((n.natAbs / 1000000000%1000000000:Nat):Int):=by rw[Int.neg_tmod];exact congrArg _ (aa5 _ 1000000000)
    have a5:(-((n.natAbs / 1000000000:Nat):Int)).tdiv 1000000000=-((n.natAbs / 1000000000 / 1000000000:Nat):Int):=by rw[Int.neg_tdiv];exact congrArg _ (aa4 _ 1000000000)
    have a6:IntKind.i64.wrap (-((n.natAbs / 1000000000 / 1000000000:Nat):Int))=-((n.natAbs / 1000000000 / 1000000000:Nat):Int):=wrap_eq (by omega) (by omega);have b1:IntKind.i64.wrap (0 - -((n.natAbs%1000000000:Nat):Int))=((n.natAbs%1000000000:Nat):Int):=by rw[wrap_eq (by omega) (by omega)];omega
    have b2:IntKind.i64.wrap (0 - -((n.natAbs / 1000000000%1000000000:Nat):Int))=((n.natAbs / 1000000000%1000000000:Nat):Int):=by rw[wrap_eq (by omega) (by omega)];omega
    have b3:IntKind.i64.wrap (0 - -((n.natAbs / 1000000000 / 1000000000:Nat):Int))=((n.natAbs / 1000000000 / 1000000000:Nat):Int):=by rw[wrap_eq (by omega) (by omega)];omega
    have:=aa7 X hX n.natAbs hm true;rw[if_pos rfl,show -(n.natAbs:Int)=n by omega]at this;rw[a1,a2,a3,a4,a5,a6,b1,b2,b3,← Option.bind_assoc];erw [this];simp only[Option.bind_some,List.headD_cons,dA,Ak];rw[ajw X hX n hl];rfl)
end
end Go.Skm.Fen
namespace Go.Skm.Fen
open Go Go.Skm
theorem afC {a b m n:Int} (ha:-m≤a∧a≤m) (hb:-n≤b∧b≤n):-(m*n)≤a*b∧a*b≤m*n:=by
 have h1:a.natAbs≤m.toNat:=by omega
 have h2:b.natAbs≤n.toNat:=by omega
 have h3:=Nat.mul_le_mul h1 h2;rw[← Int.natAbs_mul]at h3;have h4:((m.toNat*n.toNat:Nat):Int)=m*n:=by rw[Int.natCast_mul,Int.toNat_of_nonneg (by omega),Int.toNat_of_nonneg (by omega)]
 omega
def lS (n:Int):Int:=if n<0 then -1 else if n > 0 then 1 else 0
def area (a b c:V3):Int:=(b.x-a.x)*(c.y-a.y)-(b.y-a.y)*(c.x-a.x)
def vO (m:Int) (v:V3):Bool:=decide (-m≤v.x∧v.x≤m)&&(decide (-m≤v.y∧v.y≤m)&&decide (-m≤v.z∧v.z≤m))
def nK (a b c:V3):Int:=lS (area a b c)
theorem Vk {m:Int} {v:V3}:vO m v=true↔(-m≤v.x∧v.x≤m)∧(-m≤v.y∧v.y≤m)∧(-m≤v.z∧v.z≤m):=by simp[vO]
section
variable (X:Ext) (hX:Mine X)
include hX
theorem c107 (v:V3) (i:Int):run tab X 107 [.p (dn v),.p (.int .i64 i)] []=some ([.p (.int .i64 (if i=0 then v.x else if i=1 then v.y else v.z))],[]) :=
 bF (hX _ rfl) (by rw[dn,ami];simp only[adP];split<;>(try split)<;>rfl)
theorem anm (n:Int):run tab X 178 [.p (.int .i64 n)] []=some ([.p (.int .i64 (lS n))],[]) :=
 bF (hX _ rfl) (by rw[amK];simp only[Kq,lS];split<;>(try split)<;>rfl)
theorem c56 (v:V3) (m:Int) (hm:0≤m) (hm':m≤9223372036854775807):run tab X 56 [.p (dn v),.p (.int .i64 m)] []=some ([.p (.bool (vO m v))],[]):=by
 have hn:IntKind.i64.wrap (0-m)=-m:=by rw[wrap_eq (by omega) (by omega)];omega
 refine bF (hX _ rfl) ?_;rw[dn,e56];have e0:∀ i,run tab X 107 [.p (.agg [.int .i64 v.x,.int .i64 v.y,.int .i64 v.z]),.p (.int .i64 i)] []=some ([.p (.int .i64 (if i=0 then v.x else if i=1 then v.y else v.z))],[]):=fun i=>c107 X hX v i;refine dW ?_;rw[JU];simp only[e0,hn,Option.bind_some,List.headD_cons,dA,toInt_int,Kq];rw[if_pos (by decide)];simp only[if_true];by_cases h1:v.x > m
 · rw[if_pos h1];simp[vO];omega
 rw[if_neg h1];by_cases h2:v.x < -m
 · rw[if_pos h2];simp[vO];omega
 rw[if_neg h2];refine dW ?_;rw[JU];simp only[e0,hn,Option.bind_some,List.headD_cons,dA,toInt_int,Kq];have w1:IntKind.i64.wrap (0+1)=1:=by decide
 rw[w1,if_pos (by decide)];simp only[show ¬ ((1:Int)=0) by decide,if_false,if_true];by_cases h3:v.y > m
 · rw[if_pos h3];simp[vO];omega
 rw[if_neg h3];by_cases h4:v.y < -m
 · rw[if_pos h4];simp[vO];omega
 rw[if_neg h4];refine dW ?_;rw[JU];simp only[e0,hn,Option.bind_some,List.headD_cons,dA,toInt_int,Kq];have w2:IntKind.i64.wrap (1+1)=2:=by decide
 rw[w2,if_pos (by decide)];simp only[show ¬ ((2:Int)=0) by decide,show ¬ ((2:Int)=1) by decide,if_false];by_cases h5:v.z > m
 · rw[if_pos h5];simp[vO];omega
 rw[if_neg h5];by_cases h6:v.z < -m
 · rw[if_pos h6];simp[vO];omega
 rw[if_neg h6];refine dW ?_;rw[JU];have w3:IntKind.i64.wrap (2+1)=3:=by decide
 rw[w3];have:vO m v=true:=by rw[Vk];omega
 rw[this];exact dO (by decide) rfl
theorem c21 (v:V3):run tab X 21 [.p (dn v)] []=some ([.p (.bool (vO 1048576 v))],[]) :=
 bF (hX _ rfl) (by rw[dn,e21];have:=c56 X hX v 1048576 (by decide) (by decide);rw[dn]at this;rw[this];rfl)
theorem c95 (v:V3) (m:Int) (hm:0≤m) (hm':m≤9223372036854775807):run tab X 95 [.p (.int .i64 m),.p (.list false [.int .i64] [.int .i64 v.x,.int .i64 v.y,.int .i64 v.z])] []=some ([.p (.bool (vO m v))],[]):=by
 have hn:IntKind.i64.wrap (0-m)=-m:=by rw[wrap_eq (by omega) (by omega)];omega
 have w1:IntKind.i64.wrap (0+1)=1:=by decide
 have w2:IntKind.i64.wrap (1+1)=2:=by decide
 have w3:IntKind.i64.wrap (2+1)=3:=by decide
 refine bF (hX _ rfl) ?_;rw[e95];refine dW ?_;rw[JX];simp only[hn,w1,Kq,adQ,List.length_cons,List.length_nil];simp only[show ((0:Int)<((0+1+1+1:Nat):Int)) by decide,Int.le_refl,if_true,Int.toNat_zero,List.getD_cons_zero,P6,toInt_int];by_cases h1:v.x < -m
 · rw[if_pos h1];simp[vO];omega
 rw[if_neg h1];by_cases h2:v.x > m
 · rw[if_pos h2];simp[vO];omega
 rw[if_neg h2];refine dW ?_;rw[JX];simp only[hn,w2,Kq,adQ,List.length_cons,List.length_nil];simp only[show ((1:Int)<((0+1+1+1:Nat):Int)) by decide,show (0:Int)≤1 by decide,if_true,show (1:Int).toNat=1 from rfl,List.getD_cons_succ,List.getD_cons_zero,P6,toInt_int];by_cases h3:v.y < -m
 · rw[if_pos h3];simp[vO];omega
 rw[if_neg h3];by_cases h4:v.y > m
 · rw[if_pos h4];simp[vO];omega
 rw[if_neg h4];refine dW ?_;rw[JX];simp only[hn,w3,Kq,adQ,List.length_cons,List.length_nil];simp only[show ((2:Int)<((0+1+1+1:Nat):Int)) by decide,show (0:Int)≤2 by decide,if_true,show (2:Int).toNat=2 from rfl,List.getD_cons_succ,List.getD_cons_zero,P6,toInt_int];by_cases h5:v.z < -m
 · rw[if_pos h5];simp[vO];omega
 rw[if_neg h5];by_cases h6:v.z > m
 · rw[if_pos h6];simp[vO];omega
 rw[if_neg h6];refine dW ?_;rw[JX];have:vO m v=true:=by rw[Vk];omega
 rw[this];exact dO (by decide) rfl
theorem c40 (v:V3):run tab X 40 [.p (dn v)] []=some ([.p (.bool (vO 1048576 v))],[]) :=
 bF (hX _ rfl) (by rw[dn,e40,c95 X hX v _ (by decide) (by decide)];rfl)
theorem ahm (v:V3):run tab X 177 [.p (dn v)] []=some ([.p (.bool (vO 16777216 v))],[]) :=
 bF (hX _ rfl) (by rw[dn,amJ,c95 X hX v _ (by decide) (by decide)];rfl)
end
end Go.Skm.Fen
namespace Go.Skm.Fen
open Go Go.Skm
section
variable (X:Ext) (hX:Mine X)
include hX
def Bd (m:Int) (v:V3):Prop:=(-m≤v.x∧v.x≤m)∧(-m≤v.y∧v.y≤m)∧(-m≤v.z∧v.z≤m)
theorem anG (a b:V3) (ha:Bd 1099511627776 a) (hb:Bd 1099511627776 b):run tab X 151 [.p (dn a),.p (dn b)] []=some ([.p (dn ⟨a.x+b.x,a.y+b.y,a.z+b.z⟩)],[]) :=
 bF (hX _ rfl) (by obtain⟨a1,a2,a3⟩:=ha;obtain⟨b1,b2,b3⟩:=hb;rw[dn,dn,amz,wrap_eq (by omega) (by omega),wrap_eq (by omega) (by omega),wrap_eq (by omega) (by omega)];rfl)
end
end Go.Skm.Fen
namespace Go.Skm.Fen
open Go Go.Skm
def Qp (p q r s:Int):Int:=IntKind.i64.wrap (IntKind.i64.wrap (p*q)-IntKind.i64.wrap (r*s))
def ad8 (a b:V3):V3:=⟨a.x-b.x,a.y-b.y,a.z-b.z⟩
def Zt (a:V3):V3:=⟨-a.x,-a.y,-a.z⟩
def EY (a b p:V3):Bool:=(nK a b p==0)&&(decide (EX a.x b.x≤p.x)&&(decide (p.x≤Di a.x b.x)&&(decide (EX a.y b.y≤p.y)&&decide (p.y≤Di a.y b.y))))
theorem Cc {m:Int} {v:V3}:vO m v=true↔Bd m v:=Vk
theorem Bd.mono {m n:Int} {v:V3} (h:Bd m v) (hmn:m≤n):Bd n v:=by obtain⟨h1,h2,h3⟩:=h;exact⟨by omega,by omega,by omega⟩
section
variable (X:Ext) (hX:Mine X)
include hX
theorem c152 (v:V3) (h:Bd 1099511627776 v):run tab X 152 [.p (dn v)] []=some ([.p (dn (Zt v))],[]) :=
 bF (hX _ rfl) (by obtain⟨a1,a2,a3⟩:=h;rw[dn,e152,wrap_eq (by omega) (by omega),wrap_eq (by omega) (by omega),wrap_eq (by omega) (by omega)];simp[Zt,dn])
theorem c105 (a b:V3) (ha:Bd 34359738368 a) (hb:Bd 34359738368 b):run tab X 105 [.p (dn a),.p (dn b)] []=some ([.p (dn (ad8 a b))],[]) :=
 bF (hX _ rfl) (by have h1:=c152 X hX b (hb.mono (by decide));have h2:=anG X hX a (Zt b) (ha.mono (by decide)) (by obtain⟨b1,b2,b3⟩:=hb;exact⟨by simp[Zt];omega,by simp[Zt];omega,by simp[Zt];omega⟩);simp only[dn,Zt]at h1 h2;rw[dn,dn,amh];simp only[h1,Option.bind_some,List.headD_cons,dA,DJ,List.getD_cons_zero,List.getD_cons_succ,toInt_int];simp only[h2,Option.bind_some,List.headD_cons,dA,DJ,List.getD_cons_zero,List.getD_cons_succ,toInt_int,dn,ad8,Int.sub_eq_add_neg])
theorem an4 (a b:V3):run tab X 104 [.p (dn a),.p (dn b)] []=some ([.p (dn ⟨Qp a.y b.z a.z b.y,Qp a.z b.x a.x b.z,Qp a.x b.y a.y b.x⟩)],[]):=by have e0:∀ (v:V3) i,run tab X 107 [.p (.agg [.int .i64 v.x,.int .i64 v.y,.int .i64 v.z]),.p (.int .i64 i)] []=some ([.p (.int .i64 (if i=0 then v.x else if i=1 then v.y else v.z))],[]):=fun v i=>c107 X hX v i;refine bF (hX _ rfl) ?_;rw[dn,dn,amg];refine dW ?_;rw[Ef];refine fF (by decide) ?_;simp only[e0,Option.bind_some,List.headD_cons,dA,toInt_int];rw[show (leI (0:Int) 0&&dG (0:Int) 3)=true from rfl,cond_true,show FK (0:Int) 0=true from rfl,cond_true,show IntKind.i64.wrap ((0:Int)+1)=1 from rfl];refine dW ?_;rw[Ef];refine fF (by decide) ?_;simp only[e0,Option.bind_some,List.headD_cons,dA,toInt_int];rw[show (leI (0:Int) 1&&dG (1:Int) 3)=true from rfl,cond_true,show FK (1:Int) 0=false from rfl,cond_false,show FK (1:Int) 1=true from rfl,cond_true,show IntKind.i64.wrap ((1:Int)+1)=2 from rfl];refine dW ?_;rw[Ef];refine fF (by decide) ?_;simp only[e0,Option.bind_some,List.headD_cons,dA,toInt_int];rw[show (leI (0:Int) 2&&dG (2:Int) 3)=true from rfl,cond_true,show FK (2:Int) 0=false from rfl,cond_false,show FK (2:Int) 1=false from rfl,cond_false,show FK (2:Int) 2=true from rfl,cond_true,show IntKind.i64.wrap ((2:Int)+1)=3 from rfl];refine dW ?_;rw[Ef];exact dO (by decide) rfl
omit hX in
theorem aa1 {a b c : V3} (ha : Bd 16777216 a) (hb : Bd 16777216 b) (hc : Bd 16777216 c) :
    (-1125899906842624≤(b.x-a.x)*(c.y-a.y)∧(b.x-a.x)*(c.y-a.y)≤1125899906842624)∧(-1125899906842624≤(b.y-a.y)*(c.x-a.x)∧(b.y-a.y)*(c.x-a.x)≤1125899906842624):=by
  obtain⟨a1,a2,_⟩:=ha;obtain⟨b1,b2,_⟩:=hb;obtain⟨c1,c2,_⟩:=hc;have h1:=afC (a:=b.x-a.x) (b:=c.y-a.y) (m:=33554432) (n:=33554432) (by omega) (by omega);have h2:=afC (a:=b.y-a.y) (b:=c.x-a.x) (m:=33554432) (n:=33554432) (by omega) (by omega);omega
omit hX in
theorem aco {p q r s m:Int} (h1:-m≤p*q∧p*q≤m) (h2:-m≤r*s∧r*s≤m) (hm:m≤4611686018427387903):Qp p q r s=p*q-r*s:=by unfold Qp;rw[wrap_eq (x:=p*q) (by omega) (by omega),wrap_eq (x:=r*s) (by omega) (by omega),wrap_eq (by omega) (by omega)]
theorem c97 (a b c:V3) (ha:Bd 16777216 a) (hb:Bd 16777216 b) (hc:Bd 16777216 c):run tab X 97 [.p (dn a),.p (dn b),.p (dn c)] []=some ([.p (.int .i64 (nK a b c))],[]) :=
 bF (hX _ rfl) (by
  have h1:=c105 X hX b a (hb.mono (by decide)) (ha.mono (by decide));have h2:=c105 X hX c a (hc.mono (by decide)) (ha.mono (by decide));have h3:=an4 X hX (ad8 b a) (ad8 c a);have hz:=aa1 ha hb hc;have e:=aco hz.1 hz.2 (by decide);simp only[dn,ad8]at h1 h2 h3;rw[dn,dn,dn,e97];simp only[h1,h2,Option.bind_some,List.headD_cons,dA,DJ,List.getD_cons_zero,List.getD_cons_succ,toInt_int];simp only[h3,Option.bind_some,List.headD_cons,dA,DJ,List.getD_cons_zero,List.getD_cons_succ,toInt_int,e,Kq];unfold nK area lS;by_cases g1:(b.x-a.x)*(c.y-a.y)-(b.y-a.y)*(c.x-a.x) > 0
  · rw[if_pos g1,if_neg (by omega),if_pos g1]
  · rw[if_neg g1];by_cases g2:(b.x-a.x)*(c.y-a.y)-(b.y-a.y)*(c.x-a.x)<0
    · rw[if_pos g2,if_pos g2]
    · rw[if_neg g2,if_neg g2,if_neg g1])
theorem an5 (a b c:V3) (ha:Bd 16777216 a) (hb:Bd 16777216 b) (hc:Bd 16777216 c):run tab X 150 [.p (dn a),.p (dn b),.p (dn c)] []=some ([.p (.int .i64 (nK a b c)),.p (.int .i64 0)],[]) :=
 bF (hX _ rfl) (by have h1:=ahm X hX a;have h2:=ahm X hX b;have h3:=ahm X hX c;rw[Cc.2 ha]at h1;rw[Cc.2 hb]at h2;rw[Cc.2 hc]at h3;have hz:=aa1 ha hb hc;obtain⟨a1,a2,_⟩:=ha;obtain⟨b1,b2,_⟩:=hb;obtain⟨c1,c2,_⟩:=hc;simp only[dn]at h1 h2 h3;rw[dn,dn,dn,amy];simp only[h1,h2,h3,Option.bind_some,List.headD_cons,dA,bD,Bool.not_true,cond_false];rw[wrap_eq (x:=b.x-a.x) (by omega) (by omega),wrap_eq (x:=c.y-a.y) (by omega) (by omega),wrap_eq (x:=b.y-a.y) (by omega) (by omega),wrap_eq (x:=c.x-a.x) (by omega) (by omega)];rw[wrap_eq (x:=(b.x-a.x)*(c.y-a.y)) (by omega) (by omega),wrap_eq (x:=(b.y-a.y)*(c.x-a.x)) (by omega) (by omega),wrap_eq (by omega) (by omega),anm X hX];rfl)
theorem c45 (a b p:V3) (ha:Bd 16777216 a) (hb:Bd 16777216 b) (hp:Bd 16777216 p):run tab X 45 [.p (dn a),.p (dn b),.p (dn p)] []=some ([.p (.bool (EY a b p))],[]) :=
 bF (hX _ rfl) (by have h1:=c97 X hX a b p ha hb hp;simp only[dn]at h1;rw[dn,dn,dn,e45];simp only[h1,Option.bind_some,List.headD_cons,dA,toInt_int,EY];have q:∀ x y:Int,leI x y=decide (x≤y):=fun _ _=>rfl;rw[q,q,q,q];cases (nK a b p==0)<;>cases (decide (EX a.x b.x≤p.x))<;>cases (decide (p.x≤Di a.x b.x))<;>cases (decide (EX a.y b.y≤p.y))<;>rfl)
end
end Go.Skm.Fen
namespace Go.Skm.Fen
open Go Go.Skm
def BA (a b c d:V3):Bool:=EY a b c||(EY a b d||(EY c d a||(EY c d b||(decide (nK a b c*nK a b d<0)&&decide (nK c d a*nK c d b<0)))))
theorem wK (a b c:V3):nK a b c=-1∨nK a b c=0∨nK a b c=1:=by
 unfold nK lS;split
 · exact Or.inl rfl
 · split
   · exact Or.inr (Or.inr rfl)
   · exact Or.inr (Or.inl rfl)
abbrev x9 (a:V3):Prop:=Bd 16777216 a
section
variable (X:Ext) (hX:Mine X)
include hX
theorem c96 (a b c:V3) (ha:x9 a) (hb:x9 b) (hc:x9 c):run tab X 96 [.p (dn a),.p (dn b),.p (dn c)] []=some ([.p (.int .i64 (nK a b c))],[]) :=
 bF (hX _ rfl) (by have h1:=an5 X hX a b c ha hb hc;simp only[dn]at h1;rw[dn,dn,dn,e96,h1];rfl)
theorem c41 (a b p:V3) (ha:x9 a) (hb:x9 b) (hp:x9 p):run tab X 41 [.p (dn a),.p (dn b),.p (dn p)] []=some ([.p (.bool (EY a b p))],[]) :=
 bF (hX _ rfl) (by have h1:=c96 X hX a b p ha hb hp;simp only[dn]at h1;rw[dn,dn,dn,e41];simp only[h1,Option.bind_some,List.headD_cons,dA,toInt_int,EY];have q:∀ x y:Int,leI x y=decide (x≤y):=fun _ _=>rfl;have q2:∀ x y:Int,yH x y=decide (y≤x):=fun _ _=>rfl;rw[q2,q2,q,q];cases (nK a b p==0)<;>cases (decide (EX a.x b.x≤p.x))<;>cases (decide (p.x≤Di a.x b.x))<;>cases (decide (EX a.y b.y≤p.y))<;>rfl)
theorem c42 (a b c d:V3) (ha:x9 a) (hb:x9 b) (hc:x9 c) (hd:x9 d):run tab X 42 [.p (dn a),.p (dn b),.p (dn c),.p (dn d)] []=some ([.p (.bool (BA a b c d))],[]) :=
 bF (hX _ rfl) (by
  have o:=fun (a b p:V3) ha hb hp=>c41 X hX a b p ha hb hp;have t:=fun (a b p:V3) ha hb hp=>c96 X hX a b p ha hb hp;simp only[dn]at o t;rw[dn,dn,dn,dn,e42];simp only[o a b c ha hb hc,o a b d ha hb hd,o c d a hc hd ha,o c d b hc hd hb,t a b c ha hb hc,t a b d ha hb hd,t c d a hc hd ha,t c d b hc hd hb,Option.bind_some,List.headD_cons,dA,toInt_int,bD,BA];have w:∀ a b c d e f:V3,IntKind.i64.wrap (nK a b c*nK d e f)=nK a b c*nK d e f:=by intro a b c d e f;rcases wK a b c with h | h | h<;>rcases wK d e f with h2 | h2 | h2<;>rw[h,h2]<;>rfl
  have q:∀ x y:Int,dG x y=decide (x<y):=fun _ _=>rfl;rw[w,w,q,q];cases EY a b c<;>cases EY a b d<;>cases EY c d a<;>cases EY c d b<;>cases decide (nK a b c*nK a b d<0)<;>rfl)
def SY (x y:V3):PV:=.agg [.int .i64 x.x,.int .i64 x.y,.int .i64 x.z,.int .i64 y.x,.int .i64 y.y,.int .i64 y.z]
theorem c46 (a b c d:V3) (ha:x9 a) (hb:x9 b) (hc:x9 c) (hd:x9 d):run tab X 46 [.p (SY a b),.p (SY c d)] []=some ([.p (.bool (BA a b c d))],[]) :=
 bF (hX _ rfl) (by have o:=fun (a b p:V3) ha hb hp=>c45 X hX a b p ha hb hp;have t:=fun (a b p:V3) ha hb hp=>c97 X hX a b p ha hb hp;simp only[dn]at o t;rw[SY,SY,e46];simp only[o a b c ha hb hc,o a b d ha hb hd,o c d a hc hd ha,o c d b hc hd hb,t a b c ha hb hc,t a b d ha hb hd,t c d a hc hd ha,t c d b hc hd hb,Option.bind_some,List.headD_cons,dA,toInt_int,bD,BA];generalize EY a b c=o1;generalize EY a b d=o2;generalize EY c d a=o3;generalize EY c d b=o4;rcases wK a b c with h1 | h1 | h1<;>rcases wK a b d with h2 | h2 | h2<;>rcases wK c d a with h3 | h3 | h3<;>rcases wK c d b with h4 | h4 | h4<;>rw[h1,h2,h3,h4]<;>cases o1<;>cases o2<;>cases o3<;>cases o4<;>rfl)
end
end Go.Skm.Fen
namespace Go.Skm.Fen
open Go Go.Skm
section
variable (X:Ext) (hX:Mine X)
include hX
theorem l43 (l : List V3) (hl : l.length ≤ 1000000) : ∀ k i,i + k = l.length → (∀ j,j < i → vO 1048576 (l.getD j default) = true) →
    L tab (run tab X) 43 [] [.lp [1,0,1,0]] (JR (dh l) i)=some ([.p (.bool (l.all (vO 1048576)))],[]):=by
  intro k;induction k with
  | zero =>
   intro i hi hall;refine dW ?_;rw[Xf];refine dO (by simp;omega) ?_;have:l.all (vO 1048576)=true:=by rw[List.all_eq_true];intro v hv;obtain⟨j,hj,rfl⟩:=List.getElem_of_mem hv;have:=hall j (by omega);rwa[qLb,qLd hj]at this
   rw[this]
  | succ k ih =>
   intro i hi hall;refine dW ?_;rw[Xf];refine fF (by simp;omega) ?_;have hr:(leI (0:Int) (i:Int)&&dG (i:Int) (((dh l).length:Nat):Int))=true:=by simp;omega
   have w1:IntKind.i64.wrap ((i:Int)+1)=((i+1:Nat):Int):=by rw[wrap_eq (by omega) (by omega)];omega
   have h1:=c21 X hX (l.getD i default);simp only[dn]at h1;rw[hr,cond_true];simp only[Int.toNat_natCast,Jl,Jm,Qa,h1,Option.bind_some,List.headD_cons,dA,bD,w1];cases hv:vO 1048576 (l.getD i default) with
   | false =>
    have:l.all (vO 1048576)=false:=by rw[List.all_eq_false];refine⟨l.getD i default,?_,by rw[hv];decide⟩;rw[qLb,qLd (by omega)];exact List.getElem_mem _
    rw[this];rfl
   | true =>
    rw[Bool.not_true,cond_false];refine ih (i+1) (by omega) fun j hj=>?_;by_cases h:j=i
    · rw[h];exact hv
    · exact hall j (by omega)
theorem c43 (l:List V3) (hl:l.length≤1000000):run tab X 43 [.p (.list true aW (dh l))] []=some ([.p (.bool (l.all (vO 1048576)))],[]) :=
 bF (hX _ rfl) (by rw[e43];exact l43 X hX l hl l.length 0 (by omega) (by omega))
theorem c39 (v:V3):run tab X 39 [.p (dn v)] []=some ([.p (.bool (!(vO 1048576 v)))],[]) :=
 bF (hX _ rfl) (by have h1:=c40 X hX v;simp only[dn]at h1;rw[dn,e39,h1];rfl)
def yg:List V3→Nat→Int
 | [],_=>-1
 | v::r,i=>if vO 1048576 v then yg r (i+1) else i
theorem l94 (l : List V3) (hl : l.length ≤ 1000000) : ∀ (r : List V3) (i : Nat),l.drop i = r → i ≤ l.length →
    L tab (run tab X) 94 [] [.lp [1,0,1,0]] (JW (dh l) l.length i)=some ([.p (.int .i64 (yg r i))],[]):=by
  intro r;induction r with
  | nil =>
   intro i hr hi;have hil:i=l.length:=by have:=congrArg List.length hr;simp at this;omega
   refine dW ?_;rw[Xg];exact dO (by omega) rfl
  | cons v r ih =>
   intro i hr hi;have hil:i<l.length:=by have:=congrArg List.length hr;simp at this;omega
   have hv:l.getD i default=v:=by rw[qLb,← List.head?_drop,hr];rfl
   refine dW ?_;rw[Xg];refine fF (by omega) ?_;have hr1:(leI (0:Int) (i:Int)&&dG (i:Int) (((dh l).length:Nat):Int))=true:=by simp;omega
   have w1:IntKind.i64.wrap ((i:Int)+1)=((i+1:Nat):Int):=by rw[wrap_eq (by omega) (by omega)];omega
   have h1:=c39 X hX v;simp only[dn]at h1;rw[hr1,cond_true];simp only[Int.toNat_natCast,Jl,Jm,Qa,hv,h1,Option.bind_some,List.headD_cons,dA,bD,w1];rw[yg];cases vO 1048576 v with
   | false=>rfl
   | true =>rw[Bool.not_true,cond_false,if_pos rfl];exact ih (i+1) (by rw[← List.tail_drop,hr];rfl) (by omega)
theorem EC:∀ (l:List V3) (i:Nat),(0≤yg l i)↔l.all (vO 1048576)=false
 | [],i=>by have _:=hX;simp[yg]
 | v::r,i=>by
  rw[yg];cases h:vO 1048576 v with
  | false=>simp[h]
  | true=>simp[h,EC r (i+1)]
theorem c38 (l:List V3) (hl:l.length≤1000000):run tab X 38 [.p (.list true aW (dh l)),.p (.fn 39 [])] []=some ([.p (.bool (!(l.all (vO 1048576))))],[]) :=
 bF (hX _ rfl) (by
  have h1:run tab X 94 [.p (.list true aW (dh l)),.p (.fn 39 [])] []=some ([.p (.int .i64 (yg l 0))],[]):=bF (hX _ rfl) (by rw[e94,lH];exact l94 X hX l hl l 0 rfl (by omega));rw[e38,h1];simp only[Option.bind_some,List.headD_cons,dA,toInt_int];have e:yH (yg l 0) 0=!(l.all (vO 1048576)):=by
   cases h:l.all (vO 1048576) with
   | false=>exact decide_eq_true ((EC X hX l 0).2 h)
   | true=>exact decide_eq_false fun h2=>by rw[(EC X hX l 0).1 h2]at h;exact absurd h (by decide)
  rw[e])
end
end Go.Skm.Fen
namespace Go.Skm.Fen
open Go Go.Skm
def flat (v:V3):V3:=⟨v.x,v.y,0⟩
def Ba (n i:Nat):Nat:=(i+1)%n
abbrev gt (l:List V3) (i:Nat):V3:=l.getD i default
def um (l:List V3) (n:Nat):List PV:=(List.range n).map fun i=>SY (flat (gt l i)) (flat (gt l (Ba l.length i)))
abbrev kE:List Kd:=[.int .i64,.int .i64,.int .i64,.int .i64,.int .i64,.int .i64]
theorem Ce (l:List V3) (n:Nat):(um l n).length=n:=by simp[um]
theorem XM (l:List V3) (n:Nat):um l (n+1)=um l n++[SY (flat (gt l n)) (flat (gt l (Ba l.length n)))]:=by rw[um,um,List.range_succ,List.map_append];rfl
section
variable (X:Ext) (hX:Mine X)
include hX
theorem l44 (l : List V3) (hl : l.length ≤ 1000000) : ∀ k i,i + k = l.length →
    L tab (run tab X) 44 [] [.lp [1,1,0,1,0]] (Hl (dh l) 0 i i (um l i))=some ([.fresh true kE (um l l.length)],[]):=by
  have _:=hX;intro k;induction k with
  | zero =>
   intro i hi;have him:i=l.length:=by omega
   subst him;refine dW ?_;rw[TK];refine dO (by simp) ?_;rw[List.drop_zero,List.take_of_length_le (by rw[Ce];omega)]
  | succ k ih =>
   intro i hi;refine dW ?_;rw[TK];refine fF (by simp;omega) ?_;have hr:(leI (0:Int) (i:Int)&&dG (i:Int) (((dh l).length:Nat):Int))=true:=by simp;omega
   have w1:IntKind.i64.wrap ((i:Int)+1)=((i+1:Nat):Int):=by rw[wrap_eq (by omega) (by omega)];omega
   have t1:((i+1:Nat):Int).tmod ((l.length:Nat):Int)=((Ba l.length i:Nat):Int):=by rw[Int.tmod_eq_emod_of_nonneg (by omega)];norm_cast
   have hn:Ba l.length i<l.length:=Nat.mod_lt _ (by omega);have hr2:(leI (0:Int) ((Ba l.length i:Nat):Int)&&dG ((Ba l.length i:Nat):Int) (((dh l).length:Nat):Int))=true:=by simp;omega
   have hz:(!(FK (((dh l).length:Nat):Int) (0:Int)))=true:=by rw[lH];show (!(decide (_=_)))=true;rw[decide_eq_false (by omega)];rfl
   rw[hz,hr,w1];simp only[lH]at hr2 ⊢;rw[t1,hr2];simp only[cond_true,Int.toNat_natCast,Jl,Jm];refine fF (show i+1≤2147483648 by omega) ?_;rw[List.drop_zero,List.take_of_length_le (by rw[Ce];omega)];have:=ih (i+1) (by omega);rw[XM]at this;exact this
theorem c44 (l:List V3) (hl:l.length≤1000000):run tab X 44 [.p (.list true aW (dh l))] []=some ([.fresh true kE (um l l.length)],[]) :=
 bF (hX _ rfl) (by rw[e44];exact l44 X hX l hl l.length 0 (by omega))
end
end Go.Skm.Fen
namespace Go.Skm.Fen
open Go Go.Skm
def pU (f:Nat→Bool):Nat→Nat→Bool
 | _,0=>true
 | k,m+1=>f k&&pU f (k+1) m
theorem Am {f:Nat→Bool}:∀ {m k:Nat},pU f k m=true↔∀ j,k≤j→j<k+m→f j=true
 | 0,k=>by simp[pU];intro j h1 h2;omega
 | m+1,k=>by
  simp only[pU,qBa,Am (m:=m)];constructor
  · rintro ⟨h1,h2⟩ j h3 h4;by_cases e:j=k
    · rw[e];exact h1
    · exact h2 j (by omega) (by omega)
  · exact fun h=>⟨h k (by omega) (by omega),fun j h1 h2=>h j (by omega) (by omega)⟩
theorem rng {i n:Nat} (h:i<n):(leI (0:Int) (i:Int)&&dG (i:Int) ((n:Nat):Int))=true:=by rw[show leI (0:Int) (i:Int)=true from decide_eq_true (by omega),show dG (i:Int) ((n:Nat):Int)=true from decide_eq_true (by omega)];rfl
theorem le0 (i:Nat):leI (0:Int) (i:Int)=true:=decide_eq_true (by omega)
theorem Hw {i n:Nat} (h:i<n):dG (i:Int) ((n:Nat):Int)=true:=decide_eq_true (by omega)
theorem SQ {i n:Nat} (h:¬ i<n):dG (i:Int) ((n:Nat):Int)=false:=decide_eq_false (by omega)
theorem nz {n:Nat} (h:0<n):(!(FK ((n:Nat):Int) (0:Int)))=true:=by rw[show FK ((n:Nat):Int) (0:Int)=false from decide_eq_false (by omega)];rfl
theorem lW {i:Nat} (h:i≤9000000000000000000):IntKind.i64.wrap ((i:Int)+1)=((i+1:Nat):Int):=by rw[wrap_eq (by omega) (by omega)];omega
theorem XO (i n:Nat):((i+1:Nat):Int).tmod ((n:Nat):Int)=((Ba n i:Nat):Int):=by rw[Int.tmod_eq_emod_of_nonneg (by omega)];norm_cast
theorem Zu {n i:Nat} (h:0<n):Ba n i<n:=Nat.mod_lt _ h
theorem acd (a b:Nat):((a:Int)==(b:Int))=decide (a=b):=by
 by_cases h:a=b
 · subst h;simp
 · rw[decide_eq_false h];simp;omega
section
variable (l:List V3)
abbrev ca (i:Nat):V3:=gt l i
abbrev cb (i:Nat):V3:=gt l (Ba l.length i)
def okE (i:Nat):Bool:=!(((ca l i).x==(cb l i).x)&&((ca l i).y==(cb l i).y))
def S9 (i k:Nat):Bool:=if k=i+1 then !EY (ca l i) (cb l i) (cb l k)&&!EY (ca l k) (cb l k) (ca l i) else if Ba l.length k=i then !EY (ca l i) (cb l i) (ca l k)&&!EY (ca l k) (cb l k) (cb l i) else !BA (ca l i) (cb l i) (ca l k) (cb l k)
def okD (i k:Nat):Bool:=if k=i then true else if k=Ba l.length i then !EY (ca l i) (cb l i) (cb l k)&&!EY (ca l k) (cb l k) (ca l i) else if i=Ba l.length k then true else !BA (ca l i) (cb l i) (ca l k) (cb l k)
def P9:Bool:=decide (3≤l.length∧l.length≤64)&&l.all (vO 1048576)
def lG:Bool:=P9 l&&pU (fun i=>okE l i&&pU (S9 l i) (i+1) (l.length-(i+1))) 0 l.length
def aa2:Bool:=P9 l&&pU (fun i=>okE l i&&pU (okD l i) 0 l.length) 0 l.length
end
theorem XP (a b p:V3):EY (flat a) (flat b) (flat p)=EY a b p:=rfl
theorem Zv (a b c d:V3):BA (flat a) (flat b) (flat c) (flat d)=BA a b c d:=rfl
theorem Vp {l:List V3} (h:l.all (vO 1048576)=true) (i:Nat):x9 (gt l i):=by
 by_cases hi:i<l.length
 · have:=List.all_eq_true.1 h (l[i]) (List.getElem_mem hi);rw[Cc]at this;have e:gt l i=l[i]:=by show l.getD i default=_;rw[qLb,qLd hi];rfl
   rw[e];exact this.mono (by decide)
 · have e : gt l i = default := by show l.getD i default=_;rw[qLb,List.getElem?_eq_none (by omega)];rfl
   rw[e];refine⟨⟨?_,?_⟩,⟨?_,?_⟩,⟨?_,?_⟩⟩<;>decide
theorem Vo {v:V3} (h:x9 v):x9 (flat v):=⟨h.1,h.2.1,⟨by show (-16777216:Int)≤0;decide,by show (0:Int)≤16777216;decide⟩⟩
section
variable (X:Ext) (hX:Mine X)
include hX
theorem an6 (l : List V3) (h3 : 3 ≤ l.length) (hl : l.length ≤ 64) (hall : l.all (vO 1048576) = true) (i : Nat) (hi : i < l.length) (t : Int) (R : Bool)
    (hnext:L tab (run tab X) 12 [] [.lp [1,1,1,0,1,0]] (zV (dh l) ((l.length:Nat):Int) t ((i+1:Nat):Int))=some ([.p (.bool R)],[])):∀ m k,k+m=l.length→i<k →
    L tab (run tab X) 12 [] [.lp [1,1,1,0,1,0],.lp [1,1,0,0,1,1,1,1,0]] (fD (dh l) ((l.length:Nat):Int) (i:Int) (k:Int) t (i:Int) (ca l i).x (ca l i).y (ca l i).z (cb l i).x (cb l i).y (cb l i).z)=some ([.p (.bool (pU (S9 l i) k m&&R))],[]):=by
  intro m;induction m with
  | zero =>intro k hk hik;refine dW ?_;rw[xI,SQ (by omega),cond_false,lW (by omega)];exact hnext
  | succ m ih =>
   intro k hk hik;have hkl:k<l.length:=by omega
   have hb:=Vp hall;have o:=fun (a b p:V3) ha hb hp=>c41 X hX a b p ha hb hp;have mt:=fun (a b c d:V3) ha hb hc hd=>c42 X hX a b c d ha hb hc hd;simp only[dn]at o mt;have hn:=Zu (n:=l.length) (i:=k) (by omega);refine dW ?_;rw[xI,Hw hkl,cond_true];rw[lH,rng hkl,cond_true,nz (by omega),cond_true,lW (by omega),lW (by omega),XO];rw[rng hn,cond_true];simp only[Int.toNat_natCast,Jl,Jm,Qa,cond_true];have key:∀ b:Bool,pU (S9 l i) k (m+1)=(S9 l i k&&pU (S9 l i) (k+1) m):=fun _=>rfl;rw[key true,acd];have next:∀ b:Bool,b=S9 l i k→(bif (!b) then some ([AV.p (.bool false)],([]:List cu)) else L tab (run tab X) 12 [] [.lp [1,1,1,0,1,0],.lp [1,1,0,0,1,1,1,1,0]] (fD (dh l) ((l.length:Nat):Int) (i:Int) ((k+1:Nat):Int) t (i:Int) (ca l i).x (ca l i).y (ca l i).z (cb l i).x (cb l i).y (cb l i).z))=some ([.p (.bool ((S9 l i k&&pU (S9 l i) (k+1) m)&&R))],[]):=by
    intro b hb;cases b with
    | false=>rw[← hb];rfl
    | true =>rw[← hb,Bool.not_true,cond_false,Bool.true_and];exact ih (k+1) (by omega) (by omega)
   by_cases h1:k=i+1
   · rw[decide_eq_true h1,cond_true,show kX ((l.length:Nat):Int) (2:Int)=true from decide_eq_true (by omega),cond_true];rw[o _ _ _ (hb _) (hb _) (hb _),Option.bind_some];simp only[List.headD_cons,dA,bD];have e:S9 l i k=(!EY (ca l i) (cb l i) (cb l k)&&!EY (ca l k) (cb l k) (ca l i)):=by rw[S9,if_pos h1]
     cases h2:EY (ca l i) (cb l i) (cb l k) with
     | true =>
      have e':S9 l i k=false:=by rw[e,h2];rfl
      rw[e',Bool.false_and,Bool.false_and];rfl
     | false =>rw[Bool.not_false,cond_true,o _ _ _ (hb _) (hb _) (hb _),Option.bind_some];simp only[List.headD_cons,dA,bD];exact next _ (by rw[e,h2];rfl)
   · rw[decide_eq_false h1,cond_false];rw[acd];by_cases h2:Ba l.length k=i
     · rw[decide_eq_true h2,cond_true,o _ _ _ (hb _) (hb _) (hb _),Option.bind_some];simp only[List.headD_cons,dA,bD];have e:S9 l i k=(!EY (ca l i) (cb l i) (ca l k)&&!EY (ca l k) (cb l k) (cb l i)):=by rw[S9,if_neg h1,if_pos h2]
       cases h3:EY (ca l i) (cb l i) (ca l k) with
       | true =>
        have e':S9 l i k=false:=by rw[e,h3];rfl
        rw[e',Bool.false_and,Bool.false_and];rfl
       | false =>rw[Bool.not_false,cond_true,o _ _ _ (hb _) (hb _) (hb _),Option.bind_some];simp only[List.headD_cons,dA,bD];exact next _ (by rw[e,h3];rfl)
     · rw[decide_eq_false h2,cond_false,mt _ _ _ _ (hb _) (hb _) (hb _) (hb _),Option.bind_some];simp only[List.headD_cons,dA,bD];exact next _ (by rw[S9,if_neg h1,if_neg h2])
theorem l12 (l : List V3) (h3 : 3 ≤ l.length) (hl : l.length ≤ 64) (hall : l.all (vO 1048576) = true) : ∀ m i,i + m = l.length →
    L tab (run tab X) 12 [] [.lp [1,1,1,0,1,0]] (zV (dh l) ((l.length:Nat):Int) ((l.length:Nat):Int) (i:Int))=some ([.p (.bool (pU (fun i=>okE l i&&pU (S9 l i) (i+1) (l.length-(i+1))) i m))],[]):=by
  intro m;induction m with
  | zero =>intro i hi;refine dW ?_;rw[Pj,SQ (by omega),cond_false];rfl
  | succ m ih =>
   intro i hi;have hil:i<l.length:=by omega
   have hn:=Zu (n:=l.length) (i:=i) (by omega);refine dW ?_;rw[Pj,Hw hil,cond_true];rw[lH,rng hil,cond_true,nz (by omega),cond_true,lW (by omega),XO];rw[rng hn,cond_true];simp only[Int.toNat_natCast,Jl,Jm,Qa];have h1:=an6 X hX l h3 hl hall i hil _ _ (ih (i+1) (by omega)) (l.length-(i+1)) (i+1) (by omega) (by omega);have key:pU (fun i=>okE l i&&pU (S9 l i) (i+1) (l.length-(i+1))) i (m+1)=((okE l i&&pU (S9 l i) (i+1) (l.length-(i+1)))&&pU (fun i=>okE l i&&pU (S9 l i) (i+1) (l.length-(i+1))) (i+1) m):=rfl;rw[key,Bool.and_assoc,okE];cases hx:(ca l i).x==(cb l i).x with
   | false =>rw[cond_false,Bool.false_and,Bool.not_false,Bool.true_and];exact h1
   | true =>
    rw[cond_true,Bool.true_and];cases hy:(ca l i).y==(cb l i).y with
    | true=>rw[cond_true,Bool.not_true,Bool.false_and]
    | false=>rw[cond_false,Bool.not_false,Bool.true_and];exact h1
theorem c12 (l:List V3) (hl:l.length≤1000000):run tab X 12 [.p (.list true aW (dh l))] []=some ([.p (.bool (lG l))],[]) :=
 bF (hX _ rfl) (by
  rw[e12,lH,lG,P9];by_cases h1:l.length<3
  · rw[show dG ((l.length:Nat):Int) (3:Int)=true from decide_eq_true (by omega),cond_true,decide_eq_false (by omega)];rfl
  rw[show dG ((l.length:Nat):Int) (3:Int)=false from decide_eq_false (by omega),cond_false];by_cases h2:64<l.length
  · rw[show kX ((l.length:Nat):Int) (64:Int)=true from decide_eq_true (by omega),cond_true,decide_eq_false (by omega)];rfl
  rw[show kX ((l.length:Nat):Int) (64:Int)=false from decide_eq_false (by omega),cond_false,decide_eq_true (show 3≤l.length∧l.length≤64 by omega),Bool.true_and,c38 X hX l hl,Option.bind_some];simp only[List.headD_cons,dA,bD];cases hall:l.all (vO 1048576) with
  | false=>rfl
  | true =>rw[Bool.not_true,cond_false,Bool.true_and];exact l12 X hX l (by omega) (by omega) hall l.length 0 (by omega))
end
end Go.Skm.Fen
