import Derived.Test.YtoheflpoanjihaaGreatR8
import Derived.Test.YtoheflpoanjihaaGreatEqu
import Derived.Test.YtoheflpoanjihaaGreatEqs
set_option linter.all false
namespace Go.Skm.Fen
open Go Go.Skm
section
open Go.Skm.Dig
theorem Qu(m:Nat):val B9 [m%1000000000,m / 1000000000%1000000000,m / 1000000000 / 1000000000]=m:=by show m%1000000000+1000000000*(m / 1000000000%1000000000+1000000000*(m / 1000000000 / 1000000000+1000000000*0))=m;omega
theorem SX{m:Nat}(h:m<=9223372036854775808):ok B9 [m%1000000000,m / 1000000000%1000000000,m / 1000000000 / 1000000000]:=by intro d hd;grind
section
variable (X:Ext) (hX:Mine X)
include hX
theorem YC(x:Int)(a:jd x 10000000):run tab X 132 [.p (eI x),.p (.agg [.bool false,.nil])] []=some ([.p (eI x)],[]):=
 run_of (hX _ rfl) (by have c:run tab X 148 [.p (.agg [.bool false,.nil])] []=some ([.p (eI 0)],[]):=run_of (hX _ rfl) (by have:=c131 X hX true 0;rw[OV]at this;rw[Xp];erw [this];rfl);have b:=WB X hX x 0 a (by unfold jd;rw[Int.natAbs_zero,dF];simp);rw[Int.add_zero]at b;grind[Xo,qOb,qLh,pv_p,dI])
theorem OX(m:Nat)(h:m<=9223372036854775808)(a:Bool):(((run tab X) 130 [.slice 100000 1 0 3] [.arr false kI (aY .i64 [m % 1000000000,m / 1000000000 % 1000000000,m / 1000000000 / 1000000000])]).bind λb =>
    (run tab X) 131 [Ac a,An ((((b.2.headD (.box [])).xs).drop ((b.1.headD .undef).sOff)).take ((b.1.headD .undef).sLen))] [])=some ([.p (eI (if a then -(m:Int)else m))],[]):=by
  rw[c130 X hX _ (by simp) 0 3 (by simp)];simp only[qOb,qLh,xs_arr,sOff_slice,sLen_slice];have t:((aY .i64 [m%1000000000,m / 1000000000%1000000000,m / 1000000000 / 1000000000]).drop 0).take (trim (([m%1000000000,m / 1000000000%1000000000,m / 1000000000 / 1000000000].drop 0).take 3)).length=nI m:=by show(aY .i64 [m%1000000000,m / 1000000000%1000000000,m / 1000000000 / 1000000000]).take (trim [m%1000000000,m / 1000000000%1000000000,m / 1000000000 / 1000000000]).length=nI m;rw[jv,mG,lX b9 (SX h) (Qu m)]
  rw[t];exact c131 X hX a m
theorem c71(n:Int)(s:-9223372036854775808<=n)(r:n<=9223372036854775807):run tab X 71 [Ab n] []=some ([.p (eI n)],[]):=
 run_of (hX _ rfl) (by
  have i:n.natAbs<=9223372036854775808:=by omega
  have l:jd n 10000000:=by have j:∀ k,3<=k->jd n k:=λk m=>uX (Nat.lt_of_lt_of_le (show n.natAbs<B9^3 by show _<1000000000^3;omega) (Nat.pow_le_pow_right (by decide) m));grind
  rw[e71];by_cases h:n >= 0
  . refine condP h ?_;have g:n.tmod 1000000000=((n.natAbs%1000000000:Nat):Int):=by rw[Int.tmod_eq_emod_of_nonneg h];omega
    have f:n.tdiv 1000000000=((n.natAbs / 1000000000:Nat):Int):=by rw[Int.tdiv_eq_ediv_of_nonneg h];omega
    have d:IntKind.i64.wrap ((n.natAbs / 1000000000:Nat):Int)=((n.natAbs / 1000000000:Nat):Int):=wrap_eq (by omega) (by omega);have c:(((n.natAbs / 1000000000:Nat):Int)).tmod 1000000000=((n.natAbs / 1000000000%1000000000:Nat):Int):=LD _ 1000000000;have b:(((n.natAbs / 1000000000:Nat):Int)).tdiv 1000000000=((n.natAbs / 1000000000 / 1000000000:Nat):Int):=LC _ 1000000000;have a:IntKind.i64.wrap ((n.natAbs / 1000000000 / 1000000000:Nat):Int)=((n.natAbs / 1000000000 / 1000000000:Nat):Int):=wrap_eq (by omega) (by omega);have:=OX X hX n.natAbs i false;rw[if_neg (by decide),show(n.natAbs:Int)=n by omega]at this;rw[g,f,d,c,b,a,<- Option.bind_assoc];erw [this];rfl
  . refine condNP h ?_;have g:n.tmod 1000000000=-((n.natAbs%1000000000:Nat):Int):=by
     have e:n=-(n.natAbs:Int):=by omega
     rw[e,Int.neg_tmod,Int.natAbs_neg,Int.natAbs_natCast];exact congrArg _ (LD n.natAbs 1000000000)
    have f:n.tdiv 1000000000=-((n.natAbs / 1000000000:Nat):Int):=by grind
    have d:IntKind.i64.wrap (-((n.natAbs / 1000000000:Nat):Int))=-((n.natAbs / 1000000000:Nat):Int):=wrap_eq (by omega) (by omega);have c:(-((n.natAbs / 1000000000:Nat):Int)).tmod 1000000000=-((n.natAbs / 1000000000%1000000000:Nat):Int):=by rw[Int.neg_tmod];exact congrArg _ (LD _ 1000000000)
    have b:(-((n.natAbs / 1000000000:Nat):Int)).tdiv 1000000000=-((n.natAbs / 1000000000 / 1000000000:Nat):Int):=by rw[Int.neg_tdiv];exact congrArg _ (LC _ 1000000000)
    have a:IntKind.i64.wrap (-((n.natAbs / 1000000000 / 1000000000:Nat):Int))=-((n.natAbs / 1000000000 / 1000000000:Nat):Int):=wrap_eq (by omega) (by omega);have b1:IntKind.i64.wrap (0 - -((n.natAbs%1000000000:Nat):Int))=((n.natAbs%1000000000:Nat):Int):=by rw[wrap_eq (by omega) (by omega)];omega
    have q:IntKind.i64.wrap (0 - -((n.natAbs / 1000000000%1000000000:Nat):Int))=((n.natAbs / 1000000000%1000000000:Nat):Int):=by rw[wrap_eq (by omega) (by omega)];omega
    have o:IntKind.i64.wrap (0 - -((n.natAbs / 1000000000 / 1000000000:Nat):Int))=((n.natAbs / 1000000000 / 1000000000:Nat):Int):=by rw[wrap_eq (by omega) (by omega)];omega
    have:=OX X hX n.natAbs i true;rw[if_pos rfl,show -(n.natAbs:Int)=n by omega]at this;rw[g,f,d,c,b,a,b1,q,o,<- Option.bind_assoc];erw [this];simp only[qOb,qLh,pv_p,dI];rw[YC X hX n l];rfl)
end
end
section
theorem mulB{a b m n:Int}(g:-m<=a/\a<=m)(f:-n<=b/\b<=n):-(m*n)<=a*b/\a*b<=m*n:=by
 have e:a.natAbs<=m.toNat:=by omega
 have d:b.natAbs<=n.toNat:=by omega
 have c:=Nat.mul_le_mul e d;rw[<- Int.natAbs_mul]at c;grind
def iY(n:Int):Int:=if n<0 then -1 else if n > 0 then 1 else 0
def area(a b c:V3):Int:=(b.x-a.x)*(c.y-a.y)-(b.y-a.y)*(c.x-a.x)
def inM(m:Int)(v:V3):Bool:=decide (-m<=v.x/\v.x<=m)&&(decide (-m<=v.y/\v.y<=m)&&decide (-m<=v.z/\v.z<=m))
def jR(a b c:V3):Int:=iY (area a b c)
theorem inM_iff{m:Int}{v:V3}:inM m v=true↔(-m<=v.x/\v.x<=m)/\(-m<=v.y/\v.y<=m)/\(-m<=v.z/\v.z<=m):=by simp[inM]
section
variable (X:Ext) (hX:Mine X)
include hX
theorem c107(v:V3)(i:Int):run tab X 107 [.p (encV v),Ab i] []=some ([Ab (if i=0 then v.x else if i=1 then v.y else v.z)],[]):=
 run_of (hX _ rfl) (by rw[encV,e107];grind)
theorem abE(n:Int):run tab X 178 [Ab n] []=some ([Ab (iY n)],[]):=
 run_of (hX _ rfl) (by rw[abj];simp only[condD,iY];grind)
theorem c56(v:V3)(m:Int)(l:0<=m)(k:m<=9223372036854775807):run tab X 56 [.p (encV v),Ab m] []=some ([Ac (inM m v)],[]):=by
 have a:IntKind.i64.wrap (0-m)=-m:=by rw[wrap_eq (by omega) (by omega)];omega
 refine run_of (hX _ rfl) ?_;rw[encV,e56];have b:∀ i,run tab X 107 [.p (.agg [Av v.x,Av v.y,Av v.z]),Ab i] []=some ([Ab (if i=0 then v.x else if i=1 then v.y else v.z)],[]):=λi=>c107 X hX v i;refine L_of ?_;rw[Ai];simp only[b,a,qOb,qLh,pv_p,toInt_int,condD];rw[if_pos (by decide)];simp only[if_true];by_cases f:v.x > m
 . rw[if_pos f];simp[inM];omega
 rw[if_neg f];by_cases e:v.x < -m
 . rw[if_pos e];simp[inM];omega
 rw[if_neg e];refine L_of ?_;rw[Ai];simp only[b,a,qOb,qLh,pv_p,toInt_int,condD];have j:IntKind.i64.wrap (0+1)=1:=by decide
 rw[j,if_pos (by decide)];simp only[show ¬((1:Int)=0) by decide,if_false,if_true];by_cases d:v.y > m
 . rw[if_pos d];simp[inM];omega
 rw[if_neg d];by_cases h4:v.y < -m
 . rw[if_pos h4];simp[inM];omega
 rw[if_neg h4];refine L_of ?_;rw[Ai];simp only[b,a,qOb,qLh,pv_p,toInt_int,condD];have h:IntKind.i64.wrap (1+1)=2:=by decide
 rw[h,if_pos (by decide)];simp only[show ¬((2:Int)=0) by decide,show ¬((2:Int)=1) by decide,if_false];by_cases h5:v.z > m
 . rw[if_pos h5];simp[inM];omega
 rw[if_neg h5];by_cases c:v.z < -m
 . rw[if_pos c];simp[inM];omega
 rw[if_neg c];refine L_of ?_;rw[Ai];have g:IntKind.i64.wrap (2+1)=3:=by decide
 rw[g];have:inM m v=true:=by rw[inM_iff];omega
 grind
theorem c21(v:V3):run tab X 21 [.p (encV v)] []=some ([Ac (inM 1048576 v)],[]):=
 run_of (hX _ rfl) (by rw[encV,e21];have:=c56 X hX v 1048576 (by decide) (by decide);simp_all[encV,this])
theorem c95(v:V3)(m:Int)(j:0<=m)(i:m<=9223372036854775807):run tab X 95 [Ab m,.p (.list false [.int .i64] [Av v.x,Av v.y,Av v.z])] []=some ([Ac (inM m v)],[]):=by
 have a:IntKind.i64.wrap (0-m)=-m:=by rw[wrap_eq (by omega) (by omega)];omega
 have h:IntKind.i64.wrap (0+1)=1:=by decide
 have g:IntKind.i64.wrap (1+1)=2:=by decide
 have f:IntKind.i64.wrap (2+1)=3:=by decide
 refine run_of (hX _ rfl) ?_;rw[e95];refine L_of ?_;rw[Am];simp only[a,h,condD,condA,qLl,List.length_nil];simp only[show((0:Int)<((0+1+1+1:Nat):Int)) by decide,Int.le_refl,if_true,Int.toNat_zero,qLz,cell_int,toInt_int];by_cases e:v.x < -m
 . rw[if_pos e];simp[inM];omega
 rw[if_neg e];by_cases d:v.x > m
 . rw[if_pos d];simp[inM];omega
 rw[if_neg d];refine L_of ?_;rw[Am];simp only[a,g,condD,condA,qLl,List.length_nil];simp only[show((1:Int)<((0+1+1+1:Nat):Int)) by decide,show(0:Int)<=1 by decide,if_true,show(1:Int).toNat=1 from rfl,List.getD_cons_succ,qLz,cell_int,toInt_int];by_cases c:v.y < -m
 . rw[if_pos c];simp[inM];omega
 rw[if_neg c];by_cases h4:v.y > m
 . rw[if_pos h4];simp[inM];omega
 rw[if_neg h4];refine L_of ?_;rw[Am];simp only[a,f,condD,condA,qLl,List.length_nil];simp only[show((2:Int)<((0+1+1+1:Nat):Int)) by decide,show(0:Int)<=2 by decide,if_true,show(2:Int).toNat=2 from rfl,List.getD_cons_succ,qLz,cell_int,toInt_int];by_cases h5:v.z < -m
 . rw[if_pos h5];simp[inM];omega
 rw[if_neg h5];by_cases b:v.z > m
 . rw[if_pos b];simp[inM];omega
 rw[if_neg b];refine L_of ?_;rw[Am];have:inM m v=true:=by rw[inM_iff];omega
 grind
theorem c40(v:V3):run tab X 40 [.p (encV v)] []=some ([Ac (inM 1048576 v)],[]):=
 run_of (hX _ rfl) (by rw[encV,e40,c95 X hX v _ (by decide) (by decide)];rfl)
theorem VW(v:V3):run tab X 177 [.p (encV v)] []=some ([Ac (inM 16777216 v)],[]):=
 run_of (hX _ rfl) (by rw[encV,abh,c95 X hX v _ (by decide) (by decide)];rfl)
end
end
section
section
variable (X:Ext) (hX:Mine X)
include hX
def Bd(m:Int)(v:V3):Prop:=(-m<=v.x/\v.x<=m)/\(-m<=v.y/\v.y<=m)/\(-m<=v.z/\v.z<=m)
theorem abU(a b:V3)(d:Bd 1099511627776 a)(c:Bd 1099511627776 b):run tab X 151 [.p (encV a),.p (encV b)] []=some ([.p (encV ⟨a.x+b.x,a.y+b.y,a.z+b.z⟩)],[]):=
 run_of (hX _ rfl) (by obtain⟨i,h,g⟩:=d;obtain⟨b1,f,e⟩:=c;rw[encV,encV,aa4,wrap_eq (by omega) (by omega),wrap_eq (by omega) (by omega),wrap_eq (by omega) (by omega)];rfl)
end
end
section
variable {m:Int}{v:V3}
def CP(p q r s:Int):Int:=IntKind.i64.wrap (IntKind.i64.wrap (p*q)-IntKind.i64.wrap (r*s))
def yD(a b:V3):V3:=⟨a.x-b.x,a.y-b.y,a.z-b.z⟩
def MV(a:V3):V3:=⟨-a.x,-a.y,-a.z⟩
def xP(a b p:V3):Bool:=(jR a b p==0)&&(decide (goMin a.x b.x<=p.x)&&(decide (p.x<=goMax a.x b.x)&&(decide (goMin a.y b.y<=p.y)&&decide (p.y<=goMax a.y b.y))))
theorem pJ:inM m v=true↔Bd m v:=inM_iff
theorem Bd.mono{n:Int}(h:Bd m v)(a:m<=n):Bd n v:=by obtain⟨d,c,b⟩:=h;exact⟨by omega,by omega,by omega⟩
section
variable (X:Ext) (hX:Mine X)
include hX
theorem c152(v:V3)(h:Bd 1099511627776 v):run tab X 152 [.p (encV v)] []=some ([.p (encV (MV v))],[]):=
 run_of (hX _ rfl) (by obtain⟨c,b,a⟩:=h;rw[encV,e152,wrap_eq (by omega) (by omega),wrap_eq (by omega) (by omega),wrap_eq (by omega) (by omega)];simp[MV,encV])
theorem c105(a b:V3)(f:Bd 34359738368 a)(c:Bd 34359738368 b):run tab X 105 [.p (encV a),.p (encV b)] []=some ([.p (encV (yD a b))],[]):=
 run_of (hX _ rfl) (by have e:=c152 X hX b (c.mono (by decide));have d:=abU X hX a (MV b) (f.mono (by decide)) (by obtain⟨b1,h,g⟩:=c;exact⟨by simp[MV];omega,by simp[MV];omega,by simp[MV];omega⟩);simp only[encV,MV]at e d;rw[encV,encV,aaK];simp only[e,qOb,qLh,pv_p,cell_agg,qLz,List.getD_cons_succ,toInt_int];simp only[d,qOb,qLh,pv_p,cell_agg,qLz,List.getD_cons_succ,toInt_int,encV,yD,Int.sub_eq_add_neg])
theorem Yj(a b:V3):run tab X 104 [.p (encV a),.p (encV b)] []=some ([.p (encV ⟨CP a.y b.z a.z b.y,CP a.z b.x a.x b.z,CP a.x b.y a.y b.x⟩)],[]):=by have c:∀(v:V3) i,run tab X 107 [.p (.agg [Av v.x,Av v.y,Av v.z]),Ab i] []=some ([Ab (if i=0 then v.x else if i=1 then v.y else v.z)],[]):=λv i=>c107 X hX v i;refine run_of (hX _ rfl) ?_;rw[encV,encV,aaJ];refine L_of ?_;rw[wO];refine condP (by decide) ?_;simp only[c,qOb,qLh,pv_p,toInt_int];rw[show(leI (0:Int) 0&&ltI (0:Int) 3)=true from rfl,qCt,show eqI (0:Int) 0=true from rfl,qCt,show IntKind.i64.wrap ((0:Int)+1)=1 from rfl];refine L_of ?_;rw[wO];refine condP (by decide) ?_;simp only[c,qOb,qLh,pv_p,toInt_int];rw[show(leI (0:Int) 1&&ltI (1:Int) 3)=true from rfl,qCt,show eqI (1:Int) 0=false from rfl,qCf,show eqI (1:Int) 1=true from rfl,qCt,show IntKind.i64.wrap ((1:Int)+1)=2 from rfl];refine L_of ?_;rw[wO];refine condP (by decide) ?_;simp only[c,qOb,qLh,pv_p,toInt_int];rw[show(leI (0:Int) 2&&ltI (2:Int) 3)=true from rfl,qCt,show eqI (2:Int) 0=false from rfl,qCf,show eqI (2:Int) 1=false from rfl,qCf,show eqI (2:Int) 2=true from rfl,qCt,show IntKind.i64.wrap ((2:Int)+1)=3 from rfl];refine L_of ?_;rw[wO];exact condNP (by decide) rfl
omit hX in
theorem OB{a b c:V3}(f:Bd 16777216 a)(e:Bd 16777216 b)(d:Bd 16777216 c) :
    (-1125899906842624<=(b.x-a.x)*(c.y-a.y)/\(b.x-a.x)*(c.y-a.y)<=1125899906842624)/\(-1125899906842624<=(b.y-a.y)*(c.x-a.x)/\(b.y-a.y)*(c.x-a.x)<=1125899906842624):=by
  obtain⟨k,j,_⟩:=f;obtain⟨b1,i,_⟩:=e;obtain⟨c1,c2,_⟩:=d;have h:=mulB (a:=b.x-a.x) (b:=c.y-a.y) (m:=33554432) (n:=33554432) (by omega) (by omega);have g:=mulB (a:=b.y-a.y) (b:=c.x-a.x) (m:=33554432) (n:=33554432) (by omega) (by omega);omega
omit hX in
theorem CQ{p q r s:Int}(c:-m<=p*q/\p*q<=m)(b:-m<=r*s/\r*s<=m)(a:m<=4611686018427387903):CP p q r s=p*q-r*s:=by unfold CP;rw[wrap_eq (x:=p*q) (by omega) (by omega),wrap_eq (x:=r*s) (by omega) (by omega),wrap_eq (by omega) (by omega)]
theorem c97(a b c:V3)(g:Bd 16777216 a)(j:Bd 16777216 b)(i:Bd 16777216 c):run tab X 97 [.p (encV a),.p (encV b),.p (encV c)] []=some ([Ab (jR a b c)],[]):=
 run_of (hX _ rfl) (by
  have n:=c105 X hX b a (j.mono (by decide)) (g.mono (by decide));have l:=c105 X hX c a (i.mono (by decide)) (g.mono (by decide));have k:=Yj X hX (yD b a) (yD c a);have h:=OB g j i;have e:=CQ h.1 h.2 (by decide);simp only[encV,yD]at n l k;rw[encV,encV,encV,e97];simp only[n,l,qOb,qLh,pv_p,cell_agg,qLz,List.getD_cons_succ,toInt_int];simp only[k,qOb,qLh,pv_p,cell_agg,qLz,List.getD_cons_succ,toInt_int,e,condD];unfold jR area iY;by_cases f:(b.x-a.x)*(c.y-a.y)-(b.y-a.y)*(c.x-a.x) > 0
  . rw[if_pos f,if_neg (by omega),if_pos f]
  . rw[if_neg f];by_cases d:(b.x-a.x)*(c.y-a.y)-(b.y-a.y)*(c.x-a.x)<0
    . rw[if_pos d,if_pos d]
    . rw[if_neg d,if_neg d,if_neg f])
theorem acp(a b c:V3)(f:Bd 16777216 a)(e:Bd 16777216 b)(d:Bd 16777216 c):run tab X 150 [.p (encV a),.p (encV b),.p (encV c)] []=some ([Ab (jR a b c),Ab 0],[]):=
 run_of (hX _ rfl) (by have i:=VW X hX a;have h:=VW X hX b;have g:=VW X hX c;rw[pJ.2 f]at i;rw[pJ.2 e]at h;rw[pJ.2 d]at g;have j:=OB f e d;obtain⟨n,l,_⟩:=f;obtain⟨b1,k,_⟩:=e;obtain⟨c1,c2,_⟩:=d;simp only[encV]at i h g;rw[encV,encV,encV,aa3];simp only[i,h,g,qOb,qLh,pv_p,toBool_bool,qBt,qCf];rw[wrap_eq (x:=b.x-a.x) (by omega) (by omega),wrap_eq (x:=c.y-a.y) (by omega) (by omega),wrap_eq (x:=b.y-a.y) (by omega) (by omega),wrap_eq (x:=c.x-a.x) (by omega) (by omega)];rw[wrap_eq (x:=(b.x-a.x)*(c.y-a.y)) (by omega) (by omega),wrap_eq (x:=(b.y-a.y)*(c.x-a.x)) (by omega) (by omega),wrap_eq (by omega) (by omega),abE X hX];rfl)
theorem c45(a b p:V3)(e:Bd 16777216 a)(d:Bd 16777216 b)(hp:Bd 16777216 p):run tab X 45 [.p (encV a),.p (encV b),.p (encV p)] []=some ([Ac (xP a b p)],[]):=
 run_of (hX _ rfl) (by have c:=c97 X hX a b p e d hp;simp only[encV]at c;rw[encV,encV,encV,e45];simp only[c,qOb,qLh,pv_p,toInt_int,xP];have q:∀ x y:Int,leI x y=decide (x<=y):=λ_ _=>rfl;rw[q,q,q,q];cases (jR a b p==0)<;>cases (decide (goMin a.x b.x<=p.x))<;>cases (decide (p.x<=goMax a.x b.x))<;>cases (decide (goMin a.y b.y<=p.y))<;>rfl)
end
end
section
def sD(a b c d:V3):Bool:=xP a b c||(xP a b d||(xP c d a||(xP c d b||(decide (jR a b c*jR a b d<0)&&decide (jR c d a*jR c d b<0)))))
theorem qy(a b c:V3):jR a b c=-1\/jR a b c=0\/jR a b c=1:=by grind[jR,iY]
abbrev mW(a:V3):Prop:=Bd 16777216 a
section
variable (X:Ext) (hX:Mine X)
include hX
theorem c96(a b c:V3)(g:mW a)(f:mW b)(e:mW c):run tab X 96 [.p (encV a),.p (encV b),.p (encV c)] []=some ([Ab (jR a b c)],[]):=
 run_of (hX _ rfl) (by have d:=acp X hX a b c g f e;simp only[encV]at d;rw[encV,encV,encV,e96,d];rfl)
theorem c41(a b p:V3)(e:mW a)(d:mW b)(hp:mW p):run tab X 41 [.p (encV a),.p (encV b),.p (encV p)] []=some ([Ac (xP a b p)],[]):=
 run_of (hX _ rfl) (by have c:=c96 X hX a b p e d hp;simp only[encV]at c;rw[encV,encV,encV,e41];simp only[c,qOb,qLh,pv_p,toInt_int,xP];grind)
theorem c42(a b c d:V3)(i:mW a)(g:mW b)(j:mW c)(hd:mW d):run tab X 42 [.p (encV a),.p (encV b),.p (encV c),.p (encV d)] []=some ([Ac (sD a b c d)],[]):=
 run_of (hX _ rfl) (by
  have o:=λ(a b p:V3) i g hp=>c41 X hX a b p i g hp;have t:=λ(a b p:V3) i g hp=>c96 X hX a b p i g hp;simp only[encV]at o t;rw[encV,encV,encV,encV,e42];simp only[o a b c i g j,o a b d i g hd,o c d a j hd i,o c d b j hd g,t a b c i g j,t a b d i g hd,t c d a j hd i,t c d b j hd g,qOb,qLh,pv_p,toInt_int,toBool_bool,sD];have w:∀ a b c d e f:V3,IntKind.i64.wrap (jR a b c*jR d e f)=jR a b c*jR d e f:=by intro a b c d e f;rcases qy a b c with h | h | h<;>rcases qy d e f with k | k | k<;>rw[h,k]<;>rfl
  have q:∀ x y:Int,ltI x y=decide (x<y):=λ_ _=>rfl;rw[w,w,q,q];cases xP a b c<;>cases xP a b d<;>cases xP c d a<;>cases xP c d b<;>cases decide (jR a b c*jR a b d<0)<;>rfl)
def sW(x y:V3):PV:=.agg [Av x.x,Av x.y,Av x.z,Av y.x,Av y.y,Av y.z]
theorem c46(a b c d:V3)(f:mW a)(e:mW b)(g:mW c)(hd:mW d):run tab X 46 [.p (sW a b),.p (sW c d)] []=some ([Ac (sD a b c d)],[]):=
 run_of (hX _ rfl) (by have o:=λ(a b p:V3) f e hp=>c45 X hX a b p f e hp;have t:=λ(a b p:V3) f e hp=>c97 X hX a b p f e hp;simp only[encV]at o t;rw[sW,sW,e46];simp only[o a b c f e g,o a b d f e hd,o c d a g hd f,o c d b g hd e,t a b c f e g,t a b d f e hd,t c d a g hd f,t c d b g hd e,qOb,qLh,pv_p,toInt_int,toBool_bool,sD];generalize xP a b c=o1;generalize xP a b d=o2;generalize xP c d a=o3;generalize xP c d b=o4;rcases qy a b c with j | j | j<;>rcases qy a b d with i | i | i<;>rcases qy c d a with h | h | h<;>rcases qy c d b with h4 | h4 | h4<;>rw[j,i,h,h4]<;>cases o1<;>cases o2<;>cases o3<;>cases o4<;>rfl)
end
end
section
section
variable (X:Ext) (hX:Mine X)
include hX
theorem l43(l:List V3)(m:l.length<=1000000):∀ k i,i+k=l.length->(∀ j,j<i->inM 1048576 (l.getD j default)=true) ->
    L tab (run tab X) 43 [] [.lp [1,0,1,0]] (Ah (encL l) i)=some ([Ac (l.all (inM 1048576))],[]):=by
  intro k;induction k with
  | zero =>
   intro i h a;refine L_of ?_;rw[JO];refine condNP (by simp;omega) ?_;have:l.all (inM 1048576)=true:=by rw[List.all_eq_true];intro v b;obtain⟨j,g,rfl⟩:=List.getElem_of_mem b;grind
   rw[this]
  | succ k e =>
   intro i h a;refine L_of ?_;rw[JO];refine condP (by simp;omega) ?_;have f:(leI (0:Int) (i:Int)&&ltI (i:Int) (((encL l).length:Nat):Int))=true:=by simp;omega
   have d:IntKind.i64.wrap ((i:Int)+1)=((i+1:Nat):Int):=by rw[wrap_eq (by omega) (by omega)];omega
   have c:=c21 X hX (l.getD i default);simp only[encV]at c;rw[f,qCt];simp only[qIt,encL_x,encL_y,encL_z,c,qOb,qLh,pv_p,toBool_bool,d];cases b:inM 1048576 (l.getD i default)with
   | false =>
    have:l.all (inM 1048576)=false:=by rw[List.all_eq_false];refine⟨l.getD i default,?_,by rw[b];decide⟩;simp_all
    grind
   | true =>rw[qBt,qCf];refine e (i+1) (by omega) λj g=>?_;grind
theorem c43(l:List V3)(a:l.length<=1000000):run tab X 43 [Al (encL l)] []=some ([Ac (l.all (inM 1048576))],[]):=
 run_of (hX _ rfl) (by rw[e43];exact l43 X hX l a l.length 0 (by omega) (by omega))
theorem c39(v:V3):run tab X 39 [.p (encV v)] []=some ([Ac (!(inM 1048576 v))],[]):=
 run_of (hX _ rfl) (by have a:=c40 X hX v;simp only[encV]at a;rw[encV,e39,a];rfl)
def rD:List V3->Nat->Int
 |[],_=>-1
 | v::r,i=>if inM 1048576 v then rD r (i+1)else i
theorem l94(l:List V3)(j:l.length<=1000000):∀(r:List V3) (i:Nat),l.drop i=r->i<=l.length ->
    L tab (run tab X) 94 [] [.lp [1,0,1,0]] (Ak (encL l) l.length i)=some ([Ab (rD r i)],[]):=by
  intro r;induction r with
  | nil =>
   intro i c g;have b:i=l.length:=by have:=congrArg List.length c;grind
   refine L_of ?_;rw[JQ];exact condNP (by omega) rfl
  | cons v r h =>
   intro i c g;have b:i<l.length:=by grind
   have f:l.getD i default=v:=by grind[qLb,List.head?_drop]
   refine L_of ?_;rw[JQ];refine condP (by omega) ?_;have a:(leI (0:Int) (i:Int)&&ltI (i:Int) (((encL l).length:Nat):Int))=true:=by simp;omega
   have e:IntKind.i64.wrap ((i:Int)+1)=((i+1:Nat):Int):=by rw[wrap_eq (by omega) (by omega)];omega
   have d:=c39 X hX v;simp only[encV]at d;rw[a,qCt];simp only[qIt,encL_x,encL_y,encL_z,f,d,qOb,qLh,pv_p,toBool_bool,e];rw[rD];cases inM 1048576 v with
   | false=>rfl
   | true =>rw[qBt,qCf,if_pos rfl];grind[List.tail_drop]
theorem xA:∀(l:List V3) (i:Nat),(0<=rD l i)↔l.all (inM 1048576)=false
 |[],i=>by simp[rD]
 | v::r,i=>by
  rw[rD];cases h:inM 1048576 v with
  | false=>simp[h]
  | true=>simp[h,xA r (i+1)]
theorem c38(l:List V3)(a:l.length<=1000000):run tab X 38 [Al (encL l),.p (.fn 39 [])] []=some ([Ac (!(l.all (inM 1048576)))],[]):=
 run_of (hX _ rfl) (by
  have c:run tab X 94 [Al (encL l),.p (.fn 39 [])] []=some ([Ab (rD l 0)],[]):=run_of (hX _ rfl) (by rw[e94,encL_length];exact l94 X hX l a l 0 rfl (by omega));rw[e38,c];simp only[qOb,qLh,pv_p,toInt_int];have e:geI (rD l 0) 0=!(l.all (inM 1048576)):=by
   cases h:l.all (inM 1048576)with
   | false=>exact decide_eq_true ((xA X hX l 0).2 h)
   | true=>exact decide_eq_false λb=>by rw[(xA X hX l 0).1 b]at h;exact absurd h (by decide)
  rw[e])
end
end
section
def flat(v:V3):V3:=⟨v.x,v.y,0⟩
def oP(n i:Nat):Nat:=(i+1)%n
abbrev gt(l:List V3)(i:Nat):V3:=l.getD i default
def nX(l:List V3)(n:Nat):List PV:=(List.range n).map λi=>sW (flat (gt l i)) (flat (gt l (oP l.length i)))
abbrev kE:List Kd:=[.int .i64,.int .i64,.int .i64,.int .i64,.int .i64,.int .i64]
theorem vG(l:List V3)(n:Nat):(nX l n).length=n:=by simp[nX]
theorem KH(l:List V3)(n:Nat):nX l (n+1)=nX l n++[sW (flat (gt l n)) (flat (gt l (oP l.length n)))]:=by simp[nX,List.range_succ,List.map_append]
section
variable (X:Ext) (hX:Mine X)
include hX
theorem l44(l:List V3)(m:l.length<=1000000):∀ k i,i+k=l.length ->
    L tab (run tab X) 44 [] [.lp [1,1,0,1,0]] (yL (encL l) 0 i i (nX l i))=some ([.fresh true kE (nX l l.length)],[]):=by
  have _:=hX;intro k;induction k with
  | zero =>
   intro i h;have b:i=l.length:=by omega
   subst b;refine L_of ?_;rw[G5];refine condNP (by simp) ?_;grind[vG]
  | succ k e =>
   intro i h;refine L_of ?_;rw[G5];refine condP (by simp;omega) ?_;have g:(leI (0:Int) (i:Int)&&ltI (i:Int) (((encL l).length:Nat):Int))=true:=by simp;omega
   have c:IntKind.i64.wrap ((i:Int)+1)=((i+1:Nat):Int):=by rw[wrap_eq (by omega) (by omega)];omega
   have d:((i+1:Nat):Int).tmod ((l.length:Nat):Int)=((oP l.length i:Nat):Int):=by rw[Int.tmod_eq_emod_of_nonneg (by omega)];norm_cast
   have j:oP l.length i<l.length:=qNm _ (by omega);have a:(leI (0:Int) ((oP l.length i:Nat):Int)&&ltI ((oP l.length i:Nat):Int) (((encL l).length:Nat):Int))=true:=by simp;omega
   have f:(!(eqI (((encL l).length:Nat):Int) (0:Int)))=true:=by grind
   rw[f,g,c];simp only[encL_length]at a ⊢;rw[d,a];simp only[qCt,qIt,encL_x,encL_y];refine condP (show i+1<=2147483648 by omega) ?_;rw[qLy,List.take_of_length_le (by rw[vG];omega)];have:=e (i+1) (by omega);rw[KH]at this;exact this
theorem c44(l:List V3)(a:l.length<=1000000):run tab X 44 [Al (encL l)] []=some ([.fresh true kE (nX l l.length)],[]):=
 run_of (hX _ rfl) (by rw[e44];exact l44 X hX l a l.length 0 (by omega))
end
end
section
variable {i n:Nat}
def jC(f:Nat->Bool):Nat->Nat->Bool
 | _,0=>true
 | k,m+1=>f k&&jC f (k+1) m
theorem jo{f:Nat->Bool}:∀{m k:Nat},jC f k m=true↔∀ j,k<=j->j<k+m->f j=true
 | 0,k=>by simp[jC];intro j b a;omega
 | m+1,k=>by simp only[jC,qBa,jo (m:=m)];grind
theorem rng(h:i<n):(leI (0:Int) (i:Int)&&ltI (i:Int) ((n:Nat):Int))=true:=by grind
theorem le0(i:Nat):leI (0:Int) (i:Int)=true:=decide_eq_true (by omega)
theorem rZ(h:i<n):ltI (i:Int) ((n:Nat):Int)=true:=decide_eq_true (by omega)
theorem xO(h:¬ i<n):ltI (i:Int) ((n:Nat):Int)=false:=decide_eq_false (by omega)
theorem nz(h:0<n):(!(eqI ((n:Nat):Int) (0:Int)))=true:=by grind
theorem dL(h:i<=9000000000000000000):IntKind.i64.wrap ((i:Int)+1)=((i+1:Nat):Int):=by rw[wrap_eq (by omega) (by omega)];omega
theorem KI(i n:Nat):((i+1:Nat):Int).tmod ((n:Nat):Int)=((oP n i:Nat):Int):=by rw[Int.tmod_eq_emod_of_nonneg (by omega)];norm_cast
theorem MW(h:0<n):oP n i<n:=qNm _ h
theorem beqN(a b:Nat):((a:Int)==(b:Int))=decide (a=b):=by grind
section
variable (l:List V3)
abbrev ca(i:Nat):V3:=gt l i
abbrev cb(i:Nat):V3:=gt l (oP l.length i)
def Ol(i:Nat):Bool:=!(((ca l i).x==(cb l i).x)&&((ca l i).y==(cb l i).y))
def Jb(i k:Nat):Bool:=if k=i+1 then !xP (ca l i) (cb l i) (cb l k)&&!xP (ca l k) (cb l k) (ca l i)else if oP l.length k=i then !xP (ca l i) (cb l i) (ca l k)&&!xP (ca l k) (cb l k) (cb l i)else !sD (ca l i) (cb l i) (ca l k) (cb l k)
def okD(i k:Nat):Bool:=if k=i then true else if k=oP l.length i then !xP (ca l i) (cb l i) (cb l k)&&!xP (ca l k) (cb l k) (ca l i)else if i=oP l.length k then true else !sD (ca l i) (cb l i) (ca l k) (cb l k)
def Dw:Bool:=decide (3<=l.length/\l.length<=64)&&l.all (inM 1048576)
def dO:Bool:=Dw l&&jC (λi=>Ol l i&&jC (Jb l i) (i+1) (l.length-(i+1))) 0 l.length
def J5:Bool:=Dw l&&jC (λi=>Ol l i&&jC (okD l i) 0 l.length) 0 l.length
end
theorem KJ(a b p:V3):xP (flat a) (flat b) (flat p)=xP a b p:=rfl
theorem MX(a b c d:V3):sD (flat a) (flat b) (flat c) (flat d)=sD a b c d:=rfl
theorem IX{l:List V3}(h:l.all (inM 1048576)=true)(i:Nat):mW (gt l i):=by
 by_cases a:i<l.length
 . have:=List.all_eq_true.1 h (l[i]) (List.getElem_mem a);rw[pJ]at this;have e:gt l i=l[i]:=by grind
   rw[e];exact this.mono (by decide)
 . have e:gt l i=default:=by grind
   rw[e];refine⟨⟨?_,?_⟩,⟨?_,?_⟩,⟨?_,?_⟩⟩<;>decide
theorem IV{v:V3}(h:mW v):mW (flat v):=⟨h.1,h.2.1,⟨by show(-16777216:Int)<=0;decide,by show(0:Int)<=16777216;decide⟩⟩
section
variable (X:Ext) (hX:Mine X)
include hX
theorem acr(l:List V3)(C:3<=l.length)(E:l.length<=64)(h:l.all (inM 1048576)=true)(i:Nat)(F:i<l.length)(t:Int)(R:Bool)
    (hnext:L tab (run tab X) 12 [] [.lp [1,1,1,0,1,0]] (tZ (encL l) ((l.length:Nat):Int) t ((i+1:Nat):Int))=some ([Ac R],[])):∀ m k,k+m=l.length->i<k ->
    L tab (run tab X) 12 [] [.lp [1,1,1,0,1,0],.lp [1,1,0,0,1,1,1,1,0]] (bZ (encL l) ((l.length:Nat):Int) (i:Int) (k:Int) t (i:Int) (ca l i).x (ca l i).y (ca l i).z (cb l i).x (cb l i).y (cb l i).z)=some ([Ac (jC (Jb l i) k m&&R)],[]):=by
  intro m;induction m with
  | zero =>intro k A s;refine L_of ?_;rw[qI,xO (by omega),qCf,dL (by omega)];exact hnext
  | succ m D =>
   intro k A s;have g:k<l.length:=by omega
   have f:=IX h;have o:=λ(a b p:V3) u f hp=>c41 X hX a b p u f hp;have v:=λ(a b c d:V3) u f B hd=>c42 X hX a b c d u f B hd;simp only[encV]at o v;have w:=MW (n:=l.length) (i:=k) (by omega);refine L_of ?_;rw[qI,rZ g,qCt];rw[encL_length,rng g,qCt,nz (by omega),qCt,dL (by omega),dL (by omega),KI];rw[rng w,qCt];simp only[qIt,encL_x,encL_y,encL_z,qCt];have r:∀ b:Bool,jC (Jb l i) k (m+1)=(Jb l i k&&jC (Jb l i) (k+1) m):=λ_=>rfl;rw[r true,beqN];have next:∀ b:Bool,b=Jb l i k->(bif (!b)then some ([Ac false],([]:List Blk))else L tab (run tab X) 12 [] [.lp [1,1,1,0,1,0],.lp [1,1,0,0,1,1,1,1,0]] (bZ (encL l) ((l.length:Nat):Int) (i:Int) ((k+1:Nat):Int) t (i:Int) (ca l i).x (ca l i).y (ca l i).z (cb l i).x (cb l i).y (cb l i).z))=some ([Ac ((Jb l i k&&jC (Jb l i) (k+1) m)&&R)],[]):=by
    intro b f;cases b with
    | false=>rw[<- f];rfl
    | true=>grind
   by_cases q:k=i+1
   . rw[decide_eq_true q,qCt,show gtI ((l.length:Nat):Int) (2:Int)=true from decide_eq_true (by omega),qCt];rw[o _ _ _ (f _) (f _) (f _),qOb];simp only[qLh,pv_p,toBool_bool];have e:Jb l i k=(!xP (ca l i) (cb l i) (cb l k)&&!xP (ca l k) (cb l k) (ca l i)):=by rw[Jb,if_pos q]
     cases j:xP (ca l i) (cb l i) (cb l k)with
     | true=>grind
     | false =>rw[Bool.not_false,qCt,o _ _ _ (f _) (f _) (f _),qOb];simp_all
   . rw[decide_eq_false q,qCf];rw[beqN];by_cases j:oP l.length k=i
     . rw[decide_eq_true j,qCt,o _ _ _ (f _) (f _) (f _),qOb];simp only[qLh,pv_p,toBool_bool];have e:Jb l i k=(!xP (ca l i) (cb l i) (ca l k)&&!xP (ca l k) (cb l k) (cb l i)):=by rw[Jb,if_neg q,if_pos j]
       cases C:xP (ca l i) (cb l i) (ca l k)with
       | true=>grind
       | false =>rw[Bool.not_false,qCt,o _ _ _ (f _) (f _) (f _),qOb];simp_all
     . rw[decide_eq_false j,qCf,v _ _ _ _ (f _) (f _) (f _) (f _),qOb];simp only[qLh,pv_p,toBool_bool];exact next _ (by rw[Jb,if_neg q,if_neg j])
theorem l12(l:List V3)(h:3<=l.length)(f:l.length<=64)(b:l.all (inM 1048576)=true):∀ m i,i+m=l.length ->
    L tab (run tab X) 12 [] [.lp [1,1,1,0,1,0]] (tZ (encL l) ((l.length:Nat):Int) ((l.length:Nat):Int) (i:Int))=some ([Ac (jC (λi=>Ol l i&&jC (Jb l i) (i+1) (l.length-(i+1))) i m)],[]):=by
  intro m;induction m with
  | zero =>intro i g;refine L_of ?_;rw[EI,xO (by omega),qCf];rfl
  | succ m d =>
   intro i g;have a:i<l.length:=by omega
   have e:=MW (n:=l.length) (i:=i) (by omega);refine L_of ?_;rw[EI,rZ a,qCt];rw[encL_length,rng a,qCt,nz (by omega),qCt,dL (by omega),KI];rw[rng e,qCt];simp only[qIt,encL_x,encL_y,encL_z];have j:=acr X hX l h f b i a _ _ (d (i+1) (by omega)) (l.length-(i+1)) (i+1) (by omega) (by omega);have c:jC (λi=>Ol l i&&jC (Jb l i) (i+1) (l.length-(i+1))) i (m+1)=((Ol l i&&jC (Jb l i) (i+1) (l.length-(i+1)))&&jC (λi=>Ol l i&&jC (Jb l i) (i+1) (l.length-(i+1))) (i+1) m):=rfl;rw[c,Bool.and_assoc,Ol];grind
theorem c12(l:List V3)(b:l.length<=1000000):run tab X 12 [Al (encL l)] []=some ([Ac (dO l)],[]):=
 run_of (hX _ rfl) (by
  rw[e12,encL_length,dO,Dw];by_cases d:l.length<3
  . grind
  rw[show ltI ((l.length:Nat):Int) (3:Int)=false from decide_eq_false (by omega),qCf];by_cases c:64<l.length
  . grind
  rw[show gtI ((l.length:Nat):Int) (64:Int)=false from decide_eq_false (by omega),qCf,decide_eq_true (show 3<=l.length/\l.length<=64 by omega),Bool.true_and,c38 X hX l b,qOb];simp only[qLh,pv_p,toBool_bool];cases a:l.all (inM 1048576)with
  | false=>rfl
  | true =>rw[qBt,qCf,Bool.true_and];exact l12 X hX l (by omega) (by omega) a l.length 0 (by omega))
end
end
end Go.Skm.Fen
