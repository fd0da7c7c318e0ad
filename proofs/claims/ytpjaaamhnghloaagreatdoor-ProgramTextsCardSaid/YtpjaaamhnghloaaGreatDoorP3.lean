import Derived.Test.YtpjaaamhnghloaaGreatDoorEqs
import Derived.Test.YtpjaaamhnghloaaGreatDoorEqt
import Derived.Test.YtpjaaamhnghloaaGreatDoorSkmF
import Derived.Test.YtpjaaamhnghloaaGreatDoorTab
import Derived.KernelRfl
import Derived.Test.YtpjaaamhnghloaaGreatDoorSkmG
set_option linter.all false
namespace Go.Skm.Prg
open Go Go.Skm
section
def alj(f:Nat):Bool:=f==63||(f==47||(f==99||(f==81||(f==100||(f==10||(f==11||(f==74||f==108)))))))
def Mine(X:Ext):Prop:=∀f,alj f=false->X f=none
theorem apM{a b m n:Int}(g:-m<=a/\a<=m)(f:-n<=b/\b<=n):-(m*n)<=a*b/\a*b<=m*n:=by
 have e:a.natAbs<=m.toNat:=ω
 have d:b.natAbs<=n.toNat:=ω
 have c:=Nat.mul_le_mul e d;rw[<-Int.natAbs_mul]at c;grind
def Y3(m:Int)(v:V3):Bool:=decide (-m<=v.x/\v.x<=m)&&(decide (-m<=v.y/\v.y<=m)&&decide (-m<=v.z/\v.z<=m))
theorem kG{m:Int}{v:V3}:Y3 m v=true↔(-m<=v.x/\v.x<=m)/\(-m<=v.y/\v.y<=m)/\(-m<=v.z/\v.z<=m):=by simp[Y3]
abbrev pt(v:V3):Bool:=Y3 1048576 v
def AZ(n:Int):Bool:=decide (0<=n)&&decide (n<=3600000)
def up(v:V3)(r:Int):V3:=⟨v.x,v.y,v.z+r⟩
structure Sg where
 f:Int
 t:Int
 o:Int
 X:List Int
 Y:List Int
 Z:List Int
 deriving DecidableEq
def eS(s:Sg):PV:=.agg [Aw s.f,Aw s.t,Aw s.o,.list false [.int .i64] (encI s.X),.list false [.int .i64] (encI s.Y),.list false [.int .i64] (encI s.Z)]
def eP(l:List Sg):List PV:=l.map eS
@[simp] theorem jM(l:List Sg):(eP l).length=l.length:=by simp[eP]
def tm(a b:Int):List Int:=if b-a=0 then [a]else [a,0,0,10*(b-a),-15*(b-a),6*(b-a)]
def rJ(a b:V3)(f t:Int):Sg:=⟨f,t,1,tm a.x b.x,tm a.y b.y,tm a.z b.z⟩
def RN(a b:V3)(r f t:Int):List Sg:=
 [rJ a (up a r) f (f+(t-f).tdiv 4),rJ (up a r) (up b r) (f+(t-f).tdiv 4) (t-(t-f).tdiv 4),rJ (up b r) b (t-(t-f).tdiv 4) t]
theorem iT{α:Type}(l:List α):(l.drop 0).take l.length=l:=σ
theorem Xu(s:Sg):(PV.agg [Aw ((eS s).cell 0).toInt,Aw ((eS s).cell 1).toInt,Aw ((eS s).cell 2).toInt,.list false [.int .i64] ((eS s).cell 3).toList,.list false [.int .i64] ((eS s).cell 4).toList,.list false [.int .i64] ((eS s).cell 5).toList]:PV)=eS s:=rfl
def G5:PV:=.Ig [Aw 0,Aw 1,Aw 2] [.nil,.list false [.int .i64] [Aw 1],.list false [.int .i64] [Aw 0,Aw 0,Aw 10,Aw (-15),Aw 6]]
theorem Xv:G5.isMap=true:=rfl
theorem Zo:iq tab 223 (Aw 0) (G5.yV.zip G5.yX)=some (some 0):=τ
theorem Zp:iq tab 223 (Aw 2) (G5.yV.zip G5.yX)=some (some 2):=τ
theorem aen:lJ .nil (G5.yV.zip G5.yX) (some 0)=.nil:=rfl
theorem aeo:lJ .nil (G5.yV.zip G5.yX) (some 2)=.list false [.int .i64] [Aw 0,Aw 0,Aw 10,Aw (-15),Aw 6]:=rfl
theorem aep:PV.nil.toList=[]:=rfl
theorem kind_nil:kindOk (.slice false [.int .i64]) .nil=true:=rfl
theorem acd(xs:List PV):kindOk (.slice false [.int .i64]) (.list false [.int .i64] xs)=true:=rfl
section
variable (X:Ext) (hX:Mine X)
include hX
theorem c66(n:Int):run tab X 66 [Ab n] []=some ([Ai (decide (-1048576<=n/\n<=1048576))],[]):=
 aV (hX _ rfl) (by rw[e66,aO];grind)
theorem c32(v:V3):run tab X 32 [.p (aQ v)] []=some ([Ai (pt v)],[]):=
 aV (hX _ rfl) (by rw[aQ,e32];simp only[c66 X hX,qOb,qLh,fK,aJ,aO,pt,Y3];grind)
theorem c67(n:Int):run tab X 67 [Ab n] []=some ([Ai (AZ n)],[]):=
 aV (hX _ rfl) (by
  rw[e67,aO];by_cases h:n >= 0
  .rw[if_pos h];simp[AZ,h]
  .rw[if_neg h];simp[AZ];intro h';omega)
theorem apO(n m:Int):run tab X 134 [Ab n,Ab m] []=some ([Ai (decide (0<=n)&&decide (n<=m))],[]):=
 aV (hX _ rfl) (by rw[apz,aO];grind)
theorem ace(n:Int):run tab X 111 [Ab n] []=some ([Ai (AZ n)],[]):=
 aV (hX _ rfl) (by rw[apw,apO X hX];rfl)
theorem apP(v:V3)(m:Int)(j:0<=m)(i:m<=9223372036854775807):run tab X 110 [Ab m,.p (.list false [.int .i64] [Aw v.x,Aw v.y,Aw v.z])] []=some ([Ai (Y3 m v)],[]):=by
 have a:IntKind.i64.wrap (0-m)=-m:=by rw[wrap_eq ω ω];omega
 have h:IntKind.i64.wrap (0+1)=1:=δ
 have g:IntKind.i64.wrap (1+1)=2:=δ
 have f:IntKind.i64.wrap (2+1)=3:=δ
 refine aV (hX _ rfl) ?_;rw[apv];refine dN ?_;rw[FT];simp only[a,h,aO,dH,qLl,List.length_nil];simp only[show((0:Int)<((0+1+1+1:Nat):Int)) by decide,Int.le_refl,if_true,Int.toNat_zero,qLz,pq,toInt_int];by_cases e:v.x < -m
 .rw[if_pos e];simp[Y3];omega
 rw[if_neg e];by_cases d:v.x > m
 .rw[if_pos d];simp[Y3];omega
 rw[if_neg d];refine dN ?_;rw[FT];simp only[a,g,aO,dH,qLl,List.length_nil];simp only[show((1:Int)<((0+1+1+1:Nat):Int)) by decide,show(0:Int)<=1 by decide,if_true,show(1:Int).toNat=1 from rfl,List.getD_cons_succ,qLz,pq,toInt_int];by_cases c:v.y < -m
 .rw[if_pos c];simp[Y3];omega
 rw[if_neg c];by_cases h4:v.y > m
 .rw[if_pos h4];simp[Y3];omega
 rw[if_neg h4];refine dN ?_;rw[FT];simp only[a,f,aO,dH,qLl,List.length_nil];simp only[show((2:Int)<((0+1+1+1:Nat):Int)) by decide,show(0:Int)<=2 by decide,if_true,show(2:Int).toNat=2 from rfl,List.getD_cons_succ,qLz,pq,toInt_int];by_cases h5:v.z < -m
 .rw[if_pos h5];simp[Y3];omega
 rw[if_neg h5];by_cases b:v.z > m
 .rw[if_pos b];simp[Y3];omega
 rw[if_neg b];refine dN ?_;rw[FT];grind[kG]
theorem c78(v:V3):run tab X 78 [.p (aQ v)] []=some ([Ai (pt v)],[]):=
 aV (hX _ rfl) (by rw[aQ,e78,apP X hX v _ δ δ];rfl)
theorem alq(v:V3)(r:Int)(b:-9223372036854775808<=v.z+r)(a:v.z+r<=9223372036854775807):run tab X 135 [.p (aQ v),Ab r] []=some ([Ai (pt (up v r))],[]):=
 aV (hX _ rfl) (by rw[aQ,apA,wrap_eq b a];have:=c78 X hX (up v r);simp_all[this,aQ,up])
theorem c68(v:V3)(r:Int)(e:0<=r)(d:r<=3600000)(a:pt v=true):run tab X 68 [.p (aQ v),Ab r] []=some ([.p (aQ (if r<=2097152 then up v r else v)),Ai (pt (up v r))],[]):=by
 have c:=kG.1 a;refine aV (hX _ rfl) ?_;rw[aQ,e68];simp only[aO];rw[if_neg ω];by_cases h:r > 2097152
 .rw[if_pos h,if_neg ω];have:pt (up v r)=false:=by rw[Bool.eq_false_iff];intro b;have:=(kG.1 b).2.2;simp only[up]at this;omega
  rw[this];rfl
 .rw[if_neg h,if_pos ω,wrap_eq ω ω];have:=c32 X hX (up v r);simp_all[this,aQ,up]
theorem c105(f t:Int):run tab X 105 [Ab f,Ab t] []=some ([Ai (decide (0<=f)&&(decide (f<t)&&decide (t<=3600000)))],[]):=
 aV (hX _ rfl) (by rw[apu];grind)
theorem ai8(a b:V3)(f t:Int):run tab X 165 [.p (aQ a),.p (aQ b),Ab f,Ab t] []=some ([Ai (pt a&&(pt b&&(decide (0<=f)&&(decide (f<t)&&decide (t<=3600000)))))],[]):=by have d:=c78 X hX a;have c:=c78 X hX b;unfold aQ at d c;refine aV (hX _ rfl) ?_;rw[aQ,aQ,e165,d,c];simp only[qOb,qLh,fK,aJ,aO];grind
theorem ai9(a b:Int)(d:-2097152<=a/\a<=2097152)(c:-2097152<=b/\b<=2097152):run tab X 104 [Ab a,Ab b,Ab 0] []=some ([.fresh false [.int .i64] (encI (tm a b))],[]):=by
 refine aV (hX _ rfl) ?_;rw[ak7,wrap_eq ω ω,rQ];unfold tm;by_cases h:b-a=0
 .rw[if_pos h,if_pos h];rfl
 .rw[if_neg h,if_neg h,rQ,rQ,if_neg δ,if_neg δ,wrap_eq ω ω,wrap_eq ω ω,wrap_eq ω ω];rfl
theorem aer(a:Int):run tab X 104 [Ab a,Ab a,Ab 2] []=some ([.fresh false [.int .i64] (encI (tm a a))],[]):=by
 refine aV (hX _ rfl) ?_;rw[ak7,rQ];have:IntKind.i64.wrap (a-a)=0:=by rw[Int.sub_self];decide
 rw[if_pos this];simp[tm,encI]
theorem c70(a b:V3)(f t:Int)(d:Y3 2097152 a=true)(c:Y3 2097152 b=true):run tab X 70 [.p (aQ a),.p (aQ b),Ab f,Ab t,Ab 0] []=some ([.p (eS (rJ a b f t))],[]):=by obtain⟨j,i,h⟩:=kG.1 d;obtain⟨b1,g,e⟩:=kG.1 c;refine aV (hX _ rfl) ?_;rw[aQ,aQ,e70,ai9 X hX _ _ j b1,ai9 X hX _ _ i g,ai9 X hX _ _ h e];simp only[qOb,qLh,bK,iT];rfl
theorem apQ(a:V3)(f t:Int):run tab X 70 [.p (aQ a),.p (aQ a),Ab f,Ab t,Ab 2] []=some ([.p (eS (rJ a a f t))],[]):=by refine aV (hX _ rfl) ?_;rw[aQ,e70,aer X hX,aer X hX,aer X hX];simp only[qOb,qLh,bK,iT];rfl
theorem apR(a b:Int)(row:List Int)(hd:-4194304<=b-a/\b-a<=4194304)(g:∀x∈row,-100<=x/\x<=100)(p:row.length<=1000):∀(k i:Nat) (c:List Int),i+k=row.length->c.length<=1+i->
    L tab (run tab X) 204 [] [.lp [1,1,0,1,0,1,0]] (vW a b 0 c.length (encI row) row.length i (encI c))=some ([.fresh false [.int .i64] (encI (c++(row.drop i).map (λx=>x*(b-a))))],[]):=by
  intro k;induction k with
  |zero=>intro i c hi _;refine dN ?_;rw[Jr,aO,if_neg ω];have:row.drop i=[]:=List.drop_eq_nil_iff.2 ω;rw[this,<-uG c,iT];simp
  |succ k e=>
   intro i c hi l;have d:i<row.length:=ω
   have f:=g row[i] (List.getElem_mem d);have o:=apM (m:=100) (n:=4194304) (a:=row[i]) (b:=b-a) f hd;have h:(((encI row).getD i .nil).cell 0).toInt=row[i]:=by simp_all[qLb,encI]
   refine dN ?_;rw[Jr];simp only[dH,aO,qIt,h,uG];rw[if_pos ω,if_pos ω,if_pos ω,if_pos ω,wrap_eq (x:=b-a) ω ω,wrap_eq (x:=row[i]*(b-a)) ω ω,wrap_eq (x:=(i:Int)+1) ω ω];have j:((encI c).drop 0).take c.length++([Aw (row[i]*(b-a))]:List PV)=encI (c++[row[i]*(b-a)]):=by rw[<-uG c,iT];simp[encI]
   rw[j];have:=e (i+1) (c++[row[i]*(b-a)]) ω (by simp;omega);simp only[qLp,List.length_singleton]at this;rw[show((i:Int)+1)=((i+1:Nat):Int) by omega,this,qLc d];grind
theorem alr(a b:Int)(row:List Int)(hd:-4194304<=b-a/\b-a<=4194304)(c:∀x∈row,-100<=x/\x<=100)(d:row.length<=1000) :
    run tab X 204 [Ab a,Ab b,.p (.list false [.int .i64] (encI row))] []=some ([.fresh false [.int .i64] (encI (if b-a=0 then [a]else a::row.map (λx=>x*(b-a))))],[]):=by
  refine aV (hX _ rfl) ?_;rw[e204,xM];by_cases h:a=b
  .rw[if_pos h,if_pos ω];rfl
  .rw[if_neg h,if_neg ω];have:=apR X hX a b row hd c d row.length 0 [a] ω σ;simp only[List.length_singleton,uG]at this ⊢;exact this
theorem c203:run tab X 203 [] []=some ([.p G5],[]):=
 aV (hX _ rfl) (by rw[e203];rfl)
theorem agL(a b:V3)(f t:Int)(d:Y3 2097152 a=true)(c:Y3 2097152 b=true):run tab X 186 [.p (aQ a),.p (aQ b),Ab f,Ab t,Ab 2] []=some ([.p (eS (rJ a b f t))],[]):=by
 obtain⟨k,j,i⟩:=kG.1 d;obtain⟨b1,g,e⟩:=kG.1 c;have h:∀x y:Int,(-2097152<=x/\x<=2097152)->(-2097152<=y/\y<=2097152)->run tab X 204 [Ab x,Ab y,.p (.list false [.int .i64] [Aw 0,Aw 0,Aw 10,Aw (-15),Aw 6])] []=some ([.fresh false [.int .i64] (encI (tm x y))],[]):=λx y m l=>by have:=alr X hX x y [0,0,10,-15,6] ω δ δ;simp only[List.map_cons,List.map_nil,Int.zero_mul]at this;exact this
 refine aV (hX _ rfl) ?_;rw[aQ,aQ,alb,c203 X hX];simp only[qOb,qLh,fK,Xv,Zp,aeo,Option.isSome_some,Option.getD_some,qCt,acd,uH,h _ _ k b1,h _ _ j g,h _ _ i e,bK,iT];rfl
theorem als(a:V3)(f t:Int):run tab X 186 [.p (aQ a),.p (aQ a),Ab f,Ab t,Ab 0] []=some ([.p (eS (rJ a a f t))],[]):=by
 have h:∀x:Int,run tab X 204 [Ab x,Ab x,.p (.list false [.int .i64] [])] []=some ([.fresh false [.int .i64] (encI (tm x x))],[]):=λx=>by have:=alr X hX x x [] ω σ δ;simp only[List.map_nil,Int.sub_self,if_true]at this;simpa[tm,encI] using this
 refine aV (hX _ rfl) ?_;rw[aQ,alb,c203 X hX];simp only[qOb,qLh,fK,Xv,Zo,aen,Option.isSome_some,Option.getD_some,qCt,kind_nil,aep,h,bK,iT];rfl
end
end
section
structure Mv where
 to:V3
 wait:Int
 fl:Int
 rise:Int
 deriving DecidableEq
def eM(m:Mv):PV:=.agg [Aw m.to.x,Aw m.to.y,Aw m.to.z,Aw m.wait,Aw m.fl,Aw m.rise]
def l7(v:V3)(f t:Int):List Sg:=if f=t then []else [rJ v v f t]
def mQ(a:V3)(m:Mv)(len:Int):Bool:=
 pt m.to&&(AZ m.wait&&(AZ m.fl&&(AZ m.rise&&(decide (m.wait+m.fl<=len)&&(if m.fl=0 then decide (m.to=a)&&decide (m.rise=0)else if m.rise=0 then true else decide (m.fl.tmod 4=0)&&(pt (up a m.rise)&&pt (up m.to m.rise)))))))
def uq(a:V3)(m:Mv)(t len:Int):List Sg:=
 if m.fl=0 then l7 a t (t+len)else
  l7 a t (t+m.wait)++(if m.rise=0 then [rJ a m.to (t+m.wait) (t+m.wait+m.fl)]else RN a m.to m.rise (t+m.wait) (t+m.wait+m.fl))++l7 m.to (t+m.wait+m.fl) (t+len)
def nR(a:V3)(m:Mv)(t len:Int):List Sg × Int:=
 if pt a&&(decide (1<=len)&&(AZ len&&(AZ t&&mQ a m len)))then(if AZ (t+len)then(uq a m t len,0)else([],3))else([],2)
theorem jP{n:Int}:AZ n=true↔0<=n/\n<=3600000:=by simp[AZ]
theorem kJ{v:V3}(h:pt v=true):Y3 2097152 v=true:=by grind[kG]
theorem xP(v:V3)(f t:Int):(l7 v f t).length<=1:=by grind[l7]
theorem Jt(a b:V3)(r f t:Int):(RN a b r f t).length=3:=rfl
theorem Je(a:V3)(m:Mv)(t len:Int):(uq a m t len).length<=5:=by unfold uq;have d:=xP a t (t+len);have c:=xP a t (t+m.wait);have b:=xP m.to (t+m.wait+m.fl) (t+len);grind[qLp,List.length_singleton,Jt]
theorem sJ(a b:List Sg):eP a++eP b=eP (a++b):=by simp[eP]
theorem lX(l:List Sg):((eP l).drop 0).take l.length=eP l:=by rw[<-jM l,iT]
theorem eqV{a b:V3}:((a.x==b.x)&&((a.y==b.y)&&((a.z==b.z)&&true)))=decide (a=b):=by have:a=b↔a.x=b.x/\a.y=b.y/\a.z=b.z:=⟨λh=>by rw[h];exact⟨rfl,rfl,rfl⟩,λ⟨e,d,c⟩=>V3.ext' e d c⟩;grind
section
variable (X:Ext) (hX:Mine X)
include hX
theorem alD(v:V3)(f t:Int):run tab X 164 [.p (aQ v),.p (aQ v),Ab f,Ab t,Ab 0] [] =
    some ([.fresh true iV (eP (if pt v&&(decide (0<=f)&&(decide (f<t)&&decide (t<=3600000)))then [rJ v v f t]else [])),Ab (if pt v&&(decide (0<=f)&&(decide (f<t)&&decide (t<=3600000)))then 0 else 2)],[]):=by
  have b:=ai8 X hX v v f t;have a:=als X hX v f t;unfold aQ at b a;refine aV (hX _ rfl) ?_;rw[aQ,ala,b];simp only[qOb,qLh,fK,aJ,jL];have e:(pt v&&(pt v&&(decide (0<=f)&&(decide (f<t)&&decide (t<=3600000)))))=(pt v&&(decide (0<=f)&&(decide (f<t)&&decide (t<=3600000)))):=by cases pt v<;>simp
  rw[e];cases (pt v&&(decide (0<=f)&&(decide (f<t)&&decide (t<=3600000))))with
  |false=>rfl
  |true=>rw[qCt,a];rfl
theorem alE(a b:V3)(f t:Int)(g:pt a=true)(e:pt b=true)(j:0<=f)(i:f<t)(h:t<=3600000):run tab X 164 [.p (aQ a),.p (aQ b),Ab f,Ab t,Ab 2] [] =
    some ([.fresh true iV (eP [rJ a b f t]),Ab 0],[]):=by
  have c:=ai8 X hX a b f t;have d:=agL X hX a b f t (kJ g) (kJ e);rw[g,e]at c;unfold aQ at c d;refine aV (hX _ rfl) ?_;rw[aQ,aQ,ala,c];simp only[qOb,qLh,fK,aJ,jL];simp only[j,i,h,decide_true,qBs,qCt];rw[d];rfl
theorem aqa(v:V3)(f t:Int)(b:pt v=true)(g:0<=f)(d:f<=t)(c:t<=3600000):∃e,run tab X 137 [.p (aQ v),Ab f,Ab t] []=some ([.fresh true iV (eP (l7 v f t)),Ab e],[]):=by
 have a:=alD X hX v f t;unfold aQ at a;refine⟨_,aV (hX _ rfl) (by
  rw[aQ,e137,a];simp only[qOb,qLh,List.tail_cons,fK,bK,toInt_int,iT];have e:(if pt v&&(decide (0<=f)&&(decide (f<t)&&decide (t<=3600000)))then [rJ v v f t]else [])=l7 v f t:=by grind[l7]
  rw[e])⟩
theorem c138(a b:V3)(f t:Int)(e:pt a=true)(d:pt b=true)(i:0<=f)(h:f<t)(g:t<=3600000):run tab X 138 [.p (aQ a),.p (aQ b),Ab f,Ab t] []=some ([.fresh true iV (eP [rJ a b f t]),Ab 0],[]):=by have c:=alE X hX a b f t e d i h g;unfold aQ at c;refine aV (hX _ rfl) ?_;rw[aQ,aQ,e138,c];rfl
theorem aqb(a b c d:V3)(t0 f e g:Int)(s:pt a=true)(l:pt b=true)(k:pt c=true)(hd:pt d=true) :
    run tab X 205 [.AB,.p (.ref [.list true dW [aQ a,aQ b,aQ c,aQ d]]),.p (.ref [.list false [.int .i64] [Aw t0,Aw f,Aw e,Aw g]])] [.log true []] =
     some ([],[.log true [.agg [eS (rJ a b t0 f)],.agg [eS (rJ b c f e)],.agg [eS (rJ c d e g)]]]):=by
  have j:=agL X hX a b t0 f (kJ s) (kJ l);have i:=agL X hX b c f e (kJ l) (kJ k);have h:=agL X hX c d e g (kJ k) (kJ hd);unfold aQ at j i h;have w0:IntKind.i64.wrap (1-1)=0:=δ
  have n:IntKind.i64.wrap (2-1)=1:=δ
  have m:IntKind.i64.wrap (3-1)=2:=δ
  have r:IntKind.i64.wrap (1+1)=2:=δ
  have q:IntKind.i64.wrap (2+1)=3:=δ
  have o:IntKind.i64.wrap (3+1)=4:=δ
  refine aV (hX _ rfl) ?_;rw[apD];refine dN ?_;rw[Oq,w0,r];simp only[dH,aO,qLl,List.length_nil,aQ,show(1:Int).toNat=1 from rfl,Int.toNat_zero,qLz,List.getD_cons_succ,xQ,toInt_int,pq];simp only[show((1:Int)<((0+1+1+1+1:Nat):Int)) by decide,show((0:Int)<((0+1+1+1+1:Nat):Int)) by decide,show(0:Int)<=1 by decide,Int.le_refl,if_true];rw[j];simp only[qOb,qLh,fK,fork];refine dN ?_;rw[Oq,n,q];simp only[dH,aO,qLl,List.length_nil,aQ,show(1:Int).toNat=1 from rfl,show(2:Int).toNat=2 from rfl,qLz,List.getD_cons_succ,xQ,toInt_int,pq];simp only[show((1:Int)<((0+1+1+1+1:Nat):Int)) by decide,show((2:Int)<((0+1+1+1+1:Nat):Int)) by decide,show(0:Int)<=1 by decide,show(0:Int)<=2 by decide,if_true];rw[i];simp only[qOb,qLh,fK,fork];refine dN ?_;rw[Oq,m,o];simp only[dH,aO,qLl,List.length_nil,aQ,show(3:Int).toNat=3 from rfl,show(2:Int).toNat=2 from rfl,qLz,List.getD_cons_succ,xQ,toInt_int,pq];simp only[show((3:Int)<((0+1+1+1+1:Nat):Int)) by decide,show((2:Int)<((0+1+1+1+1:Nat):Int)) by decide,show(0:Int)<=3 by decide,show(0:Int)<=2 by decide,if_true];rw[h];simp only[qOb,qLh,fK,fork];refine dN ?_;rw[Oq];simp only[dH,aO,qLl,List.length_nil];rw[if_neg (show ¬((4:Int)<((0+1+1+1+1:Nat):Int)) by decide)];rfl
theorem aqc(a b c d:V3)(t0 f e g:Int)(s:pt a=true)(r:pt b=true)(q:pt c=true)(hd:pt d=true)(E:0<=t0)(D:t0<f)(C:f<e)(B:e<g)(h4:g<=3600000) :
    run tab X 166 [.p (.list true dW [aQ a,aQ b,aQ c,aQ d]),.p (.list false [.int .i64] [Aw t0,Aw f,Aw e,Aw g])] [] =
     some ([.fresh true iV (eP [rJ a b t0 f,rJ b c f e,rJ c d e g]),Ab 0],[]):=by
  have l:=c78 X hX a;have k:=c78 X hX b;have j:=c78 X hX c;have i:=c78 X hX d;rw[s]at l;rw[r]at k;rw[q]at j;rw[hd]at i;unfold aQ at l k j i;have n:=aqb X hX a b c d t0 f e g s r q hd
  have m:run tab X 187 [.p (.list true dW [aQ a,aQ b,aQ c,aQ d]),.p (.list false [.int .i64] [Aw t0,Aw f,Aw e,Aw g])] []=some ([.p (.fn 205 [.ref [.list true dW [aQ a,aQ b,aQ c,aQ d]],.ref [.list false [.int .i64] [Aw t0,Aw f,Aw e,Aw g]]])],[]):=
   aV (hX _ rfl) (by rw[e187])
  have A:IntKind.i64.wrap (0+1)=1:=δ
  have v:IntKind.i64.wrap (1+1)=2:=δ
  have u:IntKind.i64.wrap (2+1)=3:=δ
  have t:IntKind.i64.wrap (3+1)=4:=δ
  have h:∀{α:Type} (w x y z:α),((([w,x,y,z]:List α).length:Nat):Int)=4:=λ_ _ _ _=>rfl;refine aV (hX _ rfl) ?_;rw[e166];simp only[h,aO,xM];rw[if_neg δ,if_pos trivial];refine dN ?_;rw[uF,A];simp only[h,dH,aO,jL,aQ,Int.toNat_zero,qLz,xQ,List.getD_cons_succ,toInt_int,pq];simp only[show(0:Int)<4 by decide,Int.le_refl,if_true];rw[l];simp only[qOb,qLh,fK,aJ,qCt];rw[if_neg ω,if_neg ω];refine dN ?_;rw[uF,v];simp only[h,dH,aO,jL,aQ,show(1:Int).toNat=1 from rfl,qLz,xQ,List.getD_cons_succ,toInt_int,pq];simp only[show(1:Int)<4 by decide,show(0:Int)<=1 by decide,if_true];rw[k];simp only[qOb,qLh,fK,aJ,qCt];rw[if_neg ω,if_neg ω];refine dN ?_;rw[uF,u];simp only[h,dH,aO,jL,aQ,show(2:Int).toNat=2 from rfl,qLz,xQ,List.getD_cons_succ,toInt_int,pq];simp only[show(2:Int)<4 by decide,show(0:Int)<=2 by decide,if_true];rw[j];simp only[qOb,qLh,fK,aJ,qCt];rw[if_neg ω,if_neg ω];refine dN ?_;rw[uF,t];simp only[h,dH,aO,jL,aQ,show(3:Int).toNat=3 from rfl,qLz,xQ,List.getD_cons_succ,toInt_int,pq];simp only[show(3:Int)<4 by decide,show(0:Int)<=3 by decide,if_true];rw[i];simp only[qOb,qLh,fK,aJ,qCt];rw[if_neg ω,if_neg ω];refine dN ?_;rw[uF];simp only[h,dH,aO];rw[if_neg δ,if_neg δ];unfold aQ at n m;rw[m,qOb];show(run tab X 205 [.AB,.p (.ref [.list true dW _]),.p (.ref [.list false [.int .i64] _])] [.log true []]).bind _=_;refine(congrArg (λo=>Option.bind o _) n).trans ?_;rw[qOb];show L tab (run tab X) 166 [] [.rg [1,1,1,1,1,1,0,1,0] [(true,iV)] [.agg [eS (rJ a b t0 f)],.agg [eS (rJ b c f e)],.agg [eS (rJ c d e g)]]] (xJ _ _)=_;unfold eS;rw[GR,qR];simp only[aO];rw[if_pos δ,qR];simp only[aO];rw[if_pos δ,D5];rfl
end
end
section
theorem aaW(v:V3)(r:Int):(PV.agg [Aw v.x,Aw v.y,Aw (v.z+r)])=aQ (up v r):=rfl
theorem Pz(v:V3):(PV.agg [Aw ((aQ v).cell 0).toInt,Aw ((aQ v).cell 1).toInt,Aw ((aQ v).cell 2).toInt]:PV)=aQ v:=rfl
theorem TQ{a:V3}{m:Mv}{len:Int}(h:mQ a m len=true):pt m.to=true/\(0<=m.wait/\m.wait<=3600000)/\(0<=m.fl/\m.fl<=3600000)/\(0<=m.rise/\m.rise<=3600000)/\m.wait+m.fl<=len /\
    (m.fl=0->m.to=a/\m.rise=0)/\(m.fl≠0->m.rise≠0->m.fl.tmod 4=0/\pt (up a m.rise)=true/\pt (up m.to m.rise)=true):=by
  unfold mQ at h;simp only[qBa,qDa]at h;obtain⟨e,d,c,h4,h5,g⟩:=h;refine⟨e,jP.1 d,jP.1 c,jP.1 h4,h5,λb=>?_,λb f=>?_⟩
  .grind
  .grind
theorem ahL{n:Int}(h:n.tmod 4=0):4*n.tdiv 4=n:=θ
section
variable (X:Ext) (hX:Mine X)
include hX
theorem c139(a b:V3)(r f t:Int)(h:pt a=true)(g:pt b=true)(n:0<=f)(v:f<t)(m:t<=3600000)(A:0<=r)(h4:(t-f).tmod 4=0)(e:pt (up a r)=true)(k:pt (up b r)=true) :
    run tab X 139 [.p (aQ a),.p (aQ b),Ab r,Ab f,Ab t] []=some ([.fresh true iV (eP (RN a b r f t)),Ab 0],[]):=by
  obtain⟨F,E,D⟩:=kG.1 h;obtain⟨b1,C,B⟩:=kG.1 g;obtain⟨y,w,s⟩:=kG.1 e;simp only[up]at s;have l:=ahL h4;have d:=ai8 X hX a b f t;rw[h,g]at d;have j:=c78 X hX (up a r);have i:=c78 X hX (up b r);rw[e]at j;rw[k]at i;generalize c:(t-f).tdiv 4=q at l;have u:=aqc X hX a (up a r) (up b r) b f (f+q) (t-q) t h e k g n ω ω ω m;unfold aQ at d;refine aV (hX _ rfl) ?_;rw[aQ,aQ,apC,d];simp only[qOb,qLh,fK,aJ,jL,n,v,m,decide_true,qBs,qCt]
  rw[wrap_eq (x:=t-f) ω ω,c,wrap_eq (x:=q) ω ω,wrap_eq (x:=4*q) ω ω,xM,if_pos l,aO,if_neg ω,aO,if_neg ω,
   wrap_eq (x:=a.z+r) ω ω,wrap_eq (x:=b.z+r) ω ω,aaW,aaW,j]
  simp only[qOb,qLh,fK,aJ,qCt];rw[i];simp only[qOb,qLh,fK,aJ,qCt];rw[wrap_eq (x:=f+q) ω ω,wrap_eq (x:=t-q) ω ω];refine(congrArg (λo=>Option.bind o _) u).trans ?_;simp only[qOb,qLh,List.tail_cons,fK,bK,toInt_int,iT];unfold RN;rw[c]
theorem c71(a b:V3)(r f t:Int)(h:pt a=true)(j:pt b=true)(E:0<=f)(D:f<t)(C:t<=3600000)(o:0<=r)(d:r<=3600000)(h4:(t-f).tmod 4=0)(g:pt (up a r)=true)(i:pt (up b r)=true) :
    run tab X 71 [.p (aQ a),.p (aQ b),Ab r,Ab f,Ab t] []=some ([.fresh true iV (eP (RN a b r f t)),Ab 0],[]):=by
  obtain⟨L,K,J⟩:=kG.1 h;obtain⟨I,H,s⟩:=kG.1 g;simp only[up]at s;have B:=ahL h4;have n:=c32 X hX a;have m:=c32 X hX b;rw[h]at n;rw[j]at m;have A:=c105 X hX f t;have l:=c68 X hX a r o d h;have k:=c68 X hX b r o d j;rw[if_pos ω,g]at l;rw[if_pos ω,i]at k;generalize e:(t-f).tdiv 4=q at B;have w:=c70 X hX a (up a r) f (f+q) (kJ h) (kJ g);have v:=c70 X hX (up a r) (up b r) (f+q) (f+3*q) (kJ g) (kJ i);have u:=c70 X hX (up b r) b (f+3*q) t (kJ i) (kJ j);have G:(PV.agg [Aw a.x,Aw a.y,Aw a.z])=aQ a:=rfl;have F:(PV.agg [Aw b.x,Aw b.y,Aw b.z])=aQ b:=rfl;refine aV (hX _ rfl) ?_;have c:=e71 (run tab X) a.x a.y a.z b.x b.y b.z r f t;try dsimp only at c
  rw[G,F]at c;rw[c,n];simp only[qOb,qLh,fK,aJ,jL,qCt];rw[m];simp only[qOb,qLh,fK,aJ,qCt];rw[A];simp only[qOb,qLh,fK,aJ,E,D,C,decide_true,qBs,qCt];rw[l];simp only[qOb];rw[k];simp only[qOb,qLh,List.tail_cons,fK,aJ,qCt];rw[wrap_eq (x:=t-f) ω ω,h4,e,wrap_eq (x:=q) ω ω,wrap_eq (x:=f+q) ω ω,wrap_eq (x:=3*q) ω ω,wrap_eq (x:=f+3*q) ω ω,xM,if_pos rfl,Pz,Pz,w];simp only[qOb,qLh,fK];rw[v];simp only[qOb,qLh,fK];rw[u];simp only[qOb,qLh,fK,Xu];unfold RN;rw[e,show f+3*q=t-q by omega];rfl
theorem c69(v:V3)(f t:Int):run tab X 69 [.p (aQ v),Ab f,Ab t] []=some ([.fresh true iV (eP (l7 v f t))],[]):=by
 have a:=apQ X hX v f t;unfold aQ at a;refine aV (hX _ rfl) ?_;rw[aQ,e69,rQ];unfold l7;by_cases h:f=t
 .rw[if_pos h,if_pos h];rfl
 .rw[if_neg h,if_neg h,a];rfl
theorem agN(v:V3)(f t:Int)(a:List Sg)(c:pt v=true)(h:0<=f)(g:f<=t)(d:t<=3600000)(i:a.length<=1000) :
    run tab X 136 [.p (aQ v),Ab f,Ab t,.ptr 100000 0 0] [.box [.slice 99999 6 0 a.length],.arr true iV (eP a)]=some ([],[.box [.slice 99999 6 0 (a.length+(l7 v f t).length)],.arr true iV (eP (a++l7 v f t))]):=by
  obtain⟨e,b⟩:=aqa X hX v f t c h g d;unfold aQ at b;refine aV (hX _ rfl) ?_;rw[aQ,apB,b];have:=xP v f t;simp only[qOb,qLh,bK,jM,aO];rw[if_pos ω,lX,lX,sJ]
theorem aqg (a:V3) (m:Mv) (t len:Int) (ha:pt a=true) (hm:mQ a m len=true) (h0:0<=t) (h1:t+len<=3600000):run tab X 113 [.p (aQ a),.p (eM m),Ab t,Ab len] []=some ([.fresh true iV (eP (uq a m t len))],[]):=by
 obtain⟨m1,m2,m3,m4,m5,m6,m7⟩:=TQ hm
 have e1:(PV.agg [Aw a.x,Aw a.y,Aw a.z])=aQ a:=rfl
 have e2:(PV.agg [Aw m.to.x,Aw m.to.y,Aw m.to.z])=aQ m.to:=rfl
 have ex:=apy (run tab X) a.x a.y a.z m.to.x m.to.y m.to.z m.wait m.fl m.rise t len
 try dsimp only at ex
 rw[e1,e2,wrap_eq (x:=t+len) ω ω,wrap_eq (x:=t+m.wait) ω ω,wrap_eq (x:=t+m.wait+m.fl) ω ω]at ex
 refine aV (hX _ rfl) ?_
 refine Eq.trans ex ?_
 rw[rQ]
 unfold uq
 by_cases hf:m.fl=0
 .rw[if_pos hf,if_pos hf]
  have k:=agN X hX a t (t+len) [] ha h0 ω h1 σ
  refine(congrArg (λo=>Option.bind o _) k).trans ?_
  simp only[qOb,Jq,Cm,List.getD_cons_succ,qLz,qLh,Vh,aH.cs,CJ,CO,List.length_nil,qNz,List.nil_append]
  rw[lX]
 .rw[if_neg hf,if_neg hf]
  have k:=agN X hX a t (t+m.wait) [] ha h0 ω ω σ
  refine(congrArg (λo=>Option.bind o _) k).trans ?_
  have kg:=c138 X hX a m.to (t+m.wait) (t+m.wait+m.fl) ha m1 ω ω ω
  simp only[qOb]
  rw[kg]
  have hs:=xP a t (t+m.wait)
  simp only[qOb,Jq,Cm,List.getD_cons_succ,qLz,qLh,Vh,aH.cs,CJ,CO,List.length_nil,qNz,List.nil_append,bK,aO,jM,lX]
  by_cases hr:m.rise=0
  .rw[if_neg ω,if_pos hr,if_pos (by simp only[List.length_singleton];omega),sJ]
   have k2:=agN X hX m.to (t+m.wait+m.fl) (t+len) (l7 a t (t+m.wait)++[rJ a m.to (t+m.wait) (t+m.wait+m.fl)]) m1 ω ω h1 (by simp only[qLp,List.length_singleton];omega)
   rw[qLp]at k2
   rw[k2]
   simp only[qOb,List.getD_cons_succ,qLz,qLh,Vh,CJ,CO]
   rw[show (l7 a t (t+m.wait)).length+([rJ a m.to (t+m.wait) (t+m.wait+m.fl)]:List Sg).length+(l7 m.to (t+m.wait+m.fl) (t+len)).length=(l7 a t (t+m.wait)++[rJ a m.to (t+m.wait) (t+m.wait+m.fl)]++l7 m.to (t+m.wait+m.fl) (t+len)).length by simp only[qLp],lX]
  .obtain⟨q1,q2,q3⟩:=m7 hf hr
   have ka:=c139 X hX a m.to m.rise (t+m.wait) (t+m.wait+m.fl) ha m1 ω ω ω m4.1 (by rw[show t+m.wait+m.fl-(t+m.wait)=m.fl by omega];exact q1) q2 q3
   rw[if_pos ω,if_neg hr,ka]
   simp only[qOb,qLh,bK,aO,jM,lX]
   rw[if_pos (by rw[Jt];omega),sJ]
   have k2:=agN X hX m.to (t+m.wait+m.fl) (t+len) (l7 a t (t+m.wait)++RN a m.to m.rise (t+m.wait) (t+m.wait+m.fl)) m1 ω ω h1 (by simp only[qLp,Jt];omega)
   rw[qLp]at k2
   rw[k2]
   simp only[qOb,List.getD_cons_succ,qLz,qLh,Vh,CJ,CO]
   rw[show (l7 a t (t+m.wait)).length+(RN a m.to m.rise (t+m.wait) (t+m.wait+m.fl)).length+(l7 m.to (t+m.wait+m.fl) (t+len)).length=(l7 a t (t+m.wait)++RN a m.to m.rise (t+m.wait) (t+m.wait+m.fl)++l7 m.to (t+m.wait+m.fl) (t+len)).length by simp only[qLp],lX]
theorem c35 (a:V3) (m:Mv) (t len:Int) (ha:pt a=true) (hm:mQ a m len=true) (h0:0<=t) (h1:t+len<=3600000):run tab X 35 [.p (aQ a),.p (eM m),Ab t,Ab len] []=some ([.fresh true iV (eP (uq a m t len))],[]):=by
 obtain⟨m1,m2,m3,m4,m5,m6,m7⟩:=TQ hm
 have e1:(PV.agg [Aw a.x,Aw a.y,Aw a.z])=aQ a:=rfl
 have e2:(PV.agg [Aw m.to.x,Aw m.to.y,Aw m.to.z])=aQ m.to:=rfl
 have ex:=e35 (run tab X) a.x a.y a.z m.to.x m.to.y m.to.z m.wait m.fl m.rise t len
 try dsimp only at ex
 rw[e1,e2,wrap_eq (x:=t+len) ω ω,wrap_eq (x:=t+m.wait) ω ω,wrap_eq (x:=t+m.wait+m.fl) ω ω]at ex
 refine aV (hX _ rfl) ?_
 refine Eq.trans ex ?_
 rw[rQ]
 unfold uq
 by_cases hf:m.fl=0
 .rw[if_pos hf,if_pos hf,c69 X hX]
  simp
 .rw[if_neg hf,if_neg hf,c69 X hX]
  have hs:=xP a t (t+m.wait)
  have hs2:=xP m.to (t+m.wait+m.fl) (t+len)
  simp only[qOb,qLh,bK,jM,lX]
  rw[rQ]
  by_cases hr:m.rise=0
  .rw[if_pos hr,if_pos hr,c70 X hX a m.to _ _ (kJ ha) (kJ m1)]
   simp only[qOb,qLh,fK,Xu,aO]
   rw[if_pos ω,c69 X hX]
   simp only[qOb,qLh,bK,jM,lX]
   rw[if_pos ω,show ([eS (rJ a m.to (t+m.wait) (t+m.wait+m.fl))]:List PV)=eP [rJ a m.to (t+m.wait) (t+m.wait+m.fl)] from rfl,sJ]
   rw[show (l7 a t (t+m.wait)).length+1=(l7 a t (t+m.wait)++[rJ a m.to (t+m.wait) (t+m.wait+m.fl)]).length by simp,lX,sJ,<-qLp,lX]
  .obtain⟨q1,q2,q3⟩:=m7 hf hr
   have ka:=c71 X hX a m.to m.rise (t+m.wait) (t+m.wait+m.fl) ha m1 ω ω ω m4.1 m4.2 (by rw[show t+m.wait+m.fl-(t+m.wait)=m.fl by omega];exact q1) q2 q3
   rw[if_neg hr,if_neg hr,ka]
   simp only[qOb,qLh,bK,aO,jM,lX]
   rw[if_pos (by rw[Jt];omega),c69 X hX]
   simp only[qOb,qLh,bK,jM,lX]
   rw[if_pos (by rw[Jt];omega),sJ,<-qLp,lX,sJ,<-qLp,lX]
end
end
end Go.Skm.Prg
