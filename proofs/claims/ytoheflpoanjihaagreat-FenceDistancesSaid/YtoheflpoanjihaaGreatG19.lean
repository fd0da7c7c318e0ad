import Derived.Test.YtoheflpoanjihaaGreatG15
set_option linter.all false
namespace Go.Skm.Fen
open Go Go.Skm
section
structure Rt where
 n:Int
 d:Int
 deriving DecidableEq
abbrev Rt.ok(r:Rt):Prop:=okR r.n r.d
def lM(r:Rt):PV:=eR r.n r.d
def qp(r:Rt):Bool:=decide (8192<bl r.n.natAbs\/8192<bl r.d.natAbs)
def IU(f:Fen)(x y z:Rt):Bool:=(decide (f.low*z.d<=z.n)&&decide (z.n<=f.high*z.d))&&O4 f (x.n*y.d) (y.n*x.d) (x.d*y.d)
def UO(f:Fen)(x y z:Rt):Bool × Int:=
 if x.ok/\y.ok/\z.ok then(if validP f then(if qp x||(qp y||qp z)then(false,7)else(IU f x y z,0))else(false,2))else(false,2)
def BU(a:Bool × Int):List AV:=[.p (.bool a.1),.p (.int .i64 a.2)]
def JY(f:Fen)(p:V3):Bool × Int:=if validP f then(if inM 1048576 p then(vg f p,0)else(false,2))else(false,2)
theorem LP{z:Int}{k:Nat}(h:bl z.natAbs<=k):Lt2 k z:=Nat.lt_of_lt_of_le (x9 _) (Nat.pow_le_pow_right (by decide) h)
theorem D8{r:Rt}(h:qp r=false):Lt2 8192 r.n/\Lt2 8192 r.d:=by
 have a:=of_decide_eq_false h;constructor
 . exact LP (by omega)
 . exact LP (by omega)
theorem NJ(r:Rt):gtI (goMax ((bl r.n.natAbs:Nat):Int) ((bl r.d.natAbs:Nat):Int)) (8192:Int)=qp r:=by unfold qp goMax gtI;grind
theorem LQ(z:Int):geI z.sign 0=decide (0<=z):=by simp
theorem LU(z:Int):leI z.sign 0=decide (z<=0):=by simp
theorem o7{f:Fen}(h:validP f=true):QS f/\f.holes.length<=16∧-1048576<=f.low/\f.high<=1048576/\f.low<=f.high:=by
 unfold validP D7 at h;simp only[qBa,qDa]at h;obtain⟨⟨e,d⟩,i,_⟩:=h;refine⟨⟨kX e,?_,by omega⟩,d⟩;have:∀(b all:List (List V3)),rM f.outer all b=true->∀ x∈b,Rd x:=by
  intro b;induction b with
  | nil=>intro _ _ x a;cases a
  | cons y r g =>
   intro all c x a;unfold rM D6 at c;simp only[qBa]at c;rcases List.mem_cons.1 a with rfl | a
   . exact kX c.1.1
   grind
 grind
abbrev YI(f:Fen)(x y z:Rt)(full:Bool)(i:Nat):St:=uh full 0 3 3 (i:Int) (encL f.outer) (bI f.holes) f.low f.high (decide (x.n<0)) (jD x.n.natAbs) (decide (x.d<0)) (jD x.d.natAbs) (decide (y.n<0)) (jD y.n.natAbs) (decide (y.d<0)) (jD y.d.natAbs) (decide (z.n<0)) (jD z.n.natAbs) (decide (z.d<0)) (jD z.d.natAbs) [lM x,lM y,lM z]
abbrev YJ:List Wy:=[.lp [1,1,0,1,0]]
section
variable (X:Ext) (hX:Mine X)
include hX
theorem c20(f:Fen)(e:qW f)(p:V3):run tab X 20 [.p (encF f),.p (encV p)] []=some (BU (JY f p),[]):=
 run_of (hX _ rfl) (by
  have b:=c18 X hX f e;have a:=c40 X hX p;rw[encF]at b;rw[encV]at a;rw[encF,encV,e20,b,qOb];simp only[qLh,pv_p,toBool_bool];unfold JY;cases c:validP f with
  | false=>rfl
  | true =>
   rw[qBt,qCf,a,qOb,if_pos rfl];simp only[qLh,pv_p,toBool_bool];cases d:inM 1048576 p with
   | false=>rfl
   | true =>have h4:=c55 X hX f (o7 c).1 p ((rO.1 d).mono (by decide));rw[encF,encV]at h4;rw[qBt,qCf,h4,qOb,if_pos rfl];rfl)
variable (hB:Bits X)
include hB
theorem r24(f:Fen)(x y z:Rt)(a:Bool)(i:Nat)(k:i<3)(r:Rt)(j:[lM x,lM y,lM z].getD i .nil=lM r)
    (v:Bool × Int)(h:if r.ok then L tab (run tab X) 24 [] YJ (YI f x y z (a||qp r) (i+1))=some (BU v,[])else v=(false,2)):L tab (run tab X) 24 [] YJ (YI f x y z a i)=some (BU v,[]):=by
  have g:(leI (0:Int) ((i:Nat):Int)&&ltI ((i:Nat):Int) (((3:Nat)):Int))=true:=rng k;have e:ltI ((i:Nat):Int) (3:Int)=true:=sG k;by_cases b:r.ok
  . rw[if_pos b]at h;refine L_of ?_;rw[Ah,e,qCt,g,qCt];simp only[qIt,qNz,j,fH (show i<=9000000000000000000 by omega)];have c:=c59 X hX r.n r.d;rw[decide_eq_true b]at c;show(run tab X 59 [.p (eR r.n r.d)] []).bind _=_;rw[c,qOb];simp only[qLh,pv_p,toBool_bool,qBt,qCf];cases a with
    | true=>rw[qCt];exact h
    | false =>rw[Bool.false_or]at h;rw[qCf];show(run tab X 60 [.p (eW r.n)] []).bind _=_;rw[c60 X hX hB r.n b.1,qOb];show(run tab X 60 [.p (eW r.d)] []).bind _=_;rw[c60 X hX hB r.d b.2.1,qOb];grind[qLh,pv_p,toInt_int,NJ]
  . rw[if_neg b]at h;refine L_of ?_;rw[Ah,e,qCt,g,qCt];simp only[qIt,qNz,j];have c:=c59 X hX r.n r.d;rw[decide_eq_false b]at c;show(run tab X 59 [.p (eR r.n r.d)] []).bind _=_;rw[c,qOb,h];rfl
theorem V7(f:Fen)(v:qW f)(x y z:Rt)(c:x.ok)(b:y.ok)(k:z.ok)(a:Bool)(hfull:a=(qp x ||(qp y || qp z))) :
    L tab (run tab X) 24 [] YJ (YI f x y z a 3)=some (BU (if validP f then(if a then(false,7)else(IU f x y z,0))else(false,2)),[]):=by
  refine L_of ?_;have m:=c18 X hX f v;rw[encF]at m;rw[Ah,show ltI ((3:Nat):Int) 3=false from rfl,qCf,m,qOb];simp only[qLh,pv_p,toBool_bool];cases s:validP f with
  | false=>rfl
  | true =>
   rw[qBt,qCf,if_pos rfl];cases a with
   | true=>rfl
   | false =>
    obtain⟨w,F,t,u,_⟩:=o7 s;have l:qp x=false/\qp y=false/\qp z=false:=by grind
    obtain⟨r,g⟩:=D8 l.1;obtain⟨q,e⟩:=D8 l.2.1;have j:Lt2 20000 (x.n*y.d):=(r.mul e).mono (by omega);have i:Lt2 20000 (y.n*x.d):=(q.mul g).mono (by omega);have h:Lt2 20000 (x.d*y.d):=(g.mul e).mono (by omega);have hp:Sp (x.n*y.d) (y.n*x.d) (x.d*y.d):=⟨j,i,h,Int.mul_pos c.2.2 b.2.2⟩;have one:okR f.low 1/\okR f.high 1:=⟨⟨wz X hX hB (by omega) (by omega),wz X hX hB (by omega) (by omega),by omega⟩,wz X hX hB (by omega) (by omega),wz X hX hB (by omega) (by omega),by omega⟩;have E:=c62 X hX hB z.n z.d f.low 1 k one.1;have D:=c62 X hX hB z.n z.d f.high 1 k one.2;have C:=c63 X hX hB x.n x.d y.n y.d c.1 c.2.1 b.1 b.2.1 (j.okW (by omega)) (i.okW (by omega)) (h.okW (by omega));have o:=aaj X hX hB f w (x.n*y.d) (y.n*x.d) (x.d*y.d) hp;rw[qCf,c61 X hX hB 1 (by omega) (by omega),qOb,c61 X hX hB f.low (by omega) (by omega),qOb];show(run tab X 62 [.p (eR z.n z.d),.p (eR f.low 1)] []).bind _=_;rw[E,qOb,c61 X hX hB f.high (by omega) (by omega),qOb];show(run tab X 62 [.p (eR z.n z.d),.p (eR f.high 1)] []).bind _=_;rw[D,qOb];show(run tab X 63 [.p pZ,.p (eR x.n x.d),.p (eR y.n y.d)] []).bind _=_;rw[C,qOb];simp only[qLh,pv_p,toInt_int,LQ,LU];unfold IU;have B:decide (0<=z.n*1-f.low*z.d)=decide (f.low*z.d<=z.n):=decide_eq_decide.2 (by omega);have A:decide (z.n*1-f.high*z.d<=0)=decide (z.n<=f.high*z.d):=decide_eq_decide.2 (by omega);rw[B,A];cases decide (f.low*z.d<=z.n)with
    | false=>rfl
    | true =>
     rw[qCt,Bool.true_and];cases decide (z.n<=f.high*z.d)with
     | false=>rfl
     | true =>rw[qCt,Bool.true_and];rw[encF]at o;show(run tab X 64 [_,.p (.fn 65 [pZ,.ref (IQ (x.n*y.d) (y.n*x.d) (x.d*y.d))])] []).bind _=_;rw[o,qOb];simp only[qLh,pv_p,toBool_bool];cases O4 f (x.n*y.d) (y.n*x.d) (x.d*y.d)<;>rfl
theorem c24(f:Fen)(e:qW f)(x y z:Rt):run tab X 24 [.p (encF f),.p (lM x),.p (lM y),.p (lM z)] []=some (BU (UO f x y z),[]):=
 run_of (hX _ rfl) (by
  rw[encF,lM,lM,lM,eR,eR,eR,e24];show L tab (run tab X) 24 [] YJ (YI f x y z false 0)=_;unfold UO;refine r24 X hX hB f x y z false 0 (by omega) x rfl _ ?_;by_cases c:x.ok
  . rw[if_pos c];refine r24 X hX hB f x y z _ 1 (by omega) y rfl _ ?_;by_cases b:y.ok
    . rw[if_pos b];refine r24 X hX hB f x y z _ 2 (by omega) z rfl _ ?_;by_cases a:z.ok
      . rw[if_pos a,if_pos ⟨c,b,a⟩];have d:=V7 X hX hB f e x y z c b a (((false||qp x)||qp y)||qp z) (by rw[Bool.false_or,Bool.or_assoc]);grind
      grind
    grind
  grind)
end
end
section
def D9(n:Int):Int:=n*iE n
theorem QU(n:Int):D9 n=(n.natAbs:Int):=by
 unfold D9 iE;split
 . omega
 . split<;>omega
def yx:List (List V3)->Int
 |[]=>0
 | h::r=>D9 (jU h)+yx r
def V8(f:Fen):Int:=D9 (jU f.outer)-yx f.holes
def GV(f:Fen):Int × Int:=if validP f then(V8 f,0)else(0,2)
theorem GX{n m:Int}(h:-m<=n/\n<=m):0<=D9 n/\D9 n<=m:=by rw[QU];omega
theorem Ea{l:List V3}(h:dG l=true):-1000000000000000<=jU l/\jU l<=1000000000000000:=by
 obtain⟨m,k,i⟩:=eH h;unfold jU;have c:∀ a:List ku,(∀ e∈a,je e.1/\je e.2)→-(2199023255552*(a.length:Int))<=wF a/\wF a<=2199023255552*(a.length:Int):=by
  intro a;induction a with
  | nil=>intro _;simp[wF]
  | cons e r g =>intro f;have b1:=g λj d=>f j (by simp[d]);have n:=FC (f e (by simp));simp only[wF,qLl];unfold GY;omega
 have b:=c (dA l) (xB i _);rw[iI]at b;have:(l.length:Int)<=64:=by omega
 omega
theorem kW{f:Fen}(h:validP f=true):dG f.outer=true/\∀ x∈f.holes,dG x=true:=by
 unfold validP D7 at h;simp only[qBa,qDa]at h;obtain⟨⟨g,_⟩,e,_⟩:=h;refine⟨g,?_⟩;have:∀(b all:List (List V3)),rM f.outer all b=true->∀ x∈b,dG x=true:=by
  intro b;induction b with
  | nil=>intro _ _ x a;cases a
  | cons y r d =>
   intro all c x a;unfold rM D6 at c;simp only[qBa]at c;rcases List.mem_cons.1 a with rfl | a
   . exact c.1.1
   . exact d _ c.2 x a
 exact this f.holes [f.outer] e
section
variable (X:Ext) (hX:Mine X)
include hX
theorem IV{n:Int}(h:-1000000000000000<=n/\n<=1000000000000000):IntKind.i64.wrap (n*iE n)=D9 n:=by have _:=hX;have:=GX h;exact wrap_eq (by unfold D9 at this;omega) (by unfold D9 at this;omega)
theorem l16(a:List (List V3))(o:∀ h∈a,dG h=true)(g:a.length<=16):∀(r:List (List V3)) (i:Nat) (n:Int),a.drop i=r->i<=a.length→-((i:Int)*1000000000000000)<=n/\n<=1000000000000000 ->
    L tab (run tab X) 16 [] [.lp [1,1,1,0,1,0]] (uT n (bI a) ((a.length:Nat):Int) (i:Int))=some ([.p (.int .i64 (n-yx r)),.p (.int .i64 0)],[]):=by
  intro r;induction r with
  | nil =>
   intro i n e m l;have c:i=a.length:=by have:=congrArg List.length e;simp at this;omega
   refine L_of ?_;rw[Dz,yL (by omega),qCf,yx,Int.sub_zero]
  | cons h r k =>
   intro i n e m l;have c:i<a.length:=by have:=congrArg List.length e;simp at this;omega
   have f:gh a i=h:=by show a.getD i []=h;rw[qLb,<- List.head?_drop,e];rfl
   have d:dG h=true:=o h (f▸tH c);obtain⟨s,s2,j⟩:=eH d;have b:=Ea d;have t:=GX b;have q:=c47 X hX h (by omega) j;refine L_of ?_;rw[Dz,sG c,qCt];simp only[bH,le0,sG c,Bool.and_true,qCt,qIt,gJ a c,f,fH (show i<=9000000000000000000 by omega)];show(run tab X 47 [.p (.list true kV3 (encL h))] []).bind _=_;rw[q,qOb];show(run tab X 47 [.p (.list true kV3 (encL h))] []).bind _=_;rw[q,qOb];simp only[qLh,pv_p,toInt_int];rw[c48 X hX,qOb];simp only[qLh,pv_p,toInt_int];rw[IV X hX b,wrap_eq (by omega) (by omega),yx,show n-(D9 (jU h)+yx r)=n-D9 (jU h)-yx r from by omega];exact k (i+1) _ (by rw[<- List.tail_drop,e];rfl) (by omega) (by omega)
theorem c16(f:Fen)(i:qW f):run tab X 16 [.p (encF f)] []=some ([.p (.int .i64 (GV f).1),.p (.int .i64 (GV f).2)],[]):=
 run_of (hX _ rfl) (by
  have d:=c18 X hX f i;rw[encF]at d;rw[encF,e16,d,qOb];simp only[qLh,pv_p,toBool_bool];unfold GV;cases c:validP f with
  | false=>rfl
  | true =>obtain⟨a,e⟩:=kW c;obtain⟨j,s2,g⟩:=eH a;have b:=Ea a;have k:=GX b;have h:=(o7 c).2.1;have q:=c47 X hX f.outer (by omega) g;rw[qBt,qCf,q,qOb,qOb];simp only[qLh,pv_p,toInt_int];rw[c48 X hX,qOb];simp only[qLh,pv_p,toInt_int,bH];rw[IV X hX b,if_pos trivial];exact l16 X hX f.holes e h f.holes 0 _ rfl (by omega) (by omega))
theorem c31(f:Fen):run tab X 31 [.p (encF f)] []=some ([.p (.fn 87 [.ref [.list true kV3 (encL f.outer),.list false [.slice true kV3] (bI f.holes),.int .i64 f.low,.int .i64 f.high]])],[]):=
 run_of (hX _ rfl) (by rw[encF,e31])
end
end
section
variable {a b p:V3}
theorem IW(a:Int)(g:Nat):(a / (g:Int)).natAbs<=a.natAbs:=by
 rcases Nat.eq_zero_or_pos g with h | h
 . subst h;simp
 . rcases Int.le_total 0 a with c | c
   . obtain⟨n,rfl⟩:=Int.eq_ofNat_of_zero_le c;rw[show((n:Int) / (g:Int))=((n / g:Nat):Int) from rfl];exact Nat.div_le_self n g
   . have e:a*1 >= a*(g:Int):=Int.mul_le_mul_of_nonpos_left c (by omega);have d:=Int.le_ediv_of_mul_le (show(0:Int)<g by omega) (show a*(g:Int)<=a by omega);have h4:a / (g:Int)<=0:=Int.ediv_le_of_le_mul (by omega) (by omega);omega
theorem zl(a b:Int):(ou a b).natAbs<=a.natAbs:=by
 unfold ou;rw[Int.natAbs_mul];have c:b.sign.natAbs<=1:=by grind
 calc _<=1*(a / (Int.gcd a b:Int)).natAbs:=Nat.mul_le_mul_right _ c
  _<=_:=by rw[Nat.one_mul];exact IW _ _
theorem zn(a b:Int):(nJ a b).natAbs<=b.natAbs:=by unfold nJ;have:=IW ((b.natAbs:Nat):Int) (Int.gcd a b);grind
theorem wG{a b:Int}(h:b≠0):0<nJ a b:=by
 unfold nJ;have d:Int.gcd a b ∣ b.natAbs:=Int.gcd_dvd_natAbs_right ..;have c:0<b.natAbs:=by omega
 have e:0<Int.gcd a b:=Nat.pos_of_dvd_of_pos d c;have h4:=Nat.div_pos (Nat.le_of_dvd c d) e;omega
def low(a b:Int):Rt:=⟨ou a b,nJ a b⟩
theorem Eb{a b:Int}(d:okW a)(c:okW b)(e:b≠0):(low a b).ok:=by
 refine⟨?_,?_,wG e⟩
 . exact Nat.le_trans (zk (Nat.lt_of_le_of_lt (zl a b) (x9 _))) d
 . exact Nat.le_trans (zk (Nat.lt_of_le_of_lt (zn a b) (x9 _))) c
theorem zo{a b:Int}(d:okW a)(c:okW b)(e:b≠0):BX a b=[.p (lM (low a b)),.p (.int .i64 0)]:=by have h:=Eb d c e;unfold BX;rw[if_pos ⟨h.1,h.2.1⟩];rfl
def gq(a b p:V3):Int:=(b.x-a.x)*(p.x-a.x)+(b.y-a.y)*(p.y-a.y)
def Ar(a b p:V3):Int:=(b.x-a.x)*(p.y-a.y)-(b.y-a.y)*(p.x-a.x)
def kY(a b:V3):Int:=gq a b b
def dist(a b p:V3):Rt:=
 if 0<gq a b p/\gq a b p<kY a b then low (Ar a b p*Ar a b p) (kY a b)else if kY a b<=gq a b p then low (kY b p) 1 else low (kY a p) 1
structure Ds (a b p:V3):Prop where
 dot:-35184372088832<=gq a b p/\gq a b p<=35184372088832
 YK:-35184372088832<=Ar a b p/\Ar a b p<=35184372088832
theorem mG{x y:Int}(d:-2097152<=x/\x<=2097152)(c:-2097152<=y/\y<=2097152):-4398046511104<=x*y/\x*y<=4398046511104:=by
 have h:(x*y).natAbs<=2097152*2097152:=by rw[Int.natAbs_mul];exact Nat.mul_le_mul (by omega) (by omega)
 omega
theorem lG(d:je a)(c:je b):(-2097152<=b.x-a.x/\b.x-a.x<=2097152)/\(-2097152<=b.y-a.y/\b.y-a.y<=2097152):=by obtain⟨g,f,_⟩:=d;obtain⟨b1,e,_⟩:=c;omega
theorem ds(e:je a)(f:je b)(hp:je p):Ds a b p:=by obtain⟨d,y1⟩:=lG e f;obtain⟨c,y2⟩:=lG e hp;have j:=mG d c;have i:=mG y1 y2;have h:=mG d y2;have g:=mG y1 c;constructor;all_goals grind[gq,Ar]
theorem sq_bd(x:Int):(0:Int)<=x*x:=by
 rcases Int.le_total 0 x with h | h
 . exact Int.mul_nonneg h h
 . exact Int.mul_nonneg_of_nonpos_of_nonpos h h
theorem TS(a b:V3):0<=kY a b:=by have d:=sq_bd (b.x-a.x);have c:=sq_bd (b.y-a.y);grind[kY,gq]
theorem qM(c:je a)(f:je b)(hp:je p):IntKind.i64.wrap ((IntKind.i64.wrap ((IntKind.i64.wrap (b.x-a.x))*(IntKind.i64.wrap (p.x-a.x))))+(IntKind.i64.wrap ((IntKind.i64.wrap (b.y-a.y))*(IntKind.i64.wrap (p.y-a.y)))))=gq a b p:=by obtain⟨e,y1⟩:=lG c f;obtain⟨d,y2⟩:=lG c hp;have h:=mG e d;have g:=mG y1 y2;rw[wrap_eq (x:=b.x-a.x) (by omega) (by omega),wrap_eq (x:=p.x-a.x) (by omega) (by omega),wrap_eq (x:=b.y-a.y) (by omega) (by omega),wrap_eq (x:=p.y-a.y) (by omega) (by omega),wrap_eq (x:=(b.x-a.x)*_) (by omega) (by omega),wrap_eq (x:=(b.y-a.y)*_) (by omega) (by omega),wrap_eq (by omega) (by omega)];rfl
theorem QV(c:je a)(f:je b)(hp:je p):IntKind.i64.wrap ((IntKind.i64.wrap ((IntKind.i64.wrap (b.x-a.x))*(IntKind.i64.wrap (p.y-a.y))))-(IntKind.i64.wrap ((IntKind.i64.wrap (b.y-a.y))*(IntKind.i64.wrap (p.x-a.x)))))=Ar a b p:=by obtain⟨e,y1⟩:=lG c f;obtain⟨d,y2⟩:=lG c hp;have h:=mG e y2;have g:=mG y1 d;rw[wrap_eq (x:=b.x-a.x) (by omega) (by omega),wrap_eq (x:=p.x-a.x) (by omega) (by omega),wrap_eq (x:=b.y-a.y) (by omega) (by omega),wrap_eq (x:=p.y-a.y) (by omega) (by omega),wrap_eq (x:=(b.x-a.x)*_) (by omega) (by omega),wrap_eq (x:=(b.y-a.y)*_) (by omega) (by omega),wrap_eq (by omega) (by omega)];rfl
theorem Ec{n:Int}(h:-35184372088832<=n/\n<=35184372088832):okW n/\okW (n*n):=by have c:Lt2 46 n:=qR (n:=35184372088832) (by omega) (by decide);exact⟨c.okW (by omega),(c.mul c).okW (by omega)⟩
theorem zq(d:je a)(c:je b)(hp:je p):(dist a b p).ok:=by
 have e:=ds d c hp;have one:okW 1:=o9 (by decide);unfold dist;split
 . next h=>exact Eb (Ec e.YK).2 (Ec (ds d c c).dot).1 (by omega)
 . split
   . exact Eb (Ec (ds c hp hp).dot).1 one (by decide)
   . exact Eb (Ec (ds d hp hp).dot).1 one (by decide)
theorem FD(r:Rt):PV.agg [.bool (((lM r).cell 0).toBool),.str (((lM r).cell 1).toStr),.bool (((lM r).cell 2).toBool),.str (((lM r).cell 3).toStr)]=lM r:=rfl
section
variable (X:Ext) (hX:Mine X) (hB:Bits X)
include hX hB
theorem V9(a b:Int)(d:okW a)(c:okW b)(e:b≠0):run tab X 143 [.p (eW a),.p (eW b)] []=some ([.p (lM (low a b)),.p (.int .i64 0)],[]):=by rw[c143 X hX hB a b d c e,zo d c e]
theorem O6(a b:Int)(d:-9223372036854775808<=a/\a<=9223372036854775807)(c:-9223372036854775808<=b/\b<=9223372036854775807)(e:b≠0):run tab X 134 [.p (.int .i64 a),.p (.int .i64 b)] []=some ([.p (lM (low a b)),.p (.int .i64 0)],[]):=by rw[aal X hX hB a b d c e,zo (wz X hX hB d.1 d.2) (wz X hX hB c.1 c.2) e]
theorem c90(a b p:V3)(d:je a)(c:je b)(hp:je p):run tab X 90 [.p (encV a),.p (encV b),.p (encV p)] []=some ([.p (lM (dist a b p))],[]):=
 run_of (hX _ rfl) (by
  have f:=ds d c hp;have q:=ds d c c;have o:=ds c hp hp;have n:=ds d hp hp;have k:=O6 X hX hB (kY b p) 1 (by have:=o.dot;unfold kY;omega) (by omega) (by decide);have j:=O6 X hX hB (kY a p) 1 (by have:=n.dot;unfold kY;omega) (by omega) (by decide);have r:∀ v:V3,IntKind.i64.wrap v.x=IntKind.i64.wrap v.x:=λ_=>rfl;rw[encV,encV,encV,e90,qM d c hp,qM d c c,qM c hp hp,qM d hp hp,QV d c hp];rw[show gq a b b=kY a b from rfl,show gq b p p=kY b p from rfl,show gq a p p=kY a p from rfl,k,j];have i:=q.dot;rw[show gq a b b=kY a b from rfl]at i;simp only[qOb,qLh,pv_p,FD];unfold dist;by_cases h:0<gq a b p
  . rw[show gtI (gq a b p) 0=true from decide_eq_true h,qCt];by_cases g:gq a b p<kY a b
    . have e:=Ec f.YK;have l:=Ec i;have m:=c138 X hX hB (Ar a b p) (Ar a b p) e.1 e.1;rw[wu,if_pos e.2]at m;rw[show ltI (gq a b p) (kY a b)=true from decide_eq_true g,qCt,if_pos ⟨h,g⟩];rw[c61 X hX hB _ (by have:=f.YK;omega) (by have:=f.YK;omega),qOb];simp only[qLh,pv_p,iy];rw[m,qOb,c61 X hX hB _ (by omega) (by omega),qOb];simp only[qLh,pv_p,iy];rw[V9 X hX hB _ _ e.2 l.1 (by omega)];rfl
    grind
  grind)
end
end
section
variable {l:List V3}{v:V3}{b:Bool}{f:Fen}
def sK(l:List V3):List V3:=gt l 0::l.tail.reverse
def orient(first:Bool)(l:List V3):List V3:=if decide (0<jU l)==first then l else sK l
def yw(hs:List (List V3)):List ku:=hs.flatMap λh=>dA (orient false h)
def dS(f:Fen):List ku:=dA (orient true f.outer)++yw f.holes
def mJ(f:Fen):List ku:=if validP f then dS f else []
abbrev vT(f:Fen):List PV:=[.list true kV3 (encL f.outer),.list false [.slice true kV3] (bI f.holes),.int .i64 f.low,.int .i64 f.high]
structure Df (X:Ext):Prop where
 e:∀ f:Fen,qW f->run tab X 87 [.yld,.p (.ref (vT f))] [.log true []]=some ([],[.log true ((mJ f).map eY)])
theorem NK(h:v∈sK l)(c:0<l.length):v∈l:=by
 cases l with
 | nil=>simp at c
 | cons a r =>
  unfold sK at h;rcases List.mem_cons.1 h with rfl | h
  . simp[gt]
  . rw[List.tail_cons,List.mem_reverse]at h;exact List.mem_cons_of_mem _ h
theorem FH(a:0<l.length):(sK l).length=l.length:=by unfold sK;rw[qLl,List.length_reverse,List.length_tail];omega
theorem JZ(h:v∈orient b l)(a:0<l.length):v∈l:=by
 unfold orient at h;split at h
 . exact h
 . exact NK h a
theorem yA(a:0<l.length):(orient b l).length=l.length:=by
 unfold orient;split
 . rfl
 . exact FH a
theorem lF(h:dG l=true):(orient b l).all (inM 1048576)=true/\(orient b l).length=l.length:=by obtain⟨e,d,c⟩:=eH h;refine⟨List.all_eq_true.2 λv a=>List.all_eq_true.1 c v (JZ a (by omega)),yA (by omega)⟩
theorem xC(h:validP f=true):∀ e∈dS f,je e.1/\je e.2:=by
 obtain⟨g,d⟩:=kW h;intro e a;rcases List.mem_append.1 a with a | a
 . exact xB (lF g).1 _ e a
 . obtain⟨x,c,a⟩:=List.mem_flatMap.1 a;exact xB (lF (d x c)).1 _ e a
theorem Ed(h:validP f=true):(dS f).length<=2000:=by
 obtain⟨i,m⟩:=kW h;have n:=(o7 h).2.1;have e:∀ d:List (List V3),(∀ x∈d,dG x=true)->(yw d).length<=64*d.length:=by
  intro d;induction d with
  | nil=>intro _;simp[yw]
  | cons x r j =>intro g;have a:=j λy k=>g y (by simp[k]);have b:=(lF (b:=false) (g x (by simp))).2;have c:=(eH (g x (by simp))).2.1;unfold yw at a ⊢;rw[List.flatMap_cons,qLp,iI,qLl];omega
 have a:=e f.holes m;have b:=(lF (b:=true) i).2;have c:=(eH i).2.1;unfold dS;rw[qLp,iI];omega
def jB(p:V3):Rt->List ku->Rt
 | b,[]=>b
 | b,e::r=>jB p (if ¬ b.ok\/(dist e.1 e.2 p).n*b.d-b.n*(dist e.1 e.2 p).d<0 then dist e.1 e.2 p else b) r
def Au(f:Fen)(p:V3):Rt × Int:=if validP f then(if inM 1048576 p then(jB p ⟨0,0⟩ (dS f),0)else(⟨0,0⟩,2))else(⟨0,0⟩,2)
theorem GZ(z:Int):ltI z.sign 0=decide (z<0):=by
 rcases Int.lt_trichotomy z 0 with h | h | h
 . rw[Int.sign_eq_neg_one_of_neg h,decide_eq_true (by omega)];rfl
 . subst h;rfl
 . rw[Int.sign_eq_one_of_pos h,decide_eq_false (by omega)];rfl
section
variable (X:Ext) (hX:Mine X)
include hX
theorem TT(a b c d:Int)(h:¬(okR a b/\okR c d)):run tab X 62 [.p (eR a b),.p (eR c d)] []=some ([.p (.int .i64 0),.p (.int .i64 2)],[]):=
 run_of (hX _ rfl) (by have e:=QW X hX a b c d;rw[eR,eR]at e;rw[<- Bool.decide_and,decide_eq_false h]at e;rw[eR,eR,e62,e];rfl)
variable (hB:Bits X) (hE:Df X)
include hB
abbrev YL(f:Fen)(p:V3)(b:Rt):St:=kL (encL f.outer) (bI f.holes) f.low f.high p.x p.y p.z false ⟨#[]⟩ false ⟨#[]⟩ (decide (b.n<0)) (jD b.n.natAbs) (decide (b.d<0)) (jD b.d.natAbs)
abbrev w32(ys:List PV):List Wy:=[.rg [1,1,1,0,1,0] [(true,kV3),(true,kV3)] ys]
theorem l32(f:Fen)(p:V3)(hp:je p):∀(g:List ku) (b:Rt),(∀ e∈g,je e.1/\je e.2) ->
    L tab (run tab X) 32 [] (w32 (g.map eY)) (YL f p b)=some ([.p (lM (jB p b g)),.p (.int .i64 0)],[]):=by
  intro g;induction g with
  | nil =>intro b _;rw[List.map_nil,DC];rfl
  | cons e r u =>
   intro b c;obtain⟨t,s⟩:=c e (by simp);have q:=c90 X hX hB e.1 e.2 p t s hp;have hd:=zq t s hp;simp only[encV]at q;have m:=λA=>u A λw k=>c w (by simp[k]);rw[List.map_cons,jB];show L tab (run tab X) 32 [] (w32 (.agg [.agg [.int .i64 e.1.x,.int .i64 e.1.y,.int .i64 e.1.z],.agg [.int .i64 e.2.x,.int .i64 e.2.y,.int .i64 e.2.z]]::r.map eY)) (YL f p b)=_;rw[BM,q,qOb];generalize B:dist e.1 e.2 p=n at *;have o:run tab X 59 [.p (eR b.n b.d)] []=some ([.p (.bool (decide b.ok))],[]):=c59 X hX b.n b.d;by_cases a:b.ok
   . have i:=c62 X hX hB n.n n.d b.n b.d hd a;show(run tab X 62 [.p (eR n.n n.d),.p (eR b.n b.d)] []).bind _=_;rw[i,qOb];show(run tab X 59 [.p (eR b.n b.d)] []).bind _=_;rw[o,qOb];simp only[qLh,pv_p,toBool_bool,toInt_int,decide_eq_true a,qBt,qCf,GZ];by_cases j:n.n*b.d-b.n*n.d<0
     . rw[decide_eq_true j,qCt,if_pos (.inr j)];exact m n
     . rw[decide_eq_false j,qCf,if_neg (by rintro (h | h)<;>contradiction)];exact m b
   . have i:=TT X hX n.n n.d b.n b.d λh=>a h.2;show(run tab X 62 [.p (eR n.n n.d),.p (eR b.n b.d)] []).bind _=_;rw[i,qOb];show(run tab X 59 [.p (eR b.n b.d)] []).bind _=_;rw[o,qOb];simp only[qLh,pv_p,toBool_bool,decide_eq_false a,qBf,qCt];rw[if_pos (.inl a)];exact m n
include hE
theorem c32(f:Fen)(c:qW f)(p:V3):run tab X 32 [.p (encF f),.p (encV p)] []=some ([.p (lM (Au f p).1),.p (.int .i64 (Au f p).2)],[]):=
 run_of (hX _ rfl) (by
  have g:=c18 X hX f c;have d:=c40 X hX p;have h4:=c31 X hX f;have h5:=hE.e f c;have z:PV.agg [.bool false,.str ⟨#[]⟩,.bool false,.str ⟨#[]⟩]=lM ⟨0,0⟩:=zu.symm;rw[encF]at g h4;rw[encV]at d;rw[encF,encV,e32,g,qOb,z];simp only[qLh,pv_p,toBool_bool];unfold Au;cases a:validP f with
  | false=>rfl
  | true =>
   rw[qBt,qCf,d,qOb,if_pos rfl];simp only[qLh,pv_p,toBool_bool];cases h:inM 1048576 p with
   | false=>rfl
   | true =>
    rw[qBt,qCf,h4,qOb,if_pos rfl];show(run tab X 87 [.yld,.p (.ref (vT f))] [.log true []]).bind _=_;rw[h5,qOb];unfold mJ;rw[if_pos a];have k:=l32 X hX hB f p (rO.1 h) (dS f) ⟨0,0⟩ (xC a);have i:YL f p ⟨0,0⟩=kL (encL f.outer) (bI f.holes) f.low f.high p.x p.y p.z false ⟨#[]⟩ false ⟨#[]⟩ false ⟨#[]⟩ false ⟨#[]⟩:=by unfold YL;rw[show(0:Int).natAbs=0 from rfl,wH];rfl
    rw[i]at k;exact k)
end
end
end Go.Skm.Fen
