import Derived.Test.YtoheflpoanjihaaGreatG15
set_option linter.all false
namespace Go.Skm.Fen
open Go Go.Skm
section
structure Rt where
 n:Int
 d:Int
 deriving DecidableEq
abbrev Rt.ok(r:Rt):Prop:=okR r.n r.d
def mX(r:Rt):PV:=eR r.n r.d
def ru(r:Rt):Bool:=decide (8192<bl r.n.natAbs\/8192<bl r.d.natAbs)
def Kq(f:Fen)(x y z:Rt):Bool:=(decide (f.low*z.d<=z.n)&&decide (z.n<=f.high*z.d))&&GR f (x.n*y.d) (y.n*x.d) (x.d*y.d)
def Xa(f:Fen)(x y z:Rt):Bool × Int:=
 if x.ok/\y.ok/\z.ok then(if validP f then(if ru x||(ru y||ru z)then(false,7)else(Kq f x y z,0))else(false,2))else(false,2)
def Cm(a:Bool × Int):List AV:=[Ac a.1,Ab a.2]
def ML(f:Fen)(p:V3):Bool × Int:=if validP f then(if inM 1048576 p then(kJ f p,0)else(false,2))else(false,2)
theorem Oq{z:Int}{k:Nat}(h:bl z.natAbs<=k):Lt2 k z:=Nat.lt_of_lt_of_le (zF _) (Nat.pow_le_pow_right (by decide) h)
theorem Fz{r:Rt}(h:ru r=false):Lt2 8192 r.n/\Lt2 8192 r.d:=by
 have a:=of_decide_eq_false h;constructor
 . exact Oq (by omega)
 . exact Oq (by omega)
theorem PW(r:Rt):gtI (goMax ((bl r.n.natAbs:Nat):Int) ((bl r.d.natAbs:Nat):Int)) (8192:Int)=ru r:=by unfold ru goMax gtI;grind
theorem AU(z:Int):geI z.sign 0=decide (0<=z):=by simp
theorem AX(z:Int):leI z.sign 0=decide (z<=0):=by simp
theorem oJ{f:Fen}(h:validP f=true):Ul f/\f.holes.length<=16∧-1048576<=f.low/\f.high<=1048576/\f.low<=f.high:=by
 unfold validP Dx at h;simp only[qBa,qDa]at h;obtain⟨⟨e,d⟩,i,_⟩:=h;refine⟨⟨lU e,?_,by omega⟩,d⟩;have:∀(b all:List (List V3)),uF f.outer all b=true->∀ x∈b,Rd x:=by
  intro b;induction b with
  | nil=>intro _ _ x a;cases a
  | cons y r g =>
   intro all c x a;unfold uF Fv at c;simp only[qBa]at c;rcases List.mem_cons.1 a with rfl | a
   . exact lU c.1.1
   grind
 grind
abbrev S24(f:Fen)(x y z:Rt)(full:Bool)(i:Nat):St:=vP full 0 3 3 (i:Int) (encL f.outer) (bK f.holes) f.low f.high (decide (x.n<0)) (mQ x.n.natAbs) (decide (x.d<0)) (mQ x.d.natAbs) (decide (y.n<0)) (mQ y.n.natAbs) (decide (y.d<0)) (mQ y.d.natAbs) (decide (z.n<0)) (mQ z.n.natAbs) (decide (z.d<0)) (mQ z.d.natAbs) [mX x,mX y,mX z]
abbrev w24:List Wy:=[.lp [1,1,0,1,0]]
section
variable (X:Ext) (hX:Mine X)
include hX
theorem c20(f:Fen)(e:tY f)(p:V3):run tab X 20 [.p (encF f),.p (encV p)] []=some (Cm (ML f p),[]):=
 run_of (hX _ rfl) (by
  have b:=c18 X hX f e;have a:=c40 X hX p;rw[encF]at b;rw[encV]at a;rw[encF,encV,e20,b,qOb];simp only[qLh,pv_p,toBool_bool];unfold ML;cases c:validP f with
  | false=>rfl
  | true =>
   rw[qBt,qCf,a,qOb,if_pos rfl];simp only[qLh,pv_p,toBool_bool];cases d:inM 1048576 p with
   | false=>rfl
   | true =>have h4:=c55 X hX f (oJ c).1 p ((pJ.1 d).mono (by decide));rw[encF,encV]at h4;rw[qBt,qCf,h4,qOb,if_pos rfl];rfl)
variable (hB:Bits X)
include hB
theorem r24(f:Fen)(x y z:Rt)(a:Bool)(i:Nat)(k:i<3)(r:Rt)(j:[mX x,mX y,mX z].getD i .nil=mX r)
    (v:Bool × Int)(h:if r.ok then L tab (run tab X) 24 [] w24 (S24 f x y z (a||ru r) (i+1))=some (Cm v,[])else v=(false,2)):L tab (run tab X) 24 [] w24 (S24 f x y z a i)=some (Cm v,[]):=by
  have g:(leI (0:Int) ((i:Nat):Int)&&ltI ((i:Nat):Int) (((3:Nat)):Int))=true:=rng k;have e:ltI ((i:Nat):Int) (3:Int)=true:=rZ k;by_cases b:r.ok
  . rw[if_pos b]at h;refine L_of ?_;rw[BZ,e,qCt,g,qCt];simp only[qIt,qNz,j,dL (show i<=9000000000000000000 by omega)];have c:=c59 X hX r.n r.d;rw[decide_eq_true b]at c;show(run tab X 59 [.p (eR r.n r.d)] []).bind _=_;rw[c,qOb];simp only[qLh,pv_p,toBool_bool,qBt,qCf];cases a with
    | true=>rw[qCt];exact h
    | false =>rw[Bool.false_or]at h;rw[qCf];show(run tab X 60 [.p (eW r.n)] []).bind _=_;rw[c60 X hX hB r.n b.1,qOb];show(run tab X 60 [.p (eW r.d)] []).bind _=_;rw[c60 X hX hB r.d b.2.1,qOb];grind[qLh,pv_p,toInt_int,PW]
  . rw[if_neg b]at h;refine L_of ?_;rw[BZ,e,qCt,g,qCt];simp only[qIt,qNz,j];have c:=c59 X hX r.n r.d;rw[decide_eq_false b]at c;show(run tab X 59 [.p (eR r.n r.d)] []).bind _=_;rw[c,qOb,h];rfl
theorem Ye(f:Fen)(v:tY f)(x y z:Rt)(c:x.ok)(b:y.ok)(k:z.ok)(a:Bool)(hfull:a=(ru x ||(ru y || ru z))) :
    L tab (run tab X) 24 [] w24 (S24 f x y z a 3)=some (Cm (if validP f then(if a then(false,7)else(Kq f x y z,0))else(false,2)),[]):=by
  refine L_of ?_;have m:=c18 X hX f v;rw[encF]at m;rw[BZ,show ltI ((3:Nat):Int) 3=false from rfl,qCf,m,qOb];simp only[qLh,pv_p,toBool_bool];cases s:validP f with
  | false=>rfl
  | true =>
   rw[qBt,qCf,if_pos rfl];cases a with
   | true=>rfl
   | false =>
    obtain⟨w,F,t,u,_⟩:=oJ s;have l:ru x=false/\ru y=false/\ru z=false:=by grind
    obtain⟨r,g⟩:=Fz l.1;obtain⟨q,e⟩:=Fz l.2.1;have j:Lt2 20000 (x.n*y.d):=(r.mul e).mono (by omega);have i:Lt2 20000 (y.n*x.d):=(q.mul g).mono (by omega);have h:Lt2 20000 (x.d*y.d):=(g.mul e).mono (by omega);have hp:Sp (x.n*y.d) (y.n*x.d) (x.d*y.d):=⟨j,i,h,Int.mul_pos c.2.2 b.2.2⟩;have one:okR f.low 1/\okR f.high 1:=⟨⟨yu X hX hB (by omega) (by omega),yu X hX hB (by omega) (by omega),by omega⟩,yu X hX hB (by omega) (by omega),yu X hX hB (by omega) (by omega),by omega⟩;have E:=c62 X hX hB z.n z.d f.low 1 k one.1;have D:=c62 X hX hB z.n z.d f.high 1 k one.2;have C:=c63 X hX hB x.n x.d y.n y.d c.1 c.2.1 b.1 b.2.1 (j.okW (by omega)) (i.okW (by omega)) (h.okW (by omega));have o:=abR X hX hB f w (x.n*y.d) (y.n*x.d) (x.d*y.d) hp;rw[qCf,c61 X hX hB 1 (by omega) (by omega),qOb,c61 X hX hB f.low (by omega) (by omega),qOb];show(run tab X 62 [.p (eR z.n z.d),.p (eR f.low 1)] []).bind _=_;rw[E,qOb,c61 X hX hB f.high (by omega) (by omega),qOb];show(run tab X 62 [.p (eR z.n z.d),.p (eR f.high 1)] []).bind _=_;rw[D,qOb];show(run tab X 63 [.p pZ,.p (eR x.n x.d),.p (eR y.n y.d)] []).bind _=_;rw[C,qOb];simp only[qLh,pv_p,toInt_int,AU,AX];unfold Kq;have B:decide (0<=z.n*1-f.low*z.d)=decide (f.low*z.d<=z.n):=decide_eq_decide.2 (by omega);have A:decide (z.n*1-f.high*z.d<=0)=decide (z.n<=f.high*z.d):=decide_eq_decide.2 (by omega);rw[B,A];cases decide (f.low*z.d<=z.n)with
    | false=>rfl
    | true =>
     rw[qCt,Bool.true_and];cases decide (z.n<=f.high*z.d)with
     | false=>rfl
     | true =>rw[qCt,Bool.true_and];rw[encF]at o;show(run tab X 64 [_,.p (.fn 65 [pZ,.ref (J9 (x.n*y.d) (y.n*x.d) (x.d*y.d))])] []).bind _=_;rw[o,qOb];simp only[qLh,pv_p,toBool_bool];cases GR f (x.n*y.d) (y.n*x.d) (x.d*y.d)<;>rfl
theorem c24(f:Fen)(e:tY f)(x y z:Rt):run tab X 24 [.p (encF f),.p (mX x),.p (mX y),.p (mX z)] []=some (Cm (Xa f x y z),[]):=
 run_of (hX _ rfl) (by
  rw[encF,mX,mX,mX,eR,eR,eR,e24];show L tab (run tab X) 24 [] w24 (S24 f x y z false 0)=_;unfold Xa;refine r24 X hX hB f x y z false 0 (by omega) x rfl _ ?_;by_cases c:x.ok
  . rw[if_pos c];refine r24 X hX hB f x y z _ 1 (by omega) y rfl _ ?_;by_cases b:y.ok
    . rw[if_pos b];refine r24 X hX hB f x y z _ 2 (by omega) z rfl _ ?_;by_cases a:z.ok
      . rw[if_pos a,if_pos ⟨c,b,a⟩];have d:=Ye X hX hB f e x y z c b a (((false||ru x)||ru y)||ru z) (by rw[Bool.false_or,Bool.or_assoc]);grind
      grind
    grind
  grind)
end
end
section
def FB(n:Int):Int:=n*iY n
theorem Un(n:Int):FB n=(n.natAbs:Int):=by grind[FB,iY]
def zO:List (List V3)->Int
 |[]=>0
 | h::r=>FB (lg h)+zO r
def Yf(f:Fen):Int:=FB (lg f.outer)-zO f.holes
def IY(f:Fen):Int × Int:=if validP f then(Yf f,0)else(0,2)
theorem IZ{n m:Int}(h:-m<=n/\n<=m):0<=FB n/\FB n<=m:=by rw[Un];omega
theorem FC{l:List V3}(h:dO l=true):-1000000000000000<=lg l/\lg l<=1000000000000000:=by
 obtain⟨m,k,i⟩:=gX h;unfold lg;have c:∀ a:List jW,(∀ e∈a,iy e.1/\iy e.2)→-(2199023255552*(a.length:Int))<=yw a/\yw a<=2199023255552*(a.length:Int):=by
  intro a;induction a with
  | nil=>intro _;simp[yw]
  | cons e r g =>intro f;have b1:=g λj d=>f j (by simp[d]);have n:=Hw (f e (by simp));grind[yw,qLl,I4]
 have b:=c (dJ l) (yX i _);grind[jr]
theorem nT{f:Fen}(h:validP f=true):dO f.outer=true/\∀ x∈f.holes,dO x=true:=by
 unfold validP Dx at h;simp only[qBa,qDa]at h;obtain⟨⟨d,_⟩,g,_⟩:=h;refine⟨d,?_⟩;have:∀(a all:List (List V3)),uF f.outer all a=true->∀ x∈a,dO x=true:=by
  intro a;induction a with
  | nil=>intro _ _ x b;cases b
  | cons y r e =>intro all c x b;unfold uF Fv at c;grind
 grind
section
variable (X:Ext) (hX:Mine X)
include hX
theorem Kr{n:Int}(h:-1000000000000000<=n/\n<=1000000000000000):IntKind.i64.wrap (n*iY n)=FB n:=by have _:=hX;have:=IZ h;exact wrap_eq (by unfold FB at this;omega) (by unfold FB at this;omega)
theorem l16(c:List (List V3))(o:∀ h∈c,dO h=true)(g:c.length<=16):∀(r:List (List V3)) (i:Nat) (n:Int),c.drop i=r->i<=c.length→-((i:Int)*1000000000000000)<=n/\n<=1000000000000000 ->
    L tab (run tab X) 16 [] [.lp [1,1,1,0,1,0]] (wV n (bK c) ((c.length:Nat):Int) (i:Int))=some ([Ab (n-zO r),Ab 0],[]):=by
  intro r;induction r with
  | nil =>
   intro i n e m l;have a:i=c.length:=by have:=congrArg List.length e;grind
   refine L_of ?_;rw[EX,xO (by omega),qCf,zO,Int.sub_zero]
  | cons h r k =>
   intro i n e m l;have a:i<c.length:=by grind
   have f:gh c i=h:=by grind[qLb,List.head?_drop]
   have d:dO h=true:=o h (f▸vF a);obtain⟨p,s2,j⟩:=gX d;have b:=FC d;have s:=IZ b;have q:=c47 X hX h (by omega) j;refine L_of ?_;rw[EX,rZ a,qCt];simp only[bM,le0,rZ a,Bool.and_true,qCt,qIt,gY c a,f,dL (show i<=9000000000000000000 by omega)];show(run tab X 47 [Al (encL h)] []).bind _=_;rw[q,qOb];show(run tab X 47 [Al (encL h)] []).bind _=_;rw[q,qOb];simp only[qLh,pv_p,toInt_int];rw[c48 X hX,qOb];simp only[qLh,pv_p,toInt_int];rw[Kr X hX b,wrap_eq (by omega) (by omega),zO,show n-(FB (lg h)+zO r)=n-FB (lg h)-zO r from by omega];exact k (i+1) _ (by rw[<- List.tail_drop,e];rfl) (by omega) (by omega)
theorem c16(f:Fen)(i:tY f):run tab X 16 [.p (encF f)] []=some ([Ab (IY f).1,Ab (IY f).2],[]):=
 run_of (hX _ rfl) (by
  have d:=c18 X hX f i;rw[encF]at d;rw[encF,e16,d,qOb];simp only[qLh,pv_p,toBool_bool];unfold IY;cases c:validP f with
  | false=>rfl
  | true =>obtain⟨a,e⟩:=nT c;obtain⟨j,s2,g⟩:=gX a;have b:=FC a;have k:=IZ b;have h:=(oJ c).2.1;have q:=c47 X hX f.outer (by omega) g;rw[qBt,qCf,q,qOb,qOb];simp only[qLh,pv_p,toInt_int];rw[c48 X hX,qOb];simp only[qLh,pv_p,toInt_int,bM];rw[Kr X hX b,if_pos trivial];exact l16 X hX f.holes e h f.holes 0 _ rfl (by omega) (by omega))
theorem c31(f:Fen):run tab X 31 [.p (encF f)] []=some ([.p (.fn 87 [.ref [As (encL f.outer),Ap (bK f.holes),Av f.low,Av f.high]])],[]):=
 run_of (hX _ rfl) (by rw[encF,e31])
end
end
section
variable {a b p:V3}
theorem Kt(a:Int)(g:Nat):(a / (g:Int)).natAbs<=a.natAbs:=by
 rcases Nat.eq_zero_or_pos g with h | h
 . subst h;simp
 . rcases Int.le_total 0 a with c | c
   . obtain⟨n,rfl⟩:=Int.eq_ofNat_of_zero_le c;rw[show((n:Int) / (g:Int))=((n / g:Nat):Int) from rfl];exact Nat.div_le_self n g
   . have e:a*1 >= a*(g:Int):=Int.mul_le_mul_of_nonpos_left c (by omega);have d:=Int.le_ediv_of_mul_le (show(0:Int)<g by omega) (show a*(g:Int)<=a by omega);have h4:a / (g:Int)<=0:=Int.ediv_le_of_le_mul (by omega) (by omega);omega
theorem FD(a b:Int):(sV a b).natAbs<=a.natAbs:=by
 unfold sV;rw[Int.natAbs_mul];have c:b.sign.natAbs<=1:=by grind
 calc _<=1*(a / (Int.gcd a b:Int)).natAbs:=Nat.mul_le_mul_right _ c
  _<=_:=by rw[Nat.one_mul];exact Kt _ _
theorem FH(a b:Int):(rQ a b).natAbs<=b.natAbs:=by unfold rQ;have:=Kt ((b.natAbs:Nat):Int) (Int.gcd a b);grind
theorem rC{a b:Int}(h:b≠0):0<rQ a b:=by
 unfold rQ;have d:Int.gcd a b ∣ b.natAbs:=Int.gcd_dvd_natAbs_right ..;have c:0<b.natAbs:=by omega
 have e:0<Int.gcd a b:=Nat.pos_of_dvd_of_pos d c;have h4:=Nat.div_pos (Nat.le_of_dvd c d) e;omega
def low(a b:Int):Rt:=⟨sV a b,rQ a b⟩
theorem FK{a b:Int}(d:okW a)(c:okW b)(e:b≠0):(low a b).ok:=by
 refine⟨?_,?_,rC e⟩
 . exact Nat.le_trans (AQ (Nat.lt_of_le_of_lt (FD a b) (zF _))) d
 . exact Nat.le_trans (AQ (Nat.lt_of_le_of_lt (FH a b) (zF _))) c
theorem AY{a b:Int}(d:okW a)(c:okW b)(e:b≠0):D9 a b=[.p (mX (low a b)),Ab 0]:=by have h:=FK d c e;unfold D9;rw[if_pos ⟨h.1,h.2.1⟩];rfl
def pU(a b p:V3):Int:=(b.x-a.x)*(p.x-a.x)+(b.y-a.y)*(p.y-a.y)
def Ku(a b p:V3):Int:=(b.x-a.x)*(p.y-a.y)-(b.y-a.y)*(p.x-a.x)
def xq(a b:V3):Int:=pU a b b
def dist(a b p:V3):Rt:=
 if 0<pU a b p/\pU a b p<xq a b then low (Ku a b p*Ku a b p) (xq a b)else if xq a b<=pU a b p then low (xq b p) 1 else low (xq a p) 1
structure Ds (a b p:V3):Prop where
 dot:-35184372088832<=pU a b p/\pU a b p<=35184372088832
 crs:-35184372088832<=Ku a b p/\Ku a b p<=35184372088832
theorem lD{x y:Int}(d:-2097152<=x/\x<=2097152)(c:-2097152<=y/\y<=2097152):-4398046511104<=x*y/\x*y<=4398046511104:=by
 have h:(x*y).natAbs<=2097152*2097152:=by rw[Int.natAbs_mul];exact Nat.mul_le_mul (by omega) (by omega)
 omega
theorem jD(d:iy a)(c:iy b):(-2097152<=b.x-a.x/\b.x-a.x<=2097152)/\(-2097152<=b.y-a.y/\b.y-a.y<=2097152):=by obtain⟨g,f,_⟩:=d;obtain⟨b1,e,_⟩:=c;omega
theorem ds(e:iy a)(f:iy b)(hp:iy p):Ds a b p:=by obtain⟨d,y1⟩:=jD e f;obtain⟨c,y2⟩:=jD e hp;have j:=lD d c;have i:=lD y1 y2;have h:=lD d y2;have g:=lD y1 c;constructor;all_goals grind[pU,Ku]
theorem sq_bd(x:Int):(0:Int)<=x*x:=by
 rcases Int.le_total 0 x with h | h
 . exact Int.mul_nonneg h h
 . exact Int.mul_nonneg_of_nonpos_of_nonpos h h
theorem xu(c:iy a)(f:iy b)(hp:iy p):IntKind.i64.wrap ((IntKind.i64.wrap ((IntKind.i64.wrap (b.x-a.x))*(IntKind.i64.wrap (p.x-a.x))))+(IntKind.i64.wrap ((IntKind.i64.wrap (b.y-a.y))*(IntKind.i64.wrap (p.y-a.y)))))=pU a b p:=by obtain⟨e,y1⟩:=jD c f;obtain⟨d,y2⟩:=jD c hp;have h:=lD e d;have g:=lD y1 y2;rw[wrap_eq (x:=b.x-a.x) (by omega) (by omega),wrap_eq (x:=p.x-a.x) (by omega) (by omega),wrap_eq (x:=b.y-a.y) (by omega) (by omega),wrap_eq (x:=p.y-a.y) (by omega) (by omega),wrap_eq (x:=(b.x-a.x)*_) (by omega) (by omega),wrap_eq (x:=(b.y-a.y)*_) (by omega) (by omega),wrap_eq (by omega) (by omega)];rfl
theorem Uo(c:iy a)(f:iy b)(hp:iy p):IntKind.i64.wrap ((IntKind.i64.wrap ((IntKind.i64.wrap (b.x-a.x))*(IntKind.i64.wrap (p.y-a.y))))-(IntKind.i64.wrap ((IntKind.i64.wrap (b.y-a.y))*(IntKind.i64.wrap (p.x-a.x)))))=Ku a b p:=by obtain⟨e,y1⟩:=jD c f;obtain⟨d,y2⟩:=jD c hp;have h:=lD e y2;have g:=lD y1 d;rw[wrap_eq (x:=b.x-a.x) (by omega) (by omega),wrap_eq (x:=p.x-a.x) (by omega) (by omega),wrap_eq (x:=b.y-a.y) (by omega) (by omega),wrap_eq (x:=p.y-a.y) (by omega) (by omega),wrap_eq (x:=(b.x-a.x)*_) (by omega) (by omega),wrap_eq (x:=(b.y-a.y)*_) (by omega) (by omega),wrap_eq (by omega) (by omega)];rfl
theorem FM{n:Int}(h:-35184372088832<=n/\n<=35184372088832):okW n/\okW (n*n):=by have c:Lt2 46 n:=tJ (n:=35184372088832) (by omega) (by decide);exact⟨c.okW (by omega),(c.mul c).okW (by omega)⟩
theorem I5(d:iy a)(c:iy b)(hp:iy p):(dist a b p).ok:=by
 have e:=ds d c hp;have one:okW 1:=qw (by decide);unfold dist;split
 . next h=>exact FK (FM e.crs).2 (FM (ds d c c).dot).1 (by omega)
 . split
   . exact FK (FM (ds c hp hp).dot).1 one (by decide)
   . exact FK (FM (ds d hp hp).dot).1 one (by decide)
theorem Hy(r:Rt):PV.agg [.bool (((mX r).cell 0).toBool),.str (((mX r).cell 1).toStr),.bool (((mX r).cell 2).toBool),.str (((mX r).cell 3).toStr)]=mX r:=rfl
section
variable (X:Ext) (hX:Mine X) (hB:Bits X)
include hX hB
theorem Yg(a b:Int)(d:okW a)(c:okW b)(e:b≠0):run tab X 143 [.p (eW a),.p (eW b)] []=some ([.p (mX (low a b)),Ab 0],[]):=by rw[c143 X hX hB a b d c e,AY d c e]
theorem Rn(a b:Int)(d:-9223372036854775808<=a/\a<=9223372036854775807)(c:-9223372036854775808<=b/\b<=9223372036854775807)(e:b≠0):run tab X 134 [Ab a,Ab b] []=some ([.p (mX (low a b)),Ab 0],[]):=by rw[abT X hX hB a b d c e,AY (yu X hX hB d.1 d.2) (yu X hX hB c.1 c.2) e]
theorem c90(a b p:V3)(d:iy a)(c:iy b)(hp:iy p):run tab X 90 [.p (encV a),.p (encV b),.p (encV p)] []=some ([.p (mX (dist a b p))],[]):=
 run_of (hX _ rfl) (by
  have f:=ds d c hp;have q:=ds d c c;have o:=ds c hp hp;have n:=ds d hp hp;have k:=Rn X hX hB (xq b p) 1 (by have:=o.dot;unfold xq;omega) (by omega) (by decide);have j:=Rn X hX hB (xq a p) 1 (by have:=n.dot;unfold xq;omega) (by omega) (by decide);have r:∀ v:V3,IntKind.i64.wrap v.x=IntKind.i64.wrap v.x:=λ_=>rfl;rw[encV,encV,encV,e90,xu d c hp,xu d c c,xu c hp hp,xu d hp hp,Uo d c hp];rw[show pU a b b=xq a b from rfl,show pU b p p=xq b p from rfl,show pU a p p=xq a p from rfl,k,j];have i:=q.dot;rw[show pU a b b=xq a b from rfl]at i;simp only[qOb,qLh,pv_p,Hy];unfold dist;by_cases h:0<pU a b p
  . rw[show gtI (pU a b p) 0=true from decide_eq_true h,qCt];by_cases g:pU a b p<xq a b
    . have e:=FM f.crs;have l:=FM i;have m:=c138 X hX hB (Ku a b p) (Ku a b p) e.1 e.1;rw[yt,if_pos e.2]at m;rw[show ltI (pU a b p) (xq a b)=true from decide_eq_true g,qCt,if_pos ⟨h,g⟩];rw[c61 X hX hB _ (by have:=f.crs;omega) (by have:=f.crs;omega),qOb];simp only[qLh,pv_p,iV];rw[m,qOb,c61 X hX hB _ (by omega) (by omega),qOb];simp only[qLh,pv_p,iV];rw[Yg X hX hB _ _ e.2 l.1 (by omega)];rfl
    grind
  grind)
end
end
section
variable {l:List V3}{v:V3}{b:Bool}{f:Fen}
def wo(l:List V3):List V3:=gt l 0::l.tail.reverse
def orient(first:Bool)(l:List V3):List V3:=if decide (0<lg l)==first then l else wo l
def zN(hs:List (List V3)):List jW:=hs.flatMap λh=>dJ (orient false h)
def dS(f:Fen):List jW:=dJ (orient true f.outer)++zN f.holes
def nO(f:Fen):List jW:=if validP f then dS f else []
abbrev xX(f:Fen):List PV:=[As (encL f.outer),Ap (bK f.holes),Av f.low,Av f.high]
structure EH (X:Ext):Prop where
 e:∀ f:Fen,tY f->run tab X 87 [.yld,.p (.ref (xX f))] [.log true []]=some ([],[.log true ((nO f).map eY)])
theorem PX(h:v∈wo l)(c:0<l.length):v∈l:=by
 cases l with
 | nil=>simp at c
 | cons a r =>
  unfold wo at h;rcases List.mem_cons.1 h with rfl | h
  . simp[gt]
  . rw[List.tail_cons,List.mem_reverse]at h;exact List.mem_cons_of_mem _ h
theorem Hz(a:0<l.length):(wo l).length=l.length:=by unfold wo;rw[qLl,List.length_reverse,List.length_tail];omega
theorem MN(h:v∈orient b l)(a:0<l.length):v∈l:=by
 unfold orient at h;split at h
 . exact h
 . exact PX h a
theorem FN(a:0<l.length):(orient b l).length=l.length:=by
 unfold orient;split
 . rfl
 . exact Hz a
theorem mD(h:dO l=true):(orient b l).all (inM 1048576)=true/\(orient b l).length=l.length:=by obtain⟨e,d,c⟩:=gX h;refine⟨List.all_eq_true.2 λv a=>List.all_eq_true.1 c v (MN a (by omega)),FN (by omega)⟩
theorem tK(h:validP f=true):∀ e∈dS f,iy e.1/\iy e.2:=by
 obtain⟨g,d⟩:=nT h;intro e a;rcases List.mem_append.1 a with a | a
 . exact yX (mD g).1 _ e a
 . obtain⟨x,c,a⟩:=List.mem_flatMap.1 a;exact yX (mD (d x c)).1 _ e a
theorem FP(h:validP f=true):(dS f).length<=2000:=by
 obtain⟨i,m⟩:=nT h;have n:=(oJ h).2.1;have e:∀ d:List (List V3),(∀ x∈d,dO x=true)->(zN d).length<=64*d.length:=by
  intro d;induction d with
  | nil=>intro _;simp[zN]
  | cons x r j =>intro g;have a:=j λy k=>g y (by simp[k]);have b:=(mD (b:=false) (g x (by simp))).2;have c:=(gX (g x (by simp))).2.1;unfold zN at a ⊢;rw[List.flatMap_cons,qLp,jr,qLl];omega
 have a:=e f.holes m;have b:=(mD (b:=true) i).2;have c:=(gX i).2.1;unfold dS;rw[qLp,jr];omega
def Dy(p:V3):Rt->List jW->Rt
 | b,[]=>b
 | b,e::r=>Dy p (if ¬ b.ok\/(dist e.1 e.2 p).n*b.d-b.n*(dist e.1 e.2 p).d<0 then dist e.1 e.2 p else b) r
def FQ(f:Fen)(p:V3):Rt × Int:=if validP f then(if inM 1048576 p then(Dy p ⟨0,0⟩ (dS f),0)else(⟨0,0⟩,2))else(⟨0,0⟩,2)
theorem Eh(z:Int):ltI z.sign 0=decide (z<0):=by
 rcases Int.lt_trichotomy z 0 with h | h | h
 . rw[Int.sign_eq_neg_one_of_neg h,decide_eq_true (by omega)];rfl
 . subst h;rfl
 . rw[Int.sign_eq_one_of_pos h,decide_eq_false (by omega)];rfl
section
variable (X:Ext) (hX:Mine X)
include hX
theorem VZ(a b c d:Int)(h:¬(okR a b/\okR c d)):run tab X 62 [.p (eR a b),.p (eR c d)] []=some ([Ab 0,Ab 2],[]):=
 run_of (hX _ rfl) (by have e:=Us X hX a b c d;rw[eR,eR]at e;rw[<- Bool.decide_and,decide_eq_false h]at e;rw[eR,eR,e62,e];rfl)
variable (hB:Bits X) (hE:EH X)
include hB
abbrev S32(f:Fen)(p:V3)(b:Rt):St:=lM (encL f.outer) (bK f.holes) f.low f.high p.x p.y p.z false ⟨#[]⟩ false ⟨#[]⟩ (decide (b.n<0)) (mQ b.n.natAbs) (decide (b.d<0)) (mQ b.d.natAbs)
abbrev w32(ys:List PV):List Wy:=[.rg [1,1,1,0,1,0] [(true,kV3),(true,kV3)] ys]
theorem l32(f:Fen)(p:V3)(hp:iy p):∀(g:List jW) (b:Rt),(∀ e∈g,iy e.1/\iy e.2) ->
    L tab (run tab X) 32 [] (w32 (g.map eY)) (S32 f p b)=some ([.p (mX (Dy p b g)),Ab 0],[]):=by
  intro g;induction g with
  | nil =>intro b _;rw[List.map_nil,EY];rfl
  | cons e r u =>
   intro b c;obtain⟨t,s⟩:=c e (by simp);have q:=c90 X hX hB e.1 e.2 p t s hp;have hd:=I5 t s hp;simp only[encV]at q;have m:=λA=>u A λw k=>c w (by simp[k]);rw[List.map_cons,Dy];show L tab (run tab X) 32 [] (w32 (.agg [.agg [Av e.1.x,Av e.1.y,Av e.1.z],.agg [Av e.2.x,Av e.2.y,Av e.2.z]]::r.map eY)) (S32 f p b)=_;rw[DY,q,qOb];generalize B:dist e.1 e.2 p=n at *;have o:run tab X 59 [.p (eR b.n b.d)] []=some ([Ac (decide b.ok)],[]):=c59 X hX b.n b.d;by_cases a:b.ok
   . have i:=c62 X hX hB n.n n.d b.n b.d hd a;show(run tab X 62 [.p (eR n.n n.d),.p (eR b.n b.d)] []).bind _=_;rw[i,qOb];show(run tab X 59 [.p (eR b.n b.d)] []).bind _=_;rw[o,qOb];simp only[qLh,pv_p,toBool_bool,toInt_int,decide_eq_true a,qBt,qCf,Eh];by_cases j:n.n*b.d-b.n*n.d<0
     . rw[decide_eq_true j,qCt,if_pos (.inr j)];exact m n
     . rw[decide_eq_false j,qCf,if_neg (by rintro (h | h)<;>contradiction)];exact m b
   . have i:=VZ X hX n.n n.d b.n b.d λh=>a h.2;show(run tab X 62 [.p (eR n.n n.d),.p (eR b.n b.d)] []).bind _=_;rw[i,qOb];show(run tab X 59 [.p (eR b.n b.d)] []).bind _=_;rw[o,qOb];simp only[qLh,pv_p,toBool_bool,decide_eq_false a,Bool.not_false,qCt];rw[if_pos (.inl a)];exact m n
include hE
theorem c32(f:Fen)(c:tY f)(p:V3):run tab X 32 [.p (encF f),.p (encV p)] []=some ([.p (mX (FQ f p).1),Ab (FQ f p).2],[]):=
 run_of (hX _ rfl) (by
  have g:=c18 X hX f c;have d:=c40 X hX p;have h4:=c31 X hX f;have h5:=hE.e f c;have z:PV.agg [.bool false,.str ⟨#[]⟩,.bool false,.str ⟨#[]⟩]=mX ⟨0,0⟩:=I7.symm;rw[encF]at g h4;rw[encV]at d;rw[encF,encV,e32,g,qOb,z];simp only[qLh,pv_p,toBool_bool];unfold FQ;cases a:validP f with
  | false=>rfl
  | true =>
   rw[qBt,qCf,d,qOb,if_pos rfl];simp only[qLh,pv_p,toBool_bool];cases h:inM 1048576 p with
   | false=>rfl
   | true =>
    rw[qBt,qCf,h4,qOb,if_pos rfl];show(run tab X 87 [.yld,.p (.ref (xX f))] [.log true []]).bind _=_;rw[h5,qOb];unfold nO;rw[if_pos a];have k:=l32 X hX hB f p (pJ.1 h) (dS f) ⟨0,0⟩ (tK a);have i:S32 f p ⟨0,0⟩=lM (encL f.outer) (bK f.holes) f.low f.high p.x p.y p.z false ⟨#[]⟩ false ⟨#[]⟩ false ⟨#[]⟩ false ⟨#[]⟩:=by unfold S32;rw[show(0:Int).natAbs=0 from rfl,yx];rfl
    rw[i]at k;exact k)
end
end
end Go.Skm.Fen
