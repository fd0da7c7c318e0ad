import Derived.Test.YtoheflpoanjihaaGreatG15
set_option linter.all false
namespace Go.Skm.Fen
open Go Go.Skm
section
structure Rt where
 n:Int
 d:Int
 deriving DecidableEq
abbrev Rt.ok(r:Rt):Prop:=okR r.n r.d
def uG(r:Rt):PV:=eR r.n r.d
def yA(r:Rt):Bool:=decide (8192<bl r.n.natAbs\/8192<bl r.d.natAbs)
def Vq(f:Fen)(x y z:Rt):Bool:=(decide (f.low*z.d<=z.n)&&decide (z.n<=f.high*z.d))&&XT f (x.n*y.d) (y.n*x.d) (x.d*y.d)
def atP(f:Fen)(x y z:Rt):Bool × Int:=
 if x.ok/\y.ok/\z.ok then(if eX f then(if yA x||(yA y||yA z)then(false,7)else(Vq f x y z,0))else(false,2))else(false,2)
def ND(a:Bool × Int):List AV:=[Ac a.1,Ab a.2]
def QO(f:Fen)(p:V3):Bool × Int:=if eX f then(if rF 1048576 p then(kK f p,0)else(false,2))else(false,2)
theorem afF{z:Int}{k:Nat}(h:bl z.natAbs<=k):Lt2 k z:=Nat.lt_of_lt_of_le (MR _) (Nat.pow_le_pow_right (by decide) h)
theorem Vs{r:Rt}(h:yA r=false):Lt2 8192 r.n/\Lt2 8192 r.d:=by
 have a:=of_decide_eq_false h;constructor
 . exact afF (by omega)
 . exact afF (by omega)
theorem ag1(r:Rt):mg (sW ((bl r.n.natAbs:Nat):Int) ((bl r.d.natAbs:Nat):Int)) (8192:Int)=yA r:=by unfold yA sW mg;grind
theorem afG(z:Int):BJ z.sign 0=decide (0<=z):=by simp
theorem afH(z:Int):leI z.sign 0=decide (z<=0):=by simp
theorem Dl{f:Fen}(h:eX f=true):RdF f/\f.holes.length<=16∧-1048576<=f.low/\f.high<=1048576/\f.low<=f.high:=by
 unfold eX Jz at h;simp only[qBa,qDa]at h;obtain⟨⟨e,d⟩,i,_⟩:=h;refine⟨⟨uf e,?_,by omega⟩,d⟩;have:∀(b all:List (List V3)),rZ f.outer all b=true->∀ x∈b,Rd x:=by
  intro b;induction b with
  | nil=>intro _ _ x a;cases a
  | cons y r g =>
   intro all c x a;unfold rZ Jy at c;simp only[qBa]at c;rcases List.mem_cons.1 a with rfl | a
   . exact uf c.1.1
   grind
 grind
abbrev S24(f:Fen)(x y z:Rt)(full:Bool)(i:Nat):St:=Gl full 0 3 3 (i:Int) (bT f.outer) (dG f.holes) f.low f.high (decide (x.n<0)) (vk x.n.natAbs) (decide (x.d<0)) (vk x.d.natAbs) (decide (y.n<0)) (vk y.n.natAbs) (decide (y.d<0)) (vk y.d.natAbs) (decide (z.n<0)) (vk z.n.natAbs) (decide (z.d<0)) (vk z.d.natAbs) [uG x,uG y,uG z]
abbrev w24:List Wy:=[.lp [1,1,0,1,0]]
section
variable (X:Ext) (hX:Mine X)
include hX
theorem c20(f:Fen)(e:sS f)(p:V3):run tab X 20 [.p (kZ f),.p (cO p)] []=some (ND (QO f p),[]):=
 aY (hX _ rfl) (by
  have b:=c18 X hX f e;have a:=c40 X hX p;rw[kZ]at b;rw[cO]at a;rw[kZ,cO,e20,b,qOb];simp only[qLh,bV,bf];unfold QO;cases c:eX f with
  | false=>rfl
  | true =>
   rw[qBt,qCf,a,qOb,if_pos rfl];simp only[qLh,bV,bf];cases d:rF 1048576 p with
   | false=>rfl
   | true =>have h4:=c55 X hX f (Dl c).1 p ((ug.1 d).mono (by decide));rw[kZ,cO]at h4;rw[qBt,qCf,h4,qOb,if_pos rfl];rfl)
variable (hB:Bits X)
include hB
theorem r24(f:Fen)(x y z:Rt)(a:Bool)(i:Nat)(k:i<3)(r:Rt)(j:[uG x,uG y,uG z].getD i .nil=uG r)
    (v:Bool × Int)(h:if r.ok then L tab (run tab X) 24 [] w24 (S24 f x y z (a||yA r) (i+1))=some (ND v,[])else v=(false,2)):L tab (run tab X) 24 [] w24 (S24 f x y z a i)=some (ND v,[]):=by
  have g:(leI (0:Int) ((i:Nat):Int)&&cu ((i:Nat):Int) (((3:Nat)):Int))=true:=rng k;have e:cu ((i:Nat):Int) (3:Int)=true:=F6 k;by_cases b:r.ok
  . rw[if_pos b]at h;refine dU ?_;rw[QF,e,qCt,g,qCt];simp only[qIt,qNz,j,kG (show i<=9000000000000000000 by omega)];have c:=c59 X hX r.n r.d;rw[decide_eq_true b]at c;show(run tab X 59 [.p (eR r.n r.d)] []).bind _=_;rw[c,qOb];simp only[qLh,bV,bf,qBt,qCf];cases a with
    | true=>rw[qCt];exact h
    | false =>rw[Bool.false_or]at h;rw[qCf];show(run tab X 60 [.p (eW r.n)] []).bind _=_;rw[c60 X hX hB r.n b.1,qOb];show(run tab X 60 [.p (eW r.d)] []).bind _=_;rw[c60 X hX hB r.d b.2.1,qOb];grind[qLh,bV,toInt_int,ag1]
  . rw[if_neg b]at h;refine dU ?_;rw[QF,e,qCt,g,qCt];simp only[qIt,qNz,j];have c:=c59 X hX r.n r.d;rw[decide_eq_false b]at c;show(run tab X 59 [.p (eR r.n r.d)] []).bind _=_;rw[c,qOb,h];rfl
theorem apF(f:Fen)(v:sS f)(x y z:Rt)(c:x.ok)(b:y.ok)(k:z.ok)(a:Bool)(hfull:a=(yA x ||(yA y || yA z))) :
    L tab (run tab X) 24 [] w24 (S24 f x y z a 3)=some (ND (if eX f then(if a then(false,7)else(Vq f x y z,0))else(false,2)),[]):=by
  refine dU ?_;have m:=c18 X hX f v;rw[kZ]at m;rw[QF,show cu ((3:Nat):Int) 3=false from rfl,qCf,m,qOb];simp only[qLh,bV,bf];cases s:eX f with
  | false=>rfl
  | true =>
   rw[qBt,qCf,if_pos rfl];cases a with
   | true=>rfl
   | false =>
    obtain⟨w,F,t,u,_⟩:=Dl s;have l:yA x=false/\yA y=false/\yA z=false:=by grind
    obtain⟨r,g⟩:=Vs l.1;obtain⟨q,e⟩:=Vs l.2.1;have j:Lt2 20000 (x.n*y.d):=(r.mul e).mono (by omega);have i:Lt2 20000 (y.n*x.d):=(q.mul g).mono (by omega);have h:Lt2 20000 (x.d*y.d):=(g.mul e).mono (by omega);have hp:Sp (x.n*y.d) (y.n*x.d) (x.d*y.d):=⟨j,i,h,Int.mul_pos c.2.2 b.2.2⟩;have one:okR f.low 1/\okR f.high 1:=⟨⟨JF X hX hB (by omega) (by omega),JF X hX hB (by omega) (by omega),by omega⟩,JF X hX hB (by omega) (by omega),JF X hX hB (by omega) (by omega),by omega⟩;have E:=c62 X hX hB z.n z.d f.low 1 k one.1;have D:=c62 X hX hB z.n z.d f.high 1 k one.2;have C:=c63 X hX hB x.n x.d y.n y.d c.1 c.2.1 b.1 b.2.1 (j.okW (by omega)) (i.okW (by omega)) (h.okW (by omega));have o:=auQ X hX hB f w (x.n*y.d) (y.n*x.d) (x.d*y.d) hp;rw[qCf,c61 X hX hB 1 (by omega) (by omega),qOb,c61 X hX hB f.low (by omega) (by omega),qOb];show(run tab X 62 [.p (eR z.n z.d),.p (eR f.low 1)] []).bind _=_;rw[E,qOb,c61 X hX hB f.high (by omega) (by omega),qOb];show(run tab X 62 [.p (eR z.n z.d),.p (eR f.high 1)] []).bind _=_;rw[D,qOb];show(run tab X 63 [.p pZ,.p (eR x.n x.d),.p (eR y.n y.d)] []).bind _=_;rw[C,qOb];simp only[qLh,bV,toInt_int,afG,afH];unfold Vq;have B:decide (0<=z.n*1-f.low*z.d)=decide (f.low*z.d<=z.n):=decide_eq_decide.2 (by omega);have A:decide (z.n*1-f.high*z.d<=0)=decide (z.n<=f.high*z.d):=decide_eq_decide.2 (by omega);rw[B,A];cases decide (f.low*z.d<=z.n)with
    | false=>rfl
    | true =>
     rw[qCt,Bool.true_and];cases decide (z.n<=f.high*z.d)with
     | false=>rfl
     | true =>rw[qCt,Bool.true_and];rw[kZ]at o;show(run tab X 64 [_,.p (.fn 65 [pZ,.ref (spC (x.n*y.d) (y.n*x.d) (x.d*y.d))])] []).bind _=_;rw[o,qOb];simp only[qLh,bV,bf];cases XT f (x.n*y.d) (y.n*x.d) (x.d*y.d)<;>rfl
theorem c24(f:Fen)(e:sS f)(x y z:Rt):run tab X 24 [.p (kZ f),.p (uG x),.p (uG y),.p (uG z)] []=some (ND (atP f x y z),[]):=
 aY (hX _ rfl) (by
  rw[kZ,uG,uG,uG,eR,eR,eR,e24];show L tab (run tab X) 24 [] w24 (S24 f x y z false 0)=_;unfold atP;refine r24 X hX hB f x y z false 0 (by omega) x rfl _ ?_;by_cases c:x.ok
  . rw[if_pos c];refine r24 X hX hB f x y z _ 1 (by omega) y rfl _ ?_;by_cases b:y.ok
    . rw[if_pos b];refine r24 X hX hB f x y z _ 2 (by omega) z rfl _ ?_;by_cases a:z.ok
      . rw[if_pos a,if_pos ⟨c,b,a⟩];have d:=apF X hX hB f e x y z c b a (((false||yA x)||yA y)||yA z) (by rw[Bool.false_or,Bool.or_assoc]);grind
      grind
    grind
  grind)
end
end
section
def JG(n:Int):Int:=n*nG n
theorem Uk(n:Int):JG n=(n.natAbs:Int):=by grind[JG,nG]
def yC:List (List V3)->Int
 |[]=>0
 | h::r=>JG (lX h)+yC r
def BQ(f:Fen):Int:=JG (lX f.outer)-yC f.holes
def JH(f:Fen):Int × Int:=if eX f then(BQ f,0)else(0,2)
theorem ZR{n m:Int}(h:-m<=n/\n<=m):0<=JG n/\JG n<=m:=by rw[Uk];omega
theorem Vt{l:List V3}(h:gG l=true):-1000000000000000<=lX l/\lX l<=1000000000000000:=by
 obtain⟨m,k,i⟩:=ig h;unfold lX;have c:∀ a:List pG,(∀ e∈a,qY e.1/\qY e.2)→-(2199023255552*(a.length:Int))<=BA a/\BA a<=2199023255552*(a.length:Int):=by
  intro a;induction a with
  | nil=>intro _;simp[BA]
  | cons e r g =>intro f;have b1:=g λj d=>f j (by simp[d]);have n:=Yx (f e (by simp));grind[BA,qLl,QS]
 have b:=c (fH l) (Lj i _);grind[qA]
theorem mM{f:Fen}(h:eX f=true):gG f.outer=true/\∀ x∈f.holes,gG x=true:=by
 unfold eX Jz at h;simp only[qBa,qDa]at h;obtain⟨⟨d,_⟩,g,_⟩:=h;refine⟨d,?_⟩;have:∀(a all:List (List V3)),rZ f.outer all a=true->∀ x∈a,gG x=true:=by
  intro a;induction a with
  | nil=>intro _ _ x b;cases b
  | cons y r e =>intro all c x b;unfold rZ Jy at c;grind
 grind
section
variable (X:Ext) (hX:Mine X)
include hX
theorem abO{n:Int}(h:-1000000000000000<=n/\n<=1000000000000000):IntKind.i64.wrap (n*nG n)=JG n:=by have _:=hX;have:=ZR h;exact wrap_eq (by unfold JG at this;omega) (by unfold JG at this;omega)
theorem l16(c:List (List V3))(o:∀ h∈c,gG h=true)(g:c.length<=16):∀(r:List (List V3)) (i:Nat) (n:Int),c.drop i=r->i<=c.length→-((i:Int)*1000000000000000)<=n/\n<=1000000000000000 ->
    L tab (run tab X) 16 [] [.lp [1,1,1,0,1,0]] (H6 n (dG c) ((c.length:Nat):Int) (i:Int))=some ([Ab (n-yC r),Ab 0],[]):=by
  intro r;induction r with
  | nil =>
   intro i n e m l;have a:i=c.length:=by have:=congrArg List.length e;grind
   refine dU ?_;rw[U8,O3 (by omega),qCf,yC,Int.sub_zero]
  | cons h r k =>
   intro i n e m l;have a:i<c.length:=by grind
   have f:gh c i=h:=by grind[qLb,List.head?_drop]
   have d:gG h=true:=o h (f▸DX a);obtain⟨s,s2,j⟩:=ig d;have b:=Vt d;have t:=ZR b;have q:=c47 X hX h (by omega) j;refine dU ?_;rw[U8,F6 a,qCt];simp only[dL,le0,F6 a,Bool.and_true,qCt,qIt,kX c a,f,kG (show i<=9000000000000000000 by omega)];show(run tab X 47 [.p (.list true aU (bT h))] []).bind _=_;rw[q,qOb];show(run tab X 47 [.p (.list true aU (bT h))] []).bind _=_;rw[q,qOb];simp only[qLh,bV,toInt_int];rw[c48 X hX,qOb];simp only[qLh,bV,toInt_int];rw[abO X hX b,wrap_eq (by omega) (by omega),yC,show n-(JG (lX h)+yC r)=n-JG (lX h)-yC r from by omega];exact k (i+1) _ (by rw[<- List.tail_drop,e];rfl) (by omega) (by omega)
theorem c16(f:Fen)(i:sS f):run tab X 16 [.p (kZ f)] []=some ([Ab (JH f).1,Ab (JH f).2],[]):=
 aY (hX _ rfl) (by
  have d:=c18 X hX f i;rw[kZ]at d;rw[kZ,e16,d,qOb];simp only[qLh,bV,bf];unfold JH;cases c:eX f with
  | false=>rfl
  | true =>obtain⟨a,e⟩:=mM c;obtain⟨j,s2,g⟩:=ig a;have b:=Vt a;have k:=ZR b;have h:=(Dl c).2.1;have q:=c47 X hX f.outer (by omega) g;rw[qBt,qCf,q,qOb,qOb];simp only[qLh,bV,toInt_int];rw[c48 X hX,qOb];simp only[qLh,bV,toInt_int,dL];rw[abO X hX b,if_pos trivial];exact l16 X hX f.holes e h f.holes 0 _ rfl (by omega) (by omega))
theorem c31(f:Fen):run tab X 31 [.p (kZ f)] []=some ([.p (.fn 87 [.ref [.list true aU (bT f.outer),.list false [.slice true aU] (dG f.holes),Ap f.low,Ap f.high]])],[]):=
 aY (hX _ rfl) (by rw[kZ,e31])
end
end
section
variable {a b p:V3}
theorem abP(a:Int)(g:Nat):(a / (g:Int)).natAbs<=a.natAbs:=by
 rcases Nat.eq_zero_or_pos g with h | h
 . subst h;simp
 . rcases Int.le_total 0 a with c | c
   . obtain⟨n,rfl⟩:=Int.eq_ofNat_of_zero_le c;rw[show((n:Int) / (g:Int))=((n / g:Nat):Int) from rfl];exact Nat.div_le_self n g
   . have e:a*1 >= a*(g:Int):=Int.mul_le_mul_of_nonpos_left c (by omega);have d:=Int.le_ediv_of_mul_le (show(0:Int)<g by omega) (show a*(g:Int)<=a by omega);have h4:a / (g:Int)<=0:=Int.ediv_le_of_le_mul (by omega) (by omega);omega
theorem Vu(a b:Int):(D5 a b).natAbs<=a.natAbs:=by
 unfold D5;rw[Int.natAbs_mul];have c:b.sign.natAbs<=1:=by grind
 calc _<=1*(a / (Int.gcd a b:Int)).natAbs:=Nat.mul_le_mul_right _ c
  _<=_:=by rw[Nat.one_mul];exact abP _ _
theorem Vw(a b:Int):(D6 a b).natAbs<=b.natAbs:=by unfold D6;have:=abP ((b.natAbs:Nat):Int) (Int.gcd a b);grind
theorem yD{a b:Int}(h:b≠0):0<D6 a b:=by
 unfold D6;have d:Int.gcd a b ∣ b.natAbs:=Int.gcd_dvd_natAbs_right ..;have c:0<b.natAbs:=by omega
 have e:0<Int.gcd a b:=Nat.pos_of_dvd_of_pos d c;have h4:=Nat.div_pos (Nat.le_of_dvd c d) e;omega
def low(a b:Int):Rt:=⟨D5 a b,D6 a b⟩
theorem Vx{a b:Int}(d:okW a)(c:okW b)(e:b≠0):(low a b).ok:=by
 refine⟨?_,?_,yD e⟩
 . exact Nat.le_trans (JC (Nat.lt_of_le_of_lt (Vu a b) (MR _))) d
 . exact Nat.le_trans (JC (Nat.lt_of_le_of_lt (Vw a b) (MR _))) c
theorem Pg{a b:Int}(d:okW a)(c:okW b)(e:b≠0):TV a b=[.p (uG (low a b)),Ab 0]:=by have h:=Vx d c e;unfold TV;rw[if_pos ⟨h.1,h.2.1⟩];rfl
def yQ(a b p:V3):Int:=(b.x-a.x)*(p.x-a.x)+(b.y-a.y)*(p.y-a.y)
def abQ(a b p:V3):Int:=(b.x-a.x)*(p.y-a.y)-(b.y-a.y)*(p.x-a.x)
def Et(a b:V3):Int:=yQ a b b
def dist(a b p:V3):Rt:=
 if 0<yQ a b p/\yQ a b p<Et a b then low (abQ a b p*abQ a b p) (Et a b)else if Et a b<=yQ a b p then low (Et b p) 1 else low (Et a p) 1
structure Ds (a b p:V3):Prop where
 dot:-35184372088832<=yQ a b p/\yQ a b p<=35184372088832
 crs:-35184372088832<=abQ a b p/\abQ a b p<=35184372088832
theorem wo{x y:Int}(d:-2097152<=x/\x<=2097152)(c:-2097152<=y/\y<=2097152):-4398046511104<=x*y/\x*y<=4398046511104:=by
 have h:(x*y).natAbs<=2097152*2097152:=by rw[Int.natAbs_mul];exact Nat.mul_le_mul (by omega) (by omega)
 omega
theorem zQ(d:qY a)(c:qY b):(-2097152<=b.x-a.x/\b.x-a.x<=2097152)/\(-2097152<=b.y-a.y/\b.y-a.y<=2097152):=by obtain⟨g,f,_⟩:=d;obtain⟨b1,e,_⟩:=c;omega
theorem ds(e:qY a)(f:qY b)(hp:qY p):Ds a b p:=by obtain⟨d,y1⟩:=zQ e f;obtain⟨c,y2⟩:=zQ e hp;have j:=wo d c;have i:=wo y1 y2;have h:=wo d y2;have g:=wo y1 c;constructor;all_goals grind[yQ,abQ]
theorem Yy(x:Int):(0:Int)<=x*x:=by
 rcases Int.le_total 0 x with h | h
 . exact Int.mul_nonneg h h
 . exact Int.mul_nonneg_of_nonpos_of_nonpos h h
theorem aiV(a b:V3):0<=Et a b:=by have d:=Yy (b.x-a.x);have c:=Yy (b.y-a.y);grind[Et,yQ]
theorem Ig(c:qY a)(f:qY b)(hp:qY p):IntKind.i64.wrap ((IntKind.i64.wrap ((IntKind.i64.wrap (b.x-a.x))*(IntKind.i64.wrap (p.x-a.x))))+(IntKind.i64.wrap ((IntKind.i64.wrap (b.y-a.y))*(IntKind.i64.wrap (p.y-a.y)))))=yQ a b p:=by obtain⟨e,y1⟩:=zQ c f;obtain⟨d,y2⟩:=zQ c hp;have h:=wo e d;have g:=wo y1 y2;rw[wrap_eq (x:=b.x-a.x) (by omega) (by omega),wrap_eq (x:=p.x-a.x) (by omega) (by omega),wrap_eq (x:=b.y-a.y) (by omega) (by omega),wrap_eq (x:=p.y-a.y) (by omega) (by omega),wrap_eq (x:=(b.x-a.x)*_) (by omega) (by omega),wrap_eq (x:=(b.y-a.y)*_) (by omega) (by omega),wrap_eq (by omega) (by omega)];rfl
theorem ali(c:qY a)(f:qY b)(hp:qY p):IntKind.i64.wrap ((IntKind.i64.wrap ((IntKind.i64.wrap (b.x-a.x))*(IntKind.i64.wrap (p.y-a.y))))-(IntKind.i64.wrap ((IntKind.i64.wrap (b.y-a.y))*(IntKind.i64.wrap (p.x-a.x)))))=abQ a b p:=by obtain⟨e,y1⟩:=zQ c f;obtain⟨d,y2⟩:=zQ c hp;have h:=wo e y2;have g:=wo y1 d;rw[wrap_eq (x:=b.x-a.x) (by omega) (by omega),wrap_eq (x:=p.x-a.x) (by omega) (by omega),wrap_eq (x:=b.y-a.y) (by omega) (by omega),wrap_eq (x:=p.y-a.y) (by omega) (by omega),wrap_eq (x:=(b.x-a.x)*_) (by omega) (by omega),wrap_eq (x:=(b.y-a.y)*_) (by omega) (by omega),wrap_eq (by omega) (by omega)];rfl
theorem Vy{n:Int}(h:-35184372088832<=n/\n<=35184372088832):okW n/\okW (n*n):=by have c:Lt2 46 n:=Dn (n:=35184372088832) (by omega) (by decide);exact⟨c.okW (by omega),(c.mul c).okW (by omega)⟩
theorem ZT(d:qY a)(c:qY b)(hp:qY p):(dist a b p).ok:=by
 have e:=ds d c hp;have one:okW 1:=zl (by decide);unfold dist;split
 . next h=>exact Vx (Vy e.crs).2 (Vy (ds d c c).dot).1 (by omega)
 . split
   . exact Vx (Vy (ds c hp hp).dot).1 one (by decide)
   . exact Vx (Vy (ds d hp hp).dot).1 one (by decide)
theorem Yz(r:Rt):PV.agg [.bool (((uG r).cell 0).toBool),.str (((uG r).cell 1).toStr),.bool (((uG r).cell 2).toBool),.str (((uG r).cell 3).toStr)]=uG r:=rfl
section
variable (X:Ext) (hX:Mine X) (hB:Bits X)
include hX hB
theorem apG(a b:Int)(d:okW a)(c:okW b)(e:b≠0):run tab X 143 [.p (eW a),.p (eW b)] []=some ([.p (uG (low a b)),Ab 0],[]):=by rw[c143 X hX hB a b d c e,Pg d c e]
theorem aiW(a b:Int)(d:-9223372036854775808<=a/\a<=9223372036854775807)(c:-9223372036854775808<=b/\b<=9223372036854775807)(e:b≠0):run tab X 134 [Ab a,Ab b] []=some ([.p (uG (low a b)),Ab 0],[]):=by rw[auU X hX hB a b d c e,Pg (JF X hX hB d.1 d.2) (JF X hX hB c.1 c.2) e]
theorem c90(a b p:V3)(d:qY a)(c:qY b)(hp:qY p):run tab X 90 [.p (cO a),.p (cO b),.p (cO p)] []=some ([.p (uG (dist a b p))],[]):=
 aY (hX _ rfl) (by
  have f:=ds d c hp;have q:=ds d c c;have o:=ds c hp hp;have n:=ds d hp hp;have k:=aiW X hX hB (Et b p) 1 (by have:=o.dot;unfold Et;omega) (by omega) (by decide);have j:=aiW X hX hB (Et a p) 1 (by have:=n.dot;unfold Et;omega) (by omega) (by decide);have r:∀ v:V3,IntKind.i64.wrap v.x=IntKind.i64.wrap v.x:=λ_=>rfl;rw[cO,cO,cO,e90,Ig d c hp,Ig d c c,Ig c hp hp,Ig d hp hp,ali d c hp];rw[show yQ a b b=Et a b from rfl,show yQ b p p=Et b p from rfl,show yQ a p p=Et a p from rfl,k,j];have i:=q.dot;rw[show yQ a b b=Et a b from rfl]at i;simp only[qOb,qLh,bV,Yz];unfold dist;by_cases h:0<yQ a b p
  . rw[show mg (yQ a b p) 0=true from decide_eq_true h,qCt];by_cases g:yQ a b p<Et a b
    . have e:=Vy f.crs;have l:=Vy i;have m:=c138 X hX hB (abQ a b p) (abQ a b p) e.1 e.1;rw[JE,if_pos e.2]at m;rw[show cu (yQ a b p) (Et a b)=true from decide_eq_true g,qCt,if_pos ⟨h,g⟩];rw[c61 X hX hB _ (by have:=f.crs;omega) (by have:=f.crs;omega),qOb];simp only[qLh,bV,mX];rw[m,qOb,c61 X hX hB _ (by omega) (by omega),qOb];simp only[qLh,bV,mX];rw[apG X hX hB _ _ e.2 l.1 (by omega)];rfl
    grind
  grind)
end
end
section
variable {l:List V3}{v:V3}{b:Bool}{f:Fen}
def BU(l:List V3):List V3:=gt l 0::l.tail.reverse
def orient(first:Bool)(l:List V3):List V3:=if decide (0<lX l)==first then l else BU l
def Nz(hs:List (List V3)):List pG:=hs.flatMap λh=>fH (orient false h)
def iD(f:Fen):List pG:=fH (orient true f.outer)++Nz f.holes
def vg(f:Fen):List pG:=if eX f then iD f else []
abbrev I4(f:Fen):List PV:=[.list true aU (bT f.outer),.list false [.slice true aU] (dG f.holes),Ap f.low,Ap f.high]
structure OE (X:Ext):Prop where
 e:∀ f:Fen,sS f->run tab X 87 [.yL,.p (.ref (I4 f))] [.log true []]=some ([],[.log true ((vg f).map eY)])
theorem ag2(h:v∈BU l)(c:0<l.length):v∈l:=by
 cases l with
 | nil=>simp at c
 | cons a r =>
  unfold BU at h;rcases List.mem_cons.1 h with rfl | h
  . simp[gt]
  . rw[List.tail_cons,List.mem_reverse]at h;exact List.mem_cons_of_mem _ h
theorem Gy(a:0<l.length):(BU l).length=l.length:=by unfold BU;rw[qLl,List.length_reverse,List.length_tail];omega
theorem ad3(h:v∈orient b l)(a:0<l.length):v∈l:=by
 unfold orient at h;split at h
 . exact h
 . exact ag2 h a
theorem ad4(a:0<l.length):(orient b l).length=l.length:=by
 unfold orient;split
 . rfl
 . exact Gy a
theorem uM(h:gG l=true):(orient b l).all (rF 1048576)=true/\(orient b l).length=l.length:=by obtain⟨e,d,c⟩:=ig h;refine⟨List.all_eq_true.2 λv a=>List.all_eq_true.1 c v (ad3 a (by omega)),ad4 (by omega)⟩
theorem zn(h:eX f=true):∀ e∈iD f,qY e.1/\qY e.2:=by
 obtain⟨g,d⟩:=mM h;intro e a;rcases List.mem_append.1 a with a | a
 . exact Lj (uM g).1 _ e a
 . obtain⟨x,c,a⟩:=List.mem_flatMap.1 a;exact Lj (uM (d x c)).1 _ e a
theorem wL(h:eX f=true):(iD f).length<=2000:=by
 obtain⟨i,m⟩:=mM h;have n:=(Dl h).2.1;have e:∀ d:List (List V3),(∀ x∈d,gG x=true)->(Nz d).length<=64*d.length:=by
  intro d;induction d with
  | nil=>intro _;simp[Nz]
  | cons x r j =>intro g;have a:=j λy k=>g y (by simp[k]);have b:=(uM (b:=false) (g x (by simp))).2;have c:=(ig (g x (by simp))).2.1;unfold Nz at a ⊢;rw[List.flatMap_cons,qLp,qA,qLl];omega
 have a:=e f.holes m;have b:=(uM (b:=true) i).2;have c:=(ig i).2.1;unfold iD;rw[qLp,qA];omega
def SB(p:V3):Rt->List pG->Rt
 | b,[]=>b
 | b,e::r=>SB p (if ¬ b.ok\/(dist e.1 e.2 p).n*b.d-b.n*(dist e.1 e.2 p).d<0 then dist e.1 e.2 p else b) r
def JI(f:Fen)(p:V3):Rt × Int:=if eX f then(if rF 1048576 p then(SB p ⟨0,0⟩ (iD f),0)else(⟨0,0⟩,2))else(⟨0,0⟩,2)
theorem alj(z:Int):cu z.sign 0=decide (z<0):=by
 rcases Int.lt_trichotomy z 0 with h | h | h
 . rw[Int.sign_eq_neg_one_of_neg h,decide_eq_true (by omega)];rfl
 . subst h;rfl
 . rw[Int.sign_eq_one_of_pos h,decide_eq_false (by omega)];rfl
section
variable (X:Ext) (hX:Mine X)
include hX
theorem anq(a b c d:Int)(h:¬(okR a b/\okR c d)):run tab X 62 [.p (eR a b),.p (eR c d)] []=some ([Ab 0,Ab 2],[]):=
 aY (hX _ rfl) (by have e:=alk X hX a b c d;rw[eR,eR]at e;rw[<- Bool.decide_and,decide_eq_false h]at e;rw[eR,eR,e62,e];rfl)
variable (hB:Bits X) (hE:OE X)
include hB
abbrev S32(f:Fen)(p:V3)(b:Rt):St:=tK (bT f.outer) (dG f.holes) f.low f.high p.x p.y p.z false ⟨#[]⟩ false ⟨#[]⟩ (decide (b.n<0)) (vk b.n.natAbs) (decide (b.d<0)) (vk b.d.natAbs)
abbrev w32(ys:List PV):List Wy:=[.rg [1,1,1,0,1,0] [(true,aU),(true,aU)] ys]
theorem l32(f:Fen)(p:V3)(hp:qY p):∀(g:List pG) (b:Rt),(∀ e∈g,qY e.1/\qY e.2) ->
    L tab (run tab X) 32 [] (w32 (g.map eY)) (S32 f p b)=some ([.p (uG (SB p b g)),Ab 0],[]):=by
  intro g;induction g with
  | nil =>intro b _;rw[List.map_nil,U9];rfl
  | cons e r u =>
   intro b c;obtain⟨t,s⟩:=c e (by simp);have q:=c90 X hX hB e.1 e.2 p t s hp;have hd:=ZT t s hp;simp only[cO]at q;have m:=λA=>u A λw k=>c w (by simp[k]);rw[List.map_cons,SB];show L tab (run tab X) 32 [] (w32 (.agg [.agg [Ap e.1.x,Ap e.1.y,Ap e.1.z],.agg [Ap e.2.x,Ap e.2.y,Ap e.2.z]]::r.map eY)) (S32 f p b)=_;rw[TQ,q,qOb];generalize B:dist e.1 e.2 p=n at *;have o:run tab X 59 [.p (eR b.n b.d)] []=some ([Ac (decide b.ok)],[]):=c59 X hX b.n b.d;by_cases a:b.ok
   . have i:=c62 X hX hB n.n n.d b.n b.d hd a;show(run tab X 62 [.p (eR n.n n.d),.p (eR b.n b.d)] []).bind _=_;rw[i,qOb];show(run tab X 59 [.p (eR b.n b.d)] []).bind _=_;rw[o,qOb];simp only[qLh,bV,bf,toInt_int,decide_eq_true a,qBt,qCf,alj];by_cases j:n.n*b.d-b.n*n.d<0
     . rw[decide_eq_true j,qCt,if_pos (.inr j)];exact m n
     . rw[decide_eq_false j,qCf,if_neg (by rintro (h | h)<;>contradiction)];exact m b
   . have i:=anq X hX n.n n.d b.n b.d λh=>a h.2;show(run tab X 62 [.p (eR n.n n.d),.p (eR b.n b.d)] []).bind _=_;rw[i,qOb];show(run tab X 59 [.p (eR b.n b.d)] []).bind _=_;rw[o,qOb];simp only[qLh,bV,bf,decide_eq_false a,qBf,qCt];rw[if_pos (.inl a)];exact m n
include hE
theorem c32(f:Fen)(c:sS f)(p:V3):run tab X 32 [.p (kZ f),.p (cO p)] []=some ([.p (uG (JI f p).1),Ab (JI f p).2],[]):=
 aY (hX _ rfl) (by
  have g:=c18 X hX f c;have d:=c40 X hX p;have h4:=c31 X hX f;have h5:=hE.e f c;have z:PV.agg [.bool false,.str ⟨#[]⟩,.bool false,.str ⟨#[]⟩]=uG ⟨0,0⟩:=ZU.symm;rw[kZ]at g h4;rw[cO]at d;rw[kZ,cO,e32,g,qOb,z];simp only[qLh,bV,bf];unfold JI;cases a:eX f with
  | false=>rfl
  | true =>
   rw[qBt,qCf,d,qOb,if_pos rfl];simp only[qLh,bV,bf];cases h:rF 1048576 p with
   | false=>rfl
   | true =>
    rw[qBt,qCf,h4,qOb,if_pos rfl];show(run tab X 87 [.yL,.p (.ref (I4 f))] [.log true []]).bind _=_;rw[h5,qOb];unfold vg;rw[if_pos a];have k:=l32 X hX hB f p (ug.1 h) (iD f) ⟨0,0⟩ (zn a);have i:S32 f p ⟨0,0⟩=tK (bT f.outer) (dG f.holes) f.low f.high p.x p.y p.z false ⟨#[]⟩ false ⟨#[]⟩ false ⟨#[]⟩ false ⟨#[]⟩:=by unfold S32;rw[show(0:Int).natAbs=0 from rfl,JJ];rfl
    rw[i]at k;exact k)
end
end
end Go.Skm.Fen
