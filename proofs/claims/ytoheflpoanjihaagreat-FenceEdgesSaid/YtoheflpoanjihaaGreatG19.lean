import Derived.Test.YtoheflpoanjihaaGreatG15
set_option linter.all false
namespace Go.Skm.Fen
open Go Go.Skm
section
structure Rt where
 n:Int
 d:Int
 deriving DecidableEq
abbrev Rt.ok(r:Rt):Prop:=okR r.n r.d
def mX(r:Rt):PV:=eR r.n r.d
def oC(r:Rt):Bool:=decide (8192<bl r.n.natAbs\/8192<bl r.d.natAbs)
def Dp(f:Fen)(x y z:Rt):Bool:=(decide (f.low*z.d<=z.n)&&decide (z.n<=f.high*z.d))&&Lh f (x.n*y.d) (y.n*x.d) (x.d*y.d)
def RI(f:Fen)(x y z:Rt):Bool × Int:=
 if x.ok/\y.ok/\z.ok then(if validP f then(if oC x||(oC y||oC z)then(false,7)else(Dp f x y z,0))else(false,2))else(false,2)
def zf(a:Bool × Int):List AV:=[.p (.bool a.1),.p (.int .i64 a.2)]
def JF(f:Fen)(p:V3):Bool × Int:=if validP f then(if inM 1048576 p then(rO f p,0)else(false,2))else(false,2)
theorem Np{z:Int}{k:Nat}(h:bl z.natAbs<=k):Lt2 k z:=Nat.lt_of_lt_of_le (xJ _) (Nat.pow_le_pow_right (by decide) h)
theorem EZ{r:Rt}(h:oC r=false):Lt2 8192 r.n/\Lt2 8192 r.d:=by
 have a:=of_decide_eq_false h;constructor
 . exact Np (by omega)
 . exact Np (by omega)
theorem OD(r:Rt):gtI (goMax ((bl r.n.natAbs:Nat):Int) ((bl r.d.natAbs:Nat):Int)) (8192:Int)=oC r:=by unfold oC goMax gtI;grind
theorem Nq(z:Int):geI z.sign 0=decide (0<=z):=by simp
theorem Nr(z:Int):leI z.sign 0=decide (z<=0):=by simp
theorem ou{f:Fen}(h:validP f=true):Sz f/\f.holes.length<=16∧-1048576<=f.low/\f.high<=1048576/\f.low<=f.high:=by
 unfold validP AB at h;simp only[qBa,qDa]at h;obtain⟨⟨e,d⟩,i,_⟩:=h;refine⟨⟨lT e,?_,by omega⟩,d⟩;have:∀(b all:List (List V3)),tJ f.outer all b=true->∀ x∈b,Rd x:=by
  intro b;induction b with
  | nil=>intro _ _ x a;cases a
  | cons y r g =>
   intro all c x a;unfold tJ EY at c;simp only[qBa]at c;rcases List.mem_cons.1 a with rfl | a
   . exact lT c.1.1
   grind
 grind
abbrev Ze(f:Fen)(x y z:Rt)(full:Bool)(i:Nat):St:=rZ full 0 3 3 (i:Int) (encL f.outer) (bI f.holes) f.low f.high (decide (x.n<0)) (jS x.n.natAbs) (decide (x.d<0)) (jS x.d.natAbs) (decide (y.n<0)) (jS y.n.natAbs) (decide (y.d<0)) (jS y.d.natAbs) (decide (z.n<0)) (jS z.n.natAbs) (decide (z.d<0)) (jS z.d.natAbs) [mX x,mX y,mX z]
abbrev UK:List Wy:=[.lp [1,1,0,1,0]]
section
variable (X:Ext) (hX:Mine X)
include hX
theorem c20(f:Fen)(e:nO f)(p:V3):run tab X 20 [.p (encF f),.p (encV p)] []=some (zf (JF f p),[]):=
 run_of (hX _ rfl) (by
  have b:=c18 X hX f e;have a:=c40 X hX p;rw[encF]at b;rw[encV]at a;rw[encF,encV,e20,b,qOb];simp only[qLh,pv_p,toBool_bool];unfold JF;cases c:validP f with
  | false=>rfl
  | true =>
   rw[qBt,qCf,a,qOb,if_pos rfl];simp only[qLh,pv_p,toBool_bool];cases d:inM 1048576 p with
   | false=>rfl
   | true =>have h4:=c55 X hX f (ou c).1 p ((tK.1 d).mono (by decide));rw[encF,encV]at h4;rw[qBt,qCf,h4,qOb,if_pos rfl];rfl)
variable (hB:Bits X)
include hB
theorem r24(f:Fen)(x y z:Rt)(a:Bool)(i:Nat)(k:i<3)(r:Rt)(j:[mX x,mX y,mX z].getD i .nil=mX r)
    (v:Bool × Int)(h:if r.ok then L tab (run tab X) 24 [] UK (Ze f x y z (a||oC r) (i+1))=some (zf v,[])else v=(false,2)):L tab (run tab X) 24 [] UK (Ze f x y z a i)=some (zf v,[]):=by
  have g:(leI (0:Int) ((i:Nat):Int)&&ltI ((i:Nat):Int) (((3:Nat)):Int))=true:=rng k;have e:ltI ((i:Nat):Int) (3:Int)=true:=rM k;by_cases b:r.ok
  . rw[if_pos b]at h;refine L_of ?_;rw[yE,e,qCt,g,qCt];simp only[qIt,qNz,j,dZ (show i<=9000000000000000000 by omega)];have c:=c59 X hX r.n r.d;rw[decide_eq_true b]at c;show(run tab X 59 [.p (eR r.n r.d)] []).bind _=_;rw[c,qOb];simp only[qLh,pv_p,toBool_bool,qBt,qCf];cases a with
    | true=>rw[qCt];exact h
    | false =>rw[Bool.false_or]at h;rw[qCf];show(run tab X 60 [.p (eW r.n)] []).bind _=_;rw[c60 X hX hB r.n b.1,qOb];show(run tab X 60 [.p (eW r.d)] []).bind _=_;rw[c60 X hX hB r.d b.2.1,qOb];grind[qLh,pv_p,toInt_int,OD]
  . rw[if_neg b]at h;refine L_of ?_;rw[yE,e,qCt,g,qCt];simp only[qIt,qNz,j];have c:=c59 X hX r.n r.d;rw[decide_eq_false b]at c;show(run tab X 59 [.p (eR r.n r.d)] []).bind _=_;rw[c,qOb,h];rfl
theorem WY(f:Fen)(v:nO f)(x y z:Rt)(c:x.ok)(b:y.ok)(k:z.ok)(a:Bool)(hfull:a=(oC x ||(oC y || oC z))) :
    L tab (run tab X) 24 [] UK (Ze f x y z a 3)=some (zf (if validP f then(if a then(false,7)else(Dp f x y z,0))else(false,2)),[]):=by
  refine L_of ?_;have m:=c18 X hX f v;rw[encF]at m;rw[yE,show ltI ((3:Nat):Int) 3=false from rfl,qCf,m,qOb];simp only[qLh,pv_p,toBool_bool];cases s:validP f with
  | false=>rfl
  | true =>
   rw[qBt,qCf,if_pos rfl];cases a with
   | true=>rfl
   | false =>
    obtain⟨w,F,t,u,_⟩:=ou s;have l:oC x=false/\oC y=false/\oC z=false:=by grind
    obtain⟨r,g⟩:=EZ l.1;obtain⟨q,e⟩:=EZ l.2.1;have j:Lt2 20000 (x.n*y.d):=(r.mul e).mono (by omega);have i:Lt2 20000 (y.n*x.d):=(q.mul g).mono (by omega);have h:Lt2 20000 (x.d*y.d):=(g.mul e).mono (by omega);have hp:Sp (x.n*y.d) (y.n*x.d) (x.d*y.d):=⟨j,i,h,Int.mul_pos c.2.2 b.2.2⟩;have one:okR f.low 1/\okR f.high 1:=⟨⟨xK X hX hB (by omega) (by omega),xK X hX hB (by omega) (by omega),by omega⟩,xK X hX hB (by omega) (by omega),xK X hX hB (by omega) (by omega),by omega⟩;have E:=c62 X hX hB z.n z.d f.low 1 k one.1;have D:=c62 X hX hB z.n z.d f.high 1 k one.2;have C:=c63 X hX hB x.n x.d y.n y.d c.1 c.2.1 b.1 b.2.1 (j.okW (by omega)) (i.okW (by omega)) (h.okW (by omega));have o:=aaO X hX hB f w (x.n*y.d) (y.n*x.d) (x.d*y.d) hp;rw[qCf,c61 X hX hB 1 (by omega) (by omega),qOb,c61 X hX hB f.low (by omega) (by omega),qOb];show(run tab X 62 [.p (eR z.n z.d),.p (eR f.low 1)] []).bind _=_;rw[E,qOb,c61 X hX hB f.high (by omega) (by omega),qOb];show(run tab X 62 [.p (eR z.n z.d),.p (eR f.high 1)] []).bind _=_;rw[D,qOb];show(run tab X 63 [.p pZ,.p (eR x.n x.d),.p (eR y.n y.d)] []).bind _=_;rw[C,qOb];simp only[qLh,pv_p,toInt_int,Nq,Nr];unfold Dp;have B:decide (0<=z.n*1-f.low*z.d)=decide (f.low*z.d<=z.n):=decide_eq_decide.2 (by omega);have A:decide (z.n*1-f.high*z.d<=0)=decide (z.n<=f.high*z.d):=decide_eq_decide.2 (by omega);rw[B,A];cases decide (f.low*z.d<=z.n)with
    | false=>rfl
    | true =>
     rw[qCt,Bool.true_and];cases decide (z.n<=f.high*z.d)with
     | false=>rfl
     | true =>rw[qCt,Bool.true_and];rw[encF]at o;show(run tab X 64 [_,.p (.fn 65 [pZ,.ref (JE (x.n*y.d) (y.n*x.d) (x.d*y.d))])] []).bind _=_;rw[o,qOb];simp only[qLh,pv_p,toBool_bool];cases Lh f (x.n*y.d) (y.n*x.d) (x.d*y.d)<;>rfl
theorem c24(f:Fen)(e:nO f)(x y z:Rt):run tab X 24 [.p (encF f),.p (mX x),.p (mX y),.p (mX z)] []=some (zf (RI f x y z),[]):=
 run_of (hX _ rfl) (by
  rw[encF,mX,mX,mX,eR,eR,eR,e24];show L tab (run tab X) 24 [] UK (Ze f x y z false 0)=_;unfold RI;refine r24 X hX hB f x y z false 0 (by omega) x rfl _ ?_;by_cases c:x.ok
  . rw[if_pos c];refine r24 X hX hB f x y z _ 1 (by omega) y rfl _ ?_;by_cases b:y.ok
    . rw[if_pos b];refine r24 X hX hB f x y z _ 2 (by omega) z rfl _ ?_;by_cases a:z.ok
      . rw[if_pos a,if_pos ⟨c,b,a⟩];have d:=WY X hX hB f e x y z c b a (((false||oC x)||oC y)||oC z) (by rw[Bool.false_or,Bool.or_assoc]);grind
      grind
    grind
  grind)
end
end
section
def Cc(n:Int):Int:=n*iC n
theorem Ns(n:Int):Cc n=(n.natAbs:Int):=by
 unfold Cc iC;split
 . omega
 . split<;>omega
def uP:List (List V3)->Int
 |[]=>0
 | h::r=>Cc (kG h)+uP r
def Uc(f:Fen):Int:=Cc (kG f.outer)-uP f.holes
def E5(f:Fen):Int × Int:=if validP f then(Uc f,0)else(0,2)
theorem AL{n m:Int}(h:-m<=n/\n<=m):0<=Cc n/\Cc n<=m:=by rw[Ns];omega
theorem wH{l:List V3}(h:dM l=true):-1000000000000000<=kG l/\kG l<=1000000000000000:=by
 obtain⟨k,j,g⟩:=gI h;unfold kG;have a:∀ es:List kX,(∀ e∈es,lu e.1/\lu e.2)→-(2199023255552*(es.length:Int))<=xM es/\xM es<=2199023255552*(es.length:Int):=by
  intro es;induction es with
  | nil=>intro _;simp[xM]
  | cons e r f =>intro d;have b1:=f λi c=>d i (by simp[c]);have m:=He (d e (by simp));simp only[xM,qLl];unfold IC;omega
 have b:=a (dL l) (vC g _);rw[jg]at b;have:(l.length:Int)<=64:=by omega
 omega
theorem kD{f:Fen}(h:validP f=true):dM f.outer=true/\∀ x∈f.holes,dM x=true:=by
 unfold validP AB at h;simp only[qBa,qDa]at h;obtain⟨⟨g,_⟩,e,_⟩:=h;refine⟨g,?_⟩;have:∀(b all:List (List V3)),tJ f.outer all b=true->∀ x∈b,dM x=true:=by
  intro b;induction b with
  | nil=>intro _ _ x a;cases a
  | cons y r d =>
   intro all c x a;unfold tJ EY at c;simp only[qBa]at c;rcases List.mem_cons.1 a with rfl | a
   . exact c.1.1
   . exact d _ c.2 x a
 exact this f.holes [f.outer] e
section
variable (X:Ext) (hX:Mine X)
include hX
theorem JG{n:Int}(h:-1000000000000000<=n/\n<=1000000000000000):IntKind.i64.wrap (n*iC n)=Cc n:=by have _:=hX;have:=AL h;exact wrap_eq (by unfold Cc at this;omega) (by unfold Cc at this;omega)
theorem l16(a:List (List V3))(o:∀ h∈a,dM h=true)(g:a.length<=16):∀(r:List (List V3)) (i:Nat) (n:Int),a.drop i=r->i<=a.length→-((i:Int)*1000000000000000)<=n/\n<=1000000000000000 ->
    L tab (run tab X) 16 [] [.lp [1,1,1,0,1,0]] (vX n (bI a) ((a.length:Nat):Int) (i:Int))=some ([.p (.int .i64 (n-uP r)),.p (.int .i64 0)],[]):=by
  intro r;induction r with
  | nil =>
   intro i n e m l;have c:i=a.length:=by have:=congrArg List.length e;simp at this;omega
   refine L_of ?_;rw[EH,y8 (by omega),qCf,uP,Int.sub_zero]
  | cons h r k =>
   intro i n e m l;have c:i<a.length:=by have:=congrArg List.length e;simp at this;omega
   have f:gh a i=h:=by show a.getD i []=h;rw[qLb,<- List.head?_drop,e];rfl
   have d:dM h=true:=o h (f▸uO c);obtain⟨s,s2,j⟩:=gI d;have b:=wH d;have t:=AL b;have q:=c47 X hX h (by omega) j;refine L_of ?_;rw[EH,rM c,qCt];simp only[bG,le0,rM c,Bool.and_true,qCt,qIt,gJ a c,f,dZ (show i<=9000000000000000000 by omega)];show(run tab X 47 [.p (.list true kV3 (encL h))] []).bind _=_;rw[q,qOb];show(run tab X 47 [.p (.list true kV3 (encL h))] []).bind _=_;rw[q,qOb];simp only[qLh,pv_p,toInt_int];rw[c48 X hX,qOb];simp only[qLh,pv_p,toInt_int];rw[JG X hX b,wrap_eq (by omega) (by omega),uP,show n-(Cc (kG h)+uP r)=n-Cc (kG h)-uP r from by omega];exact k (i+1) _ (by rw[<- List.tail_drop,e];rfl) (by omega) (by omega)
theorem c16(f:Fen)(i:nO f):run tab X 16 [.p (encF f)] []=some ([.p (.int .i64 (E5 f).1),.p (.int .i64 (E5 f).2)],[]):=
 run_of (hX _ rfl) (by
  have d:=c18 X hX f i;rw[encF]at d;rw[encF,e16,d,qOb];simp only[qLh,pv_p,toBool_bool];unfold E5;cases c:validP f with
  | false=>rfl
  | true =>obtain⟨a,e⟩:=kD c;obtain⟨j,s2,g⟩:=gI a;have b:=wH a;have k:=AL b;have h:=(ou c).2.1;have q:=c47 X hX f.outer (by omega) g;rw[qBt,qCf,q,qOb,qOb];simp only[qLh,pv_p,toInt_int];rw[c48 X hX,qOb];simp only[qLh,pv_p,toInt_int,bG];rw[JG X hX b,if_pos trivial];exact l16 X hX f.holes e h f.holes 0 _ rfl (by omega) (by omega))
theorem c31(f:Fen):run tab X 31 [.p (encF f)] []=some ([.p (.fn 87 [.ref [.list true kV3 (encL f.outer),.list false [.slice true kV3] (bI f.holes),.int .i64 f.low,.int .i64 f.high]])],[]):=
 run_of (hX _ rfl) (by rw[encF,e31])
end
end
section
variable {a b p:V3}
theorem JH(a:Int)(g:Nat):(a / (g:Int)).natAbs<=a.natAbs:=by
 rcases Nat.eq_zero_or_pos g with h | h
 . subst h;simp
 . rcases Int.le_total 0 a with c | c
   . obtain⟨n,rfl⟩:=Int.eq_ofNat_of_zero_le c;rw[show((n:Int) / (g:Int))=((n / g:Nat):Int) from rfl];exact Nat.div_le_self n g
   . have e:a*1 >= a*(g:Int):=Int.mul_le_mul_of_nonpos_left c (by omega);have d:=Int.le_ediv_of_mul_le (show(0:Int)<g by omega) (show a*(g:Int)<=a by omega);have h4:a / (g:Int)<=0:=Int.ediv_le_of_le_mul (by omega) (by omega);omega
theorem E8(a b:Int):(rP a b).natAbs<=a.natAbs:=by
 unfold rP;rw[Int.natAbs_mul];have c:b.sign.natAbs<=1:=by grind
 calc _<=1*(a / (Int.gcd a b:Int)).natAbs:=Nat.mul_le_mul_right _ c
  _<=_:=by rw[Nat.one_mul];exact JH _ _
theorem Fa(a b:Int):(qU a b).natAbs<=b.natAbs:=by unfold qU;have:=JH ((b.natAbs:Nat):Int) (Int.gcd a b);grind
theorem xO{a b:Int}(h:b≠0):0<qU a b:=by
 unfold qU;have d:Int.gcd a b ∣ b.natAbs:=Int.gcd_dvd_natAbs_right ..;have c:0<b.natAbs:=by omega
 have e:0<Int.gcd a b:=Nat.pos_of_dvd_of_pos d c;have h4:=Nat.div_pos (Nat.le_of_dvd c d) e;omega
def low(a b:Int):Rt:=⟨rP a b,qU a b⟩
theorem Fb{a b:Int}(d:okW a)(c:okW b)(e:b≠0):(low a b).ok:=by
 refine⟨?_,?_,xO e⟩
 . exact Nat.le_trans (wR (Nat.lt_of_le_of_lt (E8 a b) (xJ _))) d
 . exact Nat.le_trans (wR (Nat.lt_of_le_of_lt (Fa a b) (xJ _))) c
theorem AO{a b:Int}(d:okW a)(c:okW b)(e:b≠0):DV a b=[.p (mX (low a b)),.p (.int .i64 0)]:=by have h:=Fb d c e;unfold DV;rw[if_pos ⟨h.1,h.2.1⟩];rfl
def ug(a b p:V3):Int:=(b.x-a.x)*(p.x-a.x)+(b.y-a.y)*(p.y-a.y)
def JI(a b p:V3):Int:=(b.x-a.x)*(p.y-a.y)-(b.y-a.y)*(p.x-a.x)
def DW(a b:V3):Int:=ug a b b
def dist(a b p:V3):Rt:=
 if 0<ug a b p/\ug a b p<DW a b then low (JI a b p*JI a b p) (DW a b)else if DW a b<=ug a b p then low (DW b p) 1 else low (DW a p) 1
structure Ds (a b p:V3):Prop where
 dot:-35184372088832<=ug a b p/\ug a b p<=35184372088832
 Zf:-35184372088832<=JI a b p/\JI a b p<=35184372088832
theorem nG{x y:Int}(d:-2097152<=x/\x<=2097152)(c:-2097152<=y/\y<=2097152):-4398046511104<=x*y/\x*y<=4398046511104:=by
 have h:(x*y).natAbs<=2097152*2097152:=by rw[Int.natAbs_mul];exact Nat.mul_le_mul (by omega) (by omega)
 omega
theorem qj(d:lu a)(c:lu b):(-2097152<=b.x-a.x/\b.x-a.x<=2097152)/\(-2097152<=b.y-a.y/\b.y-a.y<=2097152):=by obtain⟨g,f,_⟩:=d;obtain⟨b1,e,_⟩:=c;omega
theorem ds(e:lu a)(f:lu b)(hp:lu p):Ds a b p:=by obtain⟨d,y1⟩:=qj e f;obtain⟨c,y2⟩:=qj e hp;have j:=nG d c;have i:=nG y1 y2;have h:=nG d y2;have g:=nG y1 c;constructor;all_goals grind[ug,JI]
theorem sq_bd(x:Int):(0:Int)<=x*x:=by
 rcases Int.le_total 0 x with h | h
 . exact Int.mul_nonneg h h
 . exact Int.mul_nonneg_of_nonpos_of_nonpos h h
theorem wI(c:lu a)(f:lu b)(hp:lu p):IntKind.i64.wrap ((IntKind.i64.wrap ((IntKind.i64.wrap (b.x-a.x))*(IntKind.i64.wrap (p.x-a.x))))+(IntKind.i64.wrap ((IntKind.i64.wrap (b.y-a.y))*(IntKind.i64.wrap (p.y-a.y)))))=ug a b p:=by obtain⟨e,y1⟩:=qj c f;obtain⟨d,y2⟩:=qj c hp;have h:=nG e d;have g:=nG y1 y2;rw[wrap_eq (x:=b.x-a.x) (by omega) (by omega),wrap_eq (x:=p.x-a.x) (by omega) (by omega),wrap_eq (x:=b.y-a.y) (by omega) (by omega),wrap_eq (x:=p.y-a.y) (by omega) (by omega),wrap_eq (x:=(b.x-a.x)*_) (by omega) (by omega),wrap_eq (x:=(b.y-a.y)*_) (by omega) (by omega),wrap_eq (by omega) (by omega)];rfl
theorem SB(c:lu a)(f:lu b)(hp:lu p):IntKind.i64.wrap ((IntKind.i64.wrap ((IntKind.i64.wrap (b.x-a.x))*(IntKind.i64.wrap (p.y-a.y))))-(IntKind.i64.wrap ((IntKind.i64.wrap (b.y-a.y))*(IntKind.i64.wrap (p.x-a.x)))))=JI a b p:=by obtain⟨e,y1⟩:=qj c f;obtain⟨d,y2⟩:=qj c hp;have h:=nG e y2;have g:=nG y1 d;rw[wrap_eq (x:=b.x-a.x) (by omega) (by omega),wrap_eq (x:=p.x-a.x) (by omega) (by omega),wrap_eq (x:=b.y-a.y) (by omega) (by omega),wrap_eq (x:=p.y-a.y) (by omega) (by omega),wrap_eq (x:=(b.x-a.x)*_) (by omega) (by omega),wrap_eq (x:=(b.y-a.y)*_) (by omega) (by omega),wrap_eq (by omega) (by omega)];rfl
theorem Fe{n:Int}(h:-35184372088832<=n/\n<=35184372088832):okW n/\okW (n*n):=by have c:Lt2 46 n:=sD (n:=35184372088832) (by omega) (by decide);exact⟨c.okW (by omega),(c.mul c).okW (by omega)⟩
theorem IE(d:lu a)(c:lu b)(hp:lu p):(dist a b p).ok:=by
 have e:=ds d c hp;have one:okW 1:=pR (by decide);unfold dist;split
 . next h=>exact Fb (Fe e.Zf).2 (Fe (ds d c c).dot).1 (by omega)
 . split
   . exact Fb (Fe (ds c hp hp).dot).1 one (by decide)
   . exact Fb (Fe (ds d hp hp).dot).1 one (by decide)
theorem Hf(r:Rt):PV.agg [.bool (((mX r).cell 0).toBool),.str (((mX r).cell 1).toStr),.bool (((mX r).cell 2).toBool),.str (((mX r).cell 3).toStr)]=mX r:=rfl
section
variable (X:Ext) (hX:Mine X) (hB:Bits X)
include hX hB
theorem WZ(a b:Int)(d:okW a)(c:okW b)(e:b≠0):run tab X 143 [.p (eW a),.p (eW b)] []=some ([.p (mX (low a b)),.p (.int .i64 0)],[]):=by rw[c143 X hX hB a b d c e,AO d c e]
theorem Ql(a b:Int)(d:-9223372036854775808<=a/\a<=9223372036854775807)(c:-9223372036854775808<=b/\b<=9223372036854775807)(e:b≠0):run tab X 134 [.p (.int .i64 a),.p (.int .i64 b)] []=some ([.p (mX (low a b)),.p (.int .i64 0)],[]):=by rw[aaQ X hX hB a b d c e,AO (xK X hX hB d.1 d.2) (xK X hX hB c.1 c.2) e]
theorem c90(a b p:V3)(d:lu a)(c:lu b)(hp:lu p):run tab X 90 [.p (encV a),.p (encV b),.p (encV p)] []=some ([.p (mX (dist a b p))],[]):=
 run_of (hX _ rfl) (by
  have f:=ds d c hp;have q:=ds d c c;have o:=ds c hp hp;have n:=ds d hp hp;have k:=Ql X hX hB (DW b p) 1 (by have:=o.dot;unfold DW;omega) (by omega) (by decide);have j:=Ql X hX hB (DW a p) 1 (by have:=n.dot;unfold DW;omega) (by omega) (by decide);have r:∀ v:V3,IntKind.i64.wrap v.x=IntKind.i64.wrap v.x:=λ_=>rfl;rw[encV,encV,encV,e90,wI d c hp,wI d c c,wI c hp hp,wI d hp hp,SB d c hp];rw[show ug a b b=DW a b from rfl,show ug b p p=DW b p from rfl,show ug a p p=DW a p from rfl,k,j];have i:=q.dot;rw[show ug a b b=DW a b from rfl]at i;simp only[qOb,qLh,pv_p,Hf];unfold dist;by_cases h:0<ug a b p
  . rw[show gtI (ug a b p) 0=true from decide_eq_true h,qCt];by_cases g:ug a b p<DW a b
    . have e:=Fe f.Zf;have l:=Fe i;have m:=c138 X hX hB (JI a b p) (JI a b p) e.1 e.1;rw[xI,if_pos e.2]at m;rw[show ltI (ug a b p) (DW a b)=true from decide_eq_true g,qCt,if_pos ⟨h,g⟩];rw[c61 X hX hB _ (by have:=f.Zf;omega) (by have:=f.Zf;omega),qOb];simp only[qLh,pv_p,iL];rw[m,qOb,c61 X hX hB _ (by omega) (by omega),qOb];simp only[qLh,pv_p,iL];rw[WZ X hX hB _ _ e.2 l.1 (by omega)];rfl
    grind
  grind)
end
end
section
variable {l:List V3}{v:V3}{b:Bool}{f:Fen}
def Dq(l:List V3):List V3:=gt l 0::l.tail.reverse
def orient(first:Bool)(l:List V3):List V3:=if decide (0<kG l)==first then l else Dq l
def zD(hs:List (List V3)):List kX:=hs.flatMap λh=>dL (orient false h)
def iP(f:Fen):List kX:=dL (orient true f.outer)++zD f.holes
def lG(f:Fen):List kX:=if validP f then iP f else []
abbrev xu(f:Fen):List PV:=[.list true kV3 (encL f.outer),.list false [.slice true kV3] (bI f.holes),.int .i64 f.low,.int .i64 f.high]
structure zl (X:Ext):Prop where
 e:∀ f:Fen,nO f->run tab X 87 [.yld,.p (.ref (xu f))] [.log true []]=some ([],[.log true ((lG f).map eY)])
theorem OE(h:v∈Dq l)(c:0<l.length):v∈l:=by
 cases l with
 | nil=>simp at c
 | cons a r =>
  unfold Dq at h;rcases List.mem_cons.1 h with rfl | h
  . simp[gt]
  . rw[List.tail_cons,List.mem_reverse]at h;exact List.mem_cons_of_mem _ h
theorem OG(a:0<l.length):(Dq l).length=l.length:=by unfold Dq;rw[qLl,List.length_reverse,List.length_tail];omega
theorem Lj(h:v∈orient b l)(a:0<l.length):v∈l:=by
 unfold orient at h;split at h
 . exact h
 . exact OE h a
theorem Fg(a:0<l.length):(orient b l).length=l.length:=by
 unfold orient;split
 . rfl
 . exact OG a
theorem l9(h:dM l=true):(orient b l).all (inM 1048576)=true/\(orient b l).length=l.length:=by obtain⟨e,d,c⟩:=gI h;refine⟨List.all_eq_true.2 λv a=>List.all_eq_true.1 c v (Lj a (by omega)),Fg (by omega)⟩
theorem Ce(h:validP f=true):∀ e∈iP f,lu e.1/\lu e.2:=by
 obtain⟨g,d⟩:=kD h;intro e a;rcases List.mem_append.1 a with a | a
 . exact vC (l9 g).1 _ e a
 . obtain⟨x,c,a⟩:=List.mem_flatMap.1 a;exact vC (l9 (d x c)).1 _ e a
theorem Fh(h:validP f=true):(iP f).length<=2000:=by
 obtain⟨i,m⟩:=kD h;have n:=(ou h).2.1;have e:∀ d:List (List V3),(∀ x∈d,dM x=true)->(zD d).length<=64*d.length:=by
  intro d;induction d with
  | nil=>intro _;simp[zD]
  | cons x r j =>intro g;have a:=j λy k=>g y (by simp[k]);have b:=(l9 (b:=false) (g x (by simp))).2;have c:=(gI (g x (by simp))).2.1;unfold zD at a ⊢;rw[List.flatMap_cons,qLp,jg,qLl];omega
 have a:=e f.holes m;have b:=(l9 (b:=true) i).2;have c:=(gI i).2.1;unfold iP;rw[qLp,jg];omega
def Dt(p:V3):Rt->List kX->Rt
 | b,[]=>b
 | b,e::r=>Dt p (if ¬ b.ok\/(dist e.1 e.2 p).n*b.d-b.n*(dist e.1 e.2 p).d<0 then dist e.1 e.2 p else b) r
def Fj(f:Fen)(p:V3):Rt × Int:=if validP f then(if inM 1048576 p then(Dt p ⟨0,0⟩ (iP f),0)else(⟨0,0⟩,2))else(⟨0,0⟩,2)
theorem SC(z:Int):ltI z.sign 0=decide (z<0):=by
 rcases Int.lt_trichotomy z 0 with h | h | h
 . rw[Int.sign_eq_neg_one_of_neg h,decide_eq_true (by omega)];rfl
 . subst h;rfl
 . rw[Int.sign_eq_one_of_pos h,decide_eq_false (by omega)];rfl
section
variable (X:Ext) (hX:Mine X)
include hX
theorem UL(a b c d:Int)(h:¬(okR a b/\okR c d)):run tab X 62 [.p (eR a b),.p (eR c d)] []=some ([.p (.int .i64 0),.p (.int .i64 2)],[]):=
 run_of (hX _ rfl) (by have e:=SE X hX a b c d;rw[eR,eR]at e;rw[<- Bool.decide_and,decide_eq_false h]at e;rw[eR,eR,e62,e];rfl)
variable (hB:Bits X) (hE:zl X)
include hB
abbrev Zg(f:Fen)(p:V3)(b:Rt):St:=lM (encL f.outer) (bI f.holes) f.low f.high p.x p.y p.z false ⟨#[]⟩ false ⟨#[]⟩ (decide (b.n<0)) (jS b.n.natAbs) (decide (b.d<0)) (jS b.d.natAbs)
abbrev w32(ys:List PV):List Wy:=[.rg [1,1,1,0,1,0] [(true,kV3),(true,kV3)] ys]
theorem l32(f:Fen)(p:V3)(hp:lu p):∀(es:List kX) (b:Rt),(∀ e∈es,lu e.1/\lu e.2) ->
    L tab (run tab X) 32 [] (w32 (es.map eY)) (Zg f p b)=some ([.p (mX (Dt p b es)),.p (.int .i64 0)],[]):=by
  intro es;induction es with
  | nil =>intro b _;rw[List.map_nil,EI];rfl
  | cons e r t =>
   intro b c;obtain⟨s,q⟩:=c e (by simp);have o:=c90 X hX hB e.1 e.2 p s q hp;have hd:=IE s q hp;simp only[encV]at o;have k:=λw=>t w λu j=>c u (by simp[j]);rw[List.map_cons,Dt];show L tab (run tab X) 32 [] (w32 (.agg [.agg [.int .i64 e.1.x,.int .i64 e.1.y,.int .i64 e.1.z],.agg [.int .i64 e.2.x,.int .i64 e.2.y,.int .i64 e.2.z]]::r.map eY)) (Zg f p b)=_;rw[DN,o,qOb];generalize A:dist e.1 e.2 p=n at *;have m:run tab X 59 [.p (eR b.n b.d)] []=some ([.p (.bool (decide b.ok))],[]):=c59 X hX b.n b.d;by_cases a:b.ok
   . have g:=c62 X hX hB n.n n.d b.n b.d hd a;show(run tab X 62 [.p (eR n.n n.d),.p (eR b.n b.d)] []).bind _=_;rw[g,qOb];show(run tab X 59 [.p (eR b.n b.d)] []).bind _=_;rw[m,qOb];simp only[qLh,pv_p,toBool_bool,toInt_int,decide_eq_true a,qBt,qCf,SC];by_cases i:n.n*b.d-b.n*n.d<0
     . rw[decide_eq_true i,qCt,if_pos (.inr i)];exact k n
     . rw[decide_eq_false i,qCf,if_neg (by rintro (h | h)<;>contradiction)];exact k b
   . have g:=UL X hX n.n n.d b.n b.d λh=>a h.2;show(run tab X 62 [.p (eR n.n n.d),.p (eR b.n b.d)] []).bind _=_;rw[g,qOb];show(run tab X 59 [.p (eR b.n b.d)] []).bind _=_;rw[m,qOb];simp only[qLh,pv_p,toBool_bool,decide_eq_false a,qBf,qCt];rw[if_pos (.inl a)];exact k n
include hE
theorem c32(f:Fen)(c:nO f)(p:V3):run tab X 32 [.p (encF f),.p (encV p)] []=some ([.p (mX (Fj f p).1),.p (.int .i64 (Fj f p).2)],[]):=
 run_of (hX _ rfl) (by
  have g:=c18 X hX f c;have d:=c40 X hX p;have h4:=c31 X hX f;have h5:=hE.e f c;have z:PV.agg [.bool false,.str ⟨#[]⟩,.bool false,.str ⟨#[]⟩]=mX ⟨0,0⟩:=IG.symm;rw[encF]at g h4;rw[encV]at d;rw[encF,encV,e32,g,qOb,z];simp only[qLh,pv_p,toBool_bool];unfold Fj;cases a:validP f with
  | false=>rfl
  | true =>
   rw[qBt,qCf,d,qOb,if_pos rfl];simp only[qLh,pv_p,toBool_bool];cases h:inM 1048576 p with
   | false=>rfl
   | true =>
    rw[qBt,qCf,h4,qOb,if_pos rfl];show(run tab X 87 [.yld,.p (.ref (xu f))] [.log true []]).bind _=_;rw[h5,qOb];unfold lG;rw[if_pos a];have k:=l32 X hX hB f p (tK.1 h) (iP f) ⟨0,0⟩ (Ce a);have i:Zg f p ⟨0,0⟩=lM (encL f.outer) (bI f.holes) f.low f.high p.x p.y p.z false ⟨#[]⟩ false ⟨#[]⟩ false ⟨#[]⟩ false ⟨#[]⟩:=by unfold Zg;rw[show(0:Int).natAbs=0 from rfl,xP];rfl
    rw[i]at k;exact k)
end
end
end Go.Skm.Fen
