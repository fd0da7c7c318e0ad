import Derived.Test.YtoheflpoanjihaaGreatG22
import Derived.Test.YtoheflpoanjihaaGreatG7
import Derived.Test.YtoheflpoanjihaaGreatR2
set_option linter.all false
namespace Go.Skm.Fen
open Go Go.Skm
section
variable {l:List Rt}{s t:Rt}
structure Num (r:Rt):Prop where
 cn:Cn r
 bn:Lt2 46 r.n
 bd:Lt2 46 r.d
 lo:0<=r.n
 hi:r.n<=r.d
theorem Num.ok{r:Rt}(h:Num r):r.ok:=⟨h.bn.okW (by omega),h.bd.okW (by omega),h.cn.1⟩
theorem aaX:Num ⟨0,1⟩:=⟨⟨by decide,by decide⟩,by unfold Lt2;decide,by unfold Lt2;decide,by decide,by decide⟩
theorem num1:Num ⟨1,1⟩:=⟨⟨by decide,by decide⟩,by unfold Lt2;decide,by unfold Lt2;decide,by decide,by decide⟩
theorem IJ{a b:Int}{k:Nat}(e:Lt2 k a)(c:Lt2 k b):Lt2 k (low a b).n/\Lt2 k (low a b).d:=⟨Nat.lt_of_le_of_lt (E8 a b) e,Nat.lt_of_le_of_lt (Fa a b) c⟩
theorem Qr{z:Int}(h:I43 z):Lt2 46 z:=by unfold I43 at h;exact sD (n:=35184372088832) (by omega) (by decide)
theorem Qu{p:Int × Int}(b:∀ r∈l,Num r)(hp:I43 p.1/\I43 p.2/\p.2≠0):∀ r∈Fp l p,Num r:=by
 intro r a;rcases Qo a with h |⟨rfl,d,c⟩
 . exact b r h
 . obtain⟨b1,e⟩:=IJ (Qr hp.1) (Qr hp.2.1);exact⟨UO hp.2.2,b1,e,d,c⟩
theorem Hl:∀(a:List (Int × Int)) {l:List Rt},(∀ r∈l,Num r)->(∀ p∈a,I43 p.1/\I43 p.2/\p.2≠0)->(∀ r∈o9 l a,Num r)/\(o9 l a).length<=l.length+a.length
 |[],l,hl,_=>⟨hl,by simp[o9]⟩
 | p::a,l,hl,hp=>by obtain⟨c,b⟩:=Hl a (Qu hl (hp p (by simp))) λq d=>hp q (by simp[d]);refine⟨c,?_⟩;have:=JJ l p;rw[qLl];exact Nat.le_trans b (by omega)
def AQ(s t:Rt):Rt:=low (s.n*t.d+t.n*s.d) (s.d*t.d)
def lC(s t:Rt):Rt:=low ((AQ s t).n*1) ((AQ s t).d*2)
def nN(x0 x1:Int)(t:Rt):Int:=(x1-x0)*t.n+x0*t.d
def Ud(f:Fen)(a b:V3)(t:Rt):Bool:=Lh f (nN a.x b.x t*t.d) (nN a.y b.y t*t.d) (t.d*t.d)
def xR(f:Fen)(a b:V3):List Rt->Bool
 | s::t::r=>Ud f a b (lC s t)&&xR f a b (t::r)
 | _=>true
def numsL(f:Fen)(a b:V3):List Rt:=FB (zh (JM a b [⟨0,1⟩,⟨1,1⟩] (iP f)))
def Cj(f:Fen)(a b:V3):Bool × Int:=
 if validP f then(if inM 1048576 a then(if inM 1048576 b then(if rO f a then(if rO f b then(if a.x=b.x/\a.y=b.y then(true,0)else(xR f a b (numsL f a b),0))else(false,0))else(false,0))else(false,2))else(false,2))else(false,2)
theorem Lm:∀{l:List Rt} {x y:Rt},y∈Fz x l->y∈l
 |[],_,_,h=>by simp[Fz]at h
 | z::r,x,y,h=>by
  unfold Fz at h;split at h
  . exact List.mem_cons_of_mem _ (Lm h)
  . rcases List.mem_cons.1 h with rfl | h
    . simp
    . exact List.mem_cons_of_mem _ (Lm h)
theorem SK{y:Rt}(h:y∈FB l):y∈l:=by
 cases l with
 | nil=>simp[FB]at h
 | cons x r =>
  rcases List.mem_cons.1 h with rfl | h
  . simp
  . exact List.mem_cons_of_mem _ (Lm h)
theorem SL(l:List Rt):(FB l).length<=l.length:=by
 cases l with
 | nil=>simp[FB]
 | cons x r=>have:=SI x r;simp only[FB,qLl];omega
theorem AU(l:List Rt):(zh l).length=l.length:=(yL l).length_eq
theorem sum_lt(b:Num s)(a:Num t):Lt2 93 (s.n*t.d+t.n*s.d)/\Lt2 93 (s.d*t.d)/\0<s.d*t.d:=
 ⟨((b.bn.mul a.bd).add (a.bn.mul b.bd)).mono (by omega),(b.bd.mul a.bd).mono (by omega),Int.mul_pos b.cn.1 a.cn.1⟩
theorem Ny:Lt2 2 2:=by unfold Lt2;decide
theorem Nz:Lt2 1 1:=by unfold Lt2;decide
theorem UQ(j:Num s)(i:Num t):Lt2 100 (lC s t).n/\Lt2 100 (lC s t).d/\0<(lC s t).d/\Lt2 93 (AQ s t).n/\Lt2 93 (AQ s t).d/\0<(AQ s t).d:=by obtain⟨m,k,o⟩:=sum_lt j i;obtain⟨b,a⟩:=IJ m k;have h:0<(AQ s t).d:=xO (by omega);have e:Lt2 100 ((AQ s t).n*1):=(Lt2.mul b Nz).mono (by omega);have c:Lt2 100 ((AQ s t).d*2):=(Lt2.mul a Ny).mono (by omega);obtain⟨g,f⟩:=IJ e c;exact⟨g,f,xO (by omega),b,a,h⟩
section
variable (X:Ext) (hX:Mine X)
include hX
variable (hB:Bits X)
include hB
theorem c76(a b:Int)(c:Lt2 25 a)(o:Lt2 25 b)(t:Rt)(i:Lt2 100 t.n)(hd:Lt2 100 t.d):run tab X 76 [.p (.int .i64 a),.p (.int .i64 (b-a)),.p (mX t),.p pZ] []=some ([.p (eR (nN a b t) t.d)],[]):=
 run_of (hX _ rfl) (by
  have g:Lt2 26 (b-a):=o.sub c;have f:Lt2 200 ((b-a)*t.n):=(g.mul i).mono (by omega);have e:Lt2 200 (a*t.d):=(c.mul hd).mono (by omega);have m:=SA X hX hB (b-a) t.n (g.okW (by omega)) (i.okW (by omega)) (f.okW (by omega));have k:=SA X hX hB a t.d (c.okW (by omega)) (hd.okW (by omega)) (e.okW (by omega));have h:=c79 X hX hB ((b-a)*t.n) (a*t.d) (f.okW (by omega)) (e.okW (by omega));rw[xI,if_pos ((f.add e).okW (by omega))]at h;have b1:-9223372036854775808<=b-a/\b-a<=9223372036854775807:=by unfold Lt2 at g;omega
  have j:-9223372036854775808<=a/\a<=9223372036854775807:=by unfold Lt2 at c;omega
  rw[mX,eR,e76,c61 X hX hB _ b1.1 b1.2,qOb];simp only[qLh,pv_p,iL];show(run tab X 77 [.p pZ,.p (eW (b-a)),.p (eW t.n)] []).bind _=_;rw[m,qOb,c61 X hX hB _ j.1 j.2,qOb];simp only[qLh,pv_p,iL];show(run tab X 77 [.p pZ,.p (eW a),.p (eW t.d)] []).bind _=_;rw[k,qOb];simp only[qLh,pv_p,iL];rw[h,qOb];simp only[qLh,List.tail_cons,pv_p,iL,toInt_int];rw[c78 X hX,qOb];rfl)
abbrev w28:List Wy:=[.lp [1,1,1,1,1,1,1,1,1,1,1,1,0,1,0]]
abbrev S28(f:Fen)(a b:V3)(i:Nat)(n:Nat)(buf:List PV):St:=iO (i:Int) (encL f.outer) (bI f.holes) f.low f.high a.x a.y a.z b.x b.y b.z (decide ((1:Int)<0)) (jS (1:Int).natAbs) 0 n buf 0
theorem l28b(f:Fen)(hf:Sz f)(a b:V3)(N:lu a)(M:lu b)(D:List Rt)(hD:∀ r∈D,Num r)(hDl:D.length<=1000000)(h:List PV)(K:h.take D.length=encR D):∀(r:List Rt) (i:Nat),D.drop i=r->i<D.length ->
    L tab (run tab X) 28 [] w28 (S28 f a b (i+1) D.length h)=some (zf (xR f a b r,0),[]):=by
  have get:∀ i,i<D.length->h.getD i .nil=mX (gr D i):=λi g=>by rw[<- pU D g];grind
  have V:∀ i,i<D.length->Num (gr D i):=λi g=>hD _ (by grind);intro r;induction r with
  | nil =>intro i u g;have:=congrArg List.length u;grind
  | cons s r ih =>
   intro i u g;have J:gr D i=s:=by grind[qLb,List.head?_drop]
   have hnext:D.drop (i+1)=r:=by rw[<- List.tail_drop,u];rfl
   cases r with
   | nil =>
    have c:D.length=i+1:=by have:=congrArg List.length hnext;grind
    refine L_of ?_;rw[oM,y8 (by omega),qCf];rfl
   | cons t r' =>
    have c:i+1<D.length:=by grind
    have I:gr D (i+1)=t:=by show D.getD (i+1) ⟨0,0⟩=t;rw[qLb,<- List.head?_drop,hnext];rfl
    have q:=J▸V i g;have o:=I▸V (i+1) c;have W:IntKind.i64.wrap (((i+1:Nat):Int)-1)=(i:Int):=by rw[wrap_eq (by omega) (by omega)];omega
    obtain⟨o1,o2,o3⟩:=sum_lt q o;obtain⟨k,e,F,H,G,k3⟩:=UQ q o;have A:=c80 X hX hB s.n s.d t.n t.d q.ok o.ok;rw[AO (o1.okW (by omega)) (o2.okW (by omega)) (by omega)]at A;have j:okR 1 2:=⟨pR (by decide),pR (by decide),by decide⟩;have m:okR (AQ s t).n (AQ s t).d:=⟨H.okW (by omega),G.okW (by omega),k3⟩;have z:=c81 X hX hB (AQ s t).n (AQ s t).d 1 2 m j;rw[AO ((Lt2.mul H Nz).okW (by omega)) ((Lt2.mul G Ny).okW (by omega)) (by omega)]at z;obtain⟨S,R⟩:=vw N.up;obtain⟨bx,v⟩:=vw M.up;have q3:=c76 X hX hB a.x b.x S bx (lC s t) k e;have Z:=c76 X hX hB a.y b.y R v (lC s t) k e
    obtain⟨Q,P⟩:=JD N.up M.up;have U:Lt2 130 (nN a.x b.x (lC s t)):=((Q.mul k).add ((S.mul e).mono (by omega))).mono (by omega);have T:Lt2 130 (nN a.y b.y (lC s t)):=((P.mul k).add ((R.mul e).mono (by omega))).mono (by omega);have E:Lt2 20000 (nN a.x b.x (lC s t)*(lC s t).d):=(U.mul e).mono (by omega);have C:Lt2 20000 (nN a.y b.y (lC s t)*(lC s t).d):=(T.mul e).mono (by omega);have B:Lt2 20000 ((lC s t).d*(lC s t).d):=(e.mul e).mono (by omega);have Y:=c63 X hX hB (nN a.x b.x (lC s t)) (lC s t).d (nN a.y b.y (lC s t)) (lC s t).d (U.okW (by omega)) (e.okW (by omega)) (T.okW (by omega)) (e.okW (by omega)) (E.okW (by omega)) (C.okW (by omega)) (B.okW (by omega));have w:=aaP X hX hB f hf _ _ _ ⟨E,C,B,Int.mul_pos F F⟩;rw[encF]at w;have dX:IntKind.i64.wrap (b.x-a.x)=b.x-a.x:=by unfold Lt2 at Q;exact wrap_eq (by omega) (by omega)
    have dY:IntKind.i64.wrap (b.y-a.y)=b.y-a.y:=by unfold Lt2 at P;exact wrap_eq (by omega) (by omega)
    have g1:ltI ((i:Nat):Int) (D.length:Int)=true:=rM g;have O:ltI ((i+1:Nat):Int) (D.length:Int)=true:=rM c;refine L_of ?_;rw[oM,O,qCt,W];simp only[le0,g1,O,qBs,qCt,qIt,qNz,get i g,get (i+1) c,J,I,dZ (show i+1<=9000000000000000000 by omega),dX,dY];show(run tab X 80 [.p (eR s.n s.d),.p (eR t.n t.d)] []).bind _=_;rw[A,qOb,c61 X hX hB 2 (by omega) (by omega),qOb];show(run tab X 81 [.p (eR (AQ s t).n (AQ s t).d),.p (eR 1 2)] []).bind _=_;rw[z,qOb];show(run tab X 76 [.p (.int .i64 a.x),.p (.int .i64 (b.x-a.x)),.p (mX (lC s t)),.p pZ] []).bind _=_;rw[q3,qOb];show(run tab X 76 [.p (.int .i64 a.y),.p (.int .i64 (b.y-a.y)),.p (mX (lC s t)),.p pZ] []).bind _=_;rw[Z,qOb];show(run tab X 63 [.p pZ,.p (eR (nN a.x b.x (lC s t)) (lC s t).d),.p (eR (nN a.y b.y (lC s t)) (lC s t).d)] []).bind _=_;rw[Y,qOb];show(run tab X 64 [_,.p (.fn 82 [pZ,.ref (JE (nN a.x b.x (lC s t)*(lC s t).d) (nN a.y b.y (lC s t)*(lC s t).d) ((lC s t).d*(lC s t).d))])] []).bind _=_;rw[w,qOb];simp only[qLh,pv_p,toBool_bool];have qh:=ih (i+1) hnext c;rw[xR];unfold Ud;cases Lh f (nN a.x b.x (lC s t)*(lC s t).d) (nN a.y b.y (lC s t)*(lC s t).d) ((lC s t).d*(lC s t).d)with
    | false=>rfl
    | true=>grind
end
end
section
variable {l:List Rt}
theorem Lp(a b:V3)(l:List Rt)(e:kX)(es:List kX):JM a b l (e::es)=JM a b (o9 l (uD a b e.1 e.2)) es:=rfl
theorem Qv(h:∀ r∈l,Num r):∀ r∈zh l,Num r:=λr a=>h r ((yL l).mem_iff.1 a)
theorem SN(h:∀ r∈l,Num r):∀ r∈FB l,Num r:=λr a=>h r (SK a)
theorem UR(h:l≠[]):0<(FB l).length:=by
 cases l with
 | nil=>exact absurd rfl h
 | cons x r=>simp[FB]
abbrev JR(ys:List PV):List Wy:=[.rg [1,1,1,1,1,1,0,1,0] [(true,kV3),(true,kV3)] ys]
abbrev SQ(f:Fen)(a b:V3)(n:Nat)(buf:List PV):St:=jJ (encL f.outer) (bI f.holes) f.low f.high (encL f.outer) (bI f.holes) f.low f.high a.x a.y a.z b.x b.y b.z (decide ((1:Int)<0)) (jS (1:Int).natAbs) 0 n buf
abbrev Xb(f:Fen)(a b:V3)(n:Nat)(buf:List PV):St:=qg (encL f.outer) (bI f.holes) f.low f.high (encL f.outer) (bI f.holes) f.low f.high a.x a.y a.z b.x b.y b.z (decide ((1:Int)<0)) (jS (1:Int).natAbs) buf 0 n
section
variable (X:Ext) (hX:Mine X)
include hX
variable (hB:Bits X) (hE:zl X) (hS:Sorts X)
include hB hS
theorem c74(l:List Rt)(a:∀ r∈l,Num r)(g:l.length<=100000):run tab X 74 [.slice 100000 4 0 l.length,.p (.fn 73 [])] [.arr true kR (encR l)]=some ([],[.arr true kR (encR (zh l))]):=by
 have _:=hX;have _:=hB;let vs:List Vr:=l.attach.map λx=>⟨x.1,(a x.1 x.2).ok⟩;have j:vs.map (·.1)=l:=by show(l.attach.map λx=>(⟨x.1,(a x.1 x.2).ok⟩:Vr)).map (·.1)=l;simp
 have i:vs.length=l.length:=by grind
 obtain⟨m,f,b,e⟩:=hS.s vs (by omega);have h:m.map (·.1)=zh l:=by
  have hp:(m.map (·.1)).Perm l:=by grind
  refine Fv (hp.trans (yL l).symm) b (Qq λy c=>(a y c).cn.1) λx d=>(a x (hp.mem_iff.1 d)).cn
 grind[Jo]
theorem n28(f:Fen)(j:Sz f)(a b:V3)(m:lu a)(k:lu b)(l:List Rt)(e:∀ r∈l,Num r)(i:l.length<=100000)(o:l≠[]) :
    L tab (run tab X) 28 [] (JR []) (SQ f a b l.length (encR l))=some (zf (xR f a b (FB (zh l)),0),[]):=by
  rw[xB,c74 X hX hB hS l e i,qOb];obtain⟨n,d,g⟩:=c75 X hX (zh l) (by rw[AU];omega);rw[AU]at d;show(run tab X 75 [.slice 100000 4 0 l.length] [.arr true kR (encR (zh l))]).bind _=_;rw[d,qOb];have c:zh l≠[]:=λh=>by have:=AU l;grind
  exact l28b X hX hB f j a b m k (FB (zh l)) (SN (Qv e)) (by have:=SL (zh l);rw[AU]at this;omega) n g (FB (zh l)) 0 rfl (UR c)
theorem l28a(f:Fen)(C:Sz f)(a b:V3)(t:lu a)(s:lu b)(d:¬(a.x=b.x/\a.y=b.y)):∀(es:List kX) (l:List Rt),(∀ e∈es,lu e.1/\lu e.2)->(∀ r∈l,Num r)->l≠[]->l.length+2*es.length<=100000 ->
    L tab (run tab X) 28 [] (JR (es.map eY)) (SQ f a b l.length (encR l))=some (zf (xR f a b (FB (zh (JM a b l es))),0),[]):=by
  intro es;induction es with
  | nil =>intro l _ n v m;exact n28 X hX hB hS f C a b t s l n (by simp at m;omega) v
  | cons e r j =>
   intro l c n v m;obtain⟨u,hd⟩:=c e (by simp);simp only[qLl]at m;have q:=c72 X hX hB l (by omega) a b e.1 e.2 t s u hd d;simp only[encV]at q;obtain⟨E,w⟩:=JL t s u hd d;obtain⟨A,F⟩:=Hl (uD a b e.1 e.2) n w;rw[List.map_cons,Lp];show L tab (run tab X) 28 [] (JR (.agg [.agg [.int .i64 e.1.x,.int .i64 e.1.y,.int .i64 e.1.z],.agg [.int .i64 e.2.x,.int .i64 e.2.y,.int .i64 e.2.z]]::r.map eY)) (SQ f a b l.length (encR l))=_;rw[o8,q,qOb];have B:l.length<=(o9 l (uD a b e.1 e.2)).length:=by
    have i:∀(g:List (Int × Int)) (l:List Rt),l.length<=(o9 l g).length:=by
     intro g;induction g with
     | nil=>intro l;exact qNr _
     | cons p g j =>intro l;refine Nat.le_trans ?_ (j (Fp l p));grind[Fp]
    exact i _ _
   have k:o9 l (uD a b e.1 e.2)≠[]:=λh=>by grind
   have qh:=j (o9 l (uD a b e.1 e.2)) (λD o=>c D (by simp[o])) A k (by omega);show L tab (run tab X) 28 [] (JR (r.map eY)) (SQ f a b (encR (o9 l (uD a b e.1 e.2))).length (encR (o9 l (uD a b e.1 e.2))))=_;grind[xQ]
theorem aaY(f:Fen)(k:Sz f)(a b:V3)(n:lu a)(m:lu b)(h:¬(a.x=b.x/\a.y=b.y))(es:List kX)(l:List Rt)(g:es≠[])(d:∀ e∈es,lu e.1/\lu e.2)(j:∀ r∈l,Num r)(o:l≠[])(i:l.length+2*es.length<=100000) :
    L tab (run tab X) 28 [] (JR (es.map eY)) (Xb f a b l.length (encR l))=some (zf (xR f a b (FB (zh (JM a b l es))),0),[]):=by
  cases es with
  | nil=>exact absurd rfl g
  | cons e r =>have c:=l28a X hX hB hS f k a b n m h (e::r) l d j o i;rw[List.map_cons]at c ⊢;have p:∀ ys:List PV,JR (eY e::ys)=JR (.agg [.agg [.int .i64 e.1.x,.int .i64 e.1.y,.int .i64 e.1.z],.agg [.int .i64 e.2.x,.int .i64 e.2.y,.int .i64 e.2.z]]::ys):=λ_=>rfl;grind[o8,zC]
include hE
theorem OJ{f:Fen}(h:validP f=true):iP f≠[]:=by have _:=hX;have _:=hB;have _:=hE;have _:=hS;have a:=(kD h).1;have b:=(l9 (b:=true) a).2;have c:=(gI a).1;grind[qLp,jg,List.length_nil,iP]
theorem c28(f:Fen)(u:nO f)(a b:V3):run tab X 28 [.p (encF f),.p (encV a),.p (encV b)] []=some (zf (Cj f a b),[]):=
 run_of (hX _ rfl) (by
  have z:=c18 X hX f u;have w:=c40 X hX a;have v:=c40 X hX b;have d:=c31 X hX f;have c:=hE.e f u;rw[encF]at z d;rw[encV]at w v;rw[encF,encV,encV,e28,z,qOb];simp only[qLh,pv_p,toBool_bool];unfold Cj;cases j:validP f with
  | false=>rfl
  | true =>
   obtain⟨o,_⟩:=ou j;rw[qBt,qCf,w,qOb,if_pos rfl];simp only[qLh,pv_p,toBool_bool];cases D:inM 1048576 a with
   | false=>rfl
   | true =>
    rw[qBt,qCf,v,qOb,if_pos rfl];simp only[qLh,pv_p,toBool_bool];cases C:inM 1048576 b with
    | false=>rfl
    | true =>
     have s:=tK.1 D;have q:=tK.1 C;have h4:=c55 X hX f o a (s.mono (by decide));have h5:=c55 X hX f o b (q.mono (by decide));rw[encF,encV]at h4 h5;rw[qBt,qCf,h4,qOb,if_pos rfl];simp only[qLh,pv_p,toBool_bool];cases B:rO f a with
     | false=>rfl
     | true =>
      rw[qBt,qCf,h5,qOb,if_pos rfl];simp only[qLh,pv_p,toBool_bool];cases A:rO f b with
      | false=>rfl
      | true =>
       rw[qBt,qCf,if_pos rfl];have m:¬(a.x=b.x/\a.y=b.y)->L tab (run tab X) 28 [] (JR ((iP f).map eY)) (Xb f a b 2 [.agg [.bool false,.str ⟨#[]⟩,.bool (decide ((1:Int)<0)),.str (jS (1:Int).natAbs)],.agg [.bool (decide ((1:Int)<0)),.str (jS (1:Int).natAbs),.bool (decide ((1:Int)<0)),.str (jS (1:Int).natAbs)]])=some (zf (xR f a b (numsL f a b),0),[]):=λn=>by
        have k:=aaY X hX hB hS f o a b s q n (iP f) [⟨0,1⟩,⟨1,1⟩] (OJ X hX hB hE hS j) (Ce j) (by
         intro r t;simp only[List.mem_cons,List.not_mem_nil,or_false]at t;rcases t with rfl | rfl
         . exact aaX
         . exact num1) (by simp) (by have:=Fh j;simp only[qLl,List.length_nil];omega)
        have F:encR [⟨0,1⟩,⟨1,1⟩]=[.agg [.bool false,.str ⟨#[]⟩,.bool (decide ((1:Int)<0)),.str (jS (1:Int).natAbs)],.agg [.bool (decide ((1:Int)<0)),.str (jS (1:Int).natAbs),.bool (decide ((1:Int)<0)),.str (jS (1:Int).natAbs)]]:=by show [PV.agg [.bool (decide ((0:Int)<0)),.str (jS (0:Int).natAbs),.bool (decide ((1:Int)<0)),.str (jS (1:Int).natAbs)],_]=_;rw[show(0:Int).natAbs=0 from rfl,xP];rfl
        rw[F]at k;exact k
       have E:lG f=iP f:=by unfold lG;rw[if_pos j]
       rw[E]at c;by_cases i:a.x=b.x
       . rw[show(a.x==b.x)=true from beq_iff_eq.2 i,qCt];by_cases g:a.y=b.y
         . rw[show(a.y==b.y)=true from beq_iff_eq.2 g,qCt,if_pos ⟨i,g⟩];rfl
         . rw[show(a.y==b.y)=false from beq_eq_false_iff_ne.2 g,qCf,if_neg λh=>g h.2,c61 X hX hB 1 (by omega) (by omega),qOb,d,qOb];show(run tab X 87 [.yld,.p (.ref (xu f))] [.log true []]).bind _=_;rw[c,qOb];exact m λh=>g h.2
       . rw[show(a.x==b.x)=false from beq_eq_false_iff_ne.2 i,qCf,if_neg λh=>i h.1,c61 X hX hB 1 (by omega) (by omega),qOb,d,qOb];show(run tab X 87 [.yld,.p (.ref (xu f))] [.log true []]).bind _=_;rw[c,qOb];exact m λh=>i h.1)
end
end
section
open Go.Skm.Dig
theorem Qx{B p:Nat}(x r s:Nat)(q:Nat)(h:(r*B+x) / 256=q):(q+B*s)*256+(r*B+x)%256=x+B*(s*256+r):=by grind
abbrev wA:List Wy:=[.lp [1,1,1,0,0]]
abbrev wB:List Wy:=[.lp [1,1,1,0,0],.lp [1,0,1,0,1,0]]
abbrev wC:List Wy:=[.lp [1,1,1,1,1,0,1,0]]
theorem J4(k:IntKind)(l:List Nat)(i:Nat)(h:i<l.length):(aY k l).getD i .nil=.int k (l.getD i 0:Nat):=by grind[aY]
theorem Qy(p q:List Nat)(x:Nat):(p++[x]++q).getD p.length 0=x:=by simp
theorem UU(p q:List Nat)(x y:Nat):(p++[x]++q).set p.length y=p++([y]++q):=by simp
theorem SS {α:Type} (P:List α->Prop) (h0:P []) (h1:∀ l x,P l->P (l++[x])) (l:List α):P l:=by
 have:∀ m:List α,P m.reverse:=by
  intro m
  induction m with
  | nil=>exact h0
  | cons x m ih=>rw[List.reverse_cons];exact h1 _ _ ih
 rw[<- List.reverse_reverse l]
 exact this _
section
variable (X:Ext) (hX:Mine X)
include hX
theorem abk (neg : Bool) (xs : List PV) (g : Bool) (gs : ByteArray) (bk : List PV) (bo bl : Nat) (T : List Nat) (res : List AV × List Blk) :
    ∀ pre:List Nat,∀ (suf:List Nat) (r:Nat),ok B9 pre->ok B9 suf->r<256->pre.length+suf.length<=1000000000 ->
    (∀ (Q:List Nat) (r':Nat),Q.length=pre.length+suf.length->ok B9 Q->r'<256->val B9 Q*256+r'=val B9 pre+B9 ^ pre.length*(val B9 suf*256+r)->L tab (run tab X) 70 [] wB (iR bo bl 0 Q.length (r':Int) (-1) neg xs g gs bk (aY .i64 (Q++T)))=some res) ->
    L tab (run tab X) 70 [] wB (iR bo bl 0 (pre.length+suf.length) (r:Int) ((pre.length:Int)-1) neg xs g gs bk (aY .i64 (pre++suf++T)))=some res:=by
  have _:=hX
  intro pre
  induction pre using SS with
  | h0 =>
   intro suf r hp hs hr hn h
   have:=h suf r (by simp) hs hr (by simp[val])
   grind
  | h1 l x ih =>
   intro suf r hp hs hr hn h
   rw[gU]at hp
   obtain⟨hl,hx⟩:=hp
   have hx':x<B9:=hx x (by simp)
   have e9:B9=1000000000:=rfl
   rw[qLp,List.length_singleton]at hn h ⊢
   have hcur:r*B9+x<256*B9:=by grind
   have hq:(r*B9+x) / 256<B9:=Nat.div_lt_of_lt_mul (by omega)
   have hr':(r*B9+x)%256<256:=qNm _ (by decide)
   have key:=ih ((r*B9+x) / 256::suf) ((r*B9+x)%256) hl (oK.2 ⟨hq,hs⟩) hr' (by simp;omega) (λQ r' hQ Zj abl hv=>by
    refine h Q r' (by rw[hQ];simp;omega) Zj abl ?_
    rw[hv,iI]
    have d:=Qx (B:=B9) (p:=0) x r (val B9 suf) _ rfl
    show val B9 l+B9 ^ l.length*(((r*B9+x) / 256+B9*val B9 suf)*256+(r*B9+x)%256)=_
    grind)
   refine L_of ?_
   have i1:((l.length+1:Nat):Int)-1=(l.length:Int):=by omega
   rw[uU,i1,show geI (l.length:Int) 0=true from decide_eq_true (by omega),qCt]
   have g1:ltI (l.length:Int) ((l.length+1+suf.length:Nat):Int)=true:=decide_eq_true (by omega)
   rw[show leI (0:Int) (l.length:Int)=true from decide_eq_true (by omega),g1]
   simp only[qBs,qCt,qIt,qNz]
   rw[J4 _ _ _ (by simp),show l++[x]++suf++T=l++[x]++(suf++T) by simp,Qy]
   have c1:IntKind.i64.wrap ((r:Int)*1000000000)=((r*B9:Nat):Int):=by rw[wrap_eq (by omega) (by omega),e9];omega
   have c2:IntKind.i64.wrap (((r*B9:Nat):Int)+(x:Int))=((r*B9+x:Nat):Int):=by rw[wrap_eq (by omega) (by omega)];omega
   have c3:IntKind.i64.wrap (((r*B9+x:Nat):Int).tdiv 256)=(((r*B9+x) / 256:Nat):Int):=by
    rw[show ((r*B9+x:Nat):Int).tdiv 256=(((r*B9+x) / 256:Nat):Int) from rfl,wrap_eq (by omega) (by omega)]
   have c4:((r*B9+x:Nat):Int).tmod 256=(((r*B9+x)%256:Nat):Int):=rfl
   have c5:IntKind.i64.wrap ((l.length:Int)-1)=(l.length:Int)-1:=wrap_eq (by omega) (by omega)
   show L tab (run tab X) 70 [] wB (iR bo bl 0 (l.length+1+suf.length) ((IntKind.i64.wrap (IntKind.i64.wrap ((r:Int)*1000000000)+(x:Int))).tmod 256) (IntKind.i64.wrap ((l.length:Int)-1)) neg xs g gs bk ((aY .i64 (l++[x]++(suf++T))).set l.length (.int .i64 (IntKind.i64.wrap ((IntKind.i64.wrap (IntKind.i64.wrap ((r:Int)*1000000000)+(x:Int))).tdiv 256)))))=some res
   rw[c1,c2,c3,c4,c5,iy,UU]
   rw[qLl]at key
   grind
theorem abm(c:Bool)(xs:List PV)(g:Bool)(e:ByteArray)(b:List Nat)(o:∀ x∈b,x<256)(m:b.length<=1000000000):∀(i:Nat) (a:List Nat),i<=b.length->a.length+i=b.length ->
    L tab (run tab X) 70 [] wC (oL 0 b.length 0 a.length ((i:Int)-1) c xs g e (aY .u8 b) (aY .u8 a))=some ([.p (.agg [.bool c,.str (bytesOf (aY .u8 (a++(b.take i).reverse)))])],[]):=by
  have _:=hX;intro i;induction i with
  | zero =>intro a _ k;refine L_of ?_;rw[zW,show geI (((0:Nat):Int)-1) 0=false from rfl,qCf];rw[show(aY .u8 a).drop 0=aY .u8 a from qLy,<- bF .u8 a,List.take_length];simp
  | succ i h =>
   intro a n k;have d:i<b.length:=by omega
   refine L_of ?_;have j:((i+1:Nat):Int)-1=(i:Int):=by omega
   rw[zW,j,show geI (i:Int) 0=true from decide_eq_true (by omega),qCt];have l:ltI (i:Int) (b.length:Int)=true:=decide_eq_true (by omega);rw[show leI (0:Int) (i:Int)=true from decide_eq_true (by omega),l];simp only[qBs,qCt,qIt,qNz];rw[show leN (a.length+1) 2147483648=true from decide_eq_true (by omega),qCt,J4 _ _ _ d];have s:((aY .u8 a).drop 0).take a.length=aY .u8 a:=by rw[qLy,<- bF .u8 a,List.take_length]
   have c5:IntKind.i64.wrap ((i:Int)-1)=(i:Int)-1:=wrap_eq (by omega) (by omega);show L tab (run tab X) 70 [] wC (oL 0 b.length 0 (a.length+1) (IntKind.i64.wrap ((i:Int)-1)) c xs g e (aY .u8 b) (((aY .u8 a).drop 0).take a.length++([.int .u8 ((b.getD i 0:Nat):Int)]:List PV)))=_;have r:aY .u8 a++([.int .u8 ((b.getD i 0:Nat):Int)]:List PV)=aY .u8 (a++[b.getD i 0]):=by rw[<- qN];rfl
   have q:(b.take (i+1)).reverse=b.getD i 0::(b.take i).reverse:=by simp_all
   have f:=h (a++[b.getD i 0]) (by omega) (by simp;omega);grind[qLp,List.length_singleton]
theorem abn(e:Bool)(xs:List PV):∀(m:Nat) (b:List Nat) (l:Nat) (a:List Nat),ok B9 b->b.length<=1000000->l<=b.length->b.take l=aS B9 m->(∀ x∈a,x<256)->a.length+(aS 256 m).length<=100000000 ->
    L tab (run tab X) 70 [] wA (yA 0 a.length 0 l e xs false ⟨#[]⟩ (aY .u8 a) (aY .i64 b))=some ([.p (.agg [.bool e,.str (bytesOf (aY .u8 (a++aS 256 m).reverse))])],[]):=by
  intro m;induction m using Nat.strongRecOn with
  | ind m z =>
   intro b l a t G K E F B;have c:l=(aS B9 m).length:=by grind
   by_cases v:m=0
   . subst v;rw[cu]at c ⊢;rw[List.length_nil]at c;subst c;rw[List.append_nil];refine L_of ?_;rw[GL,show gtI ((0:Nat):Int) 0=false from rfl,qCf,wrap_eq (by omega) (by omega)];have f:=abm X hX e xs false ⟨#[]⟩ a F (by omega) a.length [] (qNr _) (by simp);rw[List.take_length,List.nil_append]at f;exact f
   . have s:0<l:=by rw[c];exact List.length_pos_iff.2 λh=>v ((jA (by decide)).1 h)
     have y:aS 256 m=m%256::aS 256 (m / 256):=wY (by decide) (by omega);refine L_of ?_;rw[GL,show gtI (l:Int) 0=true from decide_eq_true (by omega),qCt,wrap_eq (by omega) (by omega)];have M:b=b.take l++[]++b.drop l:=by simp
     have r:ok B9 (b.take l):=λd hd=>t d (List.mem_of_mem_take hd);have q:ok B9 (b.drop l):=λd hd=>t d (List.mem_of_mem_drop hd);have A:(b.take l).length=l:=by simp;omega
     have f:=abk X hX e xs false ⟨#[]⟩ (aY .u8 a) 0 a.length (b.drop l) ([.p (.agg [.bool e,.str (bytesOf (aY .u8 (a++aS 256 m).reverse))])],[]) (b.take l) [] 0 r (oJ _) (by decide) (by simp;omega) (λQ g u w C j=>by
      rw[A]at u j;rw[List.length_nil,Nat.add_zero]at u;have i:val B9 (b.take l)=m:=by rw[E,lF (by decide)]
      rw[i]at j;simp only[val,Nat.zero_mul,Nat.add_zero,Nat.mul_zero]at j;have D:val B9 Q=m / 256:=by omega
      have J:g=m%256:=by omega
      refine L_of ?_;rw[uU,show geI (-1:Int) 0=false from rfl,qCf];rw[show leN (a.length+1) 2147483648=true from decide_eq_true (by omega),qCt];have o:(Q++b.drop l).length<=2147483648:=by simp;omega
      rw[c130 X hX (Q++b.drop l) o 0 Q.length (by simp),qOb];have I:((Q++b.drop l).drop 0).take Q.length=Q:=by simp
      rw[I];have k:trim Q=aS B9 (m / 256):=kL (by decide) w D;have H:((aY .u8 a).drop 0).take a.length++([.int .u8 (IntKind.u8.wrap (g:Int))]:List PV)=aY .u8 (a++[m%256]):=by
       rw[qLy,<- bF .u8 a,List.take_length,<- qN];have:IntKind.u8.wrap (g:Int)=((m%256:Nat):Int):=by grind[IntKind.bits,IntKind.signed,IntKind.wrap]
       rw[this];rfl
      rw[H];have n:m / 256<m:=Nat.div_lt_self (by omega) (by decide);have qh:=z (m / 256) n (Q++b.drop l) (trim Q).length (a++[m%256]) (gU.2 ⟨w,q⟩) (by simp;omega) (by
       have:=FH Q;rw[qLp];omega) (by
       rw[List.take_append_of_le_length (FH Q),mF,k]) (by
       grind) (by
       rw[y,qLl]at B;rw[qLp,List.length_singleton];omega)
      rw[qLp,List.length_singleton]at qh;rw[y,show a++m%256::aS 256 (m / 256)=a++[m%256]++aS 256 (m / 256) by simp];exact qh)
     grind
theorem bytes9{n k:Nat}(h:(aS B9 n).length<=k):(aS 256 n).length<=4*k:=by have _:=hX;refine ji (by decide) (Nat.lt_of_lt_of_le (jV (b:=B9) (by decide)) (Nat.le_trans (Nat.pow_le_pow_right (by decide) h) ?_));rw[Nat.pow_mul];exact Nat.pow_le_pow_left (by decide) _
theorem c70(z:Int)(b:iQ z 1000000):run tab X 70 [.p (eI z)] []=some ([.p (eW z)],[]):=
 run_of (hX _ rfl) (by unfold iQ at b;have c:=bytes9 X hX b;rw[eI,e70,bF,show leN (aS B9 z.natAbs).length 2147483648=true from decide_eq_true (by omega),qCt];have a:=abn X hX (decide (z<0)) (nI z.natAbs) z.natAbs (aS B9 z.natAbs) (aS B9 z.natAbs).length [] (qZ (by decide) _) b (qNr _) (List.take_length) (by simp) (by simp;omega);rw[List.nil_append,wK]at a;exact a)
end
end
end Go.Skm.Fen
