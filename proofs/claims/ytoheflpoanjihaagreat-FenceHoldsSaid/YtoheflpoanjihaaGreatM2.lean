import Derived.Test.YtoheflpoanjihaaGreatG22
import Derived.Test.YtoheflpoanjihaaGreatPolyH
set_option linter.all false
namespace Go.Skm.Fen
open Go Go.Skm
section
variable {l:List Rt}{s t:Rt}
structure Num (r:Rt):Prop where
 cn:Cn r
 bn:Lt2 46 r.n
 bd:Lt2 46 r.d
 lo:0<=r.n
 hi:r.n<=r.d
theorem Num.ok{r:Rt}(h:Num r):r.ok:=⟨h.bn.okW (by omega),h.bd.okW (by omega),h.cn.1⟩
theorem alo:Num ⟨0,1⟩:=⟨⟨by decide,by decide⟩,by unfold Lt2;decide,by unfold Lt2;decide,by decide,by decide⟩
theorem num1:Num ⟨1,1⟩:=⟨⟨by decide,by decide⟩,by unfold Lt2;decide,by unfold Lt2;decide,by decide,by decide⟩
theorem ZW{a b:Int}{k:Nat}(e:Lt2 k a)(c:Lt2 k b):Lt2 k (low a b).n/\Lt2 k (low a b).d:=⟨Nat.lt_of_le_of_lt (Vu a b) e,Nat.lt_of_le_of_lt (Vw a b) c⟩
theorem ai3{z:Int}(h:I43 z):Lt2 46 z:=by unfold I43 at h;exact Dn (n:=35184372088832) (by omega) (by decide)
theorem ai4{p:Int × Int}(b:∀ r∈l,Num r)(hp:I43 p.1/\I43 p.2/\p.2≠0):∀ r∈NH l p,Num r:=by
 intro r a;rcases aiZ a with h |⟨rfl,d,c⟩
 . exact b r h
 . obtain⟨b1,e⟩:=ZW (ai3 hp.1) (ai3 hp.2.1);exact⟨ad6 hp.2.2,b1,e,d,c⟩
theorem QV:∀(a:List (Int × Int)) {l:List Rt},(∀ r∈l,Num r)->(∀ p∈a,I43 p.1/\I43 p.2/\p.2≠0)->(∀ r∈vO l a,Num r)/\(vO l a).length<=l.length+a.length
 |[],l,hl,_=>⟨hl,by simp[vO]⟩
 | p::a,l,hl,hp=>by obtain⟨c,b⟩:=QV a (ai4 hl (hp p (by simp))) λq d=>hp q (by simp[d]);refine⟨c,?_⟩;have:=abR l p;rw[qLl];exact Nat.le_trans b (by omega)
def EC(s t:Rt):Rt:=low (s.n*t.d+t.n*s.d) (s.d*t.d)
def lT(s t:Rt):Rt:=low ((EC s t).n*1) ((EC s t).d*2)
def ji(x0 x1:Int)(t:Rt):Int:=(x1-x0)*t.n+x0*t.d
def ai5(f:Fen)(a b:V3)(t:Rt):Bool:=XT f (ji a.x b.x t*t.d) (ji a.y b.y t*t.d) (t.d*t.d)
def zq(f:Fen)(a b:V3):List Rt->Bool
 | s::t::r=>ai5 f a b (lT s t)&&zq f a b (t::r)
 | _=>true
def numsL(f:Fen)(a b:V3):List Rt:=QU (MJ (MS a b [⟨0,1⟩,⟨1,1⟩] (iD f)))
def vC(f:Fen)(a b:V3):Bool × Int:=
 if eX f then(if rF 1048576 a then(if rF 1048576 b then(if kK f a then(if kK f b then(if a.x=b.x/\a.y=b.y then(true,0)else(zq f a b (numsL f a b),0))else(false,0))else(false,0))else(false,2))else(false,2))else(false,2)
theorem ad7:∀{l:List Rt} {x y:Rt},y∈QT x l->y∈l
 |[],_,_,h=>by simp[QT]at h
 | z::r,x,y,h=>by
  unfold QT at h;split at h
  . exact List.mem_cons_of_mem _ (ad7 h)
  . rcases List.mem_cons.1 h with rfl | h
    . simp
    . exact List.mem_cons_of_mem _ (ad7 h)
theorem alp{y:Rt}(h:y∈QU l):y∈l:=by
 cases l with
 | nil=>simp[QU]at h
 | cons x r =>
  rcases List.mem_cons.1 h with rfl | h
  . simp
  . exact List.mem_cons_of_mem _ (ad7 h)
theorem alq(l:List Rt):(QU l).length<=l.length:=by
 cases l with
 | nil=>simp[QU]
 | cons x r=>have:=aln x r;simp only[QU,qLl];omega
theorem Pj(l:List Rt):(MJ l).length=l.length:=(Gz l).length_eq
theorem sum_lt(b:Num s)(a:Num t):Lt2 93 (s.n*t.d+t.n*s.d)/\Lt2 93 (s.d*t.d)/\0<s.d*t.d:=
 ⟨((b.bn.mul a.bd).add (a.bn.mul b.bd)).mono (by omega),(b.bd.mul a.bd).mono (by omega),Int.mul_pos b.cn.1 a.cn.1⟩
theorem afM:Lt2 2 2:=by unfold Lt2;decide
theorem afN:Lt2 1 1:=by unfold Lt2;decide
theorem ant(j:Num s)(i:Num t):Lt2 100 (lT s t).n/\Lt2 100 (lT s t).d/\0<(lT s t).d/\Lt2 93 (EC s t).n/\Lt2 93 (EC s t).d/\0<(EC s t).d:=by obtain⟨m,k,o⟩:=sum_lt j i;obtain⟨b,a⟩:=ZW m k;have h:0<(EC s t).d:=yD (by omega);have e:Lt2 100 ((EC s t).n*1):=(Lt2.mul b afN).mono (by omega);have c:Lt2 100 ((EC s t).d*2):=(Lt2.mul a afM).mono (by omega);obtain⟨g,f⟩:=ZW e c;exact⟨g,f,yD (by omega),b,a,h⟩
section
variable (X:Ext) (hX:Mine X)
include hX
variable (hB:Bits X)
include hB
theorem c76(a b:Int)(c:Lt2 25 a)(o:Lt2 25 b)(t:Rt)(i:Lt2 100 t.n)(hd:Lt2 100 t.d):run tab X 76 [Ab a,Ab (b-a),.p (uG t),.p pZ] []=some ([.p (eR (ji a b t) t.d)],[]):=
 aY (hX _ rfl) (by
  have g:Lt2 26 (b-a):=o.sub c;have f:Lt2 200 ((b-a)*t.n):=(g.mul i).mono (by omega);have e:Lt2 200 (a*t.d):=(c.mul hd).mono (by omega);have m:=c77 X hX hB (b-a) t.n (g.okW (by omega)) (i.okW (by omega)) (f.okW (by omega));have k:=c77 X hX hB a t.d (c.okW (by omega)) (hd.okW (by omega)) (e.okW (by omega));have h:=c79 X hX hB ((b-a)*t.n) (a*t.d) (f.okW (by omega)) (e.okW (by omega));rw[JE,if_pos ((f.add e).okW (by omega))]at h;have b1:-9223372036854775808<=b-a/\b-a<=9223372036854775807:=by unfold Lt2 at g;omega
  have j:-9223372036854775808<=a/\a<=9223372036854775807:=by unfold Lt2 at c;omega
  rw[uG,eR,e76,c61 X hX hB _ b1.1 b1.2,qOb];simp only[qLh,bV,mX];show(run tab X 77 [.p pZ,.p (eW (b-a)),.p (eW t.n)] []).bind _=_;rw[m,qOb,c61 X hX hB _ j.1 j.2,qOb];simp only[qLh,bV,mX];show(run tab X 77 [.p pZ,.p (eW a),.p (eW t.d)] []).bind _=_;rw[k,qOb];simp only[qLh,bV,mX];rw[h,qOb];simp only[qLh,List.tail_cons,bV,mX,toInt_int];rw[c78 X hX,qOb];rfl)
abbrev w28:List Wy:=[.lp [1,1,1,1,1,1,1,1,1,1,1,1,0,1,0]]
abbrev S28(f:Fen)(a b:V3)(i:Nat)(n:Nat)(buf:List PV):St:=ny (i:Int) (bT f.outer) (dG f.holes) f.low f.high a.x a.y a.z b.x b.y b.z (decide ((1:Int)<0)) (vk (1:Int).natAbs) 0 n buf 0
theorem l28b(f:Fen)(hf:RdF f)(a b:V3)(O:qY a)(N:qY b)(D:List Rt)(hD:∀ r∈D,Num r)(hDl:D.length<=1000000)(h:List PV)(M:h.take D.length=encR D):∀(r:List Rt) (i:Nat),D.drop i=r->i<D.length ->
    L tab (run tab X) 28 [] w28 (S28 f a b (i+1) D.length h)=some (ND (zq f a b r,0),[]):=by
  have get:∀ i,i<D.length->h.getD i .nil=uG (gr D i):=λi g=>by rw[<- zo D g];grind
  have k:∀ i,i<D.length->Num (gr D i):=λi g=>hD _ (by grind);intro r;induction r with
  | nil =>intro i v g;have:=congrArg List.length v;grind
  | cons s r ih =>
   intro i v g;have K:gr D i=s:=by grind[qLb,List.head?_drop]
   have hnext:D.drop (i+1)=r:=by rw[<- List.tail_drop,v];rfl
   cases r with
   | nil =>
    have c:D.length=i+1:=by have:=congrArg List.length hnext;grind
    refine dU ?_;rw[x9,O3 (by omega),qCf];rfl
   | cons t r' =>
    have c:i+1<D.length:=by grind
    have J:gr D (i+1)=t:=by show D.getD (i+1) ⟨0,0⟩=t;rw[qLb,<- List.head?_drop,hnext];rfl
    have u:=K▸k i g;have q:=J▸k (i+1) c;have W:IntKind.i64.wrap (((i+1:Nat):Int)-1)=(i:Int):=by rw[wrap_eq (by omega) (by omega)];omega
    obtain⟨o1,o2,o3⟩:=sum_lt u q;obtain⟨m,e,G,I,H,k3⟩:=ant u q;have B:=c80 X hX hB s.n s.d t.n t.d u.ok q.ok;rw[Pg (o1.okW (by omega)) (o2.okW (by omega)) (by omega)]at B;have j:okR 1 2:=⟨zl (by decide),zl (by decide),by decide⟩;have o:okR (EC s t).n (EC s t).d:=⟨I.okW (by omega),H.okW (by omega),k3⟩;have A:=c81 X hX hB (EC s t).n (EC s t).d 1 2 o j;rw[Pg ((Lt2.mul I afN).okW (by omega)) ((Lt2.mul H afM).okW (by omega)) (by omega)]at A;obtain⟨T,S⟩:=Gx O.up;obtain⟨bx,w⟩:=Gx N.up;have q3:=c76 X hX hB a.x b.x T bx (lT s t) m e;have Z:=c76 X hX hB a.y b.y S w (lT s t) m e
    obtain⟨R,Q⟩:=abM O.up N.up;have V:Lt2 130 (ji a.x b.x (lT s t)):=((R.mul m).add ((T.mul e).mono (by omega))).mono (by omega);have U:Lt2 130 (ji a.y b.y (lT s t)):=((Q.mul m).add ((S.mul e).mono (by omega))).mono (by omega);have F:Lt2 20000 (ji a.x b.x (lT s t)*(lT s t).d):=(V.mul e).mono (by omega);have E:Lt2 20000 (ji a.y b.y (lT s t)*(lT s t).d):=(U.mul e).mono (by omega);have C:Lt2 20000 ((lT s t).d*(lT s t).d):=(e.mul e).mono (by omega);have Y:=c63 X hX hB (ji a.x b.x (lT s t)) (lT s t).d (ji a.y b.y (lT s t)) (lT s t).d (V.okW (by omega)) (e.okW (by omega)) (U.okW (by omega)) (e.okW (by omega)) (F.okW (by omega)) (E.okW (by omega)) (C.okW (by omega));have z:=auR X hX hB f hf _ _ _ ⟨F,E,C,Int.mul_pos G G⟩;rw[kZ]at z;have dX:IntKind.i64.wrap (b.x-a.x)=b.x-a.x:=by unfold Lt2 at R;exact wrap_eq (by omega) (by omega)
    have dY:IntKind.i64.wrap (b.y-a.y)=b.y-a.y:=by unfold Lt2 at Q;exact wrap_eq (by omega) (by omega)
    have g1:cu ((i:Nat):Int) (D.length:Int)=true:=F6 g;have P:cu ((i+1:Nat):Int) (D.length:Int)=true:=F6 c;refine dU ?_;rw[x9,P,qCt,W];simp only[le0,g1,P,qBs,qCt,qIt,qNz,get i g,get (i+1) c,K,J,kG (show i+1<=9000000000000000000 by omega),dX,dY];show(run tab X 80 [.p (eR s.n s.d),.p (eR t.n t.d)] []).bind _=_;rw[B,qOb,c61 X hX hB 2 (by omega) (by omega),qOb];show(run tab X 81 [.p (eR (EC s t).n (EC s t).d),.p (eR 1 2)] []).bind _=_;rw[A,qOb];show(run tab X 76 [Ab a.x,Ab (b.x-a.x),.p (uG (lT s t)),.p pZ] []).bind _=_;rw[q3,qOb];show(run tab X 76 [Ab a.y,Ab (b.y-a.y),.p (uG (lT s t)),.p pZ] []).bind _=_;rw[Z,qOb];show(run tab X 63 [.p pZ,.p (eR (ji a.x b.x (lT s t)) (lT s t).d),.p (eR (ji a.y b.y (lT s t)) (lT s t).d)] []).bind _=_;rw[Y,qOb];show(run tab X 64 [_,.p (.fn 82 [pZ,.ref (spC (ji a.x b.x (lT s t)*(lT s t).d) (ji a.y b.y (lT s t)*(lT s t).d) ((lT s t).d*(lT s t).d))])] []).bind _=_;rw[z,qOb];simp only[qLh,bV,bf];have qx:=ih (i+1) hnext c;rw[zq];unfold ai5;cases XT f (ji a.x b.x (lT s t)*(lT s t).d) (ji a.y b.y (lT s t)*(lT s t).d) ((lT s t).d*(lT s t).d)with
    | false=>rfl
    | true=>grind
end
end
section
variable {l:List Rt}
theorem ad8(a b:V3)(l:List Rt)(e:pG)(c:List pG):MS a b l (e::c)=MS a b (vO l (rG a b e.1 e.2)) c:=rfl
theorem abW(h:∀ r∈l,Num r):∀ r∈MJ l,Num r:=λr a=>h r ((Gz l).mem_iff.1 a)
theorem afO(h:∀ r∈l,Num r):∀ r∈QU l,Num r:=λr a=>h r (alp a)
theorem anu(h:l≠[]):0<(QU l).length:=by
 cases l with
 | nil=>exact absurd rfl h
 | cons x r=>simp[QU]
abbrev abX(ys:List PV):List Wy:=[.rg [1,1,1,1,1,1,0,1,0] [(true,aU),(true,aU)] ys]
abbrev alr(f:Fen)(a b:V3)(n:Nat)(buf:List PV):St:=qm (bT f.outer) (dG f.holes) f.low f.high (bT f.outer) (dG f.holes) f.low f.high a.x a.y a.z b.x b.y b.z (decide ((1:Int)<0)) (vk (1:Int).natAbs) 0 n buf
abbrev apI(f:Fen)(a b:V3)(n:Nat)(buf:List PV):St:=zK (bT f.outer) (dG f.holes) f.low f.high (bT f.outer) (dG f.holes) f.low f.high a.x a.y a.z b.x b.y b.z (decide ((1:Int)<0)) (vk (1:Int).natAbs) buf 0 n
section
variable (X:Ext) (hX:Mine X)
include hX
variable (hB:Bits X) (hE:OE X) (hS:Sorts X)
include hB hS
theorem c74(l:List Rt)(a:∀ r∈l,Num r)(g:l.length<=100000):run tab X 74 [.slice 100000 4 0 l.length,.p (.fn 73 [])] [.arr true kR (encR l)]=some ([],[.arr true kR (encR (MJ l))]):=by
 have _:=hX;have _:=hB;let vs:List Vr:=l.attach.map λx=>⟨x.1,(a x.1 x.2).ok⟩;have j:vs.map (·.1)=l:=by show(l.attach.map λx=>(⟨x.1,(a x.1 x.2).ok⟩:Vr)).map (·.1)=l;simp
 have i:vs.length=l.length:=by grind
 obtain⟨m,f,b,e⟩:=hS.s vs (by omega);have h:m.map (·.1)=MJ l:=by
  have hp:(m.map (·.1)).Perm l:=by grind
  refine VB (hp.trans (Gz l).symm) b (abT λy c=>(a y c).cn.1) λx d=>(a x (hp.mem_iff.1 d)).cn
 grind[abt]
theorem n28(f:Fen)(j:RdF f)(a b:V3)(m:qY a)(k:qY b)(l:List Rt)(e:∀ r∈l,Num r)(i:l.length<=100000)(o:l≠[]) :
    L tab (run tab X) 28 [] (abX []) (alr f a b l.length (encR l))=some (ND (zq f a b (QU (MJ l)),0),[]):=by
  rw[Jr,c74 X hX hB hS l e i,qOb];obtain⟨n,d,g⟩:=c75 X hX (MJ l) (by rw[Pj];omega);rw[Pj]at d;show(run tab X 75 [.slice 100000 4 0 l.length] [.arr true kR (encR (MJ l))]).bind _=_;rw[d,qOb];have c:MJ l≠[]:=λh=>by have:=Pj l;grind
  exact l28b X hX hB f j a b m k (QU (MJ l)) (afO (abW e)) (by have:=alq (MJ l);rw[Pj]at this;omega) n g (QU (MJ l)) 0 rfl (anu c)
theorem l28a(f:Fen)(D:RdF f)(a b:V3)(u:qY a)(t:qY b)(g:¬(a.x=b.x/\a.y=b.y)):∀(c:List pG) (l:List Rt),(∀ e∈c,qY e.1/\qY e.2)->(∀ r∈l,Num r)->l≠[]->l.length+2*c.length<=100000 ->
    L tab (run tab X) 28 [] (abX (c.map eY)) (alr f a b l.length (encR l))=some (ND (zq f a b (QU (MJ (MS a b l c))),0),[]):=by
  intro c;induction c with
  | nil =>intro l _ o w n;exact n28 X hX hB hS f D a b u t l o (by simp at n;omega) w
  | cons e r k =>
   intro l d o w n;obtain⟨v,hd⟩:=d e (by simp);simp only[qLl]at n;have q:=c72 X hX hB l (by omega) a b e.1 e.2 u t v hd g;simp only[cO]at q;obtain⟨F,A⟩:=Vz u t v hd g;obtain⟨B,G⟩:=QV (rG a b e.1 e.2) o A;rw[List.map_cons,ad8];show L tab (run tab X) 28 [] (abX (.agg [.agg [Ap e.1.x,Ap e.1.y,Ap e.1.z],.agg [Ap e.2.x,Ap e.2.y,Ap e.2.z]]::r.map eY)) (alr f a b l.length (encR l))=_;rw[yU,q,qOb];have C:l.length<=(vO l (rG a b e.1 e.2)).length:=by
    have j:∀(i:List (Int × Int)) (l:List Rt),l.length<=(vO l i).length:=by
     intro i;induction i with
     | nil=>intro l;exact qNr _
     | cons p i k =>intro l;refine Nat.le_trans ?_ (k (NH l p));grind[NH]
    exact j _ _
   have m:vO l (rG a b e.1 e.2)≠[]:=λh=>by grind
   have qx:=k (vO l (rG a b e.1 e.2)) (λE s=>d E (by simp[s])) B m (by omega);show L tab (run tab X) 28 [] (abX (r.map eY)) (alr f a b (encR (vO l (rG a b e.1 e.2))).length (encR (vO l (rG a b e.1 e.2))))=_;grind[JK]
theorem au1(f:Fen)(m:RdF f)(a b:V3)(o:qY a)(n:qY b)(i:¬(a.x=b.x/\a.y=b.y))(c:List pG)(l:List Rt)(h:c≠[])(g:∀ e∈c,qY e.1/\qY e.2)(k:∀ r∈l,Num r)(p:l≠[])(j:l.length+2*c.length<=100000) :
    L tab (run tab X) 28 [] (abX (c.map eY)) (apI f a b l.length (encR l))=some (ND (zq f a b (QU (MJ (MS a b l c))),0),[]):=by
  cases c with
  | nil=>exact absurd rfl h
  | cons e r =>have d:=l28a X hX hB hS f m a b o n i (e::r) l g k p j;rw[List.map_cons]at d ⊢;have q:∀ ys:List PV,abX (eY e::ys)=abX (.agg [.agg [Ap e.1.x,Ap e.1.y,Ap e.1.z],.agg [Ap e.2.x,Ap e.2.y,Ap e.2.z]]::ys):=λ_=>rfl;grind[yU,Nu]
include hE
theorem ag5{f:Fen}(h:eX f=true):iD f≠[]:=by have _:=hX;have _:=hB;have _:=hE;have _:=hS;have a:=(mM h).1;have b:=(uM (b:=true) a).2;have c:=(ig a).1;grind[qLp,qA,List.length_nil,iD]
theorem c28(f:Fen)(u:sS f)(a b:V3):run tab X 28 [.p (kZ f),.p (cO a),.p (cO b)] []=some (ND (vC f a b),[]):=
 aY (hX _ rfl) (by
  have z:=c18 X hX f u;have w:=c40 X hX a;have v:=c40 X hX b;have d:=c31 X hX f;have c:=hE.e f u;rw[kZ]at z d;rw[cO]at w v;rw[kZ,cO,cO,e28,z,qOb];simp only[qLh,bV,bf];unfold vC;cases j:eX f with
  | false=>rfl
  | true =>
   obtain⟨o,_⟩:=Dl j;rw[qBt,qCf,w,qOb,if_pos rfl];simp only[qLh,bV,bf];cases D:rF 1048576 a with
   | false=>rfl
   | true =>
    rw[qBt,qCf,v,qOb,if_pos rfl];simp only[qLh,bV,bf];cases C:rF 1048576 b with
    | false=>rfl
    | true =>
     have s:=ug.1 D;have q:=ug.1 C;have h4:=c55 X hX f o a (s.mono (by decide));have h5:=c55 X hX f o b (q.mono (by decide));rw[kZ,cO]at h4 h5;rw[qBt,qCf,h4,qOb,if_pos rfl];simp only[qLh,bV,bf];cases B:kK f a with
     | false=>rfl
     | true =>
      rw[qBt,qCf,h5,qOb,if_pos rfl];simp only[qLh,bV,bf];cases A:kK f b with
      | false=>rfl
      | true =>
       rw[qBt,qCf,if_pos rfl];have m:¬(a.x=b.x/\a.y=b.y)->L tab (run tab X) 28 [] (abX ((iD f).map eY)) (apI f a b 2 [.agg [.bool false,.str ⟨#[]⟩,.bool (decide ((1:Int)<0)),.str (vk (1:Int).natAbs)],.agg [.bool (decide ((1:Int)<0)),.str (vk (1:Int).natAbs),.bool (decide ((1:Int)<0)),.str (vk (1:Int).natAbs)]])=some (ND (zq f a b (numsL f a b),0),[]):=λn=>by
        have k:=au1 X hX hB hS f o a b s q n (iD f) [⟨0,1⟩,⟨1,1⟩] (ag5 X hX hB hE hS j) (zn j) (by
         intro r t;simp only[List.mem_cons,List.not_mem_nil,or_false]at t;rcases t with rfl | rfl
         . exact alo
         . exact num1) (by simp) (by have:=wL j;simp only[qLl,List.length_nil];omega)
        have F:encR [⟨0,1⟩,⟨1,1⟩]=[.agg [.bool false,.str ⟨#[]⟩,.bool (decide ((1:Int)<0)),.str (vk (1:Int).natAbs)],.agg [.bool (decide ((1:Int)<0)),.str (vk (1:Int).natAbs),.bool (decide ((1:Int)<0)),.str (vk (1:Int).natAbs)]]:=by show [PV.agg [.bool (decide ((0:Int)<0)),.str (vk (0:Int).natAbs),.bool (decide ((1:Int)<0)),.str (vk (1:Int).natAbs)],_]=_;rw[show(0:Int).natAbs=0 from rfl,JJ];rfl
        rw[F]at k;exact k
       have E:vg f=iD f:=by unfold vg;rw[if_pos j]
       rw[E]at c;by_cases i:a.x=b.x
       . rw[show(a.x==b.x)=true from beq_iff_eq.2 i,qCt];by_cases g:a.y=b.y
         . rw[show(a.y==b.y)=true from beq_iff_eq.2 g,qCt,if_pos ⟨i,g⟩];rfl
         . rw[show(a.y==b.y)=false from beq_eq_false_iff_ne.2 g,qCf,if_neg λh=>g h.2,c61 X hX hB 1 (by omega) (by omega),qOb,d,qOb];show(run tab X 87 [.yL,.p (.ref (I4 f))] [.log true []]).bind _=_;rw[c,qOb];exact m λh=>g h.2
       . rw[show(a.x==b.x)=false from beq_eq_false_iff_ne.2 i,qCf,if_neg λh=>i h.1,c61 X hX hB 1 (by omega) (by omega),qOb,d,qOb];show(run tab X 87 [.yL,.p (.ref (I4 f))] [.log true []]).bind _=_;rw[c,qOb];exact m λh=>i h.1)
end
end
section
variable {s t u v x y z:Rt}{a b c d:V3}{l:List V3}{f:Fen}
def atT(f:Fen)(a b:V3)(r:Rt):Bool:=XT f (ji a.x b.x r) (ji a.y b.y r) r.d
abbrev QW(s t:Rt):Prop:=¬ Di t s
abbrev aai(s t:Rt)(q:Int × Int):Prop:=Opn s.n s.d t.n t.d q.1 q.2
theorem alA{p q:Int}:aai s t (-p,-q)↔aai s t (p,q):=by
 have g:((-p)*s.d-s.n*(-q))*(-q)=(p*s.d-s.n*q)*q:=by grind
 have e:(t.n*(-q)-(-p)*t.d)*(-q)=(t.n*q-p*t.d)*q:=by grind
 simp_all[aai,Opn]
abbrev Cond(a b c d:V3)(s t:Rt):Prop:=(sN (pt a) (pt b) (pt c) (pt d)≠0->¬ Opn s.n s.d t.n t.d (sN (pt a) (pt c) (pt c) (pt d)) (sN (pt a) (pt b) (pt c) (pt d))) /\
 (sN (pt a) (pt b) (pt c) (pt d)=0->turn (pt a) (pt b) (pt c)=0->¬ Opn s.n s.d t.n t.d (lu (pt a) (pt b) (pt c)) (lu (pt a) (pt b) (pt b))/\¬ Opn s.n s.d t.n t.d (lu (pt a) (pt b) (pt d)) (lu (pt a) (pt b) (pt b)))
theorem afX(h:∀ q∈rG a b c d,¬ aai s t q):Cond a b c d s t:=by
 unfold rG at h;constructor
 . intro e;rw[if_neg (show ¬ NI a b c d=0 from e)]at h;exact h (NI a c c d,NI a b c d) (by simp)
 . intro e g;rw[if_pos (show NI a b c d=0 from e),if_pos (show area a b c=0 from g)]at h;exact⟨h (yQ a b c,Et a b) (by simp),h (yQ a b d,Et a b) (by simp)⟩
theorem ahb(h:Cond a b d c s t):Cond a b c d s t:=by
 have n:sN (pt a) (pt b) (pt d) (pt c)=- sN (pt a) (pt b) (pt c) (pt d):=by unfold sN;grind
 have m:sN (pt a) (pt d) (pt d) (pt c)=- sN (pt a) (pt c) (pt c) (pt d):=by unfold sN;grind
 obtain⟨e,i⟩:=h;rw[n]at e i;rw[m]at e;constructor
 . intro g k;exact e (by omega) (alA.2 k)
 . intro g j;obtain⟨p,o⟩:=i (by omega) (YG j g);grind
theorem acf(j:0<Et a b)(G:0<s.d)(F:0<t.d)(g:0<u.d)(o:0<v.d)(D:QW s u)(C:QW u t)(m:Di s v)(k:Di v t)
    (H:∀ i,i<l.length->Cond a b (ca l i) (cb l i) s t) :
    Ez l (ji a.x b.x u) (ji a.y b.y u) u.d=0\/Ez l (ji a.x b.x u) (ji a.y b.y u) u.d=Ez l (ji a.x b.x v) (ji a.y b.y v) v.d:=by
  have B:∀{x y:Rt},0<y.d->Ez l (ji a.x b.x x) (ji a.y b.y x) x.d=Oz (λi=>scp (x.d*y.d) (pts l i)) l.length (way (pt a) (pt b) (x.d*y.d) (x.n*y.d)):=λ{x y} E=>by
   rw[<- Yr l _ _ _ E,Int.mul_comm y.d x.d];unfold Ez;have q:∀ e h:Int,y.d*ji e h x=x.d*y.d*e+x.n*y.d*(h-e):=λe h=>by unfold ji;grind
   rw[q,q];rfl
  have I:=B (x:=u) o;have A:=B (x:=v) g;rw[Int.mul_comm v.d u.d]at A;rw[I,A];simp only[QW,Di]at D C m k;have r:Rng (u.d*v.d) (u.n*v.d) (v.n*u.d) s.n s.d t.n t.d:=by have M:=Int.mul_le_mul_of_nonneg_right (show s.n*u.d<=u.n*s.d by omega) (show 0<=v.d by omega);have L:=Int.mul_le_mul_of_nonneg_right (show u.n*t.d<=t.n*u.d by omega) (show 0<=v.d by omega);have K:=Int.mul_lt_mul_of_pos_right m g;have J:=Int.mul_lt_mul_of_pos_right k g;exact⟨Int.mul_pos g o,G,F,by grind,by grind,by grind,by grind⟩
  refine ajf (p:=pts l) (a:=pt a) (b:=pt b) (yw l) j r λi w=>?_;rw[DZ w,zO];exact H i w
theorem alB{b:Bool}{i:Nat}(h:i<l.length):(flat (ca l i),flat (cb l i))∈fH (orient b l)\/(flat (cb l i),flat (ca l i))∈fH (orient b l):=by
 unfold orient;split
 . exact .inl (jq.2 ⟨i,h,rfl⟩)
 . right;have e:0<l.length:=by omega
   have g:=Gy e;refine jq.2 ⟨l.length-1-i,by omega,?_⟩;show _=(flat (gt (BU l) (l.length-1-i)),flat (gt (BU l) (qx (BU l).length (l.length-1-i))));rw[g,Py (by omega),Py (show qx l.length (l.length-1-i)<l.length from qNm _ e)];have m:(l.length-(l.length-1-i))%l.length=qx l.length i:=by unfold qx;congr 1;omega
   have k:(l.length-qx l.length (l.length-1-i))%l.length=i:=by
    unfold qx;cases i with
    | zero=>rw[show l.length-1-0+1=l.length by omega,Nat.mod_self,Nat.sub_zero,Nat.mod_self]
    | succ j=>rw[Nat.mod_eq_of_lt (show l.length-1-(j+1)+1<l.length by omega),Nat.mod_eq_of_lt (by omega)];omega
   rw[m,k]
def amJ(es:List pG)(a b:V3)(s t:Rt):Prop:=∀ e∈es,∀ q∈rG a b e.1 e.2,¬ aai s t q
theorem VP{b0:Bool}{j:List pG}(h:amJ j a b s t)(g:∀ e∈fH (orient b0 l),e∈j):∀ i,i<l.length->Cond a b (ca l i) (cb l i) s t:=λi m=>by
 rcases alB (b:=b0) m with k | k
 . exact afX (h _ (g _ k))
 . exact ahb (afX (h _ (g _ k)))
theorem alC(g:0<Et a b)(w:0<s.d)(r:0<t.d)(q:0<u.d)(p:0<v.d)(n:QW s u)(k:QW u t)(m:Di s v)(j:Di v t)
    (A:amJ (iD f) a b s t)(h:atT f a b v=true):atT f a b u=true:=by
  have B:=acf g w r q p n k m j (VP (b0:=true) (l:=f.outer) A λe i=>List.mem_append.2 (.inl i));have C:∀ x∈f.holes,_:=λx o=>acf g w r q p n k m j (VP (b0:=false) (l:=x) A λe i=>List.mem_append.2 (.inr (List.mem_flatMap.2 ⟨x,o,i⟩)));unfold atT XT at h ⊢;simp only[qBa,qDa,qBb,List.any_eq_false]at h ⊢;refine⟨?_,λx o=>?_⟩
  . omega
  . grind
theorem le_refl(x:Rt):QW x x:=by simp only[QW,Di];omega
theorem apO(i:0<x.d)(g:0<y.d)(e:0<z.d)(k:QW x y)(j:Di y z):Di x z:=Decidable.byContradiction λh=>yZ e i g h k j
theorem apP(i:0<x.d)(g:0<y.d)(e:0<z.d)(k:Di x y)(j:QW y z):Di x z:=Decidable.byContradiction λh=>yZ g e i j h k
theorem anD(h:Di x y):QW x y:=by simp only[QW,Di]at *;omega
def acg(P:Rt->Rt->Prop):List Rt->Prop
 | s::t::r=>P s t/\acg P (t::r)
 | _=>True
theorem afY{P:Rt->Rt->Prop}:∀{L:List Rt},(∀ x∈L,∀ y∈L,P x y)->acg P L
 |[],_=>trivial
 |[_],_=>trivial
 | s::t::r,h=>⟨h s (by simp) t (by simp),afY λx g y e=>h x (List.mem_cons_of_mem _ g) y (List.mem_cons_of_mem _ e)⟩
theorem gap(P:Rt->Rt->Prop){u w:Rt}(m:0<u.d):∀(L:List Rt) (s:Rt),(∀ x∈s::L,0<x.d)->Srt (s::L)->QW s u->w∈L->Di s w->QW u w->acg P (s::L) ->
    ∃ x y,P x y/\0<x.d/\0<y.d/\Di x y/\QW x u/\QW u y/\QW s x/\QW y w/\∀ z∈s::L,QW z x\/QW y z
  |[],_,_,_,_,e,_,_,_=>by simp at e
  | t::L,s,hd,hs,h1,e,w1,w2,hP=>by
   obtain⟨D,o⟩:=List.pairwise_cons.1 hs;obtain⟨O,_⟩:=List.pairwise_cons.1 o;obtain⟨C,B⟩:=hP;have j:=hd s (by simp);have g:=hd t (by simp);have q:=hd w (List.mem_cons_of_mem _ e);by_cases c:Di s t/\QW u t
   . refine⟨s,t,C,j,g,c.1,h1,c.2,le_refl s,?_,λz i=>?_⟩
     . rcases List.mem_cons.1 e with rfl | e
       . exact le_refl w
       grind
     . rcases List.mem_cons.1 i with rfl | i
       . exact .inl (le_refl z)
       . rcases List.mem_cons.1 i with rfl | i
         . exact .inr (le_refl z)
         grind
   . have w':w∈L:=by grind
     have st:QW s t:=D t (by simp);have n:QW t u/\Di t w:=by
      by_cases k:Di s t
      . have p:Di t u:=Decidable.byContradiction λh=>c ⟨k,h⟩;exact⟨anD p,apP g m q p w2⟩
      . exact⟨yZ g j m k h1,apO g j q k w1⟩
     obtain⟨x,y,N,A,M,K,J,I,r,H,G⟩:=gap P m L t (λx E=>hd x (List.mem_cons_of_mem _ E)) o n.1 w' n.2 w2 B;have F:=yZ j g A st r;grind
theorem Um(j:0<s.d)(i:0<t.d):0<(lT s t).d/\(lT s t).n*(2*(s.d*t.d))=(s.n*t.d+t.n*s.d)*(lT s t).d:=by have m:0<s.d*t.d:=Int.mul_pos j i;have h:=GK (s.n*t.d+t.n*s.d) (b:=s.d*t.d) (by omega);have k:0<(EC s t).d:=yD (by omega);have g:=GK ((EC s t).n*1) (b:=(EC s t).d*2) (by omega);have e:0<(lT s t).d:=yD (by omega);refine⟨e,?_⟩;have p:(EC s t).n*(s.d*t.d)=(s.n*t.d+t.n*s.d)*(EC s t).d:=h;have o:(lT s t).n*((EC s t).d*2)=((EC s t).n*1)*(lT s t).d:=g;refine Int.eq_of_mul_eq_mul_right (show(EC s t).d≠0 by omega) ?_;grind
theorem ach(i:0<s.d)(g:0<t.d)(h:Di s t):Di s (lT s t)/\Di (lT s t) t:=by
 obtain⟨k,e⟩:=Um i g;unfold Di at h ⊢;generalize (lT s t).n=mn at *;generalize (lT s t).d=md at *;have j:0<2*(s.d*t.d):=by have:=Int.mul_pos i g;omega
 constructor
 . have q:2*(s.d*t.d)*(mn*s.d-s.n*md)=md*s.d*(t.n*s.d-s.n*t.d):=by grind
   have:=wu j (a:=mn*s.d-s.n*md) (by rw[q];exact Int.mul_pos (Int.mul_pos k i) (by omega));omega
 . have q:2*(s.d*t.d)*(t.n*md-mn*t.d)=md*t.d*(t.n*s.d-s.n*t.d):=by grind
   have:=wu j (a:=t.n*md-mn*t.d) (by rw[q];exact Int.mul_pos (Int.mul_pos k g) (by omega));omega
abbrev aeh(u:Rt):Prop:=0<u.d/\0<=u.n/\u.n<=u.d
theorem anE(o:aeh s)(m:aeh t):aeh (lT s t):=by
 obtain⟨g,j,s2⟩:=o;obtain⟨t0,i,p⟩:=m;obtain⟨k,e⟩:=Um g t0;refine⟨k,?_,?_⟩;all_goals generalize (lT s t).n=mn at *
 all_goals generalize (lT s t).d=md at *
 all_goals have h:0<2*(s.d*t.d):=by have:=Int.mul_pos g t0;omega
 . refine Ij h ?_;rw[Int.mul_comm,e];exact Int.mul_nonneg (Int.add_nonneg (Int.mul_nonneg j (by omega)) (Int.mul_nonneg i (by omega))) (by omega)
 . have q:2*(s.d*t.d)*(md-mn)=md*(t.d*(s.d-s.n)+s.d*(t.d-t.n)):=by grind
   have:=Ij h (a:=md-mn) (by rw[q];exact Int.mul_nonneg (by omega) (Int.add_nonneg (Int.mul_nonneg (by omega) (by omega)) (Int.mul_nonneg (by omega) (by omega))));omega
theorem r01(h:aeh u):QW ⟨0,1⟩ u/\QW u ⟨1,1⟩:=by obtain⟨_,g,e⟩:=h;simp only[QW,Di];grind
abbrev All(f:Fen)(a b:V3):Prop:=∀ u:Rt,aeh u->atT f a b u=true
theorem all_in(r:0<Et a b){L:List Rt}(hd:∀ x∈L,0<x.d)(V:Srt (⟨0,1⟩::L))(h1:⟨1,1⟩∈L)
    (Z:∀ e∈iD f,∀ q∈rG a b e.1 e.2,aai ⟨0,1⟩ ⟨1,1⟩ q->∃ z∈L,z.n*q.2=q.1*z.d)
    (hP:acg (λx y=>Di x y->atT f a b (lT x y)=true) (⟨0,1⟩::L)):All f a b:=by
  intro u o;obtain⟨J,I⟩:=r01 o;obtain⟨x,y,Q,j,i,A,P,O,N,M,K⟩:=gap _ o.1 L ⟨0,1⟩ (λx U=>(List.mem_cons.1 U).elim (λe=>by rw[e];decide) (hd x)) V J h1 (by decide) I hP;obtain⟨T,S⟩:=ach j i A;refine alC r j i o.1 (Um j i).1 P O T S (λe Y q W X=>?_) (Q A);have H:0<=x.n:=by simp[QW,Di]at N;omega
  have y1:y.n<=y.d:=by simp[QW,Di]at M;omega
  have p:=X;obtain⟨C,R⟩:=p;have m:∀ k:Int,0<=k*k:=λk=>by
   rcases Int.le_total 0 k with h | h
   . exact Int.mul_nonneg h h
   . exact Int.mul_nonneg_of_nonpos_of_nonpos h h
  obtain⟨z,D,ez⟩:=Z e Y q W ⟨by
   have g:(q.1*x.d-x.n*q.2)*q.2=x.d*(q.1*q.2)-x.n*(q.2*q.2):=by grind
   have e2:=Int.mul_nonneg H (m q.2);have E:=wu j (a:=q.1*q.2) (by omega);show 0<(q.1*1-0*q.2)*q.2;rw[Int.mul_one,Int.zero_mul,Int.sub_zero];exact E,by
   have g:(y.n*q.2-q.1*y.d)*q.2=y.d*((q.2-q.1)*q.2)-(y.d-y.n)*(q.2*q.2):=by grind
   have e2:=Int.mul_nonneg (show 0<=y.d-y.n by omega) (m q.2);have E:=wu i (a:=(q.2-q.1)*q.2) (by omega);grind⟩
  have w:=hd z D;have B:0<q.2*q.2:=by
   have:q.2≠0:=λh=>by rw[h]at C;omega
   have k:=m q.2;rcases Int.lt_or_eq_of_le k with h | h
   . exact h
   . exact absurd (Int.mul_eq_zero.1 h.symm) (by omega)
  have G:Di x z:=by
   have g:(q.2*q.2)*(z.n*x.d-x.n*z.d)=z.d*((q.1*x.d-x.n*q.2)*q.2):=by grind
   have:=wu B (a:=z.n*x.d-x.n*z.d) (by rw[g];exact Int.mul_pos w C);grind[Di]
  have F:Di z y:=by
   have g:(q.2*q.2)*(y.n*z.d-z.n*y.d)=z.d*((y.n*q.2-q.1*y.d)*q.2):=by grind
   have:=wu B (a:=y.n*z.d-z.n*y.d) (by rw[g];exact Int.mul_pos w R);grind[Di]
  rcases K z (List.mem_cons_of_mem _ D)with h | h
  . exact h G
  . exact h F
end
section
variable {f:Fen}{a b:V3}{l:List Rt}
theorem QX(f:Fen)(u v w:Int){k:Int}(c:0<k):XT f (u*k) (v*k) (w*k)=XT f u v w:=by
 have e:∀ l,Ez l (u*k) (v*k) (w*k)=Ez l u v w:=λl=>by rw[Int.mul_comm u,Int.mul_comm v,Int.mul_comm w];exact Yr l u v w c
 grind[XT]
theorem ajg(f:Fen)(a b:V3){t:Rt}(h:0<t.d):ai5 f a b t=atT f a b t:=QX f _ _ _ h
theorem VQ(f:Fen)(a b:V3):∀{L:List Rt},(∀ x∈L,0<x.d)->(zq f a b L=true↔acg (λx y=>atT f a b (lT x y)=true) L)
 |[],_=>⟨λ_=>trivial,λ_=>rfl⟩
 |[_],_=>⟨λ_=>trivial,λ_=>rfl⟩
 | s::t::r,h=>by have m:=(Um (h s (by simp)) (h t (by simp))).1;rw[zq,qBa,ajg f a b m,VQ f a b λx c=>h x (List.mem_cons_of_mem _ c)];exact Iff.rfl
theorem alD(g:0<Et a b){L:List Rt}(hd:∀ x∈(⟨0,1⟩:Rt)::L,aeh x)(k:Srt (⟨0,1⟩::L))(o:⟨1,1⟩∈L)
    (m:∀ e∈iD f,∀ q∈rG a b e.1 e.2,aai ⟨0,1⟩ ⟨1,1⟩ q->∃ z∈L,z.n*q.2=q.1*z.d):acg (λx y=>atT f a b (lT x y)=true) (⟨0,1⟩::L)↔All f a b:=by
  constructor
  . intro h;refine all_in g (λx c=>(hd x (List.mem_cons_of_mem _ c)).1) k o m ?_;have mono:∀{L:List Rt},acg (λx y=>atT f a b (lT x y)=true) L->acg (λx y=>Di x y->atT f a b (lT x y)=true) L:=λ{L}=>by
     induction L with
     | nil=>exact λ_=>trivial
     | cons s r i =>
      cases r with
      | nil=>exact λ_=>trivial
      | cons t r=>exact λh=>⟨λ_=>h.1,i h.2⟩
    exact mono h
  . exact λh=>afY λx c y j=>h _ (anE (hd x c) (hd y j))
theorem ajh{q:Int × Int}(h:aai ⟨0,1⟩ ⟨1,1⟩ q):q.2≠0/\0<(low q.1 q.2).n/\(low q.1 q.2).n<(low q.1 q.2).d/\(low q.1 q.2).n*q.2=q.1*(low q.1 q.2).d:=by
 obtain⟨p,q⟩:=q;obtain⟨c,i⟩:=h;have c:0<(p*1-0*q)*q:=c;have i:0<(1*q-p*1)*q:=i;have g:q≠0:=λe=>by rw[e,Int.mul_zero]at c;omega
 have k:(low p q).n*q=p*(low p q).d:=GK p g;have m:0<(low p q).d:=yD g;have j:0<q*q:=by grind
 show q≠0/\0<(low p q).n/\(low p q).n<(low p q).d/\(low p q).n*q=p*(low p q).d;generalize (low p q).n=n at *;generalize (low p q).d=d at *;refine⟨g,?_,?_,k⟩
 . refine wu j ?_;have e:q*q*n=d*((p*1-0*q)*q):=by grind
   rw[e];exact Int.mul_pos m c
 . have e:q*q*(d-n)=d*((1*q-p*1)*q):=by grind
   have:=wu j (a:=d-n) (by rw[e];exact Int.mul_pos m i);omega
theorem ahc{p:Int × Int}{x:Rt}(h:x∈l):x∈NH l p:=by grind[NH]
theorem NP:∀(c:List (Int × Int)) {l:List Rt} {x:Rt},x∈l->x∈vO l c
 |[],_,_,h=>h
 | p::c,_,_,h=>NP c (ahc (p:=p) h)
theorem YH:∀(c:List (Int × Int)) {l:List Rt} {p:Int × Int},p∈c->0<=(low p.1 p.2).n->(low p.1 p.2).n<=(low p.1 p.2).d->low p.1 p.2∈vO l c
 | q::c,l,p,h,h1,h2=>by
  rcases List.mem_cons.1 h with rfl | h
  . refine NP c ?_;grind[NH]
  . exact YH c (l:=NH l q) h h1 h2
theorem Ik(a b:V3):∀(c:List pG) {l:List Rt} {x:Rt},x∈l->x∈MS a b l c
 |[],_,_,h=>h
 | e::c,_,_,h=>Ik a b c (NP (rG a b e.1 e.2) h)
theorem YI(a b:V3):∀(c:List pG) {l:List Rt} {e:pG} {p:Int × Int},e∈c->p∈rG a b e.1 e.2->0<=(low p.1 p.2).n->(low p.1 p.2).n<=(low p.1 p.2).d->low p.1 p.2∈MS a b l c
 | e'::c,l,e,p,h,hp,h1,h2=>by
  rcases List.mem_cons.1 h with rfl | h
  . exact Ik a b c (YH (rG a b e.1 e.2) hp h1 h2)
  . exact YI a b c (l:=vO l (rG a b e'.1 e'.2)) h hp h1 h2
theorem YJ{a b:V3}(i:qY a)(g:qY b)(c:¬(a.x=b.x/\a.y=b.y)):∀(d:List pG) {l:List Rt},(∀ e∈d,qY e.1/\qY e.2)->(∀ r∈l,Num r)->∀ r∈MS a b l d,Num r
 |[],_,_,hl=>hl
 | e::d,_,he,hl=>by obtain⟨j,hd⟩:=he e (by simp);exact YJ i g c d (λk h=>he k (List.mem_cons_of_mem _ h)) (QV (rG a b e.1 e.2) hl (Vz i g j hd c).2).1
theorem VT:∀{l:List Rt} {x y:Rt},y∈l->y=x\/y∈QT x l
 | z::r,x,y,h=>by
  unfold QT;by_cases c:z=x
  . rw[if_pos c];rcases List.mem_cons.1 h with rfl | h
    . exact .inl c
    . exact VT h
  . rw[if_neg c];right;rcases List.mem_cons.1 h with rfl | h
    . simp
    . rcases VT (x:=z) h with rfl | h;all_goals grind
theorem aji{y:Rt}(h:y∈l):y∈QU l:=by
 cases l with
 | nil=>simp at h
 | cons x r =>
  rcases List.mem_cons.1 h with rfl | h
  . simp[QU]
  . rcases VT (x:=x) h with rfl | h
    . simp[QU]
    . exact List.mem_cons_of_mem _ h
theorem aaj:∀(l:List Rt) (x:Rt),List.Sublist (QT x l) l
 |[],_=>.slnil
 | z::r,x=>by
  unfold QT;split
  . exact(aaj r x).cons z
  . exact(aaj r z).cons_cons z
theorem alE(h:Srt l):Srt (QU l):=by
 cases l with
 | nil=>exact h
 | cons x r=>exact List.Pairwise.sublist ((aaj r x).cons_cons x) h
theorem alF(c:¬(a.x=b.x/\a.y=b.y)):0<Et a b:=afK c
theorem anF{r:Rt}(h:Num r):aeh r:=⟨h.cn.1,h.lo,h.hi⟩
theorem VU(D:eX f=true)(F:qY a)(E:qY b)(g:¬(a.x=b.x/\a.y=b.y)):zq f a b (numsL f a b)=true↔All f a b:=by
 have d:∀ r∈MS a b [⟨0,1⟩,⟨1,1⟩] (iD f),Num r:=YJ F E g _ (zn D) λr t=>by
  simp only[List.mem_cons,List.not_mem_nil,or_false]at t;rcases t with rfl | rfl
  . exact alo
  . exact num1
 have o:∀ r∈numsL f a b,Num r:=afO (abW d);have p:∀{r:Rt},r∈MS a b [⟨0,1⟩,⟨1,1⟩] (iD f)->r∈numsL f a b:=λh=>aji ((Gz _).mem_iff.2 h);have c:Srt (numsL f a b):=alE (abT λy C=>(d y C).cn.1);have s:=p (Ik a b (iD f) (l:=[⟨0,1⟩,⟨1,1⟩]) (x:=⟨0,1⟩) (by simp));have A:=p (Ik a b (iD f) (l:=[⟨0,1⟩,⟨1,1⟩]) (x:=⟨1,1⟩) (by simp));have H:∀ e∈iD f,∀ q∈rG a b e.1 e.2,aai ⟨0,1⟩ ⟨1,1⟩ q->low q.1 q.2∈numsL f a b:=λe v q u m=>by obtain⟨_,i,B,_⟩:=ajh m;exact p (YI a b (iD f) v u (by omega) (by omega))
 rw[VQ f a b λx j=>(o x j).cn.1];generalize numsL f a b=N at *;cases N with
 | nil=>simp at s
 | cons h L =>
  have G:h=⟨0,1⟩:=by
   rcases List.mem_cons.1 s with e | e
   . exact e.symm
   . have k:=(List.pairwise_cons.1 c).1 _ e;have i:=o h (by simp);have B:=i.lo;unfold Di at k;exact ai1 i.cn alo.cn (by simp at k ⊢;omega)
  subst G;have w:∀{z:Rt},z∈(⟨0,1⟩:Rt)::L->0<z.n->z∈L:=λ{z} J K=>by grind
  refine alD (alF g) (λx j=>anF (o x j)) c (w A (by decide)) λe v q u m=>?_;obtain⟨_,i,_,I⟩:=ajh m;grind
end
end Go.Skm.Fen
