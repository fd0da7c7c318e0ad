import Derived.Test.YtoheflpoanjihaaGreatG22
set_option linter.all false
namespace Go.Skm.Fen
open Go Go.Skm
section
variable {l:List Rt}{s t:Rt}
structure Num (r:Rt):Prop where
 cn:Cn r
 bn:Lt2 46 r.n
 bd:Lt2 46 r.d
 lo:0<=r.n
 hi:r.n<=r.d
theorem Num.ok{r:Rt}(h:Num r):r.ok:=⟨h.bn.okW (by omega),h.bd.okW (by omega),h.cn.1⟩
theorem aas:Num ⟨0,1⟩:=⟨⟨by decide,by decide⟩,by unfold Lt2;decide,by unfold Lt2;decide,by decide,by decide⟩
theorem num1:Num ⟨1,1⟩:=⟨⟨by decide,by decide⟩,by unfold Lt2;decide,by unfold Lt2;decide,by decide,by decide⟩
theorem G7{a b:Int}{k:Nat}(e:Lt2 k a)(c:Lt2 k b):Lt2 k (low a b).n/\Lt2 k (low a b).d:=⟨Nat.lt_of_le_of_lt (zl a b) e,Nat.lt_of_le_of_lt (zn a b) c⟩
theorem Pn{z:Int}(h:I43 z):Lt2 46 z:=by unfold I43 at h;exact qR (n:=35184372088832) (by omega) (by decide)
theorem Po{p:Int × Int}(b:∀ r∈l,Num r)(hp:I43 p.1/\I43 p.2/\p.2≠0):∀ r∈Ee l p,Num r:=by
 intro r a;rcases O9 a with h |⟨rfl,d,c⟩
 . exact b r h
 . obtain⟨b1,e⟩:=G7 (Pn hp.1) (Pn hp.2.1);exact⟨G6 hp.2.2,b1,e,d,c⟩
theorem FM:∀(a:List (Int × Int)) {l:List Rt},(∀ r∈l,Num r)->(∀ p∈a,I43 p.1/\I43 p.2/\p.2≠0)->(∀ r∈oL l a,Num r)/\(oL l a).length<=l.length+a.length
 |[],l,hl,_=>⟨hl,by simp[oL]⟩
 | p::a,l,hl,hp=>by obtain⟨c,b⟩:=FM a (Po hl (hp p (by simp))) λq d=>hp q (by simp[d]);refine⟨c,?_⟩;have:=IX l p;rw[qLl];exact Nat.le_trans b (by omega)
def zy(s t:Rt):Rt:=low (s.n*t.d+t.n*s.d) (s.d*t.d)
def jY(s t:Rt):Rt:=low ((zy s t).n*1) ((zy s t).d*2)
def mV(x0 x1:Int)(t:Rt):Int:=(x1-x0)*t.n+x0*t.d
def SK(f:Fen)(a b:V3)(t:Rt):Bool:=O4 f (mV a.x b.x t*t.d) (mV a.y b.y t*t.d) (t.d*t.d)
def wJ(f:Fen)(a b:V3):List Rt->Bool
 | s::t::r=>SK f a b (jY s t)&&wJ f a b (t::r)
 | _=>true
def numsL(f:Fen)(a b:V3):List Rt:=Ej (xU (I4 a b [⟨0,1⟩,⟨1,1⟩] (dS f)))
def Aw(f:Fen)(a b:V3):Bool × Int:=
 if validP f then(if inM 1048576 a then(if inM 1048576 b then(if vg f a then(if vg f b then(if a.x=b.x/\a.y=b.y then(true,0)else(wJ f a b (numsL f a b),0))else(false,0))else(false,0))else(false,2))else(false,2))else(false,2)
theorem J4:∀{l:List Rt} {x y:Rt},y∈Ei x l->y∈l
 |[],_,_,h=>by simp[Ei]at h
 | z::r,x,y,h=>by
  unfold Ei at h;split at h
  . exact List.mem_cons_of_mem _ (J4 h)
  . rcases List.mem_cons.1 h with rfl | h
    . simp
    . exact List.mem_cons_of_mem _ (J4 h)
theorem Q5{y:Rt}(h:y∈Ej l):y∈l:=by
 cases l with
 | nil=>simp[Ej]at h
 | cons x r =>
  rcases List.mem_cons.1 h with rfl | h
  . simp
  . exact List.mem_cons_of_mem _ (J4 h)
theorem Q7(l:List Rt):(Ej l).length<=l.length:=by
 cases l with
 | nil=>simp[Ej]
 | cons x r=>have:=QZ x r;simp only[Ej,qLl];omega
theorem zA(l:List Rt):(xU l).length=l.length:=(xE l).length_eq
theorem sum_lt(b:Num s)(a:Num t):Lt2 93 (s.n*t.d+t.n*s.d)/\Lt2 93 (s.d*t.d)/\0<s.d*t.d:=
 ⟨((b.bn.mul a.bd).add (a.bn.mul b.bd)).mono (by omega),(b.bd.mul a.bd).mono (by omega),Int.mul_pos b.cn.1 a.cn.1⟩
theorem LY:Lt2 2 2:=by unfold Lt2;decide
theorem LZ:Lt2 1 1:=by unfold Lt2;decide
theorem TV(j:Num s)(i:Num t):Lt2 100 (jY s t).n/\Lt2 100 (jY s t).d/\0<(jY s t).d/\Lt2 93 (zy s t).n/\Lt2 93 (zy s t).d/\0<(zy s t).d:=by obtain⟨m,k,o⟩:=sum_lt j i;obtain⟨b,a⟩:=G7 m k;have h:0<(zy s t).d:=wG (by omega);have e:Lt2 100 ((zy s t).n*1):=(Lt2.mul b LZ).mono (by omega);have c:Lt2 100 ((zy s t).d*2):=(Lt2.mul a LY).mono (by omega);obtain⟨g,f⟩:=G7 e c;exact⟨g,f,wG (by omega),b,a,h⟩
section
variable (X:Ext) (hX:Mine X)
include hX
variable (hB:Bits X)
include hB
theorem c76(a b:Int)(c:Lt2 25 a)(o:Lt2 25 b)(t:Rt)(i:Lt2 100 t.n)(hd:Lt2 100 t.d):run tab X 76 [.p (.int .i64 a),.p (.int .i64 (b-a)),.p (lM t),.p pZ] []=some ([.p (eR (mV a b t) t.d)],[]):=
 run_of (hX _ rfl) (by
  have g:Lt2 26 (b-a):=o.sub c;have f:Lt2 200 ((b-a)*t.n):=(g.mul i).mono (by omega);have e:Lt2 200 (a*t.d):=(c.mul hd).mono (by omega);have m:=QT X hX hB (b-a) t.n (g.okW (by omega)) (i.okW (by omega)) (f.okW (by omega));have k:=QT X hX hB a t.d (c.okW (by omega)) (hd.okW (by omega)) (e.okW (by omega));have h:=c79 X hX hB ((b-a)*t.n) (a*t.d) (f.okW (by omega)) (e.okW (by omega));rw[wu,if_pos ((f.add e).okW (by omega))]at h;have b1:-9223372036854775808<=b-a/\b-a<=9223372036854775807:=by unfold Lt2 at g;omega
  have j:-9223372036854775808<=a/\a<=9223372036854775807:=by unfold Lt2 at c;omega
  rw[lM,eR,e76,c61 X hX hB _ b1.1 b1.2,qOb];simp only[qLh,pv_p,iy];show(run tab X 77 [.p pZ,.p (eW (b-a)),.p (eW t.n)] []).bind _=_;rw[m,qOb,c61 X hX hB _ j.1 j.2,qOb];simp only[qLh,pv_p,iy];show(run tab X 77 [.p pZ,.p (eW a),.p (eW t.d)] []).bind _=_;rw[k,qOb];simp only[qLh,pv_p,iy];rw[h,qOb];simp only[qLh,List.tail_cons,pv_p,iy,toInt_int];rw[c78 X hX,qOb];rfl)
abbrev w28:List Wy:=[.lp [1,1,1,1,1,1,1,1,1,1,1,1,0,1,0]]
abbrev S28(f:Fen)(a b:V3)(i:Nat)(n:Nat)(buf:List PV):St:=iD (i:Int) (encL f.outer) (bI f.holes) f.low f.high a.x a.y a.z b.x b.y b.z (decide ((1:Int)<0)) (jD (1:Int).natAbs) 0 n buf 0
theorem l28b(f:Fen)(hf:QS f)(a b:V3)(N:je a)(M:je b)(D:List Rt)(hD:∀ r∈D,Num r)(hDl:D.length<=1000000)(h:List PV)(K:h.take D.length=encR D):∀(r:List Rt) (i:Nat),D.drop i=r->i<D.length ->
    L tab (run tab X) 28 [] w28 (S28 f a b (i+1) D.length h)=some (BU (wJ f a b r,0),[]):=by
  have get:∀ i,i<D.length->h.getD i .nil=lM (gr D i):=λi g=>by rw[<- pq D g];grind
  have V:∀ i,i<D.length->Num (gr D i):=λi g=>hD _ (by grind);intro r;induction r with
  | nil =>intro i u g;have:=congrArg List.length u;grind
  | cons s r ih =>
   intro i u g;have J:gr D i=s:=by grind[qLb,List.head?_drop]
   have hnext:D.drop (i+1)=r:=by rw[<- List.tail_drop,u];rfl
   cases r with
   | nil =>
    have c:D.length=i+1:=by have:=congrArg List.length hnext;grind
    refine L_of ?_;rw[nV,yL (by omega),qCf];rfl
   | cons t r' =>
    have c:i+1<D.length:=by grind
    have I:gr D (i+1)=t:=by show D.getD (i+1) ⟨0,0⟩=t;rw[qLb,<- List.head?_drop,hnext];rfl
    have q:=J▸V i g;have o:=I▸V (i+1) c;have W:IntKind.i64.wrap (((i+1:Nat):Int)-1)=(i:Int):=by rw[wrap_eq (by omega) (by omega)];omega
    obtain⟨o1,o2,o3⟩:=sum_lt q o;obtain⟨k,e,F,H,G,k3⟩:=TV q o;have A:=c80 X hX hB s.n s.d t.n t.d q.ok o.ok;rw[zo (o1.okW (by omega)) (o2.okW (by omega)) (by omega)]at A;have j:okR 1 2:=⟨o9 (by decide),o9 (by decide),by decide⟩;have m:okR (zy s t).n (zy s t).d:=⟨H.okW (by omega),G.okW (by omega),k3⟩;have z:=c81 X hX hB (zy s t).n (zy s t).d 1 2 m j;rw[zo ((Lt2.mul H LZ).okW (by omega)) ((Lt2.mul G LY).okW (by omega)) (by omega)]at z;obtain⟨S,R⟩:=uy N.up;obtain⟨bx,v⟩:=uy M.up;have q3:=c76 X hX hB a.x b.x S bx (jY s t) k e;have Z:=c76 X hX hB a.y b.y R v (jY s t) k e
    obtain⟨Q,P⟩:=IL N.up M.up;have U:Lt2 130 (mV a.x b.x (jY s t)):=((Q.mul k).add ((S.mul e).mono (by omega))).mono (by omega);have T:Lt2 130 (mV a.y b.y (jY s t)):=((P.mul k).add ((R.mul e).mono (by omega))).mono (by omega);have E:Lt2 20000 (mV a.x b.x (jY s t)*(jY s t).d):=(U.mul e).mono (by omega);have C:Lt2 20000 (mV a.y b.y (jY s t)*(jY s t).d):=(T.mul e).mono (by omega);have B:Lt2 20000 ((jY s t).d*(jY s t).d):=(e.mul e).mono (by omega);have Y:=c63 X hX hB (mV a.x b.x (jY s t)) (jY s t).d (mV a.y b.y (jY s t)) (jY s t).d (U.okW (by omega)) (e.okW (by omega)) (T.okW (by omega)) (e.okW (by omega)) (E.okW (by omega)) (C.okW (by omega)) (B.okW (by omega));have w:=aak X hX hB f hf _ _ _ ⟨E,C,B,Int.mul_pos F F⟩;rw[encF]at w;have dX:IntKind.i64.wrap (b.x-a.x)=b.x-a.x:=by unfold Lt2 at Q;exact wrap_eq (by omega) (by omega)
    have dY:IntKind.i64.wrap (b.y-a.y)=b.y-a.y:=by unfold Lt2 at P;exact wrap_eq (by omega) (by omega)
    have g1:ltI ((i:Nat):Int) (D.length:Int)=true:=sG g;have O:ltI ((i+1:Nat):Int) (D.length:Int)=true:=sG c;refine L_of ?_;rw[nV,O,qCt,W];simp only[le0,g1,O,qBs,qCt,qIt,qNz,get i g,get (i+1) c,J,I,fH (show i+1<=9000000000000000000 by omega),dX,dY];show(run tab X 80 [.p (eR s.n s.d),.p (eR t.n t.d)] []).bind _=_;rw[A,qOb,c61 X hX hB 2 (by omega) (by omega),qOb];show(run tab X 81 [.p (eR (zy s t).n (zy s t).d),.p (eR 1 2)] []).bind _=_;rw[z,qOb];show(run tab X 76 [.p (.int .i64 a.x),.p (.int .i64 (b.x-a.x)),.p (lM (jY s t)),.p pZ] []).bind _=_;rw[q3,qOb];show(run tab X 76 [.p (.int .i64 a.y),.p (.int .i64 (b.y-a.y)),.p (lM (jY s t)),.p pZ] []).bind _=_;rw[Z,qOb];show(run tab X 63 [.p pZ,.p (eR (mV a.x b.x (jY s t)) (jY s t).d),.p (eR (mV a.y b.y (jY s t)) (jY s t).d)] []).bind _=_;rw[Y,qOb];show(run tab X 64 [_,.p (.fn 82 [pZ,.ref (IQ (mV a.x b.x (jY s t)*(jY s t).d) (mV a.y b.y (jY s t)*(jY s t).d) ((jY s t).d*(jY s t).d))])] []).bind _=_;rw[w,qOb];simp only[qLh,pv_p,toBool_bool];have jX:=ih (i+1) hnext c;rw[wJ];unfold SK;cases O4 f (mV a.x b.x (jY s t)*(jY s t).d) (mV a.y b.y (jY s t)*(jY s t).d) ((jY s t).d*(jY s t).d)with
    | false=>rfl
    | true=>grind
end
end
section
variable {l:List Rt}
theorem J5(a b:V3)(l:List Rt)(e:ku)(c:List ku):I4 a b l (e::c)=I4 a b (oL l (sO a b e.1 e.2)) c:=rfl
theorem Pq(h:∀ r∈l,Num r):∀ r∈xU l,Num r:=λr a=>h r ((xE l).mem_iff.1 a)
theorem Q8(h:∀ r∈l,Num r):∀ r∈Ej l,Num r:=λr a=>h r (Q5 a)
theorem TW(h:l≠[]):0<(Ej l).length:=by
 cases l with
 | nil=>exact absurd rfl h
 | cons x r=>simp[Ej]
abbrev I8(ys:List PV):List Wy:=[.rg [1,1,1,1,1,1,0,1,0] [(true,kV3),(true,kV3)] ys]
abbrev Q9(f:Fen)(a b:V3)(n:Nat)(buf:List PV):St:=jy (encL f.outer) (bI f.holes) f.low f.high (encL f.outer) (bI f.holes) f.low f.high a.x a.y a.z b.x b.y b.z (decide ((1:Int)<0)) (jD (1:Int).natAbs) 0 n buf
abbrev Wi(f:Fen)(a b:V3)(n:Nat)(buf:List PV):St:=pK (encL f.outer) (bI f.holes) f.low f.high (encL f.outer) (bI f.holes) f.low f.high a.x a.y a.z b.x b.y b.z (decide ((1:Int)<0)) (jD (1:Int).natAbs) buf 0 n
section
variable (X:Ext) (hX:Mine X)
include hX
variable (hB:Bits X) (hE:Df X) (hS:Sorts X)
include hB hS
theorem c74(l:List Rt)(a:∀ r∈l,Num r)(g:l.length<=100000):run tab X 74 [.slice 100000 4 0 l.length,.p (.fn 73 [])] [.arr true kR (encR l)]=some ([],[.arr true kR (encR (xU l))]):=by
 have _:=hX;have _:=hB;let vs:List Vr:=l.attach.map λx=>⟨x.1,(a x.1 x.2).ok⟩;have j:vs.map (·.1)=l:=by show(l.attach.map λx=>(⟨x.1,(a x.1 x.2).ok⟩:Vr)).map (·.1)=l;simp
 have i:vs.length=l.length:=by grind
 obtain⟨m,f,b,e⟩:=hS.s vs (by omega);have h:m.map (·.1)=xU l:=by
  have hp:(m.map (·.1)).Perm l:=by grind
  refine Eh (hp.trans (xE l).symm) b (Pm λy c=>(a y c).cn.1) λx d=>(a x (hp.mem_iff.1 d)).cn
 grind[Io]
theorem n28(f:Fen)(j:QS f)(a b:V3)(m:je a)(k:je b)(l:List Rt)(e:∀ r∈l,Num r)(i:l.length<=100000)(o:l≠[]) :
    L tab (run tab X) 28 [] (I8 []) (Q9 f a b l.length (encR l))=some (BU (wJ f a b (Ej (xU l)),0),[]):=by
  rw[vX,c74 X hX hB hS l e i,qOb];obtain⟨n,d,g⟩:=c75 X hX (xU l) (by rw[zA];omega);rw[zA]at d;show(run tab X 75 [.slice 100000 4 0 l.length] [.arr true kR (encR (xU l))]).bind _=_;rw[d,qOb];have c:xU l≠[]:=λh=>by have:=zA l;grind
  exact l28b X hX hB f j a b m k (Ej (xU l)) (Q8 (Pq e)) (by have:=Q7 (xU l);rw[zA]at this;omega) n g (Ej (xU l)) 0 rfl (TW c)
theorem l28a(f:Fen)(D:QS f)(a b:V3)(u:je a)(t:je b)(g:¬(a.x=b.x/\a.y=b.y)):∀(c:List ku) (l:List Rt),(∀ e∈c,je e.1/\je e.2)->(∀ r∈l,Num r)->l≠[]->l.length+2*c.length<=100000 ->
    L tab (run tab X) 28 [] (I8 (c.map eY)) (Q9 f a b l.length (encR l))=some (BU (wJ f a b (Ej (xU (I4 a b l c))),0),[]):=by
  intro c;induction c with
  | nil =>intro l _ o w n;exact n28 X hX hB hS f D a b u t l o (by simp at n;omega) w
  | cons e r k =>
   intro l d o w n;obtain⟨v,hd⟩:=d e (by simp);simp only[qLl]at n;have q:=c72 X hX hB l (by omega) a b e.1 e.2 u t v hd g;simp only[encV]at q;obtain⟨F,A⟩:=IZ u t v hd g;obtain⟨B,G⟩:=FM (sO a b e.1 e.2) o A;rw[List.map_cons,J5];show L tab (run tab X) 28 [] (I8 (.agg [.agg [.int .i64 e.1.x,.int .i64 e.1.y,.int .i64 e.1.z],.agg [.int .i64 e.2.x,.int .i64 e.2.y,.int .i64 e.2.z]]::r.map eY)) (Q9 f a b l.length (encR l))=_;rw[oK,q,qOb];have C:l.length<=(oL l (sO a b e.1 e.2)).length:=by
    have j:∀(i:List (Int × Int)) (l:List Rt),l.length<=(oL l i).length:=by
     intro i;induction i with
     | nil=>intro l;exact qNr _
     | cons p i k =>intro l;refine Nat.le_trans ?_ (k (Ee l p));grind[Ee]
    exact j _ _
   have m:oL l (sO a b e.1 e.2)≠[]:=λh=>by grind
   have jX:=k (oL l (sO a b e.1 e.2)) (λE s=>d E (by simp[s])) B m (by omega);show L tab (run tab X) 28 [] (I8 (r.map eY)) (Q9 f a b (encR (oL l (sO a b e.1 e.2))).length (encR (oL l (sO a b e.1 e.2))))=_;grind[wI]
theorem aat(f:Fen)(m:QS f)(a b:V3)(o:je a)(n:je b)(i:¬(a.x=b.x/\a.y=b.y))(c:List ku)(l:List Rt)(h:c≠[])(g:∀ e∈c,je e.1/\je e.2)(k:∀ r∈l,Num r)(p:l≠[])(j:l.length+2*c.length<=100000) :
    L tab (run tab X) 28 [] (I8 (c.map eY)) (Wi f a b l.length (encR l))=some (BU (wJ f a b (Ej (xU (I4 a b l c))),0),[]):=by
  cases c with
  | nil=>exact absurd rfl h
  | cons e r =>have d:=l28a X hX hB hS f m a b o n i (e::r) l g k p j;rw[List.map_cons]at d ⊢;have q:∀ ys:List PV,I8 (eY e::ys)=I8 (.agg [.agg [.int .i64 e.1.x,.int .i64 e.1.y,.int .i64 e.1.z],.agg [.int .i64 e.2.x,.int .i64 e.2.y,.int .i64 e.2.z]]::ys):=λ_=>rfl;grind[oK,yu]
include hE
theorem NQ{f:Fen}(h:validP f=true):dS f≠[]:=by have _:=hX;have _:=hB;have _:=hE;have _:=hS;have a:=(kW h).1;have b:=(lF (b:=true) a).2;have c:=(eH a).1;grind[qLp,iI,List.length_nil,dS]
theorem c28(f:Fen)(u:qW f)(a b:V3):run tab X 28 [.p (encF f),.p (encV a),.p (encV b)] []=some (BU (Aw f a b),[]):=
 run_of (hX _ rfl) (by
  have z:=c18 X hX f u;have w:=c40 X hX a;have v:=c40 X hX b;have d:=c31 X hX f;have c:=hE.e f u;rw[encF]at z d;rw[encV]at w v;rw[encF,encV,encV,e28,z,qOb];simp only[qLh,pv_p,toBool_bool];unfold Aw;cases j:validP f with
  | false=>rfl
  | true =>
   obtain⟨o,_⟩:=o7 j;rw[qBt,qCf,w,qOb,if_pos rfl];simp only[qLh,pv_p,toBool_bool];cases D:inM 1048576 a with
   | false=>rfl
   | true =>
    rw[qBt,qCf,v,qOb,if_pos rfl];simp only[qLh,pv_p,toBool_bool];cases C:inM 1048576 b with
    | false=>rfl
    | true =>
     have s:=rO.1 D;have q:=rO.1 C;have h4:=c55 X hX f o a (s.mono (by decide));have h5:=c55 X hX f o b (q.mono (by decide));rw[encF,encV]at h4 h5;rw[qBt,qCf,h4,qOb,if_pos rfl];simp only[qLh,pv_p,toBool_bool];cases B:vg f a with
     | false=>rfl
     | true =>
      rw[qBt,qCf,h5,qOb,if_pos rfl];simp only[qLh,pv_p,toBool_bool];cases A:vg f b with
      | false=>rfl
      | true =>
       rw[qBt,qCf,if_pos rfl];have m:¬(a.x=b.x/\a.y=b.y)->L tab (run tab X) 28 [] (I8 ((dS f).map eY)) (Wi f a b 2 [.agg [.bool false,.str ⟨#[]⟩,.bool (decide ((1:Int)<0)),.str (jD (1:Int).natAbs)],.agg [.bool (decide ((1:Int)<0)),.str (jD (1:Int).natAbs),.bool (decide ((1:Int)<0)),.str (jD (1:Int).natAbs)]])=some (BU (wJ f a b (numsL f a b),0),[]):=λn=>by
        have k:=aat X hX hB hS f o a b s q n (dS f) [⟨0,1⟩,⟨1,1⟩] (NQ X hX hB hE hS j) (xC j) (by
         intro r t;simp only[List.mem_cons,List.not_mem_nil,or_false]at t;rcases t with rfl | rfl
         . exact aas
         . exact num1) (by simp) (by have:=Ed j;simp only[qLl,List.length_nil];omega)
        have F:encR [⟨0,1⟩,⟨1,1⟩]=[.agg [.bool false,.str ⟨#[]⟩,.bool (decide ((1:Int)<0)),.str (jD (1:Int).natAbs)],.agg [.bool (decide ((1:Int)<0)),.str (jD (1:Int).natAbs),.bool (decide ((1:Int)<0)),.str (jD (1:Int).natAbs)]]:=by show [PV.agg [.bool (decide ((0:Int)<0)),.str (jD (0:Int).natAbs),.bool (decide ((1:Int)<0)),.str (jD (1:Int).natAbs)],_]=_;rw[show(0:Int).natAbs=0 from rfl,wH];rfl
        rw[F]at k;exact k
       have E:mJ f=dS f:=by unfold mJ;rw[if_pos j]
       rw[E]at c;by_cases i:a.x=b.x
       . rw[show(a.x==b.x)=true from beq_iff_eq.2 i,qCt];by_cases g:a.y=b.y
         . rw[show(a.y==b.y)=true from beq_iff_eq.2 g,qCt,if_pos ⟨i,g⟩];rfl
         . rw[show(a.y==b.y)=false from beq_eq_false_iff_ne.2 g,qCf,if_neg λh=>g h.2,c61 X hX hB 1 (by omega) (by omega),qOb,d,qOb];show(run tab X 87 [.yld,.p (.ref (vT f))] [.log true []]).bind _=_;rw[c,qOb];exact m λh=>g h.2
       . rw[show(a.x==b.x)=false from beq_eq_false_iff_ne.2 i,qCf,if_neg λh=>i h.1,c61 X hX hB 1 (by omega) (by omega),qOb,d,qOb];show(run tab X 87 [.yld,.p (.ref (vT f))] [.log true []]).bind _=_;rw[c,qOb];exact m λh=>i h.1)
end
end
end Go.Skm.Fen
