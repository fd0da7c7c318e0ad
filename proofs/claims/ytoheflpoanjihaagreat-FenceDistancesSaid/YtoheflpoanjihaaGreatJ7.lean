import Derived.Test.YtoheflpoanjihaaGreatR8
import Derived.Test.YtoheflpoanjihaaGreatG7
import Derived.Test.YtoheflpoanjihaaGreatG19
import Derived.Test.YtoheflpoanjihaaGreatEqv3
import Derived.Test.YtoheflpoanjihaaGreatG10
import Derived.Test.YtoheflpoanjihaaGreatG15
import Derived.Test.YtoheflpoanjihaaGreatG8
set_option linter.all false
namespace Go.Skm.Fen
open Go Go.Skm
section
open Go.Skm.Dig
variable {D E M N a b n:Int}{k:Nat}{x y:PV}
theorem yF(n d:Int):PV.agg [PV.bool (decide (n<0)),PV.list false kI (nI n.natAbs),PV.bool (decide (d<0)),PV.list false kI (nI d.natAbs)]=eQ n d:=rfl
theorem jV(n d:Int):PV.agg [.bool (((eQ n d).cell 0).toBool),.list false kI (((eQ n d).cell 1).toList),.bool (((eQ n d).cell 2).toBool),.list false kI (((eQ n d).cell 3).toList)]=eQ n d:=rfl
def uK(v:PV)(N D:Int)(k:Nat):Prop:=∃ n d,v=eQ n d/\0<d/\n*D=N*d/\fQ n k/\fQ d k
theorem uK.mono{v:PV}{m:Nat}(h:uK v N D k)(c:k<=m):uK v N D m:=by obtain⟨n,d,g,f,e,h4,h5⟩:=h;exact⟨n,d,g,f,e,bF h4 c,bF h5 c⟩
theorem zC(h:a.natAbs<=b.natAbs)(c:fQ b k):fQ a k:=Nat.le_trans (nD h) c
theorem FQ(a:Int)(h:b≠0):ou a b*b=a*nJ a b:=by
 have o:0<Int.gcd a b:=Nat.pos_of_ne_zero λe=>h (Int.gcd_eq_zero_iff.1 e).2;obtain⟨x,c⟩:=Int.gcd_dvd_left (a:=a) (b:=b);obtain⟨y,i⟩:=Int.gcd_dvd_right (a:=a) (b:=b);unfold ou nJ;generalize Int.gcd a b=g at *;have d:(g:Int)≠0:=by omega
 have m:a / (g:Int)=x:=by rw[c];exact Int.mul_ediv_cancel_left x d
 have f:(b.natAbs:Int)=g*y.natAbs:=by rw[i,Int.natAbs_mul];simp
 have l:(b.natAbs:Int) / (g:Int)=y.natAbs:=by rw[f];exact Int.mul_ediv_cancel_left _ d
 rw[m,l];have j:b.sign*b=(b.natAbs:Int):=by rw[Int.mul_comm];exact Int.mul_sign_self b
 calc b.sign*x*b=x*(b.sign*b):=by rw[Int.mul_comm b.sign x,Int.mul_assoc]
  _=x*(g*y.natAbs):=by rw[j,f]
  _=a*y.natAbs:=by rw[c,<- Int.mul_assoc,Int.mul_comm x]
theorem Kt{c d A B C:Int}(h:0<b)(hd:0<d)(j:0<B)(i:0<D)(m:a*B=A*b)(l:c*D=C*d):(a*d-c*b).sign=(A*D-C*B).sign:=by
 have e:(a*d-c*b)*(B*D)=(A*D-C*B)*(b*d):=by
  have:(a*d-c*b)*(B*D)=(a*B)*(d*D)-(c*D)*(b*B):=by grind
  rw[this,m,l];grind
 have g:0<B*D:=Int.mul_pos j i;have f:0<b*d:=Int.mul_pos h hd;have:=congrArg Int.sign e;rwa[Int.sign_mul (a*d-c*b),Int.sign_mul (A*D-C*B),Int.sign_eq_one_of_pos g,Int.sign_eq_one_of_pos f,Int.mul_one,Int.mul_one]at this
theorem sQ(h:fQ n k)(c:1<=k):uK (eQ n 1) n 1 k:=⟨n,1,rfl,by decide,rfl,h,Nat.le_trans (by show(aW B9 1).length<=1;exact sS (by decide)) c⟩
theorem mD(d:-9223372036854775808<=n)(c:n<=9223372036854775807):fQ n 3:=sS (by show _<1000000000^3;omega)
section
variable (X:Ext) (hX:Mine X)
include hX
theorem c57(n:Int)(d:-9223372036854775808<=n)(c:n<=9223372036854775807):run tab X 57 [.p (.int .i64 n)] []=some ([.p (eQ n 1)],[]):=
 run_of (hX _ rfl) (by rw[e57,c71 X hX n d c,qOb,c71 X hX 1 (by decide) (by decide),qOb];rfl)
theorem Ku(j:uK x N D k)(i:uK y M E k)(c:k<=300000)(r:0<D)(q:0<E):run tab X 67 [.p x,.p y] []=some ([.p (.int .i64 (N*E-M*D).sign)],[]):=by obtain⟨n,d,rfl,t,o,h,s2⟩:=j;obtain⟨m,e,rfl,s,l,g,f⟩:=i;rw[c67 X hX n d m e ⟨bF h c,bF s2 c,by omega⟩ ⟨bF g c,bF f c,by omega⟩,Kt t s r q o l]
theorem CO(g:fQ a k)(f:fQ b k)(c:b≠0)(d:a*D=N*b):uK (eQ (ou a b) (nJ a b)) N D k:=by
 have _:=hX;refine⟨_,_,rfl,wG c,?_,zC (zl a b) g,zC (zn a b) f⟩;have h:=FQ a c;have e:(ou a b*D)*b=(N*nJ a b)*b:=by
  calc ou a b*D*b=ou a b*b*D:=by grind
   _=a*D*nJ a b:=by rw[h];grind
   _=N*nJ a b*b:=by rw[d];grind
 exact Int.eq_of_mul_eq_mul_right c e
theorem NR(j:uK x N D k)(i:uK y M E k)(c:k<=300000):∃ r s,run tab X 85 [.p x,.p y] []=some ([.p (eQ r s)],[])/\uK (eQ r s) (N*M) (D*E) (k+k):=by
 obtain⟨n,d,rfl,t,o,h,s2⟩:=j;obtain⟨m,e,rfl,q,l,g,f⟩:=i;refine⟨_,_,c85 X hX n d m e ⟨bF h c,bF s2 c,by omega⟩ ⟨bF g c,bF f c,by omega⟩,CO X hX (gu h g) (gu s2 f) (Int.mul_ne_zero (by omega) (by omega)) ?_⟩
 calc n*m*(D*E)=(n*D)*(m*E):=by grind
  _=N*M*(d*e):=by rw[o,l];grind
theorem Rh(j:uK x N D k)(i:uK y M E k)(c:k<=300000):∃ r s,run tab X 145 [.p x,.p y] []=some ([.p (eQ r s)],[])/\uK (eQ r s) (N*E-M*D) (D*E) (k+k+1):=by
 obtain⟨n,d,rfl,t,o,h,s2⟩:=j;obtain⟨m,e,rfl,q,l,g,f⟩:=i;refine⟨_,_,c145 X hX n d m e ⟨bF h c,bF s2 c,by omega⟩ ⟨bF g c,bF f c,by omega⟩,CO X hX ?_ (bF (gu s2 f) (by omega)) (Int.mul_ne_zero (by omega) (by omega)) ?_⟩
 . rw[Int.sub_eq_add_neg];exact zD (gu h f) (wM (bF (gu g s2) (by omega)))
 calc (n*e-m*d)*(D*E)=(n*D)*(e*E)-(m*E)*(d*D):=by grind
  _=(N*E-M*D)*(d*e):=by rw[o,l];grind
theorem Uc(j:uK x N D k)(i:uK y M E k)(c:k<=300000):∃ r s,run tab X 86 [.p x,.p y] []=some ([.p (eQ r s)],[])/\uK (eQ r s) (N*E+M*D) (D*E) (k+k+1):=by
 obtain⟨n,d,rfl,t,o,h,s2⟩:=j;obtain⟨m,e,rfl,q,l,g,f⟩:=i;refine⟨_,_,c86 X hX n d m e ⟨bF h c,bF s2 c,by omega⟩ ⟨bF g c,bF f c,by omega⟩,CO X hX (zD (gu h f) (bF (gu g s2) (by omega))) (bF (gu s2 f) (by omega)) (Int.mul_ne_zero (by omega) (by omega)) ?_⟩
 calc (n*e+m*d)*(D*E)=(n*D)*(e*E)+(m*E)*(d*D):=by grind
  _=(N*E+M*D)*(d*e):=by rw[o,l];grind
end
end
section
open Go.Skm.Dig
variable {u v w:Int}
def Cc(n d m e:Int):PV:=.agg [.bool (decide (n<0)),.list false kI (nI n.natAbs),.bool (decide (d<0)),.list false kI (nI d.natAbs),.bool (decide (m<0)),.list false kI (nI m.natAbs),.bool (decide (e<0)),.list false kI (nI e.natAbs)]
def YP(n d m e:Int)(u v w:Int)(k:Nat):Prop:=uK (eQ n d) u w k/\uK (eQ m e) v w k
def Wn(u v w:Int)(e:ku):Bool:=Ie u v w e != 0
def EU(u v w:Int)(acc:Bool)(es:List ku):Int:=if es.any (GK u v w)then 0 else if es.foldl (λb e=>b != Wn u v w e) acc then 1 else -1
theorem FT(u v w:Int)(acc:Bool)(e:ku)(r:List ku):EU u v w acc (e::r)=if GK u v w e then 0 else EU u v w (acc != Wn u v w e) r:=by
 unfold EU;rw[List.any_cons,List.foldl_cons];cases GK u v w e with
 | true=>simp
 | false=>simp only[Bool.false_or,Bool.false_eq_true,if_false]
theorem Ud(f:0<w)(e:ku)(h:GK u v w e=false) :
    ((!((decide (e.1.y*w<=v))==(decide (e.2.y*w<=v))))&&((decide (0<iE (Tq e.1 e.2 u v w)))==(decide (e.1.y*w<=v))))=Wn u v w e:=by
  have g:∀ x,iE (x-v)<=0↔x<=v:=λx=>by have:=@oh (x-v);constructor<;>intro h<;>omega
  have hp:∀ x,0<iE (x-v)↔¬ x<=v:=λx=>by have:=@oh (x-v);constructor<;>intro h<;>omega
  have i:iE (Tq e.1 e.2 u v w)=0->¬(e.2.y*w<=v/\¬ e.1.y*w<=v):=λd j=>by rw[CJ f,decide_eq_false_iff_not]at h;refine h (qN.1 (uz ?_ (show w*e.2.y<w*e.1.y by rw[Int.mul_comm w,Int.mul_comm w];omega) (show w*e.2.y<=v by rw[Int.mul_comm];omega) (show v<=w*e.1.y by rw[Int.mul_comm];omega)));show turn (scp w (pt e.2)) (scp w (pt e.1)) ⟨u,v⟩=0;rw[gX,CG,zi.1 d];simp
  unfold Wn Ie;simp only[g,hp];by_cases a:e.1.y*w<=v<;>by_cases b:e.2.y*w<=v<;>rcases rH (Tq e.1 e.2 u v w)with c | c | c<;>simp[a,b,c]
  exact absurd ⟨b,a⟩ (i c)
theorem Pz{l:List V3}(h:dG l=true)(c:0<w):EU u v w false (dA l)=Aq l u v w:=by
 rw[<- JW c];unfold EU VP;split
 . rfl
 . rename_i k;have hp:=Fq h;have f:∀ n,n<=l.length->(sJ l n).foldl (λb e=>b != Wn u v w e) false=cross (λi=>scp w (pts l i)) ⟨u,v⟩ n:=by
    intro n;induction n with
    | zero=>intro _;rfl
    | succ n q =>intro x;rw[rJ,List.foldl_append,q (by omega)];show(_ !=(Ie u v w (flat (ca l n),flat (cb l n)) != 0))=(_ !=(cr ⟨u,v⟩ (scp w (pts l n)) (scp w (pts l (n+1))) != 0));rw[O3 c,xw,Ap (by omega)];rfl
   have g:Poly (λi=>scp w (pts l i)) l.length:=⟨hp.n3,λi=>by show scp w _=scp w _;rw[hp.per],λi e=>hp.ne i (by unfold scp at e;simp only[Pt.mk.injEq]at e;have p:=Int.eq_of_mul_eq_mul_left (by omega) e.1;have o:=Int.eq_of_mul_eq_mul_left (by omega) e.2;generalize pts l i=a at *;generalize pts l (i+1)=b at *;cases a;cases b;simp_all),λi m t s=>λd=>hp.far i m t s ((Jh c).1 d),λi d=>hp.Ep i ((wO c).1 d),λi d=>hp.Es i ((wO c).1 d)⟩;have j:∀ i,¬ on (scp w (pts l i)) (scp w (pts l (i+1))) ⟨u,v⟩:=λi r=>k (List.any_eq_true.2 ⟨(flat (ca l (i%l.length)),flat (cb l (i%l.length))),List.mem_map.2 ⟨i%l.length,List.mem_range.2 (qNm _ (by have:=hp.n3;omega)),rfl⟩,by
    rw[CJ c,qDa,LH,LH];have p:pts l i=pt (ca l (i%l.length)):=rfl;have o:pts l (i+1)=pt (cb l (i%l.length)):=by unfold pts cb jX;rw[Nat.mod_add_mod]
    rw[<- p,<- o];exact r⟩)
   have:=Kv g ⟨u,v⟩ j;rw[f _ (qNr _),this,GL c l _ (qNr _)];show(if decide (jZ _ _ _≠0)=true then(1:Int)else -1)=if jZ _ _ _≠0 then 1 else -1
   simp only[qDa]
end
section
open Go.Skm.Dig
variable {a d m n u w:Int}{k:Nat}
theorem zF(a b:V3):((oD a b).cell 0).toInt=a.x:=rfl
theorem zG(a b:V3):((oD a b).cell 1).toInt=a.y:=rfl
theorem zH(a b:V3):((oD a b).cell 2).toInt=a.z:=rfl
theorem zI(a b:V3):((oD a b).cell 3).toInt=b.x:=rfl
theorem zJ(a b:V3):((oD a b).cell 4).toInt=b.y:=rfl
theorem zK(a b:V3):((oD a b).cell 5).toInt=b.z:=rfl
theorem Kw(a b u w:Int)(c:0<w):((goMin a b)*w<=u/\u<=(goMax a b)*w)↔btw (a*w) (b*w) u:=by
 unfold goMin goMax btw;have m:∀{x y:Int},x<=y->x*w<=y*w:=λh=>Int.mul_le_mul_of_nonneg_right h (by omega);by_cases h:b<a
 . have:=m (show b<=a by omega);grind
 grind
theorem PD{b M:Int}(f:m<=a)(e:a<=M)(c:m<=b)(h4:b<=M):(m<=goMin a b/\goMin a b<=M)/\m<=goMax a b/\goMax a b<=M:=by grind[goMin,goMax]
theorem Ue{p:V3}(hp:mg p):YP p.x 1 p.y 1 p.x p.y 1 3:=by obtain⟨⟨a,b⟩,⟨c,d⟩,_⟩:=hp;exact⟨sQ (mD (by omega) (by omega)) (by decide),sQ (mD (by omega) (by omega)) (by decide)⟩
section
variable (X:Ext) (hX:Mine X)
include hX
theorem c50(p:V3)(hp:mg p):run tab X 50 [.p (encV p)] []=some ([.p (Cc p.x 1 p.y 1)],[]):=by obtain⟨⟨a,b⟩,⟨c,d⟩,_⟩:=hp;refine run_of (hX _ rfl) ?_;rw[encV,e50,c71 X hX p.x (by omega) (by omega),qOb,c71 X hX 1 (by decide) (by decide),qOb,c71 X hX p.y (by omega) (by omega),qOb,qOb];rfl
theorem Ri(f:-33554432<=a/\a<=33554432)(h:uK (eQ n d) u w k)(b:0<w)(e:3<=k)(c:k<=300000):run tab X 67 [.p (eQ a 1),.p (eQ n d)] []=some ([.p (.int .i64 (iE (a*w-u)))],[]) /\
    run tab X 67 [.p (eQ n d),.p (eQ a 1)] []=some ([.p (.int .i64 (iE (u-a*w)))],[]):=by
  have q:=sQ (n:=a) (bF (mD (by omega) (by omega)) e) (by omega);refine⟨?_,?_⟩
  . rw[Ku X hX q h c (by decide) b,wo,Int.mul_one]
  . rw[Ku X hX h q c b (by decide),wo,Int.mul_one]
theorem c99(a b:Int)(i:-16777216<=a/\a<=16777216)(g:-16777216<=b/\b<=16777216)(h:uK (eQ n d) u w k)(e:0<w)(j:3<=k)(f:k<=300000) :
    run tab X 99 [.p (.int .i64 a),.p (.int .i64 b),.p (eQ n d)] []=some ([.p (.bool (decide (btw (a*w) (b*w) u)))],[]):=by
  obtain⟨⟨y,x⟩,v,t⟩:=PD i.1 i.2 g.1 g.2;have q:=(Ri X hX (a:=goMin a b) ⟨by omega,by omega⟩ h e j f).1;have s:=(Ri X hX (a:=goMax a b) ⟨by omega,by omega⟩ h e j f).2;have o:=c57 X hX (goMin a b) (by omega) (by omega);have l:=c57 X hX (goMax a b) (by omega) (by omega);have m:=Kw a b u w e;refine run_of (hX _ rfl) ?_;rw[eQ,e99,o];simp only[qOb,qLh,pv_p,jV];rw[yF n d,q];simp only[qOb,qLh,pv_p,toInt_int];have r:=@oh (goMin a b*w-u);have s2:=@oh (u-goMax a b*w);by_cases c:goMin a b*w<=u
  . rw[show leI (iE (goMin a b*w-u)) 0=true from decide_eq_true (by omega),qCt,l];grind[qOb,qLh,pv_p,jV,toInt_int]
  . grind
theorem c98(a b:V3)(B:mg a)(A:mg b){e v:Int}(h:YP n d m e u v w k)(c:0<w)(f:3<=k)(P:k<=60000) :
    run tab X 98 [.p (oD a b),.p (Cc n d m e)] []=some ([.p (.int .i64 (iE (Tq a b u v w)))],[]):=by
  obtain⟨⟨W,V⟩,⟨U,T⟩,_⟩:=B;obtain⟨⟨b1,S⟩,⟨R,Q⟩,_⟩:=A;have q:∀ z:Int,-33554432<=z->z<=33554432->∀ j,3<=j->uK (eQ z 1) z 1 j:=λz D C j s=>sQ (bF (mD (by omega) (by omega)) s) (by omega);have r:=λz (D:(-33554432:Int)<=z) (C:z<=33554432)=>c57 X hX z (by omega) (by omega);obtain⟨O,L,H,o⟩:=Rh X hX h.2 (q a.y (by omega) (by omega) k f) (by omega);obtain⟨s2,K,G,l⟩:=NR X hX (q (b.x-a.x) (by omega) (by omega) (k+k+1) (by omega)) o (by omega);obtain⟨N,J,F,i⟩:=Rh X hX h.1 (q a.x (by omega) (by omega) k f) (by omega);obtain⟨M,I,E,g⟩:=NR X hX (q (b.y-a.y) (by omega) (by omega) (k+k+1) (by omega)) i (by omega);have t:=Ku X hX l g (by omega) (by rw[Int.one_mul,Int.mul_one];exact c) (by rw[Int.one_mul,Int.mul_one];exact c);refine run_of (hX _ rfl) ?_;rw[oD,Cc,e98,wrap_eq (by omega) (by omega),wrap_eq (by omega) (by omega),r (b.x-a.x) (by omega) (by omega)];simp only[qOb,qLh,pv_p,jV];rw[r a.y (by omega) (by omega)];simp only[qOb,qLh,pv_p,jV];rw[yF m e,H];simp only[qOb,qLh,pv_p,jV];rw[G];simp only[qOb,qLh,pv_p,jV];rw[r (b.y-a.y) (by omega) (by omega)];simp only[qOb,qLh,pv_p,jV];rw[r a.x (by omega) (by omega)];simp only[qOb,qLh,pv_p,jV];rw[yF n d,F];simp only[qOb,qLh,pv_p,jV];rw[E];simp only[qOb,qLh,pv_p,jV];rw[t];simp only[qOb,qLh,pv_p,toInt_int];have e:(b.x-a.x)*(v*1-a.y*w)*(1*(w*1))-(b.y-a.y)*(u*1-a.x*w)*(1*(w*1))=Tq a b u v w*w:=by unfold Tq;grind
  rw[e,Int.sign_mul,Int.sign_eq_one_of_pos c,Int.mul_one,wo]
end
end
section
open Go.Skm.Dig
variable {d m n q u v w:Int}{k:Nat}
def EW(e:ku):PV:=oD e.1 e.2
theorem vC(l:List V3):lT l l.length=(dA l).map EW:=by show(List.range l.length).map _=((List.range l.length).map _).map EW;rw[List.map_map];rfl
theorem CP{a:List ku}{e:ku}{r:List ku}{i:Nat}(h:a.drop i=e::r):(a.map EW).getD i .nil=oD e.1 e.2/\i<a.length/\a.drop (i+1)=r/\e∈a:=by
 have b:a[i]?=some e:=by have:=congrArg (·[0]?) h;simpa using this
 have c:=(qLa.1 b).1;refine⟨by simp[List.getD,b,EW],c,?_,qLe b⟩;rw[<- List.drop_drop,h];rfl
section
variable (X:Ext) (hX:Mine X)
include hX
theorem l49(c:List ku)(b:∀ e∈c,mg e.1/\mg e.2)(H:c.length<=1000000)(h:YP n d m q u v w k)(f:0<w)(l:3<=k)(R:k<=60000):∀(r:List ku) (i:Nat) (acc:Bool),c.drop i=r->i<=c.length ->
    L tab (run tab X) 49 [] [.lp [1,1,1,0,1,0]] (gY 0 c.length acc (i:Int) (decide (n<0)) (nI n.natAbs) (decide (d<0)) (nI d.natAbs) (decide (m<0)) (nI m.natAbs) (decide (q<0)) (nI q.natAbs) (c.map EW))=some ([.p (.int .i64 (EU u v w acc r))],[]):=by
  intro r;induction r with
  | nil =>intro i acc hd j;have C:i=c.length:=Nat.le_antisymm j (List.drop_eq_nil_iff.1 hd);subst C;refine L_of ?_;rw[DR,yL (by omega),qCf];cases acc<;>rfl
  | cons e r P =>
   intro i acc hd _;obtain⟨S,j,D,B⟩:=CP hd;obtain⟨O,N⟩:=b e B;obtain⟨⟨a1,Z⟩,⟨Y,W⟩,_⟩:=O;obtain⟨⟨b1,V⟩,⟨U,T⟩,_⟩:=N;have g:=c98 X hX e.1 e.2 (b e B).1 (b e B).2 h f l R;simp only[oD,Cc]at g;have F:=c99 X hX e.1.x e.2.x ⟨by omega,by omega⟩ ⟨by omega,by omega⟩ h.1 f l (by omega);have E:=c99 X hX e.1.y e.2.y ⟨by omega,by omega⟩ ⟨by omega,by omega⟩ h.2 f l (by omega);have M:=c57 X hX e.1.y (by omega) (by omega);have K:=c57 X hX e.2.y (by omega) (by omega);have J:=(Ri X hX (a:=e.1.y) ⟨by omega,by omega⟩ h.2 f l (by omega)).1;have I:=(Ri X hX (a:=e.2.y) ⟨by omega,by omega⟩ h.2 f l (by omega)).1;have Q:=λo=>P (i+1) o D j;have z:∀ x,leI (iE (x-v)) 0=decide (x<=v):=λx=>decide_eq_decide.2 (by have:=@oh (x-v);omega);have s:GK u v w e=((iE (Tq e.1 e.2 u v w)==0)&&(decide (btw (e.1.x*w) (e.2.x*w) u)&&decide (btw (e.1.y*w) (e.2.y*w) v))):=by unfold GK;rw[Cm,Cm]
   refine L_of ?_;rw[DR,sG j,qCt,fH (by omega)];simp only[rng j,qCt,qIt,qNz,S,zF,zG,zH,zI,zJ,zK,g,qOb,qLh,pv_p,toInt_int,yF];simp only[F,E,M,K,qOb,qLh,pv_p,toBool_bool,jV,yF,J,I,toInt_int,z,Q];have A:GK u v w e=false->(bif !(decide (e.1.y*w<=v)==decide (e.2.y*w<=v))then(bif gtI (iE (Tq e.1 e.2 u v w)) 0==decide (e.1.y*w<=v)then some ([AV.p (.int .i64 (EU u v w (!acc) r))],([]:List Blk))else some ([AV.p (.int .i64 (EU u v w acc r))],[]))else some ([AV.p (.int .i64 (EU u v w acc r))],[]))=some ([.p (.int .i64 (EU u v w acc (e::r)))],[]):=λG=>by rw[FT,G,<- Ud f e G,show gtI (iE (Tq e.1 e.2 u v w)) 0=decide (0<iE (Tq e.1 e.2 u v w)) from rfl];cases decide (e.1.y*w<=v)<;>cases decide (e.2.y*w<=v)<;>cases decide (0<iE (Tq e.1 e.2 u v w))<;>cases acc<;>rfl
   cases t:(iE (Tq e.1 e.2 u v w)==0)with
   | false=>rw[qCf];exact A (by rw[s,t];rfl)
   | true =>
    rw[qCt];cases c1:decide (btw (e.1.x*w) (e.2.x*w) u)with
    | false=>rw[qCf];exact A (by rw[s,t,c1];rfl)
    | true =>
     rw[qCt];cases c2:decide (btw (e.1.y*w) (e.2.y*w) v)with
     | false=>rw[qCf];exact A (by rw[s,t,c1,c2];rfl)
     | true =>rw[qCt,FT,s,t,c1,c2];rfl
theorem c49{l:List V3}(a:dG l=true)(h:YP n d m q u v w k)(b:0<w)(e:3<=k)(c:k<=60000):run tab X 49 [.p (.list true kV3 (encL l)),.p (Cc n d m q)] []=some ([.p (.int .i64 (Aq l u v w))],[]):=by have rd:=kX a;have f:=eH a;refine run_of (hX _ rfl) ?_;rw[Cc,e49,c44 X hX l (by omega),qOb];simp only[qLh,AV.freshList,vC,qLm];rw[<- Pz a b];exact l49 X hX (dA l) (o8 rd) (by rw[iI];omega) h b e c _ 0 false rfl (by omega)
end
end
section
open Go.Skm.Dig
def NS(k:Nat)(o:List V3)(x:ku):Bool:=if k=0 then decide (0<=xR o x.1)else decide (xR o x.1<0)
def Rj(k:Nat)(o:List V3)(x:ku):Bool:=edgeOk x o&&NS k o x
def Ce(f:Fen)(i:Nat):List (List V3):=f.outer::(f.holes.take i++f.holes.drop (i+1))
def L9(f:Fen)(i:Nat):Bool:=jd (λk=>(dA (gh f.holes i)).all (Rj k (gh (Ce f i) k))) 0 (Ce f i).length
def Hg(f:Fen):Bool:=D7 f&&(f.holes.all dG&&jd (L9 f) 0 f.holes.length)
theorem Uf(n d m e:Int):PV.agg [.bool (((Cc n d m e).cell 0).toBool),.list false kI (((Cc n d m e).cell 1).toList),.bool (((Cc n d m e).cell 2).toBool),.list false kI (((Cc n d m e).cell 3).toList),.bool (((Cc n d m e).cell 4).toBool),.list false kI (((Cc n d m e).cell 5).toList),.bool (((Cc n d m e).cell 6).toBool),.list false kI (((Cc n d m e).cell 7).toList)]=Cc n d m e:=rfl
theorem xG{l:List V3}(h:dG l=true):l.length<=64:=(eH h).2.1
abbrev y1:List Wy:=[.lp [1,1,1,0,1,0]]
abbrev y2:List Wy:=[.lp [1,1,1,0,1,0],.lp [1,0,0,1,1,1,0]]
abbrev y3:List Wy:=[.lp [1,1,1,0,1,0],.lp [1,0,0,1,1,1,0],.lp [1,0,0,1,0]]
abbrev y4:List Wy:=[.lp [1,1,1,0,1,0],.lp [1,0,0,1,1,1,0],.lp [1,0,0,1,0],.lp [1,1,0,0,1,0,1,0]]
section
variable (X:Ext) (hX:Mine X)
include hX
theorem aaU(i n t:Int)(D C:List PV)(A w:Int)(B:List PV)(H:IntKind.i64.wrap (t+1)=n)(c:Nat)(b:Int)(os:List (List V3))(h:∀ o∈os,dG o=true)(N:os.length<=1000)(k:Nat)(l:k<os.length)(x:ku)(g:mg x.1/\mg x.2)(R:Bool)
    (M:L tab (run tab X) 17 [] y3 (bY i 0 os.length (k:Int) 0 c b n D C A w (bI os) B)=some ([.p (.bool R)],[]))(a:List ku)(f:∀ e∈a,mg e.1/\mg e.2)(K:a.length<=1000):∀(r:List ku) (j:Nat),a.drop j=r->j<=a.length ->
    L tab (run tab X) 17 [] y4 (dJ i 0 os.length (k:Int) 0 c b t 0 a.length (a.length:Int) (j:Int) D C A w (bI os) B x.1.x x.1.y x.1.z x.2.x x.2.y x.2.z (a.map EW)) =
     some ([.p (.bool (r.all (λy=>!qH x.1 x.2 y.1 y.2)&&(NS k (gh os k) x&&R)))],[]):=by
  intro r;induction r with
  | nil =>intro j hd d;have m:j=a.length:=Nat.le_antisymm d (List.drop_eq_nil_iff.1 hd);subst m;have I:=h _ (tH l);have u:=c50 X hX x.1 g.1;simp only[encV]at u;have E:=c49 X hX I (Ue g.1) (by decide) (by decide) (by decide);refine L_of ?_;rw[iQ,yL (by omega),qCf];simp only[rng l,qCt,qIt,qNz,gJ os l,u,qOb,qLh,pv_p,Uf,H,M];show(run tab X 49 [.p (.list true kV3 (encL (gh os k))),.p (Cc x.1.x 1 x.1.y 1)] []).bind _=_;rw[E,qOb];simp only[qLh,pv_p,toInt_int];show _=some ([AV.p (.bool (NS k (gh os k) x&&R))],[]);have G:Aq (gh os k) x.1.x x.1.y 1=xR (gh os k) x.1:=rfl;rw[G];unfold NS;grind
  | cons y r F =>intro j hd _;obtain⟨J,d,s,v⟩:=CP hd;have q:=c46 X hX x.1 x.2 y.1 y.2 g.1 g.2 (f y v).1 (f y v).2;simp only[oD]at q;refine L_of ?_;rw[iQ,sG d,qCt];simp only[rng d,qCt,qIt,qNz,J,zF,zG,zH,zI,zJ,zK,q,qOb,qLh,pv_p,toBool_bool,fH (show j<=9000000000000000000 by omega),F (j+1) s d,List.all_cons];grind
theorem aaV(i:Int)(s n:List PV)(m l:Int)(os:List (List V3))(c:∀ o∈os,dG o=true)(v:os.length<=1000)(k:Nat)(d:k<os.length)(R:Bool)
    (B:L tab (run tab X) 17 [] y2 (iO i 0 os.length ((k+1:Nat):Int) s n m l (bI os))=some ([.p (.bool R)],[]))(a:List ku)(h:∀ e∈a,mg e.1/\mg e.2)(z:a.length<=1000):∀(r:List ku) (t:Nat),a.drop t=r->t<=a.length ->
    L tab (run tab X) 17 [] y3 (bY i 0 os.length (k:Int) 0 a.length (a.length:Int) (t:Int) s n m l (bI os) (a.map EW))=some ([.p (.bool (r.all (Rj k (gh os k))&&R))],[]):=by
  intro r;induction r with
  | nil =>intro t hd b;have f:t=a.length:=Nat.le_antisymm b (List.drop_eq_nil_iff.1 hd);subst f;refine L_of ?_;rw[l9,yL (by omega),qCf,fH (by omega)];exact B
  | cons x r u =>intro t hd _;obtain⟨y,b,j,w⟩:=CP hd;have g:=c _ (tH d);have q:=c44 X hX (gh os k) (by have:=xG g;omega);have A:=aaU X hX i ((t+1:Nat):Int) (t:Int) s n m l (a.map EW) (fH (by omega)) a.length (a.length:Int) os c v k d x (h x w) _ (u (t+1) j b) (dA (gh os k)) (o8 (kX g)) (by rw[iI];have:=xG g;omega) _ 0 qLy (Nat.zero_le _);refine L_of ?_;rw[l9,sG b,qCt];simp only[rng b,rng d,qCt,qIt,qNz,gJ os d];show(run tab X 44 [.p (.list true kV3 (encL (gh os k)))] []).bind _=_;rw[q,qOb];simp only[qLh,AV.freshList,vC,qLm,y,zF,zG,zH,zI,zJ,zK];grind[Bool.and_assoc,Rj,edgeOk]
theorem aaW(l:List PV)(j g:Int)(a:List (List V3))(e:∀ h∈a,dG h=true)(r:a.length<=1000)(i:Nat)(d:i<a.length)(os:List (List V3))(c:∀ o∈os,dG o=true)(s:os.length<=1000)(R:Bool)
    (u:L tab (run tab X) 17 [] y1 (S17_111010 ((i+1:Nat):Int) l (bI a) j g)=some ([.p (.bool R)],[])):∀ m k,k+m=os.length ->
    L tab (run tab X) 17 [] y2 (iO (i:Int) 0 os.length (k:Int) l (bI a) j g (bI os))=some ([.p (.bool (jd (λk=>(dA (gh a i)).all (Rj k (gh os k))) k m&&R))],[]):=by
  intro m;induction m with
  | zero =>intro k t;refine L_of ?_;rw[rE,yL (by omega),qCf,fH (by omega)];exact u
  | succ m n =>
   intro k t;have b:k<os.length:=by omega
   have f:=e _ (tH d);have q:=c44 X hX (gh a i) (by have:=xG f;omega);have v:=aaV X hX (i:Int) l (bI a) j g os c s k b _ (n (k+1) (by omega)) (dA (gh a i)) (o8 (kX f)) (by rw[iI];have:=xG f;omega) _ 0 qLy (Nat.zero_le _);refine L_of ?_;rw[rE,sG b,qCt];simp only[bH,rng d,qCt,qIt,gJ a d];show(run tab X 44 [.p (.list true kV3 (encL (gh a i)))] []).bind _=_;rw[q,qOb];simp only[qLh,AV.freshList,vC,qLm];refine v.trans ?_;show _=some ([AV.p (.bool ((((dA (gh a i)).all (Rj k (gh os k)))&&jd _ (k+1) m)&&R))],[]);grind
end
end
section
open Go.Skm.Dig
theorem NT(f:Fen)(i:Nat):bI (Ce f i)=[PV.list true kV3 (encL f.outer)]++(bI f.holes).take i++(bI f.holes).drop (i+1):=by unfold bI Ce;simp
theorem Ji(f:Fen){i:Nat}(h:i<f.holes.length):(Ce f i).length=f.holes.length:=by grind[Ce]
theorem NU{f:Fen}(b:dG f.outer=true)(c:∀ h∈f.holes,dG h=true)(i:Nat):∀ o∈Ce f i,dG o=true:=by intro o a;rcases List.mem_cons.1 a with rfl | a;all_goals grind
section
variable (X:Ext) (hX:Mine X)
include hX
theorem aaX(f:Fen)(o:dG f.outer=true)(e:∀ h∈f.holes,dG h=true)(s:f.holes.length<=16):∀ m i,i+m=f.holes.length ->
    L tab (run tab X) 17 [] y1 (S17_111010 (i:Int) (encL f.outer) (bI f.holes) f.low f.high)=some ([.p (.bool (jd (L9 f) i m))],[]):=by
  intro m;induction m with
  | zero =>intro i q;refine L_of ?_;rw[e17_111010,bH,yL (by omega),qCf];rfl
  | succ m n =>
   intro i q;have c:i<f.holes.length:=by omega
   have t:=Ji f c;have r:=aaW X hX (encL f.outer) f.low f.high f.holes e (by omega) i c (Ce f i) (NU o e i) (by omega) _ (n (i+1) (by omega)) (Ce f i).length 0 (by omega);have l:((((bI f.holes).drop 0).take i).length:Nat)=i:=by rw[qLy,List.length_take,bH];omega
   have k:((((f.holes.length:Nat):Int)-((i+1:Nat):Int)).toNat)=f.holes.length-(i+1):=by omega
   have j:(((bI f.holes).drop (i+1)).take (f.holes.length-(i+1)))=(bI f.holes).drop (i+1):=List.take_of_length_le (by rw[List.length_drop,bH];omega);have g:((bI f.holes).drop (i+1)).length=f.holes.length-(i+1):=by rw[List.length_drop,bH]
   have d:∀{a b:Nat},a<=b->leI (a:Int) ((b:Nat):Int)=true:=λh=>decide_eq_true (by omega);refine L_of ?_;rw[e17_111010,bH,sG c,qCt,fH (by omega)];simp only[le0,d (qNr f.holes.length),d (Nat.le_of_lt c),d (show i+1<=f.holes.length from c),qBs,qCt,Int.sub_zero,qIt,l,k,j,g];rw[show leN (1+i) 2147483648=true from decide_eq_true (by omega),qCt,show leN (1+i+(f.holes.length-(i+1))) 2147483648=true from decide_eq_true (by omega),qCt,show 1+i+(f.holes.length-(i+1))=(Ce f i).length by omega];rw[show((([PV.list true kV3 (encL f.outer)]++((bI f.holes).drop 0).take i).drop 0).take (1+i))++(bI f.holes).drop (i+1)=bI (Ce f i) by grind[qLp,List.length_singleton,List.length_take,NT,qLy]];exact r
theorem aaY(f:Fen)(o:dG f.outer=true)(s:f.holes.length<=16)(c:∀ h∈f.holes,h.length<=1000000)(R:Bool)
    (l:(∀ h∈f.holes,dG h=true)->L tab (run tab X) 17 [] y1 (S17_111010 0 (encL f.outer) (bI f.holes) f.low f.high)=some ([.p (.bool R)],[])):∀(r:List (List V3)) (i:Nat),f.holes.drop i=r->i<=f.holes.length->(∀ h∈f.holes.take i,dG h=true) ->
    L tab (run tab X) 17 [] [.lp [1,1,0,1,0]] (xq (i:Int) (encL f.outer) (bI f.holes) f.low f.high)=some ([.p (.bool (r.all dG&&R))],[]):=by
  intro r;induction r with
  | nil =>intro i hd b a;have d:i=f.holes.length:=Nat.le_antisymm b (List.drop_eq_nil_iff.1 hd);subst d;rw[List.take_length]at a;refine L_of ?_;rw[Fh,bH,yL (by omega),qCf];exact l a
  | cons h r g =>
   intro i hd _ a;have e:f.holes[i]?=some h:=by have:=congrArg (·[0]?) hd;grind
   have b:=(qLa.1 e).1;have k:gh f.holes i=h:=by simp[gh,List.getD,e]
   have j:=qLe e;have q:=c13 X hX h (c h j);rw[DZ]at q;refine L_of ?_;rw[Fh,bH,sG b,qCt];simp only[rng b,qCt,qIt,gJ f.holes b,k,fH (show i<=9000000000000000000 by omega)];show(run tab X 13 [.p (.list true kV3 (encL h))] []).bind _=_;rw[q,qOb,List.all_cons];simp only[qLh,pv_p,toBool_bool];cases n:dG h with
   | false=>rfl
   | true =>rw[qBt,qCf,Bool.true_and];refine g (i+1) (by rw[<- List.drop_drop,hd];rfl) b λx m=>?_;grind
theorem c17(f:Fen)(c:qW f):run tab X 17 [.p (encF f)] []=some ([.p (.bool (Hg f))],[]):=
 run_of (hX _ rfl) (by
  have q:=c13 X hX f.outer c.outer;rw[DZ]at q;rw[encF,e17,q,qOb];simp only[qLh,pv_p,toBool_bool,bH];unfold Hg D7;cases b:dG f.outer with
  | false=>rfl
  | true =>
   rw[qBt,qCf,Bool.true_and];by_cases a:f.holes.length<=16
   . rw[show gtI ((f.holes.length:Nat):Int) (16:Int)=false from decide_eq_false (by omega),qCf];by_cases i:-1048576<=f.low
     . rw[show ltI f.low (-1048576)=false from decide_eq_false (by omega),qCf];by_cases g:f.high<=1048576
       . rw[show gtI f.high 1048576=false from decide_eq_false (by omega),qCf];by_cases h4:f.low<=f.high
         . rw[show gtI f.low f.high=false from decide_eq_false (by omega),qCf,decide_eq_true ⟨a,i,g,h4⟩,Bool.true_and];exact aaY X hX f b a c.holes _ (λe=>aaX X hX f b e a f.holes.length 0 (by omega)) f.holes 0 qLy (Nat.zero_le _) (λh d=>by simp at d)
         grind
       grind
     grind
   grind)
theorem aaZ{l:List V3}(h:dG l=true):run tab X 54 [.p (.list true kV3 (encL l))] []=some ([.p (.int .i64 (jU l))],[]):=by obtain⟨b,c,a⟩:=eH h;rw[Kr l b];exact c54 X hX l (by omega) a
end
end
section
variable {l:List V3}{i:Nat}
theorem pF{e:ku}:e∈dA l↔∃ i,i<l.length/\e=(flat (ca l i),flat (cb l i)):=by show e∈(List.range l.length).map _↔_;grind
theorem Rk(a:Pt):scp 1 a=a:=by unfold scp;simp
theorem Mc(l:List V3)(p:V3):xR l p=SG (pts l) l.length (pt p):=by show SG (λi=>scp 1 (pts l i)) _ _=_;rw[show(λi=>scp 1 (pts l i))=pts l from funext λi=>Rk _];rfl
theorem PE{a b:V3}(h:edgeOk (flat a,flat b) l=true):xR l a=xR l b:=by rw[Mc,Mc];refine PG (LJ l) λi d c=>?_;have:=List.all_eq_true.1 h _ (pF.2 ⟨i,d,rfl⟩);rw[qBb,Fp,decide_eq_false_iff_not]at this;refine this ?_;show meet (pt a) (pt b) (pt (ca l i)) (pt (cb l i));rw[xw,Ap d]at c;exact c
theorem Rl{o:List V3}(h:∀ e∈dA l,edgeOk e o=true)(i:Nat)(a:i<l.length):xR o (gt l i)=xR o (gt l 0):=by
 induction i with
 | zero=>rfl
 | succ i b =>
  have d:=PE (h _ (pF.2 ⟨i,by omega,rfl⟩));have c:cb l i=gt l (i+1):=by show gt l (jX l.length i)=_;unfold jX;rw[Nat.mod_eq_of_lt a]
  grind
theorem Et{outer:List V3}:∀(a all:List (List V3)),rM outer all a=true↔∀ i,i<a.length->D6 outer (all++a.take i) (gh a i)=true
 |[],all=>by simp[rM]
 | h::r,all=>by
  rw[rM,qBa,Et r];constructor
  . rintro ⟨d,e⟩ i b;cases i with
    | zero=>simpa[gh] using d
    | succ i=>grind
  . intro c;refine⟨by simpa[gh] using c 0 (by simp),λi b=>?_⟩;have:=c (i+1) (by simpa using b);grind
theorem Hl(f:Fen){j:Nat}(b:i<f.holes.length)(a:j+1<f.holes.length):gh (Ce f i) (j+1)=gh f.holes (if j<i then j else j+1):=by show((f.holes.take i++f.holes.drop (i+1)).getD j [])=_;grind
theorem FU(f:Fen)(b:i<f.holes.length):L9 f i=true↔(∀ e∈dA (gh f.holes i),edgeOk e f.outer=true/\0<=xR f.outer e.1)/\∀ k,k<f.holes.length->k≠i->∀ e∈dA (gh f.holes i),edgeOk e (gh f.holes k)=true/\xR (gh f.holes k) e.1<0:=by
 unfold L9;rw[iP,Ji f b];have g:∀ o e,Rj 0 o e=true↔edgeOk e o=true/\0<=xR o e.1:=λo e=>by simp[qBa,qDa,Rj,NS]
 have d:∀ k o e,Rj (k+1) o e=true↔edgeOk e o=true/\xR o e.1<0:=λk o e=>by simp[qBa,qDa,Rj,NS]
 constructor
 . intro h;refine⟨λe a=>?_,λk n m e a=>?_⟩
   . have:=h 0 (by omega) (by omega);rw[List.all_eq_true]at this;exact(g _ _).1 (this e a)
   . by_cases c:k<i
     . have:=h (k+1) (by omega) (by omega);rw[List.all_eq_true]at this;have:=(d _ _ _).1 (this e a);rwa[Hl f b (by omega),if_pos c]at this
     . obtain⟨j,rfl⟩:∃ j,k=j+1:=⟨k-1,by omega⟩;have:=h (j+1) (by omega) (by omega);rw[List.all_eq_true]at this;have:=(d _ _ _).1 (this e a);rwa[Hl f b (by omega),if_neg (by omega)]at this
 . rintro ⟨p,q⟩ k _ n;rw[List.all_eq_true];intro e a;cases k with
   | zero=>exact(g _ _).2 (p e a)
   | succ k =>rw[d,Hl f b (by omega)];grind
theorem Ky(h:0<l.length):(flat (ca l 0),flat (cb l 0))∈dA l:=pF.2 ⟨0,h,rfl⟩
theorem NV(f:Fen):Hg f=validP f:=by
 unfold Hg validP;cases E:D7 f with
 | false=>rfl
 | true =>
  rw[Bool.true_and,Bool.true_and,Bool.eq_iff_iff,qBa,qBa,Et,iP,List.all_eq_true];have w:∀{i},(∀ h∈f.holes,dG h=true)->i<f.holes.length->dG (gh f.holes i)=true:=λh a=>h _ (tH a);constructor
  . rintro ⟨q,z⟩;have n:∀ i (a:i<f.holes.length),_:=λi a=>(FU f a).1 (z i (Nat.zero_le _) (by omega));refine⟨λi a=>?_,?_⟩
    . unfold D6;rw[qBa,List.all_eq_true];refine⟨w q a,λe d=>?_⟩;rw[qBa,qDa,List.all_eq_true];obtain⟨y,x⟩:=n i a;refine⟨(y e d).2,λo r=>?_⟩;rcases List.mem_append.1 r with r | r
      . grind
      . obtain⟨j,t,rfl⟩:=List.getElem_of_mem r;rw[List.length_take]at t;have C:j<i:=by omega
        have:=(x j (by omega) (by omega) e d).1;rw[List.getElem_take];simpa[gh,List.getD,qLd (show j<f.holes.length by omega)] using this
    . unfold GR;rw[iP];intro i _ a;rw[iP];intro k _ s;unfold qC;split
      . rfl
      . rename_i b;have v:=(eH (w q (show i<f.holes.length by omega))).1;have:=((n i (by omega)).2 k (by omega) (λe=>b e.symm) _ (Ky (by omega))).2;have e:xR (gh f.holes k) (flat (ca (gh f.holes i) 0))=xR (gh f.holes k) (gt (gh f.holes i) 0):=rfl;grind
  . rintro ⟨hp,u⟩;have p:∀ i,i<f.holes.length->dG (gh f.holes i)=true/\∀ e∈dA (gh f.holes i),0<=xR f.outer e.1/\edgeOk e f.outer=true/\∀ j,j<i->edgeOk e (gh f.holes j)=true:=λi a=>by
     have:=hp i a;unfold D6 at this;rw[qBa,List.all_eq_true]at this;refine⟨this.1,λe d=>?_⟩;have g:=this.2 e d;rw[qBa,qDa,List.all_eq_true]at g;refine⟨g.1,g.2 _ (by simp),λj t=>g.2 _ (List.mem_append.2 (.inr ?_))⟩;have B:j<f.holes.length:=by omega
     have F:gh f.holes j=(f.holes.take i)[j]'(by rw[List.length_take];omega):=by grind
     grind
    have q:∀ h∈f.holes,dG h=true:=λh A=>by obtain⟨i,a,rfl⟩:=List.getElem_of_mem A;grind
    have m:∀{i k},i<f.holes.length->k<f.holes.length->k≠i->∀ e∈dA (gh f.holes i),edgeOk e (gh f.holes k)=true:=by
     intro i k a s b e d;rcases Nat.lt_or_gt_of_ne b with c | c
     . grind
     grind[List.all_eq_true,En,edgeOk]
    refine⟨q,λi _ a=>?_⟩;have a:i<f.holes.length:=by omega
    rw[FU f a];refine⟨λe d=>⟨((p i a).2 e d).2.1,((p i a).2 e d).1⟩,λk s b e d=>⟨m a s b e d,?_⟩⟩;obtain⟨j,t,rfl⟩:=pF.1 d;have D:=Rl (m a s b) j t;unfold GR at u;rw[iP]at u;have g:=u i (Nat.zero_le _) (by omega);rw[iP]at g;have v:=g k (Nat.zero_le _) (by omega);unfold qC at v;rw[if_neg (λe=>b e.symm),qBb,decide_eq_false_iff_not,<- D]at v;show xR (gh f.holes k) (gt (gh f.holes i) j)<0;omega
end
end Go.Skm.Fen
