import Derived.Test.YtoheflpoanjihaaGreatR8
import Derived.Test.YtoheflpoanjihaaGreatG7
import Derived.Test.YtoheflpoanjihaaGreatG19
import Derived.Test.YtoheflpoanjihaaGreatEqv3
import Derived.Test.YtoheflpoanjihaaGreatG10
import Derived.Test.YtoheflpoanjihaaGreatG15
import Derived.Test.YtoheflpoanjihaaGreatG8
set_option linter.all false
namespace Go.Skm.Fen
open Go Go.Skm
section
open Go.Skm.Dig
variable {D E M N a b n:Int}{k:Nat}{x y:PV}
theorem zV(n d:Int):PV.agg [PV.bool (decide (n<0)),At (nI n.natAbs),PV.bool (decide (d<0)),At (nI d.natAbs)]=eQ n d:=rfl
theorem iC(n d:Int):PV.agg [.bool (((eQ n d).cell 0).toBool),At (((eQ n d).cell 1).toList),.bool (((eQ n d).cell 2).toBool),At (((eQ n d).cell 3).toList)]=eQ n d:=rfl
def y8(v:PV)(N D:Int)(k:Nat):Prop:=∃ n d,v=eQ n d/\0<d/\n*D=N*d/\jd n k/\jd d k
theorem y8.mono{v:PV}{m:Nat}(h:y8 v N D k)(c:k<=m):y8 v N D m:=by obtain⟨n,d,g,f,e,h4,h5⟩:=h;exact⟨n,d,g,f,e,bJ h4 c,bJ h5 c⟩
theorem KT(h:a.natAbs<=b.natAbs)(c:jd b k):jd a k:=Nat.le_trans (oK h) c
theorem y9(a:Int)(h:b≠0):sV a b*b=a*rQ a b:=by
 have j:0<Int.gcd a b:=Nat.pos_of_ne_zero λe=>h (Int.gcd_eq_zero_iff.1 e).2;obtain⟨x,f⟩:=Int.gcd_dvd_left (a:=a) (b:=b);obtain⟨y,d⟩:=Int.gcd_dvd_right (a:=a) (b:=b);unfold sV rQ;generalize Int.gcd a b=g at *;have c:(g:Int)≠0:=by omega
 have m:a / (g:Int)=x:=by rw[f];exact Int.mul_ediv_cancel_left x c
 have i:(b.natAbs:Int)=g*y.natAbs:=by rw[d,Int.natAbs_mul];simp
 have l:(b.natAbs:Int) / (g:Int)=y.natAbs:=by rw[i];exact Int.mul_ediv_cancel_left _ c
 grind
theorem Nc{c d A B C:Int}(h:0<b)(hd:0<d)(j:0<B)(i:0<D)(m:a*B=A*b)(l:c*D=C*d):(a*d-c*b).sign=(A*D-C*B).sign:=by
 have e:(a*d-c*b)*(B*D)=(A*D-C*B)*(b*d):=by grind
 have g:0<B*D:=Int.mul_pos j i;have f:0<b*d:=Int.mul_pos h hd;have:=congrArg Int.sign e;rwa[Int.sign_mul (a*d-c*b),Int.sign_mul (A*D-C*B),Int.sign_eq_one_of_pos g,Int.sign_eq_one_of_pos f,Int.mul_one,Int.mul_one]at this
theorem uV(h:jd n k)(c:1<=k):y8 (eQ n 1) n 1 k:=⟨n,1,rfl,by decide,rfl,h,Nat.le_trans (by show(aW B9 1).length<=1;exact uX (by decide)) c⟩
theorem jS(d:-9223372036854775808<=n)(c:n<=9223372036854775807):jd n 3:=uX (by show _<1000000000^3;omega)
section
variable (X:Ext) (hX:Mine X)
include hX
theorem c57(n:Int)(d:-9223372036854775808<=n)(c:n<=9223372036854775807):run tab X 57 [Ab n] []=some ([.p (eQ n 1)],[]):=
 run_of (hX _ rfl) (by rw[e57,c71 X hX n d c,qOb,c71 X hX 1 (by decide) (by decide),qOb];rfl)
theorem P5(j:y8 x N D k)(i:y8 y M E k)(c:k<=300000)(r:0<D)(q:0<E):run tab X 67 [.p x,.p y] []=some ([Ab (N*E-M*D).sign],[]):=by obtain⟨n,d,rfl,t,o,h,s2⟩:=j;obtain⟨m,e,rfl,s,l,g,f⟩:=i;rw[c67 X hX n d m e ⟨bJ h c,bJ s2 c,by omega⟩ ⟨bJ g c,bJ f c,by omega⟩,Nc t s r q o l]
theorem Je(f:jd a k)(d:jd b k)(c:b≠0)(g:a*D=N*b):y8 (eQ (sV a b) (rQ a b)) N D k:=by
 have _:=hX;refine⟨_,_,rfl,rC c,?_,KT (FD a b) f,KT (FH a b) d⟩;have h:=y9 a c;have e:(sV a b*D)*b=(N*rQ a b)*b:=by grind
 exact Int.eq_of_mul_eq_mul_right c e
theorem RJ(j:y8 x N D k)(i:y8 y M E k)(c:k<=300000):∃ r s,run tab X 85 [.p x,.p y] []=some ([.p (eQ r s)],[])/\y8 (eQ r s) (N*M) (D*E) (k+k):=by obtain⟨n,d,rfl,t,o,h,s2⟩:=j;obtain⟨m,e,rfl,q,l,g,f⟩:=i;refine⟨_,_,c85 X hX n d m e ⟨bJ h c,bJ s2 c,by omega⟩ ⟨bJ g c,bJ f c,by omega⟩,Je X hX (iD h g) (iD s2 f) (Int.mul_ne_zero (by omega) (by omega)) ?_⟩;grind
theorem Yk(j:y8 x N D k)(i:y8 y M E k)(c:k<=300000):∃ r s,run tab X 145 [.p x,.p y] []=some ([.p (eQ r s)],[])/\y8 (eQ r s) (N*E-M*D) (D*E) (k+k+1):=by
 obtain⟨n,d,rfl,t,o,h,s2⟩:=j;obtain⟨m,e,rfl,q,l,g,f⟩:=i;refine⟨_,_,c145 X hX n d m e ⟨bJ h c,bJ s2 c,by omega⟩ ⟨bJ g c,bJ f c,by omega⟩,Je X hX ?_ (bJ (iD s2 f) (by omega)) (Int.mul_ne_zero (by omega) (by omega)) ?_⟩
 . rw[Int.sub_eq_add_neg];exact Bc (iD h f) (yE (bJ (iD g s2) (by omega)))
 grind
theorem V9(j:y8 x N D k)(i:y8 y M E k)(c:k<=300000):∃ r s,run tab X 86 [.p x,.p y] []=some ([.p (eQ r s)],[])/\y8 (eQ r s) (N*E+M*D) (D*E) (k+k+1):=by obtain⟨n,d,rfl,t,o,h,s2⟩:=j;obtain⟨m,e,rfl,q,l,g,f⟩:=i;refine⟨_,_,c86 X hX n d m e ⟨bJ h c,bJ s2 c,by omega⟩ ⟨bJ g c,bJ f c,by omega⟩,Je X hX (Bc (iD h f) (bJ (iD g s2) (by omega))) (bJ (iD s2 f) (by omega)) (Int.mul_ne_zero (by omega) (by omega)) ?_⟩;grind
end
end
section
open Go.Skm.Dig
variable {u v w:Int}
def Em(n d m e:Int):PV:=.agg [.bool (decide (n<0)),At (nI n.natAbs),.bool (decide (d<0)),At (nI d.natAbs),.bool (decide (m<0)),At (nI m.natAbs),.bool (decide (e<0)),At (nI e.natAbs)]
def Vk(n d m e:Int)(u v w:Int)(k:Nat):Prop:=y8 (eQ n d) u w k/\y8 (eQ m e) v w k
def Yl(u v w:Int)(e:jW):Bool:=JF u v w e != 0
def GV(u v w:Int)(acc:Bool)(es:List jW):Int:=if es.any (JE u v w)then 0 else if es.foldl (λb e=>b != Yl u v w e) acc then 1 else -1
theorem H8(u v w:Int)(acc:Bool)(e:jW)(r:List jW):GV u v w acc (e::r)=if JE u v w e then 0 else GV u v w (acc != Yl u v w e) r:=by unfold GV;grind
theorem Wh(f:0<w)(e:jW)(h:JE u v w e=false) :
    ((!((decide (e.1.y*w<=v))==(decide (e.2.y*w<=v))))&&((decide (0<iY (Tq e.1 e.2 u v w)))==(decide (e.1.y*w<=v))))=Yl u v w e:=by
  have g:∀ x,iY (x-v)<=0↔x<=v:=λx=>by have:=@nM (x-v);omega
  have hp:∀ x,0<iY (x-v)↔¬ x<=v:=λx=>by grind
  have i:iY (Tq e.1 e.2 u v w)=0->¬(e.2.y*w<=v/\¬ e.1.y*w<=v):=λd j=>by rw[Ef f,decide_eq_false_iff_not]at h;refine h (qF.1 (wz ?_ (show w*e.2.y<w*e.1.y by rw[Int.mul_comm w,Int.mul_comm w];omega) (show w*e.2.y<=v by rw[Int.mul_comm];omega) (show v<=w*e.1.y by rw[Int.mul_comm];omega)));show turn (scp w (pt e.2)) (scp w (pt e.1)) ⟨u,v⟩=0;rw[iP,Ee,AP.1 d];simp
  unfold Yl JF;simp only[g,hp];by_cases a:e.1.y*w<=v<;>by_cases b:e.2.y*w<=v<;>rcases uy (Tq e.1 e.2 u v w)with c | c | c<;>simp[a,b,c]
  exact absurd ⟨b,a⟩ (i c)
theorem RN{l:List V3}(h:dO l=true)(c:0<w):GV u v w false (dJ l)=uz l u v w:=by
 rw[<- MK c];unfold GV X3;split
 . rfl
 . rename_i k;have hp:=PU h;have f:∀ n,n<=l.length->(uU l n).foldl (λb e=>b != Yl u v w e) false=cross (λi=>scp w (pts l i)) ⟨u,v⟩ n:=by
    intro n;induction n with
    | zero=>intro _;rfl
    | succ n o =>intro r;rw[uD,List.foldl_append,o (by omega)];show(_ !=(JF u v w (flat (ca l n),flat (cb l n)) != 0))=(_ !=(cr ⟨u,v⟩ (scp w (pts l n)) (scp w (pts l (n+1))) != 0));rw[Rj c,yT,Cj (by omega)];rfl
   have g:Poly (λi=>scp w (pts l i)) l.length:=⟨hp.n3,λi=>by show scp w _=scp w _;rw[hp.per],λi e=>hp.ne i (by unfold scp at e;simp only[Pt.mk.injEq]at e;have x:=Int.eq_of_mul_eq_mul_left (by omega) e.1;have t:=Int.eq_of_mul_eq_mul_left (by omega) e.2;generalize pts l i=a at *;generalize pts l (i+1)=b at *;cases a;cases b;simp_all),λi m q p=>λd=>hp.far i m q p ((KU c).1 d),λi d=>hp.F5 i ((xB c).1 d),λi d=>hp.F6 i ((xB c).1 d)⟩;have j:∀ i,¬ on (scp w (pts l i)) (scp w (pts l (i+1))) ⟨u,v⟩:=λi s=>k (List.any_eq_true.2 ⟨(flat (ca l (i%l.length)),flat (cb l (i%l.length))),List.mem_map.2 ⟨i%l.length,List.mem_range.2 (qNm _ (by have:=hp.n3;omega)),rfl⟩,by
    rw[Ef c,qDa,Oj,Oj];simp_all[Nat.mod_add_mod,pts,cb,oP]⟩)
   have:=Nh g ⟨u,v⟩ j;rw[f _ (qNr _),this,IU c l _ (qNr _)];show(if decide (lq _ _ _≠0)=true then(1:Int)else -1)=if lq _ _ _≠0 then 1 else -1
   simp
end
section
open Go.Skm.Dig
variable {a d m n u w:Int}{k:Nat}
theorem CS(a b:V3):sW a b=.agg [Av a.x,Av a.y,Av a.z,Av b.x,Av b.y,Av b.z]:=rfl
theorem Bf(a b:V3):((sW a b).cell 0).toInt=a.x:=rfl
theorem Bg(a b:V3):((sW a b).cell 1).toInt=a.y:=rfl
theorem Bh(a b:V3):((sW a b).cell 2).toInt=a.z:=rfl
theorem Bj(a b:V3):((sW a b).cell 3).toInt=b.x:=rfl
theorem Bo(a b:V3):((sW a b).cell 4).toInt=b.y:=rfl
theorem Bq(a b:V3):((sW a b).cell 5).toInt=b.z:=rfl
theorem Nj(a b u w:Int)(c:0<w):((goMin a b)*w<=u/\u<=(goMax a b)*w)↔btw (a*w) (b*w) u:=by
 unfold goMin goMax btw;have m:∀{x y:Int},x<=y->x*w<=y*w:=λh=>Int.mul_le_mul_of_nonneg_right h (by omega);by_cases h:b<a
 . have:=m (show b<=a by omega);grind
 grind
theorem RP{b M:Int}(f:m<=a)(e:a<=M)(c:m<=b)(h4:b<=M):(m<=goMin a b/\goMin a b<=M)/\m<=goMax a b/\goMax a b<=M:=by grind[goMin,goMax]
theorem RQ{p:V3}(hp:mW p):Vk p.x 1 p.y 1 p.x p.y 1 3:=by obtain⟨⟨a,b⟩,⟨c,d⟩,_⟩:=hp;exact⟨uV (jS (by omega) (by omega)) (by decide),uV (jS (by omega) (by omega)) (by decide)⟩
section
variable (X:Ext) (hX:Mine X)
include hX
theorem c50(p:V3)(hp:mW p):run tab X 50 [.p (encV p)] []=some ([.p (Em p.x 1 p.y 1)],[]):=by obtain⟨⟨a,b⟩,⟨c,d⟩,_⟩:=hp;refine run_of (hX _ rfl) ?_;rw[encV,e50,c71 X hX p.x (by omega) (by omega),qOb,c71 X hX 1 (by decide) (by decide),qOb,c71 X hX p.y (by omega) (by omega),qOb,qOb];rfl
theorem n24(h:-16777216<=a/\a<=16777216):y8 (eQ a 1) a 1 3:=by have _:=hX;exact uV (jS (by omega) (by omega)) (by decide)
theorem P6(f:-33554432<=a/\a<=33554432)(h:y8 (eQ n d) u w k)(b:0<w)(e:3<=k)(c:k<=300000):run tab X 67 [.p (eQ a 1),.p (eQ n d)] []=some ([Ab (iY (a*w-u))],[]) /\
    run tab X 67 [.p (eQ n d),.p (eQ a 1)] []=some ([Ab (iY (u-a*w))],[]):=by
  have q:=uV (n:=a) (bJ (jS (by omega) (by omega)) e) (by omega);refine⟨?_,?_⟩
  . rw[P5 X hX q h c (by decide) b,yj,Int.mul_one]
  . rw[P5 X hX h q c b (by decide),yj,Int.mul_one]
theorem c99(a b:Int)(i:-16777216<=a/\a<=16777216)(g:-16777216<=b/\b<=16777216)(h:y8 (eQ n d) u w k)(e:0<w)(j:3<=k)(f:k<=300000) :
    run tab X 99 [Ab a,Ab b,.p (eQ n d)] []=some ([Ac (decide (btw (a*w) (b*w) u))],[]):=by
  obtain⟨⟨y,x⟩,v,t⟩:=RP i.1 i.2 g.1 g.2;have q:=(P6 X hX (a:=goMin a b) ⟨by omega,by omega⟩ h e j f).1;have s:=(P6 X hX (a:=goMax a b) ⟨by omega,by omega⟩ h e j f).2;have o:=c57 X hX (goMin a b) (by omega) (by omega);have l:=c57 X hX (goMax a b) (by omega) (by omega);have m:=Nj a b u w e;refine run_of (hX _ rfl) ?_;rw[eQ,e99,o];simp only[qOb,qLh,pv_p,iC];rw[zV n d,q];simp only[qOb,qLh,pv_p,toInt_int];have r:=@nM (goMin a b*w-u);have s2:=@nM (u-goMax a b*w);by_cases c:goMin a b*w<=u
  . rw[show leI (iY (goMin a b*w-u)) 0=true from decide_eq_true (by omega),qCt,l];grind[qOb,qLh,pv_p,iC,toInt_int]
  . grind
theorem c98(a b:V3)(B:mW a)(A:mW b){e v:Int}(h:Vk n d m e u v w k)(c:0<w)(f:3<=k)(P:k<=60000) :
    run tab X 98 [.p (sW a b),.p (Em n d m e)] []=some ([Ab (iY (Tq a b u v w))],[]):=by
  obtain⟨⟨W,V⟩,⟨U,T⟩,_⟩:=B;obtain⟨⟨b1,S⟩,⟨R,Q⟩,_⟩:=A;have q:∀ z:Int,-33554432<=z->z<=33554432->∀ j,3<=j->y8 (eQ z 1) z 1 j:=λz D C j s=>uV (bJ (jS (by omega) (by omega)) s) (by omega);have r:=λz (D:(-33554432:Int)<=z) (C:z<=33554432)=>c57 X hX z (by omega) (by omega);obtain⟨O,L,H,o⟩:=Yk X hX h.2 (q a.y (by omega) (by omega) k f) (by omega);obtain⟨s2,K,G,l⟩:=RJ X hX (q (b.x-a.x) (by omega) (by omega) (k+k+1) (by omega)) o (by omega);obtain⟨N,J,F,i⟩:=Yk X hX h.1 (q a.x (by omega) (by omega) k f) (by omega);obtain⟨M,I,E,g⟩:=RJ X hX (q (b.y-a.y) (by omega) (by omega) (k+k+1) (by omega)) i (by omega);have t:=P5 X hX l g (by omega) (by rw[Int.one_mul,Int.mul_one];exact c) (by rw[Int.one_mul,Int.mul_one];exact c);refine run_of (hX _ rfl) ?_;rw[sW,Em,e98,wrap_eq (by omega) (by omega),wrap_eq (by omega) (by omega),r (b.x-a.x) (by omega) (by omega)];simp only[qOb,qLh,pv_p,iC];rw[r a.y (by omega) (by omega)];simp only[qOb,qLh,pv_p,iC];rw[zV m e,H];simp only[qOb,qLh,pv_p,iC];rw[G];simp only[qOb,qLh,pv_p,iC];rw[r (b.y-a.y) (by omega) (by omega)];simp only[qOb,qLh,pv_p,iC];rw[r a.x (by omega) (by omega)];simp only[qOb,qLh,pv_p,iC];rw[zV n d,F];simp only[qOb,qLh,pv_p,iC];rw[E];simp only[qOb,qLh,pv_p,iC];rw[t];simp only[qOb,qLh,pv_p,toInt_int];have e:(b.x-a.x)*(v*1-a.y*w)*(1*(w*1))-(b.y-a.y)*(u*1-a.x*w)*(1*(w*1))=Tq a b u v w*w:=by unfold Tq;grind
  rw[e,Int.sign_mul,Int.sign_eq_one_of_pos c,Int.mul_one,yj]
end
end
section
open Go.Skm.Dig
variable {d m n q u v w:Int}{k:Nat}
def H9(e:jW):PV:=sW e.1 e.2
theorem xC(l:List V3):nX l l.length=(dJ l).map H9:=by show(List.range l.length).map _=((List.range l.length).map _).map H9;rw[List.map_map];rfl
theorem Bv{a:List jW}{e:jW}{r:List jW}{i:Nat}(h:a.drop i=e::r):(a.map H9).getD i .nil=sW e.1 e.2/\i<a.length/\a.drop (i+1)=r/\e∈a:=by
 have b:a[i]?=some e:=by have:=congrArg (·[0]?) h;grind
 have c:=(qLa.1 b).1;refine⟨by simp[List.getD,b,H9],c,?_,qLe b⟩;rw[<- List.drop_drop,h];rfl
section
variable (X:Ext) (hX:Mine X)
include hX
theorem l49(c:List jW)(b:∀ e∈c,mW e.1/\mW e.2)(G:c.length<=1000000)(h:Vk n d m q u v w k)(f:0<w)(l:3<=k)(Q:k<=60000):∀(r:List jW) (i:Nat) (acc:Bool),c.drop i=r->i<=c.length ->
    L tab (run tab X) 49 [] [.lp [1,1,1,0,1,0]] (iQ 0 c.length acc (i:Int) (decide (n<0)) (nI n.natAbs) (decide (d<0)) (nI d.natAbs) (decide (m<0)) (nI m.natAbs) (decide (q<0)) (nI q.natAbs) (c.map H9))=some ([Ab (GV u v w acc r)],[]):=by
  intro r;induction r with
  | nil =>intro i acc hd j;have B:i=c.length:=Nat.le_antisymm j (List.drop_eq_nil_iff.1 hd);subst B;refine L_of ?_;rw[Fe,xO (by omega),qCf];cases acc<;>rfl
  | cons e r O =>
   intro i acc hd _;obtain⟨R,j,C,A⟩:=Bv hd;obtain⟨N,M⟩:=b e A;obtain⟨⟨Z,Y⟩,⟨W,V⟩,_⟩:=N;obtain⟨⟨b1,U⟩,⟨T,S⟩,_⟩:=M;have g:=c98 X hX e.1 e.2 (b e A).1 (b e A).2 h f l Q;simp only[sW,Em]at g;have E:=c99 X hX e.1.x e.2.x ⟨by omega,by omega⟩ ⟨by omega,by omega⟩ h.1 f l (by omega);have D:=c99 X hX e.1.y e.2.y ⟨by omega,by omega⟩ ⟨by omega,by omega⟩ h.2 f l (by omega);have K:=c57 X hX e.1.y (by omega) (by omega);have J:=c57 X hX e.2.y (by omega) (by omega);have I:=(P6 X hX (a:=e.1.y) ⟨by omega,by omega⟩ h.2 f l (by omega)).1;have H:=(P6 X hX (a:=e.2.y) ⟨by omega,by omega⟩ h.2 f l (by omega)).1;have P:=λo=>O (i+1) o C j;have z:∀ x,leI (iY (x-v)) 0=decide (x<=v):=λx=>decide_eq_decide.2 (by have:=@nM (x-v);omega);have p:JE u v w e=((iY (Tq e.1 e.2 u v w)==0)&&(decide (btw (e.1.x*w) (e.2.x*w) u)&&decide (btw (e.1.y*w) (e.2.y*w) v))):=by unfold JE;rw[Ed,Ed]
   refine L_of ?_;rw[Fe,rZ j,qCt,dL (by omega)];simp only[rng j,qCt,qIt,qNz,R,Bf,Bg,Bh,Bj,Bo,Bq,g,qOb,qLh,pv_p,toInt_int,zV];simp only[E,D,K,J,qOb,qLh,pv_p,toBool_bool,iC,zV,I,H,toInt_int,z,P];have t:JE u v w e=false->(bif !(decide (e.1.y*w<=v)==decide (e.2.y*w<=v))then(bif gtI (iY (Tq e.1 e.2 u v w)) 0==decide (e.1.y*w<=v)then some ([Ab (GV u v w (!acc) r)],([]:List Blk))else some ([Ab (GV u v w acc r)],[]))else some ([Ab (GV u v w acc r)],[]))=some ([Ab (GV u v w acc (e::r))],[]):=λF=>by rw[H8,F,<- Wh f e F,show gtI (iY (Tq e.1 e.2 u v w)) 0=decide (0<iY (Tq e.1 e.2 u v w)) from rfl];cases decide (e.1.y*w<=v)<;>cases decide (e.2.y*w<=v)<;>cases decide (0<iY (Tq e.1 e.2 u v w))<;>cases acc<;>rfl
   cases s:(iY (Tq e.1 e.2 u v w)==0)with
   | false=>rw[qCf];exact t (by rw[p,s];rfl)
   | true =>
    rw[qCt];cases c1:decide (btw (e.1.x*w) (e.2.x*w) u)with
    | false=>rw[qCf];exact t (by rw[p,s,c1];rfl)
    | true =>
     rw[qCt];cases c2:decide (btw (e.1.y*w) (e.2.y*w) v)with
     | false=>rw[qCf];exact t (by rw[p,s,c1,c2];rfl)
     | true =>rw[qCt,H8,p,s,c1,c2];rfl
theorem c49{l:List V3}(a:dO l=true)(h:Vk n d m q u v w k)(b:0<w)(e:3<=k)(c:k<=60000):run tab X 49 [Al (encL l),.p (Em n d m q)] []=some ([Ab (uz l u v w)],[]):=by have rd:=lU a;have f:=gX a;refine run_of (hX _ rfl) ?_;rw[Em,e49,c44 X hX l (by omega),qOb];simp only[qLh,AV.freshList,xC,qLm];rw[<- RN a b];exact l49 X hX (dJ l) (qp rd) (by rw[jr];omega) h b e c _ 0 false rfl (by omega)
end
end
section
open Go.Skm.Dig
def P7(k:Nat)(o:List V3)(x:jW):Bool:=if k=0 then decide (0<=zx o x.1)else decide (zx o x.1<0)
def UA(k:Nat)(o:List V3)(x:jW):Bool:=edgeOk x o&&P7 k o x
def Ea(f:Fen)(i:Nat):List (List V3):=f.outer::(f.holes.take i++f.holes.drop (i+1))
def OC(f:Fen)(i:Nat):Bool:=jC (λk=>(dJ (gh f.holes i)).all (UA k (gh (Ea f i) k))) 0 (Ea f i).length
def Jf(f:Fen):Bool:=Dx f&&(f.holes.all dO&&jC (OC f) 0 f.holes.length)
theorem Jg(n d m e:Int):PV.agg [.bool (((Em n d m e).cell 0).toBool),At (((Em n d m e).cell 1).toList),.bool (((Em n d m e).cell 2).toBool),At (((Em n d m e).cell 3).toList),.bool (((Em n d m e).cell 4).toBool),At (((Em n d m e).cell 5).toList),.bool (((Em n d m e).cell 6).toBool),At (((Em n d m e).cell 7).toList)]=Em n d m e:=rfl
theorem zf{l:List V3}(h:dO l=true):l.length<=64:=(gX h).2.1
abbrev y1:List Wy:=[.lp [1,1,1,0,1,0]]
abbrev y2:List Wy:=[.lp [1,1,1,0,1,0],.lp [1,0,0,1,1,1,0]]
abbrev y3:List Wy:=[.lp [1,1,1,0,1,0],.lp [1,0,0,1,1,1,0],.lp [1,0,0,1,0]]
abbrev y4:List Wy:=[.lp [1,1,1,0,1,0],.lp [1,0,0,1,1,1,0],.lp [1,0,0,1,0],.lp [1,1,0,0,1,0,1,0]]
section
variable (X:Ext) (hX:Mine X)
include hX
theorem acD(i n t:Int)(D C:List PV)(A w:Int)(B:List PV)(H:IntKind.i64.wrap (t+1)=n)(c:Nat)(b:Int)(os:List (List V3))(h:∀ o∈os,dO o=true)(N:os.length<=1000)(k:Nat)(l:k<os.length)(x:jW)(g:mW x.1/\mW x.2)(R:Bool)
    (M:L tab (run tab X) 17 [] y3 (cO i 0 os.length (k:Int) 0 c b n D C A w (bK os) B)=some ([Ac R],[]))(a:List jW)(f:∀ e∈a,mW e.1/\mW e.2)(K:a.length<=1000):∀(r:List jW) (j:Nat),a.drop j=r->j<=a.length ->
    L tab (run tab X) 17 [] y4 (dW i 0 os.length (k:Int) 0 c b t 0 a.length (a.length:Int) (j:Int) D C A w (bK os) B x.1.x x.1.y x.1.z x.2.x x.2.y x.2.z (a.map H9)) =
     some ([Ac (r.all (λy=>!sD x.1 x.2 y.1 y.2)&&(P7 k (gh os k) x&&R))],[]):=by
  intro r;induction r with
  | nil =>intro j hd d;have m:j=a.length:=Nat.le_antisymm d (List.drop_eq_nil_iff.1 hd);subst m;have I:=h _ (vF l);have u:=c50 X hX x.1 g.1;simp only[encV]at u;have E:=c49 X hX I (RQ g.1) (by decide) (by decide) (by decide);refine L_of ?_;rw[jq,xO (by omega),qCf];simp only[rng l,qCt,qIt,qNz,gY os l,u,qOb,qLh,pv_p,Jg,H,M];show(run tab X 49 [Al (encL (gh os k)),.p (Em x.1.x 1 x.1.y 1)] []).bind _=_;rw[E,qOb];simp only[qLh,pv_p,toInt_int];show _=some ([Ac (P7 k (gh os k) x&&R)],[]);have G:uz (gh os k) x.1.x x.1.y 1=zx (gh os k) x.1:=rfl;rw[G];unfold P7;grind
  | cons y r F =>intro j hd _;obtain⟨J,d,s,v⟩:=Bv hd;have q:=c46 X hX x.1 x.2 y.1 y.2 g.1 g.2 (f y v).1 (f y v).2;simp only[sW]at q;refine L_of ?_;rw[jq,rZ d,qCt];simp only[rng d,qCt,qIt,qNz,J,Bf,Bg,Bh,Bj,Bo,Bq,q,qOb,qLh,pv_p,toBool_bool,dL (show j<=9000000000000000000 by omega),F (j+1) s d,List.all_cons];grind
theorem acE(i:Int)(p n:List PV)(m l:Int)(os:List (List V3))(c:∀ o∈os,dO o=true)(u:os.length<=1000)(k:Nat)(d:k<os.length)(R:Bool)
    (A:L tab (run tab X) 17 [] y2 (jl i 0 os.length ((k+1:Nat):Int) p n m l (bK os))=some ([Ac R],[]))(a:List jW)(h:∀ e∈a,mW e.1/\mW e.2)(y:a.length<=1000):∀(r:List jW) (t:Nat),a.drop t=r->t<=a.length ->
    L tab (run tab X) 17 [] y3 (cO i 0 os.length (k:Int) 0 a.length (a.length:Int) (t:Int) p n m l (bK os) (a.map H9))=some ([Ac (r.all (UA k (gh os k))&&R)],[]):=by
  intro r;induction r with
  | nil =>intro t hd b;have f:t=a.length:=Nat.le_antisymm b (List.drop_eq_nil_iff.1 hd);subst f;refine L_of ?_;rw[nD,xO (by omega),qCf,dL (by omega)];exact A
  | cons x r s =>intro t hd _;obtain⟨w,b,j,v⟩:=Bv hd;have g:=c _ (vF d);have q:=c44 X hX (gh os k) (by have:=zf g;omega);have z:=acD X hX i ((t+1:Nat):Int) (t:Int) p n m l (a.map H9) (dL (by omega)) a.length (a.length:Int) os c u k d x (h x v) _ (s (t+1) j b) (dJ (gh os k)) (qp (lU g)) (by rw[jr];have:=zf g;omega) _ 0 qLy (Nat.zero_le _);refine L_of ?_;rw[nD,rZ b,qCt];simp only[rng b,rng d,qCt,qIt,qNz,gY os d];show(run tab X 44 [Al (encL (gh os k))] []).bind _=_;rw[q,qOb];simp only[qLh,AV.freshList,xC,qLm,w,Bf,Bg,Bh,Bj,Bo,Bq];grind[Bool.and_assoc,UA,edgeOk]
theorem acF(l:List PV)(j g:Int)(a:List (List V3))(e:∀ h∈a,dO h=true)(p:a.length<=1000)(i:Nat)(d:i<a.length)(os:List (List V3))(c:∀ o∈os,dO o=true)(r:os.length<=1000)(R:Bool)
    (t:L tab (run tab X) 17 [] y1 (S17_111010 ((i+1:Nat):Int) l (bK a) j g)=some ([Ac R],[])):∀ m k,k+m=os.length ->
    L tab (run tab X) 17 [] y2 (jl (i:Int) 0 os.length (k:Int) l (bK a) j g (bK os))=some ([Ac (jC (λk=>(dJ (gh a i)).all (UA k (gh os k))) k m&&R)],[]):=by
  intro m;induction m with
  | zero =>intro k s;refine L_of ?_;rw[uq,xO (by omega),qCf,dL (by omega)];exact t
  | succ m n =>
   intro k s;have b:k<os.length:=by omega
   have f:=e _ (vF d);have q:=c44 X hX (gh a i) (by have:=zf f;omega);have u:=acE X hX (i:Int) l (bK a) j g os c r k b _ (n (k+1) (by omega)) (dJ (gh a i)) (qp (lU f)) (by rw[jr];have:=zf f;omega) _ 0 qLy (Nat.zero_le _);refine L_of ?_;rw[uq,rZ b,qCt];simp only[bM,rng d,qCt,qIt,gY a d];show(run tab X 44 [Al (encL (gh a i))] []).bind _=_;rw[q,qOb];simp only[qLh,AV.freshList,xC,qLm];refine u.trans ?_;show _=some ([Ac ((((dJ (gh a i)).all (UA k (gh os k)))&&jC _ (k+1) m)&&R)],[]);grind
end
end
section
open Go.Skm.Dig
theorem P8(f:Fen)(i:Nat):bK (Ea f i)=[As (encL f.outer)]++(bK f.holes).take i++(bK f.holes).drop (i+1):=by unfold bK Ea;simp
theorem KW(f:Fen){i:Nat}(h:i<f.holes.length):(Ea f i).length=f.holes.length:=by grind[Ea]
theorem P9{f:Fen}(b:dO f.outer=true)(c:∀ h∈f.holes,dO h=true)(i:Nat):∀ o∈Ea f i,dO o=true:=by intro o a;rcases List.mem_cons.1 a with rfl | a;all_goals grind
section
variable (X:Ext) (hX:Mine X)
include hX
theorem acG(f:Fen)(o:dO f.outer=true)(e:∀ h∈f.holes,dO h=true)(r:f.holes.length<=16):∀ m i,i+m=f.holes.length ->
    L tab (run tab X) 17 [] y1 (S17_111010 (i:Int) (encL f.outer) (bK f.holes) f.low f.high)=some ([Ac (jC (OC f) i m)],[]):=by
  intro m;induction m with
  | zero =>intro i p;refine L_of ?_;rw[e17_111010,bM,xO (by omega),qCf];rfl
  | succ m n =>
   intro i p;have c:i<f.holes.length:=by omega
   have s:=KW f c;have q:=acF X hX (encL f.outer) f.low f.high f.holes e (by omega) i c (Ea f i) (P9 o e i) (by omega) _ (n (i+1) (by omega)) (Ea f i).length 0 (by omega);have l:((((bK f.holes).drop 0).take i).length:Nat)=i:=by rw[qLy,List.length_take,bM];omega
   have k:((((f.holes.length:Nat):Int)-((i+1:Nat):Int)).toNat)=f.holes.length-(i+1):=by omega
   have j:(((bK f.holes).drop (i+1)).take (f.holes.length-(i+1)))=(bK f.holes).drop (i+1):=List.take_of_length_le (by rw[List.length_drop,bM];omega);have g:((bK f.holes).drop (i+1)).length=f.holes.length-(i+1):=by rw[List.length_drop,bM]
   have d:∀{a b:Nat},a<=b->leI (a:Int) ((b:Nat):Int)=true:=λh=>decide_eq_true (by omega);refine L_of ?_;rw[e17_111010,bM,rZ c,qCt,dL (by omega)];simp only[le0,d (qNr f.holes.length),d (Nat.le_of_lt c),d (show i+1<=f.holes.length from c),qBs,qCt,Int.sub_zero,qIt,l,k,j,g];rw[show leN (1+i) 2147483648=true from decide_eq_true (by omega),qCt,show leN (1+i+(f.holes.length-(i+1))) 2147483648=true from decide_eq_true (by omega),qCt,show 1+i+(f.holes.length-(i+1))=(Ea f i).length by omega];rw[show((([As (encL f.outer)]++((bK f.holes).drop 0).take i).drop 0).take (1+i))++(bK f.holes).drop (i+1)=bK (Ea f i) by grind[qLp,List.length_singleton,List.length_take,P8,qLy]];exact q
theorem acH(f:Fen)(o:dO f.outer=true)(p:f.holes.length<=16)(c:∀ h∈f.holes,h.length<=1000000)(R:Bool)
    (l:(∀ h∈f.holes,dO h=true)->L tab (run tab X) 17 [] y1 (S17_111010 0 (encL f.outer) (bK f.holes) f.low f.high)=some ([Ac R],[])):∀(r:List (List V3)) (i:Nat),f.holes.drop i=r->i<=f.holes.length->(∀ h∈f.holes.take i,dO h=true) ->
    L tab (run tab X) 17 [] [.lp [1,1,0,1,0]] (yQ (i:Int) (encL f.outer) (bK f.holes) f.low f.high)=some ([Ac (r.all dO&&R)],[]):=by
  intro r;induction r with
  | nil =>intro i hd b a;have d:i=f.holes.length:=Nat.le_antisymm b (List.drop_eq_nil_iff.1 hd);subst d;rw[List.take_length]at a;refine L_of ?_;rw[Hf,bM,xO (by omega),qCf];exact l a
  | cons h r g =>
   intro i hd _ a;have e:f.holes[i]?=some h:=by have:=congrArg (·[0]?) hd;grind
   have b:=(qLa.1 e).1;have k:gh f.holes i=h:=by simp[gh,List.getD,e]
   have j:=qLe e;have q:=c13 X hX h (c h j);rw[Fp]at q;refine L_of ?_;rw[Hf,bM,rZ b,qCt];simp only[rng b,qCt,qIt,gY f.holes b,k,dL (show i<=9000000000000000000 by omega)];show(run tab X 13 [Al (encL h)] []).bind _=_;rw[q,qOb,List.all_cons];simp only[qLh,pv_p,toBool_bool];cases n:dO h with
   | false=>rfl
   | true =>rw[qBt,qCf,Bool.true_and];refine g (i+1) (by rw[<- List.drop_drop,hd];rfl) b λx m=>?_;grind
theorem c17(f:Fen)(c:tY f):run tab X 17 [.p (encF f)] []=some ([Ac (Jf f)],[]):=
 run_of (hX _ rfl) (by
  have q:=c13 X hX f.outer c.outer;rw[Fp]at q;rw[encF,e17,q,qOb];simp only[qLh,pv_p,toBool_bool,bM];unfold Jf Dx;cases b:dO f.outer with
  | false=>rfl
  | true =>
   rw[qBt,qCf,Bool.true_and];by_cases a:f.holes.length<=16
   . rw[show gtI ((f.holes.length:Nat):Int) (16:Int)=false from decide_eq_false (by omega),qCf];by_cases i:-1048576<=f.low
     . rw[show ltI f.low (-1048576)=false from decide_eq_false (by omega),qCf];by_cases g:f.high<=1048576
       . rw[show gtI f.high 1048576=false from decide_eq_false (by omega),qCf];by_cases h4:f.low<=f.high
         . rw[show gtI f.low f.high=false from decide_eq_false (by omega),qCf,decide_eq_true ⟨a,i,g,h4⟩,Bool.true_and];exact acH X hX f b a c.holes _ (λe=>acG X hX f b e a f.holes.length 0 (by omega)) f.holes 0 qLy (Nat.zero_le _) (λh d=>by simp at d)
         grind
       grind
     grind
   grind)
theorem acI{l:List V3}(h:dO l=true):run tab X 54 [Al (encL l)] []=some ([Ab (lg l)],[]):=by obtain⟨b,c,a⟩:=gX h;rw[Na l b];exact c54 X hX l (by omega) a
end
end
section
variable {l:List V3}{i:Nat}
theorem qA{e:jW}:e∈dJ l↔∃ i,i<l.length/\e=(flat (ca l i),flat (cb l i)):=by show e∈(List.range l.length).map _↔_;grind
theorem UC(a:Pt):scp 1 a=a:=by unfold scp;simp
theorem OD(l:List V3)(p:V3):zx l p=LY (pts l) l.length (pt p):=by show LY (λi=>scp 1 (pts l i)) _ _=_;rw[show(λi=>scp 1 (pts l i))=pts l from funext λi=>UC _];rfl
theorem RS{a b:V3}(h:edgeOk (flat a,flat b) l=true):zx l a=zx l b:=by rw[OD,OD];refine KX (IQ l) λi d c=>?_;have:=List.all_eq_true.1 h _ (qA.2 ⟨i,d,rfl⟩);rw[qBb,Ho,decide_eq_false_iff_not]at this;refine this ?_;show meet (pt a) (pt b) (pt (ca l i)) (pt (cb l i));rw[yT,Cj d]at c;exact c
theorem UD{o:List V3}(h:∀ e∈dJ l,edgeOk e o=true)(i:Nat)(a:i<l.length):zx o (gt l i)=zx o (gt l 0):=by
 induction i with
 | zero=>rfl
 | succ i b =>
  have d:=RS (h _ (qA.2 ⟨i,by omega,rfl⟩));have c:cb l i=gt l (i+1):=by show gt l (oP l.length i)=_;unfold oP;rw[Nat.mod_eq_of_lt a]
  grind
theorem F7{outer:List V3}:∀(a all:List (List V3)),uF outer all a=true↔∀ i,i<a.length->Fv outer (all++a.take i) (gh a i)=true
 |[],all=>by simp[uF]
 | h::r,all=>by
  rw[uF,qBa,F7 r];constructor
  . rintro ⟨d,e⟩ i b;cases i with
    | zero=>simpa[gh] using d
    | succ i=>grind
  . intro c;refine⟨by simpa[gh] using c 0 (by simp),λi b=>?_⟩;have:=c (i+1) (by simpa using b);grind
theorem Jh(f:Fen){j:Nat}(b:i<f.holes.length)(a:j+1<f.holes.length):gh (Ea f i) (j+1)=gh f.holes (if j<i then j else j+1):=by show((f.holes.take i++f.holes.drop (i+1)).getD j [])=_;grind
theorem Ia(f:Fen)(b:i<f.holes.length):OC f i=true↔(∀ e∈dJ (gh f.holes i),edgeOk e f.outer=true/\0<=zx f.outer e.1)/\∀ k,k<f.holes.length->k≠i->∀ e∈dJ (gh f.holes i),edgeOk e (gh f.holes k)=true/\zx (gh f.holes k) e.1<0:=by
 unfold OC;rw[jo,KW f b];have g:∀ o e,UA 0 o e=true↔edgeOk e o=true/\0<=zx o e.1:=λo e=>by simp[qBa,qDa,UA,P7]
 have d:∀ k o e,UA (k+1) o e=true↔edgeOk e o=true/\zx o e.1<0:=λk o e=>by simp[qBa,qDa,UA,P7]
 constructor
 . intro h;refine⟨λe a=>?_,λk n m e a=>?_⟩
   . have:=h 0 (by omega) (by omega);rw[List.all_eq_true]at this;exact(g _ _).1 (this e a)
   . by_cases c:k<i
     . have:=h (k+1) (by omega) (by omega);rw[List.all_eq_true]at this;have:=(d _ _ _).1 (this e a);rwa[Jh f b (by omega),if_pos c]at this
     . obtain⟨j,rfl⟩:∃ j,k=j+1:=⟨k-1,by omega⟩;have:=h (j+1) (by omega) (by omega);rw[List.all_eq_true]at this;have:=(d _ _ _).1 (this e a);rwa[Jh f b (by omega),if_neg (by omega)]at this
 . rintro ⟨p,q⟩ k _ n;rw[List.all_eq_true];intro e a;cases k with
   | zero=>exact(g _ _).2 (p e a)
   | succ k =>rw[d,Jh f b (by omega)];grind
theorem Nk(h:0<l.length):(flat (ca l 0),flat (cb l 0))∈dJ l:=qA.2 ⟨0,h,rfl⟩
theorem Qa(f:Fen):Jf f=validP f:=by
 unfold Jf validP;cases E:Dx f with
 | false=>rfl
 | true =>
  rw[Bool.true_and,Bool.true_and,Bool.eq_iff_iff,qBa,qBa,F7,jo,List.all_eq_true];have w:∀{i},(∀ h∈f.holes,dO h=true)->i<f.holes.length->dO (gh f.holes i)=true:=λh a=>h _ (vF a);constructor
  . rintro ⟨q,z⟩;have n:∀ i (a:i<f.holes.length),_:=λi a=>(Ia f a).1 (z i (Nat.zero_le _) (by omega));refine⟨λi a=>?_,?_⟩
    . unfold Fv;rw[qBa,List.all_eq_true];refine⟨w q a,λe d=>?_⟩;rw[qBa,qDa,List.all_eq_true];obtain⟨y,x⟩:=n i a;refine⟨(y e d).2,λo r=>?_⟩;rcases List.mem_append.1 r with r | r
      . grind
      . obtain⟨j,t,rfl⟩:=List.getElem_of_mem r;rw[List.length_take]at t;have C:j<i:=by omega
        have:=(x j (by omega) (by omega) e d).1;rw[List.getElem_take];simpa[gh,List.getD,qLd (show j<f.holes.length by omega)] using this
    . unfold IW;rw[jo];intro i _ a;rw[jo];intro k _ s;unfold rP;split
      . rfl
      . rename_i b;have v:=(gX (w q (show i<f.holes.length by omega))).1;have:=((n i (by omega)).2 k (by omega) (λe=>b e.symm) _ (Nk (by omega))).2;have e:zx (gh f.holes k) (flat (ca (gh f.holes i) 0))=zx (gh f.holes k) (gt (gh f.holes i) 0):=rfl;grind
  . rintro ⟨hp,u⟩;have p:∀ i,i<f.holes.length->dO (gh f.holes i)=true/\∀ e∈dJ (gh f.holes i),0<=zx f.outer e.1/\edgeOk e f.outer=true/\∀ j,j<i->edgeOk e (gh f.holes j)=true:=λi a=>by
     have:=hp i a;unfold Fv at this;rw[qBa,List.all_eq_true]at this;refine⟨this.1,λe d=>?_⟩;have g:=this.2 e d;rw[qBa,qDa,List.all_eq_true]at g;refine⟨g.1,g.2 _ (by simp),λj t=>g.2 _ (List.mem_append.2 (.inr ?_))⟩;have B:j<f.holes.length:=by omega
     have F:gh f.holes j=(f.holes.take i)[j]'(by rw[List.length_take];omega):=by grind
     grind
    have q:∀ h∈f.holes,dO h=true:=λh A=>by obtain⟨i,a,rfl⟩:=List.getElem_of_mem A;grind
    have m:∀{i k},i<f.holes.length->k<f.holes.length->k≠i->∀ e∈dJ (gh f.holes i),edgeOk e (gh f.holes k)=true:=by
     intro i k a s b e d;rcases Nat.lt_or_gt_of_ne b with c | c
     . grind
     grind[List.all_eq_true,FY,edgeOk]
    refine⟨q,λi _ a=>?_⟩;have a:i<f.holes.length:=by omega
    rw[Ia f a];refine⟨λe d=>⟨((p i a).2 e d).2.1,((p i a).2 e d).1⟩,λk s b e d=>⟨m a s b e d,?_⟩⟩;obtain⟨j,t,rfl⟩:=qA.1 d;have D:=UD (m a s b) j t;unfold IW at u;rw[jo]at u;have g:=u i (Nat.zero_le _) (by omega);rw[jo]at g;have v:=g k (Nat.zero_le _) (by omega);unfold rP at v;rw[if_neg (λe=>b e.symm),qBb,decide_eq_false_iff_not,<- D]at v;show zx (gh f.holes k) (gt (gh f.holes i) j)<0;omega
end
end Go.Skm.Fen
