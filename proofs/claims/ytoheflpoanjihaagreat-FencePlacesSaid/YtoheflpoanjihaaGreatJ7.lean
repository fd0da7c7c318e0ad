import Derived.Test.YtoheflpoanjihaaGreatR8
import Derived.Test.YtoheflpoanjihaaGreatG7
import Derived.Test.YtoheflpoanjihaaGreatG19
import Derived.Test.YtoheflpoanjihaaGreatEqv3
import Derived.Test.YtoheflpoanjihaaGreatG10
import Derived.Test.YtoheflpoanjihaaGreatG15
import Derived.Test.YtoheflpoanjihaaGreatG8
set_option linter.all false
namespace Go.Skm.Fen
open Go Go.Skm
section
open Go.Skm.Dig
variable {D E M N a b n:Int}{k:Nat}{x y:PV}
theorem CJ(n d:Int):PV.agg [PV.bool (decide (n<0)),PV.list false kI (nI n.natAbs),PV.bool (decide (d<0)),PV.list false kI (nI d.natAbs)]=eQ n d:=rfl
theorem uF(n d:Int):PV.agg [.bool (((eQ n d).cell 0).toBool),.list false kI (((eQ n d).cell 1).toList),.bool (((eQ n d).cell 2).toBool),.list false kI (((eQ n d).cell 3).toList)]=eQ n d:=rfl
def Jg(v:PV)(N D:Int)(k:Nat):Prop:=∃ n d,v=eQ n d/\0<d/\n*D=N*d/\iQ n k/\iQ d k
theorem J5(h:a.natAbs<=b.natAbs)(c:iQ b k):iQ a k:=Nat.le_trans (oD h) c
theorem OL(a:Int)(h:b≠0):rP a b*b=a*qU a b:=by
 have m:0<Int.gcd a b:=Nat.pos_of_ne_zero λe=>h (Int.gcd_eq_zero_iff.1 e).2;obtain⟨x,c⟩:=Int.gcd_dvd_left (a:=a) (b:=b);obtain⟨y,i⟩:=Int.gcd_dvd_right (a:=a) (b:=b);unfold rP qU;generalize Int.gcd a b=g at *;have d:(g:Int)≠0:=by omega
 have l:a / (g:Int)=x:=by rw[c];exact Int.mul_ediv_cancel_left x d
 have f:(b.natAbs:Int)=g*y.natAbs:=by rw[i,Int.natAbs_mul];simp
 have j:(b.natAbs:Int) / (g:Int)=y.natAbs:=by rw[f];exact Int.mul_ediv_cancel_left _ d
 rw[l,j];have e4:b.sign*b=(b.natAbs:Int):=by rw[Int.mul_comm];exact Int.mul_sign_self b
 calc b.sign*x*b=x*(b.sign*b):=by rw[Int.mul_comm b.sign x,Int.mul_assoc]
  _=x*(g*y.natAbs):=by rw[e4,f]
  _=a*y.natAbs:=by rw[c,<- Int.mul_assoc,Int.mul_comm x]
theorem LJ{c d A B C:Int}(h:0<b)(hd:0<d)(j:0<B)(i:0<D)(m:a*B=A*b)(l:c*D=C*d):(a*d-c*b).sign=(A*D-C*B).sign:=by
 have e:(a*d-c*b)*(B*D)=(A*D-C*B)*(b*d):=by
  have:(a*d-c*b)*(B*D)=(a*B)*(d*D)-(c*D)*(b*B):=by grind
  rw[this,m,l];grind
 have g:0<B*D:=Int.mul_pos j i;have f:0<b*d:=Int.mul_pos h hd;have:=congrArg Int.sign e;rwa[Int.sign_mul (a*d-c*b),Int.sign_mul (A*D-C*B),Int.sign_eq_one_of_pos g,Int.sign_eq_one_of_pos f,Int.mul_one,Int.mul_one]at this
theorem AX(h:iQ n k)(c:1<=k):Jg (eQ n 1) n 1 k:=⟨n,1,rfl,by decide,rfl,h,Nat.le_trans (by show(aS B9 1).length<=1;exact rQ (by decide)) c⟩
theorem xW(d:-9223372036854775808<=n)(c:n<=9223372036854775807):iQ n 3:=rQ (by show _<1000000000^3;omega)
section
variable (X:Ext) (hX:Mine X)
include hX
theorem c57(n:Int)(d:-9223372036854775808<=n)(c:n<=9223372036854775807):run tab X 57 [.p (.int .i64 n)] []=some ([.p (eQ n 1)],[]):=
 run_of (hX _ rfl) (by rw[e57,c71 X hX n d c,qOb,c71 X hX 1 (by decide) (by decide),qOb];rfl)
theorem UW(j:Jg x N D k)(i:Jg y M E k)(c:k<=300000)(r:0<D)(q:0<E):run tab X 67 [.p x,.p y] []=some ([.p (.int .i64 (N*E-M*D).sign)],[]):=by obtain⟨n,d,rfl,t,o,h,s2⟩:=j;obtain⟨m,e,rfl,s,l,g,f⟩:=i;rw[c67 X hX n d m e ⟨bW h c,bW s2 c,by omega⟩ ⟨bW g c,bW f c,by omega⟩,LJ t s r q o l]
theorem NG(g:iQ a k)(f:iQ b k)(c:b≠0)(d:a*D=N*b):Jg (eQ (rP a b) (qU a b)) N D k:=by
 have _:=hX;refine⟨_,_,rfl,xO c,?_,J5 (E8 a b) g,J5 (Fa a b) f⟩;have h:=OL a c;have e:(rP a b*D)*b=(N*qU a b)*b:=by
  calc rP a b*D*b=rP a b*b*D:=by grind
   _=a*D*qU a b:=by rw[h];grind
   _=N*qU a b*b:=by rw[d];grind
 exact Int.eq_of_mul_eq_mul_right c e
theorem Xe(j:Jg x N D k)(i:Jg y M E k)(c:k<=300000):∃ r s,run tab X 85 [.p x,.p y] []=some ([.p (eQ r s)],[])/\Jg (eQ r s) (N*M) (D*E) (k+k):=by
 obtain⟨n,d,rfl,t,o,h,s2⟩:=j;obtain⟨m,e,rfl,q,l,g,f⟩:=i;refine⟨_,_,c85 X hX n d m e ⟨bW h c,bW s2 c,by omega⟩ ⟨bW g c,bW f c,by omega⟩,NG X hX (kK h g) (kK s2 f) (Int.mul_ne_zero (by omega) (by omega)) ?_⟩
 calc n*m*(D*E)=(n*D)*(m*E):=by grind
  _=N*M*(d*e):=by rw[o,l];grind
theorem Xf(j:Jg x N D k)(i:Jg y M E k)(c:k<=300000):∃ r s,run tab X 145 [.p x,.p y] []=some ([.p (eQ r s)],[])/\Jg (eQ r s) (N*E-M*D) (D*E) (k+k+1):=by
 obtain⟨n,d,rfl,t,o,h,s2⟩:=j;obtain⟨m,e,rfl,q,l,g,f⟩:=i;refine⟨_,_,c145 X hX n d m e ⟨bW h c,bW s2 c,by omega⟩ ⟨bW g c,bW f c,by omega⟩,NG X hX ?_ (bW (kK s2 f) (by omega)) (Int.mul_ne_zero (by omega) (by omega)) ?_⟩
 . rw[Int.sub_eq_add_neg];exact J6 (kK h f) (xX (bW (kK g s2) (by omega)))
 calc (n*e-m*d)*(D*E)=(n*D)*(e*E)-(m*E)*(d*D):=by grind
  _=(N*E-M*D)*(d*e):=by rw[o,l];grind
end
end
section
open Go.Skm.Dig
variable {u v w:Int}
def Gl(n d m e:Int):PV:=.agg [.bool (decide (n<0)),.list false kI (nI n.natAbs),.bool (decide (d<0)),.list false kI (nI d.natAbs),.bool (decide (m<0)),.list false kI (nI m.natAbs),.bool (decide (e<0)),.list false kI (nI e.natAbs)]
def Uf(n d m e:Int)(u v w:Int)(k:Nat):Prop:=Jg (eQ n d) u w k/\Jg (eQ m e) v w k
def Xg(u v w:Int)(e:kX):Bool:=Gt u v w e != 0
def Gw(u v w:Int)(acc:Bool)(es:List kX):Int:=if es.any (Gj u v w)then 0 else if es.foldl (λb e=>b != Xg u v w e) acc then 1 else -1
theorem Hr(u v w:Int)(acc:Bool)(e:kX)(r:List kX):Gw u v w acc (e::r)=if Gj u v w e then 0 else Gw u v w (acc != Xg u v w e) r:=by
 unfold Gw;rw[List.any_cons,List.foldl_cons];cases Gj u v w e with
 | true=>simp
 | false=>simp only[Bool.false_or,Bool.false_eq_true,if_false]
theorem UY(f:0<w)(e:kX)(h:Gj u v w e=false) :
    ((!((decide (e.1.y*w<=v))==(decide (e.2.y*w<=v))))&&((decide (0<iC (Tq e.1 e.2 u v w)))==(decide (e.1.y*w<=v))))=Xg u v w e:=by
  have g:∀ x,iC (x-v)<=0↔x<=v:=λx=>by have:=@mg (x-v);constructor<;>intro h<;>omega
  have hp:∀ x,0<iC (x-v)↔¬ x<=v:=λx=>by have:=@mg (x-v);constructor<;>intro h<;>omega
  have i:iC (Tq e.1 e.2 u v w)=0->¬(e.2.y*w<=v/\¬ e.1.y*w<=v):=λd j=>by rw[Ea f,decide_eq_false_iff_not]at h;refine h (rU.1 (vF ?_ (show w*e.2.y<w*e.1.y by rw[Int.mul_comm w,Int.mul_comm w];omega) (show w*e.2.y<=v by rw[Int.mul_comm];omega) (show v<=w*e.1.y by rw[Int.mul_comm];omega)));show turn (scp w (pt e.2)) (scp w (pt e.1)) ⟨u,v⟩=0;rw[iD,D9,Aw.1 d];simp
  unfold Xg Gt;simp only[g,hp];by_cases a:e.1.y*w<=v<;>by_cases b:e.2.y*w<=v<;>rcases tC (Tq e.1 e.2 u v w)with c | c | c<;>simp[a,b,c]
  exact absurd ⟨b,a⟩ (i c)
theorem Qz{l:List V3}(h:dM l=true)(c:0<w):Gw u v w false (dL l)=wW l u v w:=by
 rw[<- Iw c];unfold Gw Vw;split
 . rfl
 . rename_i k;have hp:=OC h;have f:∀ n,n<=l.length->(uz l n).foldl (λb e=>b != Xg u v w e) false=cross (λi=>scp w (pts l i)) ⟨u,v⟩ n:=by
    intro n;induction n with
    | zero=>intro _;rfl
    | succ n q =>intro x;rw[tH,List.foldl_append,q (by omega)];show(_ !=(Gt u v w (flat (ca l n),flat (cb l n)) != 0))=(_ !=(cr ⟨u,v⟩ (scp w (pts l n)) (scp w (pts l (n+1))) != 0));rw[Qj c,Az,EU (by omega)];rfl
   have g:Poly (λi=>scp w (pts l i)) l.length:=⟨hp.n3,λi=>by show scp w _=scp w _;rw[hp.per],λi e=>hp.ne i (by unfold scp at e;simp only[Pt.mk.injEq]at e;have p:=Int.eq_of_mul_eq_mul_left (by omega) e.1;have o:=Int.eq_of_mul_eq_mul_left (by omega) e.2;generalize pts l i=a at *;generalize pts l (i+1)=b at *;cases a;cases b;simp_all),λi m t s=>λd=>hp.far i m t s ((J7 c).1 d),λi d=>hp.FK i ((xY c).1 d),λi d=>hp.FM i ((xY c).1 d)⟩;have j:∀ i,¬ on (scp w (pts l i)) (scp w (pts l (i+1))) ⟨u,v⟩:=λi r=>k (List.any_eq_true.2 ⟨(flat (ca l (i%l.length)),flat (cb l (i%l.length))),List.mem_map.2 ⟨i%l.length,List.mem_range.2 (qNm _ (by have:=hp.n3;omega)),rfl⟩,by
    rw[Ea c,qDa,Nh,Nh];have p:pts l i=pt (ca l (i%l.length)):=rfl;have o:pts l (i+1)=pt (cb l (i%l.length)):=by unfold pts cb qh;rw[Nat.mod_add_mod]
    rw[<- p,<- o];exact r⟩)
   have:=LK g ⟨u,v⟩ j;rw[f _ (qNr _),this,Iu c l _ (qNr _)];show(if decide (lD _ _ _≠0)=true then(1:Int)else -1)=if lD _ _ _≠0 then 1 else -1
   simp only[qDa]
end
section
open Go.Skm.Dig
variable {a d m n u w:Int}{k:Nat}
theorem AY(a b:V3):((uh a b).cell 0).toInt=a.x:=rfl
theorem AZ(a b:V3):((uh a b).cell 1).toInt=a.y:=rfl
theorem A8(a b:V3):((uh a b).cell 2).toInt=a.z:=rfl
theorem Ba(a b:V3):((uh a b).cell 3).toInt=b.x:=rfl
theorem Bc(a b:V3):((uh a b).cell 4).toInt=b.y:=rfl
theorem Bf(a b:V3):((uh a b).cell 5).toInt=b.z:=rfl
theorem LM(a b u w:Int)(c:0<w):((goMin a b)*w<=u/\u<=(goMax a b)*w)↔btw (a*w) (b*w) u:=by
 unfold goMin goMax btw;have m:∀{x y:Int},x<=y->x*w<=y*w:=λh=>Int.mul_le_mul_of_nonneg_right h (by omega);by_cases h:b<a
 . have:=m (show b<=a by omega);grind
 grind
theorem QA{b M:Int}(f:m<=a)(e:a<=M)(c:m<=b)(h4:b<=M):(m<=goMin a b/\goMin a b<=M)/\m<=goMax a b/\goMax a b<=M:=by grind[goMin,goMax]
theorem QB{p:V3}(hp:mW p):Uf p.x 1 p.y 1 p.x p.y 1 3:=by obtain⟨⟨a,b⟩,⟨c,d⟩,_⟩:=hp;exact⟨AX (xW (by omega) (by omega)) (by decide),AX (xW (by omega) (by omega)) (by decide)⟩
section
variable (X:Ext) (hX:Mine X)
include hX
theorem c50(p:V3)(hp:mW p):run tab X 50 [.p (encV p)] []=some ([.p (Gl p.x 1 p.y 1)],[]):=by obtain⟨⟨a,b⟩,⟨c,d⟩,_⟩:=hp;refine run_of (hX _ rfl) ?_;rw[encV,e50,c71 X hX p.x (by omega) (by omega),qOb,c71 X hX 1 (by decide) (by decide),qOb,c71 X hX p.y (by omega) (by omega),qOb,qOb];rfl
theorem n24(h:-16777216<=a/\a<=16777216):Jg (eQ a 1) a 1 3:=by have _:=hX;exact AX (xW (by omega) (by omega)) (by decide)
theorem OM(f:-33554432<=a/\a<=33554432)(h:Jg (eQ n d) u w k)(b:0<w)(e:3<=k)(c:k<=300000):run tab X 67 [.p (eQ a 1),.p (eQ n d)] []=some ([.p (.int .i64 (iC (a*w-u)))],[]) /\
    run tab X 67 [.p (eQ n d),.p (eQ a 1)] []=some ([.p (.int .i64 (iC (u-a*w)))],[]):=by
  have q:=AX (n:=a) (bW (xW (by omega) (by omega)) e) (by omega);refine⟨?_,?_⟩
  . rw[UW X hX q h c (by decide) b,xH,Int.mul_one]
  . rw[UW X hX h q c b (by decide),xH,Int.mul_one]
theorem c99(a b:Int)(i:-16777216<=a/\a<=16777216)(g:-16777216<=b/\b<=16777216)(h:Jg (eQ n d) u w k)(e:0<w)(j:3<=k)(f:k<=300000) :
    run tab X 99 [.p (.int .i64 a),.p (.int .i64 b),.p (eQ n d)] []=some ([.p (.bool (decide (btw (a*w) (b*w) u)))],[]):=by
  obtain⟨⟨y,x⟩,v,t⟩:=QA i.1 i.2 g.1 g.2;have q:=(OM X hX (a:=goMin a b) ⟨by omega,by omega⟩ h e j f).1;have s:=(OM X hX (a:=goMax a b) ⟨by omega,by omega⟩ h e j f).2;have o:=c57 X hX (goMin a b) (by omega) (by omega);have l:=c57 X hX (goMax a b) (by omega) (by omega);have m:=LM a b u w e;refine run_of (hX _ rfl) ?_;rw[eQ,e99,o];simp only[qOb,qLh,pv_p,uF];rw[CJ n d,q];simp only[qOb,qLh,pv_p,toInt_int];have r:=@mg (goMin a b*w-u);have s2:=@mg (u-goMax a b*w);by_cases c:goMin a b*w<=u
  . rw[show leI (iC (goMin a b*w-u)) 0=true from decide_eq_true (by omega),qCt,l];grind[qOb,qLh,pv_p,uF,toInt_int]
  . grind
theorem c98(a b:V3)(B:mW a)(A:mW b){e v:Int}(h:Uf n d m e u v w k)(c:0<w)(f:3<=k)(P:k<=60000) :
    run tab X 98 [.p (uh a b),.p (Gl n d m e)] []=some ([.p (.int .i64 (iC (Tq a b u v w)))],[]):=by
  obtain⟨⟨W,V⟩,⟨U,T⟩,_⟩:=B;obtain⟨⟨b1,S⟩,⟨R,Q⟩,_⟩:=A;have q:∀ z:Int,-33554432<=z->z<=33554432->∀ j,3<=j->Jg (eQ z 1) z 1 j:=λz D C j s=>AX (bW (xW (by omega) (by omega)) s) (by omega);have r:=λz (D:(-33554432:Int)<=z) (C:z<=33554432)=>c57 X hX z (by omega) (by omega);obtain⟨O,L,H,o⟩:=Xf X hX h.2 (q a.y (by omega) (by omega) k f) (by omega);obtain⟨s2,K,G,l⟩:=Xe X hX (q (b.x-a.x) (by omega) (by omega) (k+k+1) (by omega)) o (by omega);obtain⟨N,J,F,i⟩:=Xf X hX h.1 (q a.x (by omega) (by omega) k f) (by omega);obtain⟨M,I,E,g⟩:=Xe X hX (q (b.y-a.y) (by omega) (by omega) (k+k+1) (by omega)) i (by omega);have t:=UW X hX l g (by omega) (by rw[Int.one_mul,Int.mul_one];exact c) (by rw[Int.one_mul,Int.mul_one];exact c);refine run_of (hX _ rfl) ?_;rw[uh,Gl,e98,wrap_eq (by omega) (by omega),wrap_eq (by omega) (by omega),r (b.x-a.x) (by omega) (by omega)];simp only[qOb,qLh,pv_p,uF];rw[r a.y (by omega) (by omega)];simp only[qOb,qLh,pv_p,uF];rw[CJ m e,H];simp only[qOb,qLh,pv_p,uF];rw[G];simp only[qOb,qLh,pv_p,uF];rw[r (b.y-a.y) (by omega) (by omega)];simp only[qOb,qLh,pv_p,uF];rw[r a.x (by omega) (by omega)];simp only[qOb,qLh,pv_p,uF];rw[CJ n d,F];simp only[qOb,qLh,pv_p,uF];rw[E];simp only[qOb,qLh,pv_p,uF];rw[t];simp only[qOb,qLh,pv_p,toInt_int];have e:(b.x-a.x)*(v*1-a.y*w)*(1*(w*1))-(b.y-a.y)*(u*1-a.x*w)*(1*(w*1))=Tq a b u v w*w:=by unfold Tq;grind
  rw[e,Int.sign_mul,Int.sign_eq_one_of_pos c,Int.mul_one,xH]
end
end
section
open Go.Skm.Dig
variable {d m n q u v w:Int}{k:Nat}
def J8(e:kX):PV:=uh e.1 e.2
theorem wL(l:List V3):mV l l.length=(dL l).map J8:=by show(List.range l.length).map _=((List.range l.length).map _).map J8;rw[List.map_map];rfl
theorem Bg{es:List kX}{e:kX}{r:List kX}{i:Nat}(h:es.drop i=e::r):(es.map J8).getD i .nil=uh e.1 e.2/\i<es.length/\es.drop (i+1)=r/\e∈es:=by
 have a:es[i]?=some e:=by have:=congrArg (·[0]?) h;simpa using this
 have b:=(qLa.1 a).1;refine⟨by simp[List.getD,a,J8],b,?_,qLe a⟩;rw[<- List.drop_drop,h];rfl
section
variable (X:Ext) (hX:Mine X)
include hX
theorem l49(es:List kX)(b:∀ e∈es,mW e.1/\mW e.2)(G:es.length<=1000000)(h:Uf n d m q u v w k)(c:0<w)(j:3<=k)(Q:k<=60000):∀(r:List kX) (i:Nat) (acc:Bool),es.drop i=r->i<=es.length ->
    L tab (run tab X) 49 [] [.lp [1,1,1,0,1,0]] (iE 0 es.length acc (i:Int) (decide (n<0)) (nI n.natAbs) (decide (d<0)) (nI d.natAbs) (decide (m<0)) (nI m.natAbs) (decide (q<0)) (nI q.natAbs) (es.map J8))=some ([.p (.int .i64 (Gw u v w acc r))],[]):=by
  intro r;induction r with
  | nil =>intro i acc hd g;have B:i=es.length:=Nat.le_antisymm g (List.drop_eq_nil_iff.1 hd);subst B;refine L_of ?_;rw[EO,y8 (by omega),qCf];cases acc<;>rfl
  | cons e r O =>
   intro i acc hd _;obtain⟨R,g,C,A⟩:=Bg hd;obtain⟨N,M⟩:=b e A;obtain⟨⟨Z,Y⟩,⟨W,V⟩,_⟩:=N;obtain⟨⟨b1,U⟩,⟨T,S⟩,_⟩:=M;have f:=c98 X hX e.1 e.2 (b e A).1 (b e A).2 h c j Q;simp only[uh,Gl]at f;have E:=c99 X hX e.1.x e.2.x ⟨by omega,by omega⟩ ⟨by omega,by omega⟩ h.1 c j (by omega);have D:=c99 X hX e.1.y e.2.y ⟨by omega,by omega⟩ ⟨by omega,by omega⟩ h.2 c j (by omega);have K:=c57 X hX e.1.y (by omega) (by omega);have J:=c57 X hX e.2.y (by omega) (by omega);have I:=(OM X hX (a:=e.1.y) ⟨by omega,by omega⟩ h.2 c j (by omega)).1;have H:=(OM X hX (a:=e.2.y) ⟨by omega,by omega⟩ h.2 c j (by omega)).1;have P:=λl=>O (i+1) l C g;have z:∀ x,leI (iC (x-v)) 0=decide (x<=v):=λx=>decide_eq_decide.2 (by have:=@mg (x-v);omega);have o:Gj u v w e=((iC (Tq e.1 e.2 u v w)==0)&&(decide (btw (e.1.x*w) (e.2.x*w) u)&&decide (btw (e.1.y*w) (e.2.y*w) v))):=by unfold Gj;rw[D8,D8]
   refine L_of ?_;rw[EO,rM g,qCt,dZ (by omega)];simp only[rng g,qCt,qIt,qNz,R,AY,AZ,A8,Ba,Bc,Bf,f,qOb,qLh,pv_p,toInt_int,CJ];simp only[E,D,K,J,qOb,qLh,pv_p,toBool_bool,uF,CJ,I,H,toInt_int,z,P];have t:Gj u v w e=false->(bif !(decide (e.1.y*w<=v)==decide (e.2.y*w<=v))then(bif gtI (iC (Tq e.1 e.2 u v w)) 0==decide (e.1.y*w<=v)then some ([AV.p (.int .i64 (Gw u v w (!acc) r))],([]:List Blk))else some ([AV.p (.int .i64 (Gw u v w acc r))],[]))else some ([AV.p (.int .i64 (Gw u v w acc r))],[]))=some ([.p (.int .i64 (Gw u v w acc (e::r)))],[]):=λF=>by rw[Hr,F,<- UY c e F,show gtI (iC (Tq e.1 e.2 u v w)) 0=decide (0<iC (Tq e.1 e.2 u v w)) from rfl];cases decide (e.1.y*w<=v)<;>cases decide (e.2.y*w<=v)<;>cases decide (0<iC (Tq e.1 e.2 u v w))<;>cases acc<;>rfl
   cases s:(iC (Tq e.1 e.2 u v w)==0)with
   | false=>rw[qCf];exact t (by rw[o,s];rfl)
   | true =>
    rw[qCt];cases c1:decide (btw (e.1.x*w) (e.2.x*w) u)with
    | false=>rw[qCf];exact t (by rw[o,s,c1];rfl)
    | true =>
     rw[qCt];cases c2:decide (btw (e.1.y*w) (e.2.y*w) v)with
     | false=>rw[qCf];exact t (by rw[o,s,c1,c2];rfl)
     | true =>rw[qCt,Hr,o,s,c1,c2];rfl
theorem c49{l:List V3}(a:dM l=true)(h:Uf n d m q u v w k)(b:0<w)(e:3<=k)(c:k<=60000):run tab X 49 [.p (.list true kV3 (encL l)),.p (Gl n d m q)] []=some ([.p (.int .i64 (wW l u v w))],[]):=by have rd:=lT a;have f:=gI a;refine run_of (hX _ rfl) ?_;rw[Gl,e49,c44 X hX l (by omega),qOb];simp only[qLh,AV.freshList,wL,qLm];rw[<- Qz a b];exact l49 X hX (dL l) (pO rd) (by rw[jg];omega) h b e c _ 0 false rfl (by omega)
end
end
section
open Go.Skm.Dig
def OO(k:Nat)(o:List V3)(x:kX):Bool:=if k=0 then decide (0<=y9 o x.1)else decide (y9 o x.1<0)
def SV(k:Nat)(o:List V3)(x:kX):Bool:=edgeOk x o&&OO k o x
def DX(f:Fen)(i:Nat):List (List V3):=f.outer::(f.holes.take i++f.holes.drop (i+1))
def NH(f:Fen)(i:Nat):Bool:=jw (λk=>(dL (gh f.holes i)).all (SV k (gh (DX f i) k))) 0 (DX f i).length
def IV(f:Fen):Bool:=AB f&&(f.holes.all dM&&jw (NH f) 0 f.holes.length)
theorem QC(n d m e:Int):PV.agg [.bool (((Gl n d m e).cell 0).toBool),.list false kI (((Gl n d m e).cell 1).toList),.bool (((Gl n d m e).cell 2).toBool),.list false kI (((Gl n d m e).cell 3).toList),.bool (((Gl n d m e).cell 4).toBool),.list false kI (((Gl n d m e).cell 5).toList),.bool (((Gl n d m e).cell 6).toBool),.list false kI (((Gl n d m e).cell 7).toList)]=Gl n d m e:=rfl
theorem yM{l:List V3}(h:dM l=true):l.length<=64:=(gI h).2.1
abbrev y1:List Wy:=[.lp [1,1,1,0,1,0]]
abbrev y2:List Wy:=[.lp [1,1,1,0,1,0],.lp [1,0,0,1,1,1,0]]
abbrev y3:List Wy:=[.lp [1,1,1,0,1,0],.lp [1,0,0,1,1,1,0],.lp [1,0,0,1,0]]
abbrev y4:List Wy:=[.lp [1,1,1,0,1,0],.lp [1,0,0,1,1,1,0],.lp [1,0,0,1,0],.lp [1,1,0,0,1,0,1,0]]
section
variable (X:Ext) (hX:Mine X)
include hX
theorem abt(i n t:Int)(C A:List PV)(w v:Int)(B:List PV)(G:IntKind.i64.wrap (t+1)=n)(b:Nat)(a:Int)(os:List (List V3))(g:∀ o∈os,dM o=true)(M:os.length<=1000)(k:Nat)(h:k<os.length)(x:kX)(f:mW x.1/\mW x.2)(R:Bool)
    (K:L tab (run tab X) 17 [] y3 (dD i 0 os.length (k:Int) 0 b a n C A w v (bI os) B)=some ([.p (.bool R)],[]))(es:List kX)(d:∀ e∈es,mW e.1/\mW e.2)(J:es.length<=1000):∀(r:List kX) (j:Nat),es.drop j=r->j<=es.length ->
    L tab (run tab X) 17 [] y4 (dU i 0 os.length (k:Int) 0 b a t 0 es.length (es.length:Int) (j:Int) C A w v (bI os) B x.1.x x.1.y x.1.z x.2.x x.2.y x.2.z (es.map J8)) =
     some ([.p (.bool (r.all (λy=>!qY x.1 x.2 y.1 y.2)&&(OO k (gh os k) x&&R)))],[]):=by
  intro r;induction r with
  | nil =>intro j hd c;have l:j=es.length:=Nat.le_antisymm c (List.drop_eq_nil_iff.1 hd);subst l;have H:=g _ (uO h);have s:=c50 X hX x.1 f.1;simp only[encV]at s;have D:=c49 X hX H (QB f.1) (by decide) (by decide) (by decide);refine L_of ?_;rw[je,y8 (by omega),qCf];simp only[rng h,qCt,qIt,qNz,gJ os h,s,qOb,qLh,pv_p,QC,G,K];show(run tab X 49 [.p (.list true kV3 (encL (gh os k))),.p (Gl x.1.x 1 x.1.y 1)] []).bind _=_;rw[D,qOb];simp only[qLh,pv_p,toInt_int];show _=some ([AV.p (.bool (OO k (gh os k) x&&R))],[]);have F:wW (gh os k) x.1.x x.1.y 1=y9 (gh os k) x.1:=rfl;rw[F];unfold OO;grind
  | cons y r E =>intro j hd _;obtain⟨I,c,m,u⟩:=Bg hd;have q:=c46 X hX x.1 x.2 y.1 y.2 f.1 f.2 (d y u).1 (d y u).2;simp only[uh]at q;refine L_of ?_;rw[je,rM c,qCt];simp only[rng c,qCt,qIt,qNz,I,AY,AZ,A8,Ba,Bc,Bf,q,qOb,qLh,pv_p,toBool_bool,dZ (show j<=9000000000000000000 by omega),E (j+1) m c,List.all_cons];grind
theorem abu(i:Int)(n m:List PV)(l j:Int)(os:List (List V3))(b:∀ o∈os,dM o=true)(u:os.length<=1000)(k:Nat)(c:k<os.length)(R:Bool)
    (A:L tab (run tab X) 17 [] y2 (iY i 0 os.length ((k+1:Nat):Int) n m l j (bI os))=some ([.p (.bool R)],[]))(es:List kX)(g:∀ e∈es,mW e.1/\mW e.2)(y:es.length<=1000):∀(r:List kX) (t:Nat),es.drop t=r->t<=es.length ->
    L tab (run tab X) 17 [] y3 (dD i 0 os.length (k:Int) 0 es.length (es.length:Int) (t:Int) n m l j (bI os) (es.map J8))=some ([.p (.bool (r.all (SV k (gh os k))&&R))],[]):=by
  intro r;induction r with
  | nil =>intro t hd a;have d:t=es.length:=Nat.le_antisymm a (List.drop_eq_nil_iff.1 hd);subst d;refine L_of ?_;rw[ny,y8 (by omega),qCf,dZ (by omega)];exact A
  | cons x r s =>intro t hd _;obtain⟨w,a,h,v⟩:=Bg hd;have f:=b _ (uO c);have q:=c44 X hX (gh os k) (by have:=yM f;omega);have z:=abt X hX i ((t+1:Nat):Int) (t:Int) n m l j (es.map J8) (dZ (by omega)) es.length (es.length:Int) os b u k c x (g x v) _ (s (t+1) h a) (dL (gh os k)) (pO (lT f)) (by rw[jg];have:=yM f;omega) _ 0 qLy (Nat.zero_le _);refine L_of ?_;rw[ny,rM a,qCt];simp only[rng a,rng c,qCt,qIt,qNz,gJ os c];show(run tab X 44 [.p (.list true kV3 (encL (gh os k)))] []).bind _=_;rw[q,qOb];simp only[qLh,AV.freshList,wL,qLm,w,AY,AZ,A8,Ba,Bc,Bf];grind[Bool.and_assoc,SV,edgeOk]
theorem abv(l:List PV)(j g:Int)(a:List (List V3))(e:∀ h∈a,dM h=true)(r:a.length<=1000)(i:Nat)(d:i<a.length)(os:List (List V3))(c:∀ o∈os,dM o=true)(s:os.length<=1000)(R:Bool)
    (u:L tab (run tab X) 17 [] y1 (S17_111010 ((i+1:Nat):Int) l (bI a) j g)=some ([.p (.bool R)],[])):∀ m k,k+m=os.length ->
    L tab (run tab X) 17 [] y2 (iY (i:Int) 0 os.length (k:Int) l (bI a) j g (bI os))=some ([.p (.bool (jw (λk=>(dL (gh a i)).all (SV k (gh os k))) k m&&R))],[]):=by
  intro m;induction m with
  | zero =>intro k t;refine L_of ?_;rw[sZ,y8 (by omega),qCf,dZ (by omega)];exact u
  | succ m n =>
   intro k t;have b:k<os.length:=by omega
   have f:=e _ (uO d);have q:=c44 X hX (gh a i) (by have:=yM f;omega);have v:=abu X hX (i:Int) l (bI a) j g os c s k b _ (n (k+1) (by omega)) (dL (gh a i)) (pO (lT f)) (by rw[jg];have:=yM f;omega) _ 0 qLy (Nat.zero_le _);refine L_of ?_;rw[sZ,rM b,qCt];simp only[bG,rng d,qCt,qIt,gJ a d];show(run tab X 44 [.p (.list true kV3 (encL (gh a i)))] []).bind _=_;rw[q,qOb];simp only[qLh,AV.freshList,wL,qLm];refine v.trans ?_;show _=some ([AV.p (.bool ((((dL (gh a i)).all (SV k (gh os k)))&&jw _ (k+1) m)&&R))],[]);grind
end
end
section
open Go.Skm.Dig
theorem OQ(f:Fen)(i:Nat):bI (DX f i)=[PV.list true kV3 (encL f.outer)]++(bI f.holes).take i++(bI f.holes).drop (i+1):=by unfold bI DX;simp
theorem J9(f:Fen){i:Nat}(h:i<f.holes.length):(DX f i).length=f.holes.length:=by grind[DX]
theorem OT{f:Fen}(b:dM f.outer=true)(c:∀ h∈f.holes,dM h=true)(i:Nat):∀ o∈DX f i,dM o=true:=by intro o a;rcases List.mem_cons.1 a with rfl | a;all_goals grind
section
variable (X:Ext) (hX:Mine X)
include hX
theorem abw(f:Fen)(o:dM f.outer=true)(e:∀ h∈f.holes,dM h=true)(s:f.holes.length<=16):∀ m i,i+m=f.holes.length ->
    L tab (run tab X) 17 [] y1 (S17_111010 (i:Int) (encL f.outer) (bI f.holes) f.low f.high)=some ([.p (.bool (jw (NH f) i m))],[]):=by
  intro m;induction m with
  | zero =>intro i q;refine L_of ?_;rw[e17_111010,bG,y8 (by omega),qCf];rfl
  | succ m n =>
   intro i q;have c:i<f.holes.length:=by omega
   have t:=J9 f c;have r:=abv X hX (encL f.outer) f.low f.high f.holes e (by omega) i c (DX f i) (OT o e i) (by omega) _ (n (i+1) (by omega)) (DX f i).length 0 (by omega);have l:((((bI f.holes).drop 0).take i).length:Nat)=i:=by rw[qLy,List.length_take,bG];omega
   have k:((((f.holes.length:Nat):Int)-((i+1:Nat):Int)).toNat)=f.holes.length-(i+1):=by omega
   have j:(((bI f.holes).drop (i+1)).take (f.holes.length-(i+1)))=(bI f.holes).drop (i+1):=List.take_of_length_le (by rw[List.length_drop,bG];omega);have g:((bI f.holes).drop (i+1)).length=f.holes.length-(i+1):=by rw[List.length_drop,bG]
   have d:∀{a b:Nat},a<=b->leI (a:Int) ((b:Nat):Int)=true:=λh=>decide_eq_true (by omega);refine L_of ?_;rw[e17_111010,bG,rM c,qCt,dZ (by omega)];simp only[le0,d (qNr f.holes.length),d (Nat.le_of_lt c),d (show i+1<=f.holes.length from c),qBs,qCt,Int.sub_zero,qIt,l,k,j,g];rw[show leN (1+i) 2147483648=true from decide_eq_true (by omega),qCt,show leN (1+i+(f.holes.length-(i+1))) 2147483648=true from decide_eq_true (by omega),qCt,show 1+i+(f.holes.length-(i+1))=(DX f i).length by omega];rw[show((([PV.list true kV3 (encL f.outer)]++((bI f.holes).drop 0).take i).drop 0).take (1+i))++(bI f.holes).drop (i+1)=bI (DX f i) by grind[qLp,List.length_singleton,List.length_take,OQ,qLy]];exact r
theorem abx(f:Fen)(o:dM f.outer=true)(s:f.holes.length<=16)(c:∀ h∈f.holes,h.length<=1000000)(R:Bool)
    (l:(∀ h∈f.holes,dM h=true)->L tab (run tab X) 17 [] y1 (S17_111010 0 (encL f.outer) (bI f.holes) f.low f.high)=some ([.p (.bool R)],[])):∀(r:List (List V3)) (i:Nat),f.holes.drop i=r->i<=f.holes.length->(∀ h∈f.holes.take i,dM h=true) ->
    L tab (run tab X) 17 [] [.lp [1,1,0,1,0]] (yF (i:Int) (encL f.outer) (bI f.holes) f.low f.high)=some ([.p (.bool (r.all dM&&R))],[]):=by
  intro r;induction r with
  | nil =>intro i hd b a;have d:i=f.holes.length:=Nat.le_antisymm b (List.drop_eq_nil_iff.1 hd);subst d;rw[List.take_length]at a;refine L_of ?_;rw[GU,bG,y8 (by omega),qCf];exact l a
  | cons h r g =>
   intro i hd _ a;have e:f.holes[i]?=some h:=by have:=congrArg (·[0]?) hd;grind
   have b:=(qLa.1 e).1;have k:gh f.holes i=h:=by simp[gh,List.getD,e]
   have j:=qLe e;have q:=c13 X hX h (c h j);rw[EW]at q;refine L_of ?_;rw[GU,bG,rM b,qCt];simp only[rng b,qCt,qIt,gJ f.holes b,k,dZ (show i<=9000000000000000000 by omega)];show(run tab X 13 [.p (.list true kV3 (encL h))] []).bind _=_;rw[q,qOb,List.all_cons];simp only[qLh,pv_p,toBool_bool];cases n:dM h with
   | false=>rfl
   | true =>rw[qBt,qCf,Bool.true_and];refine g (i+1) (by rw[<- List.drop_drop,hd];rfl) b λx m=>?_;grind
theorem c17(f:Fen)(c:nO f):run tab X 17 [.p (encF f)] []=some ([.p (.bool (IV f))],[]):=
 run_of (hX _ rfl) (by
  have q:=c13 X hX f.outer c.outer;rw[EW]at q;rw[encF,e17,q,qOb];simp only[qLh,pv_p,toBool_bool,bG];unfold IV AB;cases b:dM f.outer with
  | false=>rfl
  | true =>
   rw[qBt,qCf,Bool.true_and];by_cases a:f.holes.length<=16
   . rw[show gtI ((f.holes.length:Nat):Int) (16:Int)=false from decide_eq_false (by omega),qCf];by_cases i:-1048576<=f.low
     . rw[show ltI f.low (-1048576)=false from decide_eq_false (by omega),qCf];by_cases g:f.high<=1048576
       . rw[show gtI f.high 1048576=false from decide_eq_false (by omega),qCf];by_cases h4:f.low<=f.high
         . rw[show gtI f.low f.high=false from decide_eq_false (by omega),qCf,decide_eq_true ⟨a,i,g,h4⟩,Bool.true_and];exact abx X hX f b a c.holes _ (λe=>abw X hX f b e a f.holes.length 0 (by omega)) f.holes 0 qLy (Nat.zero_le _) (λh d=>by simp at d)
         grind
       grind
     grind
   grind)
theorem c53(n:Int)(h:-1000000000000000<=n/\n<=1000000000000000):run tab X 53 [.p (.int .i64 n)] []=some ([.p (.int .i64 (Cc n))],[]):=by
 refine run_of (hX _ rfl) ?_;rw[e53,Ns];by_cases c:n<0
 . rw[show ltI n 0=true from decide_eq_true c,qCt,wrap_eq (by omega) (by omega),show 0-n=(n.natAbs:Int) by omega]
 grind
theorem UZ{l:List V3}(h:dM l=true):run tab X 54 [.p (.list true kV3 (encL l))] []=some ([.p (.int .i64 (kG l))],[]):=by obtain⟨b,c,a⟩:=gI h;rw[LH l b];exact c54 X hX l (by omega) a
theorem l19(q:List PV)(o m:Int)(a:List (List V3))(k:∀ h∈a,dM h=true)(f:a.length<=16):∀(r:List (List V3)) (i:Nat) (n:Int),a.drop i=r->i<=a.length→-((i:Int)*1000000000000000)<=n/\n<=1000000000000000 ->
    L tab (run tab X) 19 [] [.lp [1,1,0,1,0]] (yG n (i:Int) q (bI a) o m)=some ([.p (.int .i64 (n-uP r))],[]):=by
  intro r;induction r with
  | nil =>intro i n hd b _;have d:i=a.length:=Nat.le_antisymm b (List.drop_eq_nil_iff.1 hd);subst d;refine L_of ?_;rw[GV,bG,y8 (by omega),qCf,uP,Int.sub_zero]
  | cons h r j =>
   intro i n hd _ t;have e:a[i]?=some h:=by have:=congrArg (·[0]?) hd;grind
   have b:=(qLa.1 e).1;have l:gh a i=h:=by simp[gh,List.getD,e]
   have c:=k h (qLe e);have g:=wH c;have hA:=AL g;refine L_of ?_;rw[GV,bG,rM b,qCt];simp only[rng b,qCt,qIt,gJ a b,l,dZ (show i<=9000000000000000000 by omega)];show(run tab X 54 [.p (.list true kV3 (encL h))] []).bind _=_;rw[UZ X hX c,qOb];simp only[qLh,pv_p,toInt_int];rw[c53 X hX _ g,qOb];simp only[qLh,pv_p,toInt_int];have s:(i:Int)<=16:=by omega
   rw[wrap_eq (by omega) (by omega),uP,j (i+1) (n-Cc (kG h)) (by rw[<- List.drop_drop,hd];rfl) b ⟨by push_cast;omega,by omega⟩];grind
theorem c19(f:Fen)(h:validP f=true):run tab X 19 [.p (encF f)] []=some ([.p (.int .i64 (Uc f))],[]):=by
 obtain⟨b,d⟩:=kD h;have c:f.holes.length<=16:=by unfold validP AB at h;grind
 have a:=wH b;have hA:=AL a;refine run_of (hX _ rfl) ?_;rw[encF,e19,UZ X hX b,qOb];simp only[qLh,pv_p,toInt_int];rw[c53 X hX _ a,qOb];simp only[qLh,pv_p,toInt_int];exact l19 X hX (encL f.outer) f.low f.high f.holes d c f.holes 0 _ qLy (Nat.zero_le _) ⟨by omega,by omega⟩
end
end
section
variable {l:List V3}{i:Nat}
theorem wM{e:kX}:e∈dL l↔∃ i,i<l.length/\e=(flat (ca l i),flat (cb l i)):=by show e∈(List.range l.length).map _↔_;grind
theorem SX(a:Pt):scp 1 a=a:=by unfold scp;simp
theorem NI(l:List V3)(p:V3):y9 l p=TW (pts l) l.length (pt p):=by show TW (λi=>scp 1 (pts l i)) _ _=_;rw[show(λi=>scp 1 (pts l i))=pts l from funext λi=>SX _];rfl
theorem QD{a b:V3}(h:edgeOk (flat a,flat b) l=true):y9 l a=y9 l b:=by rw[NI,NI];refine QE (Nj l) λi d c=>?_;have:=List.all_eq_true.1 h _ (wM.2 ⟨i,d,rfl⟩);rw[qBb,G6,decide_eq_false_iff_not]at this;refine this ?_;show meet (pt a) (pt b) (pt (ca l i)) (pt (cb l i));rw[Az,EU d]at c;exact c
theorem SY{o:List V3}(h:∀ e∈dL l,edgeOk e o=true)(i:Nat)(a:i<l.length):y9 o (gt l i)=y9 o (gt l 0):=by
 induction i with
 | zero=>rfl
 | succ i b =>
  have d:=QD (h _ (wM.2 ⟨i,by omega,rfl⟩));have c:cb l i=gt l (i+1):=by show gt l (qh l.length i)=_;unfold qh;rw[Nat.mod_eq_of_lt a]
  grind
theorem FN{outer:List V3}:∀(a all:List (List V3)),tJ outer all a=true↔∀ i,i<a.length->EY outer (all++a.take i) (gh a i)=true
 |[],all=>by simp[tJ]
 | h::r,all=>by
  rw[tJ,qBa,FN r];constructor
  . rintro ⟨d,e⟩ i b;cases i with
    | zero=>simpa[gh] using d
    | succ i=>grind
  . intro c;refine⟨by simpa[gh] using c 0 (by simp),λi b=>?_⟩;have:=c (i+1) (by simpa using b);grind
theorem IW(f:Fen){j:Nat}(b:i<f.holes.length)(a:j+1<f.holes.length):gh (DX f i) (j+1)=gh f.holes (if j<i then j else j+1):=by show((f.holes.take i++f.holes.drop (i+1)).getD j [])=_;grind
theorem Ht(f:Fen)(b:i<f.holes.length):NH f i=true↔(∀ e∈dL (gh f.holes i),edgeOk e f.outer=true/\0<=y9 f.outer e.1)/\∀ k,k<f.holes.length->k≠i->∀ e∈dL (gh f.holes i),edgeOk e (gh f.holes k)=true/\y9 (gh f.holes k) e.1<0:=by
 unfold NH;rw[iZ,J9 f b];have g:∀ o e,SV 0 o e=true↔edgeOk e o=true/\0<=y9 o e.1:=λo e=>by simp[qBa,qDa,SV,OO]
 have d:∀ k o e,SV (k+1) o e=true↔edgeOk e o=true/\y9 o e.1<0:=λk o e=>by simp[qBa,qDa,SV,OO]
 constructor
 . intro h;refine⟨λe a=>?_,λk n m e a=>?_⟩
   . have:=h 0 (by omega) (by omega);rw[List.all_eq_true]at this;exact(g _ _).1 (this e a)
   . by_cases c:k<i
     . have:=h (k+1) (by omega) (by omega);rw[List.all_eq_true]at this;have:=(d _ _ _).1 (this e a);rwa[IW f b (by omega),if_pos c]at this
     . obtain⟨j,rfl⟩:∃ j,k=j+1:=⟨k-1,by omega⟩;have:=h (j+1) (by omega) (by omega);rw[List.all_eq_true]at this;have:=(d _ _ _).1 (this e a);rwa[IW f b (by omega),if_neg (by omega)]at this
 . rintro ⟨p,q⟩ k _ n;rw[List.all_eq_true];intro e a;cases k with
   | zero=>exact(g _ _).2 (p e a)
   | succ k =>rw[d,IW f b (by omega)];grind
theorem LP(h:0<l.length):(flat (ca l 0),flat (cb l 0))∈dL l:=wM.2 ⟨0,h,rfl⟩
theorem vG(f:Fen):IV f=validP f:=by
 unfold IV validP;cases E:AB f with
 | false=>rfl
 | true =>
  rw[Bool.true_and,Bool.true_and,Bool.eq_iff_iff,qBa,qBa,FN,iZ,List.all_eq_true];have w:∀{i},(∀ h∈f.holes,dM h=true)->i<f.holes.length->dM (gh f.holes i)=true:=λh a=>h _ (uO a);constructor
  . rintro ⟨q,z⟩;have n:∀ i (a:i<f.holes.length),_:=λi a=>(Ht f a).1 (z i (Nat.zero_le _) (by omega));refine⟨λi a=>?_,?_⟩
    . unfold EY;rw[qBa,List.all_eq_true];refine⟨w q a,λe d=>?_⟩;rw[qBa,qDa,List.all_eq_true];obtain⟨y,x⟩:=n i a;refine⟨(y e d).2,λo r=>?_⟩;rcases List.mem_append.1 r with r | r
      . grind
      . obtain⟨j,t,rfl⟩:=List.getElem_of_mem r;rw[List.length_take]at t;have C:j<i:=by omega
        have:=(x j (by omega) (by omega) e d).1;rw[List.getElem_take];simpa[gh,List.getD,qLd (show j<f.holes.length by omega)] using this
    . unfold Iz;rw[iZ];intro i _ a;rw[iZ];intro k _ s;unfold qR;split
      . rfl
      . rename_i b;have v:=(gI (w q (show i<f.holes.length by omega))).1;have:=((n i (by omega)).2 k (by omega) (λe=>b e.symm) _ (LP (by omega))).2;have e:y9 (gh f.holes k) (flat (ca (gh f.holes i) 0))=y9 (gh f.holes k) (gt (gh f.holes i) 0):=rfl;grind
  . rintro ⟨hp,u⟩;have p:∀ i,i<f.holes.length->dM (gh f.holes i)=true/\∀ e∈dL (gh f.holes i),0<=y9 f.outer e.1/\edgeOk e f.outer=true/\∀ j,j<i->edgeOk e (gh f.holes j)=true:=λi a=>by
     have:=hp i a;unfold EY at this;rw[qBa,List.all_eq_true]at this;refine⟨this.1,λe d=>?_⟩;have g:=this.2 e d;rw[qBa,qDa,List.all_eq_true]at g;refine⟨g.1,g.2 _ (by simp),λj t=>g.2 _ (List.mem_append.2 (.inr ?_))⟩;have B:j<f.holes.length:=by omega
     have F:gh f.holes j=(f.holes.take i)[j]'(by rw[List.length_take];omega):=by grind
     grind
    have q:∀ h∈f.holes,dM h=true:=λh A=>by obtain⟨i,a,rfl⟩:=List.getElem_of_mem A;grind
    have m:∀{i k},i<f.holes.length->k<f.holes.length->k≠i->∀ e∈dL (gh f.holes i),edgeOk e (gh f.holes k)=true:=by
     intro i k a s b e d;rcases Nat.lt_or_gt_of_ne b with c | c
     . grind
     grind[List.all_eq_true,FD,edgeOk]
    refine⟨q,λi _ a=>?_⟩;have a:i<f.holes.length:=by omega
    rw[Ht f a];refine⟨λe d=>⟨((p i a).2 e d).2.1,((p i a).2 e d).1⟩,λk s b e d=>⟨m a s b e d,?_⟩⟩;obtain⟨j,t,rfl⟩:=wM.1 d;have D:=SY (m a s b) j t;unfold Iz at u;rw[iZ]at u;have g:=u i (Nat.zero_le _) (by omega);rw[iZ]at g;have v:=g k (Nat.zero_le _) (by omega);unfold qR at v;rw[if_neg (λe=>b e.symm),qBb,decide_eq_false_iff_not,<- D]at v;show y9 (gh f.holes k) (gt (gh f.holes i) j)<0;omega
end
end Go.Skm.Fen
