import Derived.Test.YtoheflpoanjihaaGreatG3
import Derived.Test.YtoheflpoanjihaaGreatG19
import Derived.Test.YtoheflpoanjihaaGreatEqv3
import Derived.Test.YtoheflpoanjihaaGreatG10
import Derived.Test.YtoheflpoanjihaaGreatG15
import Derived.Test.YtoheflpoanjihaaGreatG8
import Derived.Test.YtoheflpoanjihaaGreatPolyI
set_option linter.all false
namespace Go.Skm.Fen
open Go Go.Skm
section
open Go.Skm.Dig
variable {D E M N a b n:Int}{k:Nat}{x y:PV}
theorem VL(n d:Int):PV.agg [PV.bool (decide (n<0)),Ao (nI n.natAbs),PV.bool (decide (d<0)),Ao (nI d.natAbs)]=eQ n d:=rfl
theorem JM(n d:Int):PV.agg [.bool (((eQ n d).cell 0).toBool),Ao (((eQ n d).cell 1).toList),.bool (((eQ n d).cell 2).toBool),Ao (((eQ n d).cell 3).toList)]=eQ n d:=rfl
def IsQ(v:PV)(N D:Int)(k:Nat):Prop:=∃ n d,v=eQ n d/\0<d/\n*D=N*d/\nO n k/\nO d k
theorem ab6(h:a.natAbs<=b.natAbs)(c:nO b k):nO a k:=Nat.le_trans (xB h) c
theorem GK(a:Int)(h:b≠0):D5 a b*b=a*D6 a b:=by
 have j:0<Int.gcd a b:=Nat.pos_of_ne_zero λe=>h (Int.gcd_eq_zero_iff.1 e).2;obtain⟨x,f⟩:=Int.gcd_dvd_left (a:=a) (b:=b);obtain⟨y,d⟩:=Int.gcd_dvd_right (a:=a) (b:=b);unfold D5 D6;generalize Int.gcd a b=g at *;have c:(g:Int)≠0:=by omega
 have m:a / (g:Int)=x:=by rw[f];exact Int.mul_ediv_cancel_left x c
 have i:(b.natAbs:Int)=g*y.natAbs:=by rw[d,Int.natAbs_mul];simp
 have l:(b.natAbs:Int) / (g:Int)=y.natAbs:=by rw[i];exact Int.mul_ediv_cancel_left _ c
 grind
theorem aec{c d A B C:Int}(h:0<b)(hd:0<d)(j:0<B)(i:0<D)(m:a*B=A*b)(l:c*D=C*d):(a*d-c*b).sign=(A*D-C*B).sign:=by
 have e:(a*d-c*b)*(B*D)=(A*D-C*B)*(b*d):=by grind
 have g:0<B*D:=Int.mul_pos j i;have f:0<b*d:=Int.mul_pos h hd;have:=congrArg Int.sign e;rwa[Int.sign_mul (a*d-c*b),Int.sign_mul (A*D-C*B),Int.sign_eq_one_of_pos g,Int.sign_eq_one_of_pos f,Int.mul_one,Int.mul_one]at this
theorem Ul(h:nO n k)(c:1<=k):IsQ (eQ n 1) n 1 k:=⟨n,1,rfl,by decide,rfl,h,Nat.le_trans (by show(bG B9 1).length<=1;exact EN (by decide)) c⟩
theorem Pn(d:-9223372036854775808<=n)(c:n<=9223372036854775807):nO n 3:=EN (by show _<1000000000^3;omega)
section
variable (X:Ext) (hX:Mine X)
include hX
theorem c57(n:Int)(d:-9223372036854775808<=n)(c:n<=9223372036854775807):run tab X 57 [Ab n] []=some ([.p (eQ n 1)],[]):=
 aY (hX _ rfl) (by rw[e57,c71 X hX n d c,qOb,c71 X hX 1 (by decide) (by decide),qOb];rfl)
theorem anx(j:IsQ x N D k)(i:IsQ y M E k)(c:k<=300000)(r:0<D)(q:0<E):run tab X 67 [.p x,.p y] []=some ([Ab (N*E-M*D).sign],[]):=by obtain⟨n,d,rfl,t,o,h,s2⟩:=j;obtain⟨m,e,rfl,s,l,g,f⟩:=i;rw[c67 X hX n d m e ⟨fA h c,fA s2 c,by omega⟩ ⟨fA g c,fA f c,by omega⟩,aec t s r q o l]
theorem afS(f:nO a k)(d:nO b k)(c:b≠0)(g:a*D=N*b):IsQ (eQ (D5 a b) (D6 a b)) N D k:=by
 have _:=hX;refine⟨_,_,rfl,yD c,?_,ab6 (Vu a b) f,ab6 (Vw a b) d⟩;have h:=GK a c;have e:(D5 a b*D)*b=(N*D6 a b)*b:=by grind
 exact Int.eq_of_mul_eq_mul_right c e
theorem apK(j:IsQ x N D k)(i:IsQ y M E k)(c:k<=300000):∃ r s,run tab X 85 [.p x,.p y] []=some ([.p (eQ r s)],[])/\IsQ (eQ r s) (N*M) (D*E) (k+k):=by obtain⟨n,d,rfl,t,o,h,s2⟩:=j;obtain⟨m,e,rfl,q,l,g,f⟩:=i;refine⟨_,_,c85 X hX n d m e ⟨fA h c,fA s2 c,by omega⟩ ⟨fA g c,fA f c,by omega⟩,afS X hX (rH h g) (rH s2 f) (Int.mul_ne_zero (by omega) (by omega)) ?_⟩;grind
theorem apL(j:IsQ x N D k)(i:IsQ y M E k)(c:k<=300000):∃ r s,run tab X 145 [.p x,.p y] []=some ([.p (eQ r s)],[])/\IsQ (eQ r s) (N*E-M*D) (D*E) (k+k+1):=by
 obtain⟨n,d,rfl,t,o,h,s2⟩:=j;obtain⟨m,e,rfl,q,l,g,f⟩:=i;refine⟨_,_,c145 X hX n d m e ⟨fA h c,fA s2 c,by omega⟩ ⟨fA g c,fA f c,by omega⟩,afS X hX ?_ (fA (rH s2 f) (by omega)) (Int.mul_ne_zero (by omega) (by omega)) ?_⟩
 . rw[Int.sub_eq_add_neg];exact ab7 (rH h f) (JO (fA (rH g s2) (by omega)))
 grind
end
end
section
open Go.Skm.Dig
variable {u v w:Int}
def ePl(n d m e:Int):PV:=.agg [.bool (decide (n<0)),Ao (nI n.natAbs),.bool (decide (d<0)),Ao (nI d.natAbs),.bool (decide (m<0)),Ao (nI m.natAbs),.bool (decide (e<0)),Ao (nI e.natAbs)]
def IsP(n d m e:Int)(u v w:Int)(k:Nat):Prop:=IsQ (eQ n d) u w k/\IsQ (eQ m e) v w k
def tgQ(u v w:Int)(e:pG):Bool:=crQ u v w e != 0
def X0(u v w:Int)(acc:Bool)(es:List pG):Int:=if es.any (onQ u v w)then 0 else if es.foldl (λb e=>b != tgQ u v w e) acc then 1 else -1
theorem YD(u v w:Int)(acc:Bool)(e:pG)(r:List pG):X0 u v w acc (e::r)=if onQ u v w e then 0 else X0 u v w (acc != tgQ u v w e) r:=by unfold X0;grind
theorem anz(f:0<w)(e:pG)(h:onQ u v w e=false) :
    ((!((decide (e.1.y*w<=v))==(decide (e.2.y*w<=v))))&&((decide (0<nG (Tq e.1 e.2 u v w)))==(decide (e.1.y*w<=v))))=tgQ u v w e:=by
  have g:∀ x,nG (x-v)<=0↔x<=v:=λx=>by have:=@zN (x-v);omega
  have hp:∀ x,0<nG (x-v)↔¬ x<=v:=λx=>by grind
  have i:nG (Tq e.1 e.2 u v w)=0->¬(e.2.y*w<=v/\¬ e.1.y*w<=v):=λd j=>by rw[Uj f,decide_eq_false_iff_not]at h;refine h (sD.1 (GL ?_ (show w*e.2.y<w*e.1.y by rw[Int.mul_comm w,Int.mul_comm w];omega) (show w*e.2.y<=v by rw[Int.mul_comm];omega) (show v<=w*e.1.y by rw[Int.mul_comm];omega)));show turn (scp w (pt e.2)) (scp w (pt e.1)) ⟨u,v⟩=0;rw[mG,Ui,O6.1 d];simp
  unfold tgQ crQ;simp only[g,hp];by_cases a:e.1.y*w<=v<;>by_cases b:e.2.y*w<=v<;>rcases DY (Tq e.1 e.2 u v w)with c | c | c<;>simp[a,b,c]
  exact absurd ⟨b,a⟩ (i c)
theorem ajb{l:List V3}(h:gG l=true)(c:0<w):X0 u v w false (fH l)=Ez l u v w:=by
 rw[<- ad1 c];unfold X0 whE;split
 . rfl
 . rename_i k;have hp:=QM h;have f:∀ n,n<=l.length->(EM l n).foldl (λb e=>b != tgQ u v w e) false=cross (λi=>scp w (pts l i)) ⟨u,v⟩ n:=by
    intro n;induction n with
    | zero=>intro _;rfl
    | succ n o =>intro r;rw[Ic,List.foldl_append,o (by omega)];show(_ !=(crQ u v w (flat (ca l n),flat (cb l n)) != 0))=(_ !=(cr ⟨u,v⟩ (scp w (pts l n)) (scp w (pts l (n+1))) != 0));rw[aiT c,zO,DZ (by omega)];rfl
   have g:Poly (λi=>scp w (pts l i)) l.length:=⟨hp.n3,λi=>by show scp w _=scp w _;rw[hp.per],λi e=>hp.ne i (by unfold scp at e;simp only[Pt.mk.injEq]at e;have x:=Int.eq_of_mul_eq_mul_left (by omega) e.1;have t:=Int.eq_of_mul_eq_mul_left (by omega) e.2;generalize pts l i=a at *;generalize pts l (i+1)=b at *;cases a;cases b;simp_all),λi m q p=>λd=>hp.far i m q p ((ab8 c).1 d),λi d=>hp.Po i ((Ii c).1 d),λi d=>hp.Pq i ((Ii c).1 d)⟩;have j:∀ i,¬ on (scp w (pts l i)) (scp w (pts l (i+1))) ⟨u,v⟩:=λi s=>k (List.any_eq_true.2 ⟨(flat (ca l (i%l.length)),flat (cb l (i%l.length))),List.mem_map.2 ⟨i%l.length,List.mem_range.2 (qNm _ (by have:=hp.n3;omega)),rfl⟩,by
    rw[Uj c,qDa,afD,afD];simp_all[Nat.mod_add_mod,pts,cb,qx]⟩)
   have:=aed g ⟨u,v⟩ j;rw[f _ (qNr _),this,ZO c l _ (qNr _)];show(if decide (qB _ _ _≠0)=true then(1:Int)else -1)=if qB _ _ _≠0 then 1 else -1
   simp
end
section
open Go.Skm.Dig
variable {a d m n u w:Int}{k:Nat}
theorem Z5(a b:V3):((ED a b).cell 0).toInt=a.x:=rfl
theorem Z7(a b:V3):((ED a b).cell 1).toInt=a.y:=rfl
theorem Z8(a b:V3):((ED a b).cell 2).toInt=a.z:=rfl
theorem Z9(a b:V3):((ED a b).cell 3).toInt=b.x:=rfl
theorem aac(a b:V3):((ED a b).cell 4).toInt=b.y:=rfl
theorem aad(a b:V3):((ED a b).cell 5).toInt=b.z:=rfl
theorem aee(a b u w:Int)(c:0<w):((sV a b)*w<=u/\u<=(sW a b)*w)↔BP (a*w) (b*w) u:=by
 unfold sV sW BP;have m:∀{x y:Int},x<=y->x*w<=y*w:=λh=>Int.mul_le_mul_of_nonneg_right h (by omega);by_cases h:b<a
 . have:=m (show b<=a by omega);grind
 grind
theorem ajc{b M:Int}(f:m<=a)(e:a<=M)(c:m<=b)(h4:b<=M):(m<=sV a b/\sV a b<=M)/\m<=sW a b/\sW a b<=M:=by grind[sV,sW]
theorem anA{p:V3}(hp:vN p):IsP p.x 1 p.y 1 p.x p.y 1 3:=by obtain⟨⟨a,b⟩,⟨c,d⟩,_⟩:=hp;exact⟨Ul (Pn (by omega) (by omega)) (by decide),Ul (Pn (by omega) (by omega)) (by decide)⟩
section
variable (X:Ext) (hX:Mine X)
include hX
theorem c50(p:V3)(hp:vN p):run tab X 50 [.p (cO p)] []=some ([.p (ePl p.x 1 p.y 1)],[]):=by obtain⟨⟨a,b⟩,⟨c,d⟩,_⟩:=hp;refine aY (hX _ rfl) ?_;rw[cO,e50,c71 X hX p.x (by omega) (by omega),qOb,c71 X hX 1 (by decide) (by decide),qOb,c71 X hX p.y (by omega) (by omega),qOb,qOb];rfl
theorem alu(f:-33554432<=a/\a<=33554432)(h:IsQ (eQ n d) u w k)(b:0<w)(e:3<=k)(c:k<=300000):run tab X 67 [.p (eQ a 1),.p (eQ n d)] []=some ([Ab (nG (a*w-u))],[]) /\
    run tab X 67 [.p (eQ n d),.p (eQ a 1)] []=some ([Ab (nG (u-a*w))],[]):=by
  have q:=Ul (n:=a) (fA (Pn (by omega) (by omega)) e) (by omega);refine⟨?_,?_⟩
  . rw[anx X hX q h c (by decide) b,JD,Int.mul_one]
  . rw[anx X hX h q c b (by decide),JD,Int.mul_one]
theorem c99(a b:Int)(i:-16777216<=a/\a<=16777216)(g:-16777216<=b/\b<=16777216)(h:IsQ (eQ n d) u w k)(e:0<w)(j:3<=k)(f:k<=300000) :
    run tab X 99 [Ab a,Ab b,.p (eQ n d)] []=some ([Ac (decide (BP (a*w) (b*w) u))],[]):=by
  obtain⟨⟨y,x⟩,v,t⟩:=ajc i.1 i.2 g.1 g.2;have q:=(alu X hX (a:=sV a b) ⟨by omega,by omega⟩ h e j f).1;have s:=(alu X hX (a:=sW a b) ⟨by omega,by omega⟩ h e j f).2;have o:=c57 X hX (sV a b) (by omega) (by omega);have l:=c57 X hX (sW a b) (by omega) (by omega);have m:=aee a b u w e;refine aY (hX _ rfl) ?_;rw[eQ,e99,o];simp only[qOb,qLh,bV,JM];rw[VL n d,q];simp only[qOb,qLh,bV,toInt_int];have r:=@zN (sV a b*w-u);have s2:=@zN (u-sW a b*w);by_cases c:sV a b*w<=u
  . rw[show leI (nG (sV a b*w-u)) 0=true from decide_eq_true (by omega),qCt,l];grind[qOb,qLh,bV,JM,toInt_int]
  . grind
theorem c98(a b:V3)(B:vN a)(A:vN b){e v:Int}(h:IsP n d m e u v w k)(c:0<w)(f:3<=k)(P:k<=60000) :
    run tab X 98 [.p (ED a b),.p (ePl n d m e)] []=some ([Ab (nG (Tq a b u v w))],[]):=by
  obtain⟨⟨W,V⟩,⟨U,T⟩,_⟩:=B;obtain⟨⟨b1,S⟩,⟨R,Q⟩,_⟩:=A;have q:∀ z:Int,-33554432<=z->z<=33554432->∀ j,3<=j->IsQ (eQ z 1) z 1 j:=λz D C j s=>Ul (fA (Pn (by omega) (by omega)) s) (by omega);have r:=λz (D:(-33554432:Int)<=z) (C:z<=33554432)=>c57 X hX z (by omega) (by omega);obtain⟨O,L,H,o⟩:=apL X hX h.2 (q a.y (by omega) (by omega) k f) (by omega);obtain⟨s2,K,G,l⟩:=apK X hX (q (b.x-a.x) (by omega) (by omega) (k+k+1) (by omega)) o (by omega);obtain⟨N,J,F,i⟩:=apL X hX h.1 (q a.x (by omega) (by omega) k f) (by omega);obtain⟨M,I,E,g⟩:=apK X hX (q (b.y-a.y) (by omega) (by omega) (k+k+1) (by omega)) i (by omega);have t:=anx X hX l g (by omega) (by rw[Int.one_mul,Int.mul_one];exact c) (by rw[Int.one_mul,Int.mul_one];exact c);refine aY (hX _ rfl) ?_;rw[ED,ePl,e98,wrap_eq (by omega) (by omega),wrap_eq (by omega) (by omega),r (b.x-a.x) (by omega) (by omega)];simp only[qOb,qLh,bV,JM];rw[r a.y (by omega) (by omega)];simp only[qOb,qLh,bV,JM];rw[VL m e,H];simp only[qOb,qLh,bV,JM];rw[G];simp only[qOb,qLh,bV,JM];rw[r (b.y-a.y) (by omega) (by omega)];simp only[qOb,qLh,bV,JM];rw[r a.x (by omega) (by omega)];simp only[qOb,qLh,bV,JM];rw[VL n d,F];simp only[qOb,qLh,bV,JM];rw[E];simp only[qOb,qLh,bV,JM];rw[t];simp only[qOb,qLh,bV,toInt_int];have e:(b.x-a.x)*(v*1-a.y*w)*(1*(w*1))-(b.y-a.y)*(u*1-a.x*w)*(1*(w*1))=Tq a b u v w*w:=by unfold Tq;grind
  rw[e,Int.sign_mul,Int.sign_eq_one_of_pos c,Int.mul_one,JD]
end
end
section
open Go.Skm.Dig
variable {d m n q u v w:Int}{k:Nat}
def edE(e:pG):PV:=ED e.1 e.2
theorem NM(l:List V3):wM l l.length=(fH l).map edE:=by show(List.range l.length).map _=((List.range l.length).map _).map edE;rw[List.map_map];rfl
theorem aae{a:List pG}{e:pG}{r:List pG}{i:Nat}(h:a.drop i=e::r):(a.map edE).getD i .nil=ED e.1 e.2/\i<a.length/\a.drop (i+1)=r/\e∈a:=by
 have b:a[i]?=some e:=by have:=congrArg (·[0]?) h;grind
 have c:=(qLa.1 b).1;refine⟨by simp[List.getD,b,edE],c,?_,qLe b⟩;rw[<- List.drop_drop,h];rfl
section
variable (X:Ext) (hX:Mine X)
include hX
theorem l49(c:List pG)(b:∀ e∈c,vN e.1/\vN e.2)(G:c.length<=1000000)(h:IsP n d m q u v w k)(f:0<w)(l:3<=k)(Q:k<=60000):∀(r:List pG) (i:Nat) (acc:Bool),c.drop i=r->i<=c.length ->
    L tab (run tab X) 49 [] [.lp [1,1,1,0,1,0]] (mJ 0 c.length acc (i:Int) (decide (n<0)) (nI n.natAbs) (decide (d<0)) (nI d.natAbs) (decide (m<0)) (nI m.natAbs) (decide (q<0)) (nI q.natAbs) (c.map edE))=some ([Ab (X0 u v w acc r)],[]):=by
  intro r;induction r with
  | nil =>intro i acc hd j;have B:i=c.length:=Nat.le_antisymm j (List.drop_eq_nil_iff.1 hd);subst B;refine dU ?_;rw[Vg,O3 (by omega),qCf];cases acc<;>rfl
  | cons e r O =>
   intro i acc hd _;obtain⟨R,j,C,A⟩:=aae hd;obtain⟨N,M⟩:=b e A;obtain⟨⟨Z,Y⟩,⟨W,V⟩,_⟩:=N;obtain⟨⟨b1,U⟩,⟨T,S⟩,_⟩:=M;have g:=c98 X hX e.1 e.2 (b e A).1 (b e A).2 h f l Q;simp only[ED,ePl]at g;have E:=c99 X hX e.1.x e.2.x ⟨by omega,by omega⟩ ⟨by omega,by omega⟩ h.1 f l (by omega);have D:=c99 X hX e.1.y e.2.y ⟨by omega,by omega⟩ ⟨by omega,by omega⟩ h.2 f l (by omega);have K:=c57 X hX e.1.y (by omega) (by omega);have J:=c57 X hX e.2.y (by omega) (by omega);have I:=(alu X hX (a:=e.1.y) ⟨by omega,by omega⟩ h.2 f l (by omega)).1;have H:=(alu X hX (a:=e.2.y) ⟨by omega,by omega⟩ h.2 f l (by omega)).1;have P:=λo=>O (i+1) o C j;have z:∀ x,leI (nG (x-v)) 0=decide (x<=v):=λx=>decide_eq_decide.2 (by have:=@zN (x-v);omega);have p:onQ u v w e=((nG (Tq e.1 e.2 u v w)==0)&&(decide (BP (e.1.x*w) (e.2.x*w) u)&&decide (BP (e.1.y*w) (e.2.y*w) v))):=by unfold onQ;rw[Uh,Uh]
   refine dU ?_;rw[Vg,F6 j,qCt,kG (by omega)];simp only[rng j,qCt,qIt,qNz,R,Z5,Z7,Z8,Z9,aac,aad,g,qOb,qLh,bV,toInt_int,VL];simp only[E,D,K,J,qOb,qLh,bV,bf,JM,VL,I,H,toInt_int,z,P];have t:onQ u v w e=false->(bif !(decide (e.1.y*w<=v)==decide (e.2.y*w<=v))then(bif mg (nG (Tq e.1 e.2 u v w)) 0==decide (e.1.y*w<=v)then some ([Ab (X0 u v w (!acc) r)],([]:List bZ))else some ([Ab (X0 u v w acc r)],[]))else some ([Ab (X0 u v w acc r)],[]))=some ([Ab (X0 u v w acc (e::r))],[]):=λF=>by rw[YD,F,<- anz f e F,show mg (nG (Tq e.1 e.2 u v w)) 0=decide (0<nG (Tq e.1 e.2 u v w)) from rfl];cases decide (e.1.y*w<=v)<;>cases decide (e.2.y*w<=v)<;>cases decide (0<nG (Tq e.1 e.2 u v w))<;>cases acc<;>rfl
   cases s:(nG (Tq e.1 e.2 u v w)==0)with
   | false=>rw[qCf];exact t (by rw[p,s];rfl)
   | true =>
    rw[qCt];cases c1:decide (BP (e.1.x*w) (e.2.x*w) u)with
    | false=>rw[qCf];exact t (by rw[p,s,c1];rfl)
    | true =>
     rw[qCt];cases c2:decide (BP (e.1.y*w) (e.2.y*w) v)with
     | false=>rw[qCf];exact t (by rw[p,s,c1,c2];rfl)
     | true =>rw[qCt,YD,p,s,c1,c2];rfl
theorem c49{l:List V3}(a:gG l=true)(h:IsP n d m q u v w k)(b:0<w)(e:3<=k)(c:k<=60000):run tab X 49 [.p (.list true aU (bT l)),.p (ePl n d m q)] []=some ([Ab (Ez l u v w)],[]):=by have rd:=uf a;have f:=ig a;refine aY (hX _ rfl) ?_;rw[ePl,e49,c44 X hX l (by omega),qOb];simp only[qLh,AV.aI,NM,qLm];rw[<- ajb a b];exact l49 X hX (fH l) (zk rd) (by rw[qA];omega) h b e c _ 0 false rfl (by omega)
end
end
section
open Go.Skm.Dig
def ag7(k:Nat)(o:List V3)(x:pG):Bool:=if k=0 then decide (0<=Fp o x.1)else decide (Fp o x.1<0)
def edR(k:Nat)(o:List V3)(x:pG):Bool:=edgeOk x o&&ag7 k o x
def TW(f:Fen)(i:Nat):List (List V3):=f.outer::(f.holes.take i++f.holes.drop (i+1))
def afT(f:Fen)(i:Nat):Bool:=pz (λk=>(fH (gh f.holes i)).all (edR k (gh (TW f i) k))) 0 (TW f i).length
def aaf(f:Fen):Bool:=Jz f&&(f.holes.all gG&&pz (afT f) 0 f.holes.length)
theorem anB(n d m e:Int):PV.agg [.bool (((ePl n d m e).cell 0).toBool),Ao (((ePl n d m e).cell 1).toList),.bool (((ePl n d m e).cell 2).toBool),Ao (((ePl n d m e).cell 3).toList),.bool (((ePl n d m e).cell 4).toBool),Ao (((ePl n d m e).cell 5).toList),.bool (((ePl n d m e).cell 6).toBool),Ao (((ePl n d m e).cell 7).toList)]=ePl n d m e:=rfl
theorem Ll{l:List V3}(h:gG l=true):l.length<=64:=(ig h).2.1
abbrev y1:List Wy:=[.lp [1,1,1,0,1,0]]
abbrev y2:List Wy:=[.lp [1,1,1,0,1,0],.lp [1,0,0,1,1,1,0]]
abbrev y3:List Wy:=[.lp [1,1,1,0,1,0],.lp [1,0,0,1,1,1,0],.lp [1,0,0,1,0]]
abbrev y4:List Wy:=[.lp [1,1,1,0,1,0],.lp [1,0,0,1,1,1,0],.lp [1,0,0,1,0],.lp [1,1,0,0,1,0,1,0]]
section
variable (X:Ext) (hX:Mine X)
include hX
theorem avu(i n t:Int)(D C:List PV)(A w:Int)(B:List PV)(H:IntKind.i64.wrap (t+1)=n)(c:Nat)(b:Int)(os:List (List V3))(h:∀ o∈os,gG o=true)(N:os.length<=1000)(k:Nat)(l:k<os.length)(x:pG)(g:vN x.1/\vN x.2)(R:Bool)
    (M:L tab (run tab X) 17 [] y3 (gK i 0 os.length (k:Int) 0 c b n D C A w (dG os) B)=some ([Ac R],[]))(a:List pG)(f:∀ e∈a,vN e.1/\vN e.2)(K:a.length<=1000):∀(r:List pG) (j:Nat),a.drop j=r->j<=a.length ->
    L tab (run tab X) 17 [] y4 (iM i 0 os.length (k:Int) 0 c b t 0 a.length (a.length:Int) (j:Int) D C A w (dG os) B x.1.x x.1.y x.1.z x.2.x x.2.y x.2.z (a.map edE)) =
     some ([Ac (r.all (λy=>!tZ x.1 x.2 y.1 y.2)&&(ag7 k (gh os k) x&&R))],[]):=by
  intro r;induction r with
  | nil =>intro j hd d;have m:j=a.length:=Nat.le_antisymm d (List.drop_eq_nil_iff.1 hd);subst m;have I:=h _ (DX l);have u:=c50 X hX x.1 g.1;simp only[cO]at u;have E:=c49 X hX I (anA g.1) (by decide) (by decide) (by decide);refine dU ?_;rw[oG,O3 (by omega),qCf];simp only[rng l,qCt,qIt,qNz,kX os l,u,qOb,qLh,bV,anB,H,M];show(run tab X 49 [.p (.list true aU (bT (gh os k))),.p (ePl x.1.x 1 x.1.y 1)] []).bind _=_;rw[E,qOb];simp only[qLh,bV,toInt_int];show _=some ([Ac (ag7 k (gh os k) x&&R)],[]);have G:Ez (gh os k) x.1.x x.1.y 1=Fp (gh os k) x.1:=rfl;rw[G];unfold ag7;grind
  | cons y r F =>intro j hd _;obtain⟨J,d,s,v⟩:=aae hd;have q:=c46 X hX x.1 x.2 y.1 y.2 g.1 g.2 (f y v).1 (f y v).2;simp only[ED]at q;refine dU ?_;rw[oG,F6 d,qCt];simp only[rng d,qCt,qIt,qNz,J,Z5,Z7,Z8,Z9,aac,aad,q,qOb,qLh,bV,bf,kG (show j<=9000000000000000000 by omega),F (j+1) s d,List.all_cons];grind
theorem avv(i:Int)(s n:List PV)(m l:Int)(os:List (List V3))(c:∀ o∈os,gG o=true)(v:os.length<=1000)(k:Nat)(d:k<os.length)(R:Bool)
    (B:L tab (run tab X) 17 [] y2 (nT i 0 os.length ((k+1:Nat):Int) s n m l (dG os))=some ([Ac R],[]))(a:List pG)(h:∀ e∈a,vN e.1/\vN e.2)(z:a.length<=1000):∀(r:List pG) (t:Nat),a.drop t=r->t<=a.length ->
    L tab (run tab X) 17 [] y3 (gK i 0 os.length (k:Int) 0 a.length (a.length:Int) (t:Int) s n m l (dG os) (a.map edE))=some ([Ac (r.all (edR k (gh os k))&&R)],[]):=by
  intro r;induction r with
  | nil =>intro t hd b;have f:t=a.length:=Nat.le_antisymm b (List.drop_eq_nil_iff.1 hd);subst f;refine dU ?_;rw[vJ,O3 (by omega),qCf,kG (by omega)];exact B
  | cons x r u =>intro t hd _;obtain⟨y,b,j,w⟩:=aae hd;have g:=c _ (DX d);have q:=c44 X hX (gh os k) (by have:=Ll g;omega);have A:=avu X hX i ((t+1:Nat):Int) (t:Int) s n m l (a.map edE) (kG (by omega)) a.length (a.length:Int) os c v k d x (h x w) _ (u (t+1) j b) (fH (gh os k)) (zk (uf g)) (by rw[qA];have:=Ll g;omega) _ 0 qLy (Nat.zero_le _);refine dU ?_;rw[vJ,F6 b,qCt];simp only[rng b,rng d,qCt,qIt,qNz,kX os d];show(run tab X 44 [.p (.list true aU (bT (gh os k)))] []).bind _=_;rw[q,qOb];simp only[qLh,AV.aI,NM,qLm,y,Z5,Z7,Z8,Z9,aac,aad];grind[Bool.and_assoc,edR,edgeOk]
theorem avw(l:List PV)(j g:Int)(a:List (List V3))(e:∀ h∈a,gG h=true)(r:a.length<=1000)(i:Nat)(d:i<a.length)(os:List (List V3))(c:∀ o∈os,gG o=true)(s:os.length<=1000)(R:Bool)
    (u:L tab (run tab X) 17 [] y1 (zf ((i+1:Nat):Int) l (dG a) j g)=some ([Ac R],[])):∀ m k,k+m=os.length ->
    L tab (run tab X) 17 [] y2 (nT (i:Int) 0 os.length (k:Int) l (dG a) j g (dG os))=some ([Ac (pz (λk=>(fH (gh a i)).all (edR k (gh os k))) k m&&R)],[]):=by
  intro m;induction m with
  | zero =>intro k t;refine dU ?_;rw[DU,O3 (by omega),qCf,kG (by omega)];exact u
  | succ m n =>
   intro k t;have b:k<os.length:=by omega
   have f:=e _ (DX d);have q:=c44 X hX (gh a i) (by have:=Ll f;omega);have v:=avv X hX (i:Int) l (dG a) j g os c s k b _ (n (k+1) (by omega)) (fH (gh a i)) (zk (uf f)) (by rw[qA];have:=Ll f;omega) _ 0 qLy (Nat.zero_le _);refine dU ?_;rw[DU,F6 b,qCt];simp only[dL,rng d,qCt,qIt,kX a d];show(run tab X 44 [.p (.list true aU (bT (gh a i)))] []).bind _=_;rw[q,qOb];simp only[qLh,AV.aI,NM,qLm];refine v.trans ?_;show _=some ([Ac ((((fH (gh a i)).all (edR k (gh os k)))&&pz _ (k+1) m)&&R)],[]);grind
end
end
section
open Go.Skm.Dig
theorem ag8(f:Fen)(i:Nat):dG (TW f i)=[PV.list true aU (bT f.outer)]++(dG f.holes).take i++(dG f.holes).drop (i+1):=by unfold dG TW;simp
theorem ab9(f:Fen){i:Nat}(h:i<f.holes.length):(TW f i).length=f.holes.length:=by grind[TW]
theorem ag9{f:Fen}(b:gG f.outer=true)(c:∀ h∈f.holes,gG h=true)(i:Nat):∀ o∈TW f i,gG o=true:=by intro o a;rcases List.mem_cons.1 a with rfl | a;all_goals grind
section
variable (X:Ext) (hX:Mine X)
include hX
theorem avx(f:Fen)(o:gG f.outer=true)(e:∀ h∈f.holes,gG h=true)(r:f.holes.length<=16):∀ m i,i+m=f.holes.length ->
    L tab (run tab X) 17 [] y1 (zf (i:Int) (bT f.outer) (dG f.holes) f.low f.high)=some ([Ac (pz (afT f) i m)],[]):=by
  intro m;induction m with
  | zero =>intro i p;refine dU ?_;rw[Vf,dL,O3 (by omega),qCf];rfl
  | succ m n =>
   intro i p;have c:i<f.holes.length:=by omega
   have s:=ab9 f c;have q:=avw X hX (bT f.outer) f.low f.high f.holes e (by omega) i c (TW f i) (ag9 o e i) (by omega) _ (n (i+1) (by omega)) (TW f i).length 0 (by omega);have l:((((dG f.holes).drop 0).take i).length:Nat)=i:=by rw[qLy,List.length_take,dL];omega
   have k:((((f.holes.length:Nat):Int)-((i+1:Nat):Int)).toNat)=f.holes.length-(i+1):=by omega
   have j:(((dG f.holes).drop (i+1)).take (f.holes.length-(i+1)))=(dG f.holes).drop (i+1):=List.take_of_length_le (by rw[List.length_drop,dL];omega);have g:((dG f.holes).drop (i+1)).length=f.holes.length-(i+1):=by rw[List.length_drop,dL]
   have d:∀{a b:Nat},a<=b->leI (a:Int) ((b:Nat):Int)=true:=λh=>decide_eq_true (by omega);refine dU ?_;rw[Vf,dL,F6 c,qCt,kG (by omega)];simp only[le0,d (qNr f.holes.length),d (Nat.le_of_lt c),d (show i+1<=f.holes.length from c),qBs,qCt,Int.sub_zero,qIt,l,k,j,g];rw[show F5 (1+i) 2147483648=true from decide_eq_true (by omega),qCt,show F5 (1+i+(f.holes.length-(i+1))) 2147483648=true from decide_eq_true (by omega),qCt,show 1+i+(f.holes.length-(i+1))=(TW f i).length by omega];rw[show((([PV.list true aU (bT f.outer)]++((dG f.holes).drop 0).take i).drop 0).take (1+i))++(dG f.holes).drop (i+1)=dG (TW f i) by grind[qLp,List.length_singleton,List.length_take,ag8,qLy]];exact q
theorem avy(f:Fen)(o:gG f.outer=true)(s:f.holes.length<=16)(c:∀ h∈f.holes,h.length<=1000000)(R:Bool)
    (l:(∀ h∈f.holes,gG h=true)->L tab (run tab X) 17 [] y1 (zf 0 (bT f.outer) (dG f.holes) f.low f.high)=some ([Ac R],[])):∀(r:List (List V3)) (i:Nat),f.holes.drop i=r->i<=f.holes.length->(∀ h∈f.holes.take i,gG h=true) ->
    L tab (run tab X) 17 [] [.lp [1,1,0,1,0]] (KY (i:Int) (bT f.outer) (dG f.holes) f.low f.high)=some ([Ac (r.all gG&&R)],[]):=by
  intro r;induction r with
  | nil =>intro i hd b a;have d:i=f.holes.length:=Nat.le_antisymm b (List.drop_eq_nil_iff.1 hd);subst d;rw[List.take_length]at a;refine dU ?_;rw[Ym,dL,O3 (by omega),qCf];exact l a
  | cons h r g =>
   intro i hd _ a;have e:f.holes[i]?=some h:=by have:=congrArg (·[0]?) hd;grind
   have b:=(qLa.1 e).1;have k:gh f.holes i=h:=by simp[gh,List.getD,e]
   have j:=qLe e;have q:=c13 X hX h (c h j);rw[O8]at q;refine dU ?_;rw[Ym,dL,F6 b,qCt];simp only[rng b,qCt,qIt,kX f.holes b,k,kG (show i<=9000000000000000000 by omega)];show(run tab X 13 [.p (.list true aU (bT h))] []).bind _=_;rw[q,qOb,List.all_cons];simp only[qLh,bV,bf];cases n:gG h with
   | false=>rfl
   | true =>rw[qBt,qCf,Bool.true_and];refine g (i+1) (by rw[<- List.drop_drop,hd];rfl) b λx m=>?_;grind
theorem c17(f:Fen)(c:sS f):run tab X 17 [.p (kZ f)] []=some ([Ac (aaf f)],[]):=
 aY (hX _ rfl) (by
  have q:=c13 X hX f.outer c.outer;rw[O8]at q;rw[kZ,e17,q,qOb];simp only[qLh,bV,bf,dL];unfold aaf Jz;cases b:gG f.outer with
  | false=>rfl
  | true =>
   rw[qBt,qCf,Bool.true_and];by_cases a:f.holes.length<=16
   . rw[show mg ((f.holes.length:Nat):Int) (16:Int)=false from decide_eq_false (by omega),qCf];by_cases i:-1048576<=f.low
     . rw[show cu f.low (-1048576)=false from decide_eq_false (by omega),qCf];by_cases g:f.high<=1048576
       . rw[show mg f.high 1048576=false from decide_eq_false (by omega),qCf];by_cases h4:f.low<=f.high
         . rw[show mg f.low f.high=false from decide_eq_false (by omega),qCf,decide_eq_true ⟨a,i,g,h4⟩,Bool.true_and];exact avy X hX f b a c.holes _ (λe=>avx X hX f b e a f.holes.length 0 (by omega)) f.holes 0 qLy (Nat.zero_le _) (λh d=>by simp at d)
         grind
       grind
     grind
   grind)
end
end
section
variable {l:List V3}{i:Nat}
theorem jq{e:pG}:e∈fH l↔∃ i,i<l.length/\e=(flat (ca l i),flat (cb l i)):=by show e∈(List.range l.length).map _↔_;grind
theorem alx(a:Pt):scp 1 a=a:=by unfold scp;simp
theorem Pv(l:List V3)(p:V3):Fp l p=Oz (pts l) l.length (pt p):=by show Oz (λi=>scp 1 (pts l i)) _ _=_;rw[show(λi=>scp 1 (pts l i))=pts l from funext λi=>alx _];rfl
theorem ajd{a b:V3}(h:edgeOk (flat a,flat b) l=true):Fp l a=Fp l b:=by rw[Pv,Pv];refine acd (yw l) λi d c=>?_;have:=List.all_eq_true.1 h _ (jq.2 ⟨i,d,rfl⟩);rw[qBb,Gw,decide_eq_false_iff_not]at this;refine this ?_;show meet (pt a) (pt b) (pt (ca l i)) (pt (cb l i));rw[zO,DZ d]at c;exact c
theorem Px{o:List V3}(h:∀ e∈fH l,edgeOk e o=true)(i:Nat)(a:i<l.length):Fp o (gt l i)=Fp o (gt l 0):=by
 induction i with
 | zero=>rfl
 | succ i b =>
  have d:=ajd (h _ (jq.2 ⟨i,by omega,rfl⟩));have c:cb l i=gt l (i+1):=by show gt l (qx l.length i)=_;unfold qx;rw[Nat.mod_eq_of_lt a]
  grind
theorem VN{outer:List V3}:∀(a all:List (List V3)),rZ outer all a=true↔∀ i,i<a.length->Jy outer (all++a.take i) (gh a i)=true
 |[],all=>by simp[rZ]
 | h::r,all=>by
  rw[rZ,qBa,VN r];constructor
  . rintro ⟨d,e⟩ i b;cases i with
    | zero=>simpa[gh] using d
    | succ i=>grind
  . intro c;refine⟨by simpa[gh] using c 0 (by simp),λi b=>?_⟩;have:=c (i+1) (by simpa using b);grind
theorem aag(f:Fen){j:Nat}(b:i<f.holes.length)(a:j+1<f.holes.length):gh (TW f i) (j+1)=gh f.holes (if j<i then j else j+1):=by show((f.holes.take i++f.holes.drop (i+1)).getD j [])=_;grind
theorem YE(f:Fen)(b:i<f.holes.length):afT f i=true↔(∀ e∈fH (gh f.holes i),edgeOk e f.outer=true/\0<=Fp f.outer e.1)/\∀ k,k<f.holes.length->k≠i->∀ e∈fH (gh f.holes i),edgeOk e (gh f.holes k)=true/\Fp (gh f.holes k) e.1<0:=by
 unfold afT;rw[kJ,ab9 f b];have g:∀ o e,edR 0 o e=true↔edgeOk e o=true/\0<=Fp o e.1:=λo e=>by simp[qBa,qDa,edR,ag7]
 have d:∀ k o e,edR (k+1) o e=true↔edgeOk e o=true/\Fp o e.1<0:=λk o e=>by simp[qBa,qDa,edR,ag7]
 constructor
 . intro h;refine⟨λe a=>?_,λk n m e a=>?_⟩
   . have:=h 0 (by omega) (by omega);rw[List.all_eq_true]at this;exact(g _ _).1 (this e a)
   . by_cases c:k<i
     . have:=h (k+1) (by omega) (by omega);rw[List.all_eq_true]at this;have:=(d _ _ _).1 (this e a);rwa[aag f b (by omega),if_pos c]at this
     . obtain⟨j,rfl⟩:∃ j,k=j+1:=⟨k-1,by omega⟩;have:=h (j+1) (by omega) (by omega);rw[List.all_eq_true]at this;have:=(d _ _ _).1 (this e a);rwa[aag f b (by omega),if_neg (by omega)]at this
 . rintro ⟨p,q⟩ k _ n;rw[List.all_eq_true];intro e a;cases k with
   | zero=>exact(g _ _).2 (p e a)
   | succ k =>rw[d,aag f b (by omega)];grind
theorem aef(h:0<l.length):(flat (ca l 0),flat (cb l 0))∈fH l:=jq.2 ⟨0,h,rfl⟩
theorem aha(f:Fen):aaf f=eX f:=by
 unfold aaf eX;cases E:Jz f with
 | false=>rfl
 | true =>
  rw[Bool.true_and,Bool.true_and,Bool.eq_iff_iff,qBa,qBa,VN,kJ,List.all_eq_true];have q:∀{i},(∀ h∈f.holes,gG h=true)->i<f.holes.length->gG (gh f.holes i)=true:=λh a=>h _ (DX a);constructor
  . rintro ⟨r,z⟩;have n:∀ i (a:i<f.holes.length),_:=λi a=>(YE f a).1 (z i (Nat.zero_le _) (by omega));refine⟨λi a=>?_,?_⟩
    . unfold Jy;rw[qBa,List.all_eq_true];refine⟨q r a,λe d=>?_⟩;rw[qBa,qDa,List.all_eq_true];obtain⟨y,x⟩:=n i a;refine⟨(y e d).2,λo s=>?_⟩;rcases List.mem_append.1 s with s | s
      . grind
      . obtain⟨j,u,rfl⟩:=List.getElem_of_mem s;rw[List.length_take]at u;have C:j<i:=by omega
        have:=(x j (by omega) (by omega) e d).1;rw[List.getElem_take];simpa[gh,List.getD,qLd (show j<f.holes.length by omega)] using this
    . unfold NC;rw[kJ];intro i _ a;rw[kJ];intro k _ t;unfold yx;split
      . rfl
      . rename_i b;have w:=(ig (q r (show i<f.holes.length by omega))).1;have:=((n i (by omega)).2 k (by omega) (λe=>b e.symm) _ (aef (by omega))).2;have e:Fp (gh f.holes k) (flat (ca (gh f.holes i) 0))=Fp (gh f.holes k) (gt (gh f.holes i) 0):=rfl;grind
  . rintro ⟨hp,v⟩;have p:∀ i,i<f.holes.length->gG (gh f.holes i)=true/\∀ e∈fH (gh f.holes i),0<=Fp f.outer e.1/\edgeOk e f.outer=true/\∀ j,j<i->edgeOk e (gh f.holes j)=true:=λi a=>by
     have:=hp i a;unfold Jy at this;rw[qBa,List.all_eq_true]at this;refine⟨this.1,λe d=>?_⟩;have g:=this.2 e d;rw[qBa,qDa,List.all_eq_true]at g;refine⟨g.1,g.2 _ (by simp),λj u=>g.2 _ (List.mem_append.2 (.inr ?_))⟩;have B:j<f.holes.length:=by omega
     have F:gh f.holes j=(f.holes.take i)[j]'(by rw[List.length_take];omega):=by grind
     grind
    have r:∀ h∈f.holes,gG h=true:=λh A=>by obtain⟨i,a,rfl⟩:=List.getElem_of_mem A;grind
    have m:∀{i k},i<f.holes.length->k<f.holes.length->k≠i->∀ e∈fH (gh f.holes i),edgeOk e (gh f.holes k)=true:=by
     intro i k a t b e d;rcases Nat.lt_or_gt_of_ne b with c | c
     . grind
     grind[List.all_eq_true,VI,edgeOk]
    refine⟨r,λi _ a=>?_⟩;have a:i<f.holes.length:=by omega
    rw[YE f a];refine⟨λe d=>⟨((p i a).2 e d).2.1,((p i a).2 e d).1⟩,λk t b e d=>⟨m a t b e d,?_⟩⟩;obtain⟨j,u,rfl⟩:=jq.1 d;have D:=Px (m a t b) j u;unfold NC at v;rw[kJ]at v;have g:=v i (Nat.zero_le _) (by omega);rw[kJ]at g;have w:=g k (Nat.zero_le _) (by omega);unfold yx at w;rw[if_neg (λe=>b e.symm),qBb,decide_eq_false_iff_not,<- D]at w;show Fp (gh f.holes k) (gt (gh f.holes i) j)<0;omega
end
section
variable {l:List V3}{i:Nat}{b:Int}
def iJ(l:List V3)(b:Int):List V3:=(List.range l.length).map λ(i:Nat)=>gt l (((b-(i:Int))%(l.length:Int)).toNat)
theorem nP(l:List V3)(b:Int):(iJ l b).length=l.length:=by simp[iJ]
theorem GN(b:Int)(c:i<l.length):gt (iJ l b) i=gt l (((b%(l.length:Int)).toNat+l.length-i)%l.length):=by
 have e:gt (iJ l b) i=gt l (((b-(i:Int))%(l.length:Int)).toNat):=by show(iJ l b).getD i default=_;rw[iJ,qLb,List.getElem?_map,List.getElem?_range c];rfl
 rw[e];congr 1;have a:(0:Int)<l.length:=by omega
 have g:=Int.emod_nonneg b (show(l.length:Int)≠0 by omega);have f:=Int.emod_lt_of_pos b a;have d:(b-(i:Int))%(l.length:Int)=((b%(l.length:Int)).toNat+l.length-i:Nat)%(l.length:Int):=by rw[show(((b%(l.length:Int)).toNat+l.length-i:Nat):Int)=(b%(l.length:Int)-i)+l.length by omega,Int.add_emod_right];have q:=Int.mul_ediv_add_emod b l.length;rw[show b-(i:Int)=(b%(l.length:Int)-i)+l.length*(b / l.length) by omega,Int.add_mul_emod_self_left]
 rw[d];omega
theorem VW(c:0<l.length)(b:Int):Rev (pts l) (pts (iJ l b)) l.length:=by
 have j:=Int.emod_lt_of_pos b (show(0:Int)<l.length by omega);have k:=Int.emod_nonneg b (show(l.length:Int)≠0 by omega);have a:∀ i,pts (iJ l b) i=pts l ((b%(l.length:Int)).toNat+l.length-i%l.length):=λi=>by unfold pts;rw[nP,GN b (qNm _ c)]
 intro i;have g:i%l.length<l.length:=qNm _ c;refine⟨(b%(l.length:Int)).toNat+2*l.length-i%l.length,by omega,λt f=>?_⟩;rw[a];have d:(i+t)%l.length=if i%l.length+t<l.length then i%l.length+t else i%l.length+t-l.length:=by
  rw[<- Nat.mod_add_mod];split
  . next h=>exact Nat.mod_eq_of_lt h
  . next h =>
    by_cases e:i%l.length+t-l.length<l.length
    . rw[Nat.mod_eq_sub_mod (by omega),Nat.mod_eq_of_lt e]
    . omega
 rw[d];split
 . rw[<- yw];congr 1;omega
 . congr 1;omega
theorem VX(a:0<l.length)(b:Int)(u v w:Int):Ez (iJ l b) u v w=Ez l u v w:=by unfold Ez;rw[nP];exact alG (p:=λi=>scp w (pts l i)) (q:=λi=>scp w (pts (iJ l b) i)) a (λi=>by rw[yw]) ((VW a b).scp w) ⟨u,v⟩
theorem ajj{v:V3}(h:v∈iJ l b):∃ i,i<l.length/\v=gt l i:=by obtain⟨i,a,rfl⟩:=List.mem_map.1 h;have a:=List.mem_range.1 a;have c:=Int.emod_lt_of_pos (b-(i:Int)) (show(0:Int)<l.length by omega);have d:=Int.emod_nonneg (b-(i:Int)) (show(l.length:Int)≠0 by omega);exact⟨_,by omega,rfl⟩
theorem anG(h:i<l.length):gt l i∈l:=by rw[gt,qLb,qLd h];exact List.getElem_mem h
theorem nv{n k:Nat}(a:k<n):qx n k=if k+1<n then k+1 else 0:=by
 unfold qx;split
 . rename_i h;exact Nat.mod_eq_of_lt h
 . have:k+1=n:=by omega
   rw[this,Nat.mod_self]
theorem ahd(m:3<=l.length/\l.length<=64)(g:l.all (rF 1048576)=true)(hp:Poly (pts l) l.length):gG l=true:=by
 rw[<- O8];unfold Yt O9;rw[decide_eq_true m,g,Bool.true_and,Bool.true_and,kJ];have e:∀{i j:Nat},i%l.length=j%l.length->pts l i=pts l j:=λ{i j} h=>by rw[Il (yw l) i,Il (yw l) j,h]
 intro i _ d;have a:∀ k,k<l.length->pt (ca l k)=pts l k/\pt (cb l k)=pts l (k+1):=λk c=>⟨(DZ c).symm,(zO l k).symm⟩;have d:i<l.length:=by omega
 rw[qBa,kJ];constructor
 . unfold okE;rw[qBb,<- Bool.not_eq_true];intro h;simp only[qBa,beq_iff_eq]at h;refine hp.ne i ?_;rw[<- (a i d).1,<- (a i d).2];unfold pt;rw[h.1,h.2]
 . intro k _ c;have c:k<l.length:=by omega
   unfold okD;split
   . rfl
   next c1 =>
    split
    . next c2 =>have o:pts l k=pts l (i+1):=e (by rw[c2];exact Nat.mod_mod _ _);have n:pts l (k+1)=pts l (i+2):=e (by rw[c2];exact Nat.mod_add_mod _ _ _);rw[O7,O7,(a i d).1,(a i d).2,(a k c).1,(a k c).2,o,n,decide_eq_false (hp.Po i),decide_eq_false (hp.Pq i)];rfl
    . next c2 =>
      split
      . rfl
      . next c3 =>
        rw[Gw,(a i d).1,(a i d).2,(a k c).1,(a k c).2];rw[nv d]at c2;rw[nv c]at c3;by_cases f:i<k
        . have h:=hp.far i (k-i) (by split at c2<;>omega) (by split at c3<;>omega);rw[show i+(k-i)=k by omega]at h;rw[decide_eq_false h];rfl
        . have h:=hp.far i (k+l.length-i) (by split at c2<;>omega) (by split at c3<;>omega);rw[show i+(k+l.length-i)=k+l.length by omega,yw,show k+l.length+1=k+1+l.length by omega,yw]at h;rw[decide_eq_false h];rfl
theorem YK(h:gG l=true)(b:Int):gG (iJ l b)=true:=by obtain⟨f,e,d⟩:=ig h;have hp:=(QM h).rev (VW (by omega) b) (by have:=yw (iJ l b);rwa[nP]at this);refine ahd (by rw[nP];exact⟨f,e⟩) (List.all_eq_true.2 λv a=>?_) (by rw[nP];exact hp);obtain⟨i,c,rfl⟩:=ajj a;exact List.all_eq_true.1 d _ (anG c)
theorem VY{e:pG}(h:e∈fH (iJ l b)):∃ j,j<l.length/\e=(flat (cb l j),flat (ca l j)):=by
 obtain⟨i,a,rfl⟩:=jq.1 h;rw[nP]at a;have c:0<l.length:=by omega
 have m:=Int.emod_lt_of_pos b (show(0:Int)<l.length by omega);have n:=Int.emod_nonneg b (show(l.length:Int)≠0 by omega);generalize g:(b%(l.length:Int)).toNat=s at *;have f:=GN b a;have d:=GN b (show qx l.length i<l.length from qNm _ c);rw[g]at f d;refine⟨(s+l.length-qx l.length i)%l.length,qNm _ c,?_⟩;show(flat (gt (iJ l b) i),flat (gt (iJ l b) (qx (iJ l b).length i)))=_;rw[nP,f,d];have k:qx l.length ((s+l.length-qx l.length i)%l.length)=(s+l.length-i)%l.length:=by
  rw[qx,Nat.mod_add_mod,nv a];split
  . congr 1;omega
  . rw[show s+l.length-0+1=(s+l.length-i)+l.length by omega,Nat.add_mod_right]
 show _=(flat (gt l (qx l.length _)),flat (gt l _));rw[k]
theorem NQ{a b c d:V3}:tZ b a c d=tZ a b c d/\tZ a b d c=tZ a b c d/\tZ c d a b=tZ a b c d:=by simp only[Gw];exact⟨decide_eq_decide.2 Dp,decide_eq_decide.2 meet_comm.symm,decide_eq_decide.2 YL⟩
end
end Go.Skm.Fen
