import Derived.Test.YtoheflpoanjihaaGreatG10
import Derived.Test.YtoheflpoanjihaaGreatEqv2
import Derived.Test.YtoheflpoanjihaaGreatR3
set_option linter.all false
namespace Go.Skm.Fen
open Go Go.Skm
section
variable {α:Type}
theorem VX(a b p:V3):Tq a b p.x p.y 1=area a b p:=by unfold Tq area;simp only[Int.mul_one]
theorem Hr(u v w:Int)(e:jW):JF u v w e=1\/JF u v w e=-1\/JF u v w e=0:=by grind[JF]
def Uk{α:Type}(s ax ay bx by_ w:Int)(z:α)(k:Int->α):α:=
 if s=0/\ax*bx<=0/\ay*by_<=0 then z else k (w+(if ay<=0/\0<by_/\0<s then 1 else if by_<=0/\0<ay/\s<0 then -1 else 0))
theorem yV(a b:Int):IntKind.i64.wrap (iY a*iY b)=iY a*iY b:=by rcases uy a with h | h | h<;>rcases uy b with c | c | c<;>rw[h,c]<;>rfl
theorem J6(s d b c a w:Int)(z:α)(K:Int->α)(c1 c2 c3 c4 c5 g f c8 e:Bool)(n:c1=decide (s=0))(m:c2=decide (d*c<=0))(l:c3=decide (b*a<=0))(h4:c4=decide (b<=0))(h5:c5=decide (0<a))(k:g=decide (0<s))(j:f=decide (0<b))(i:c8=decide (a<=0))(h:e=decide (s<0)) :
    Uk s d b c a w z K=bif c1&&(c2&&c3)then z else bif c4&&(c5&&g)then K (w+1)else bif f&&(c8&&e)then K (w-1)else K w:=by
  unfold Uk;by_cases o:s=0/\d*c<=0/\b*a<=0
  . grind
  . grind
theorem J7(u v w:Int)(e:jW)(a:Int)(z:α)(K:Int->α) :
    Uk (iY (Tq e.1 e.2 u v w)) (iY (e.1.x*w-u)) (iY (e.1.y*w-v)) (iY (e.2.x*w-u)) (iY (e.2.y*w-v)) a z K=if JE u v w e then z else K (a+JF u v w e):=by
  unfold Uk JE JF;have b:(iY (Tq e.1 e.2 u v w)=0/\iY (e.1.x*w-u)*iY (e.2.x*w-u)<=0/\iY (e.1.y*w-v)*iY (e.2.y*w-v)<=0)↔((iY (Tq e.1 e.2 u v w)==0)&&(decide (iY (e.1.x*w-u)*iY (e.2.x*w-u)<=0)&&decide (iY (e.1.y*w-v)*iY (e.2.y*w-v)<=0)))=true:=by simp
  by_cases h:iY (Tq e.1 e.2 u v w)=0/\iY (e.1.x*w-u)*iY (e.2.x*w-u)<=0/\iY (e.1.y*w-v)*iY (e.2.y*w-v)<=0
  . simp
  . simp
def Fq(u v w wd:Int)(es:List jW):Int:=if es.any (JE u v w)then 0 else if wd+D7 u v w es≠0 then 1 else -1
theorem Ht(u v w a:Int)(e:jW)(b:List jW):Fq u v w a (e::b)=if JE u v w e then 0 else Fq u v w (a+JF u v w e) b:=by unfold Fq;rw[List.any_cons,D7];grind
theorem Hu(u v w:Int)(a:List jW):Fq u v w 0 a=X3 u v w a:=by unfold Fq X3;rw[Int.zero_add]
section
variable (X:Ext) (hX:Mine X)
include hX
theorem c102(a b p:V3)(e:mW a)(d:mW b)(hp:mW p):run tab X 102 [.p (encV a),.p (encV b),.p (.ref [Av p.x,Av p.y,Av p.z])] []=some ([Ab (iY (Tq a b p.x p.y 1))],[]):=
 run_of (hX _ rfl) (by have c:=c96 X hX a b p e d hp;simp only[encV]at c;rw[encV,encV,e102,c,VX];rfl)
theorem c103(c p:V3)(a:mW c)(hp:mW p):(run tab X 103 [.p (encV c),Ab 0,.p (.ref [Av p.x,Av p.y,Av p.z])] []=some ([Ab (iY (c.x*1-p.x))],[]))/\(run tab X 103 [.p (encV c),Ab 1,.p (.ref [Av p.x,Av p.y,Av p.z])] []=some ([Ab (iY (c.y*1-p.y))],[])):=by
 obtain⟨e,d,_⟩:=a;obtain⟨b1,b,_⟩:=hp;constructor
 . refine run_of (hX _ rfl) ?_;rw[encV,e103,show((0:Int)==0)=true from rfl,qCt,wrap_eq (by omega) (by omega),c48 X hX,Int.mul_one];rfl
 . refine run_of (hX _ rfl) ?_;rw[encV,e103,show((1:Int)==0)=false from rfl,qCf,wrap_eq (by omega) (by omega),c48 X hX,Int.mul_one];rfl
theorem l101a(l:List PV)(p:V3)(hp:mW p)(f:Int):∀(c:List jW) (a:Int),(∀ e∈c,mW e.1/\mW e.2)→-(1000000-(c.length:Int))<=a/\a<=1000000-(c.length:Int) ->
    L tab (run tab X) 101 [] [.rg [1,1,0,1,0] [(true,kV3),(true,kV3)] (c.map eY)] (bC l p.x p.y p.z p.x p.y p.z f a)=some ([Ab (Fq p.x p.y 1 a c)],[]):=by
  intro c;induction c with
  | nil =>intro a _ _;rw[List.map_nil,D5];unfold Fq D7;grind
  | cons e r q =>
   intro a d t;simp only[qLl]at t;obtain⟨o,n⟩:=d e (by simp);have m:=c102 X hX e.1 e.2 p o n hp;have h:=c103 X hX e.1 p o hp;have g:=c103 X hX e.2 p n hp;simp only[encV]at m h g;have v:=Hr p.x p.y 1 e;have w:=λb s=>q b (λu j=>d u (by simp[j])) s;rw[List.map_cons,Ht];show L tab (run tab X) 101 [] [.rg [1,1,0,1,0] [(true,kV3),(true,kV3)] (.agg [.agg [Av e.1.x,Av e.1.y,Av e.1.z],.agg [Av e.2.x,Av e.2.y,Av e.2.z]]::r.map eY)] (bC l p.x p.y p.z p.x p.y p.z f a)=_;rw[Cc,m,qOb,h.1,qOb,h.2,qOb,g.1,qOb,g.2,qOb];simp only[qLh,pv_p,toInt_int];have i:=J7 p.x p.y 1 e a (some ([Ab 0],([]:List Blk))) (λb=>L tab (run tab X) 101 [] [.rg [1,1,0,1,0] [(true,kV3),(true,kV3)] (r.map eY)] (bC l p.x p.y p.z p.x p.y p.z f b));have k:(if JE p.x p.y 1 e then some ([Ab 0],([]:List Blk))else L tab (run tab X) 101 [] [.rg [1,1,0,1,0] [(true,kV3),(true,kV3)] (r.map eY)] (bC l p.x p.y p.z p.x p.y p.z f (a+JF p.x p.y 1 e)))=some ([Ab (if JE p.x p.y 1 e then 0 else Fq p.x p.y 1 (a+JF p.x p.y 1 e) r)],[]):=by grind
   rw[<- k,<- i,yV,yV,wrap_eq (x:=a+1) (by omega) (by omega),wrap_eq (x:=a-1) (by omega) (by omega)];rw[J6 _ _ _ _ _ _ _ _ _ _ _ _ _ _ _ _ _ rfl rfl rfl rfl rfl rfl rfl rfl rfl];grind
end
end
section
structure Fen where
 outer:List V3
 holes:List (List V3)
 low:Int
 high:Int
 deriving Inhabited
def bK(hs:List (List V3)):List PV:=hs.map λh=>As (encL h)
def encF(f:Fen):PV:=.agg [As (encL f.outer),Ap (bK f.holes),Av f.low,Av f.high]
theorem bM(a:List (List V3)):(bK a).length=a.length:=by simp[bK]
abbrev gh(hs:List (List V3))(i:Nat):List V3:=hs.getD i []
theorem gY(a:List (List V3)){i:Nat}(h:i<a.length):(bK a).getD i .nil=As (encL (gh a i)):=by grind[bK]
structure Rd (l:List V3):Prop where
 len:l.length<=1000
 ok:∀ i,mW (gt l i)
theorem qp{l:List V3}(h:Rd l):∀ e∈dJ l,mW e.1/\mW e.2:=by intro e a;simp only[dJ,uU,List.mem_map]at a;obtain⟨i,_,rfl⟩:=a;exact⟨IV (h.ok _),IV (h.ok _)⟩
def zx(l:List V3)(p:V3):Int:=uz l p.x p.y 1
def GR(f:Fen)(u v w:Int):Bool:=decide (0<=uz f.outer u v w)&&!(f.holes.any λh=>decide (0<uz h u v w))
def kJ(f:Fen)(p:V3):Bool:=(decide (f.low<=p.z)&&decide (p.z<=f.high))&&GR f p.x p.y 1
structure Ul (f:Fen):Prop where
 outer:Rd f.outer
 holes:∀ h∈f.holes,Rd h
 len:f.holes.length<=1000000
def rO(P:List V3->Bool):List (List V3)->Nat->Int
 |[],_=>-1
 | h::r,i=>if P h then i else rO P r (i+1)
theorem xk(P:List V3->Bool):∀(a:List (List V3)) (i:Nat),geI (rO P a i) 0=a.any P
 |[],_=>rfl
 | h::r,i=>by
  rw[rO,List.any_cons];cases P h with
  | true=>exact decide_eq_true (show(0:Int)<=(i:Int) by omega)
  | false=>rw[Bool.false_or];exact xk P r (i+1)
section
variable (X:Ext) (hX:Mine X)
include hX
theorem X4(l:List V3)(a:Rd l)(p:V3)(hp:mW p):run tab X 101 [Al (encL l),.p (.fn 102 [.ref [Av p.x,Av p.y,Av p.z]]),.p (.fn 103 [.ref [Av p.x,Av p.y,Av p.z]])] []=some ([Ab (zx l p)],[]):=
 run_of (hX _ rfl) (by rw[XA,c51 X hX l,qOb];show(run tab X 100 [.yld,.p (.ref [As (encL l)])] [.log true []]).bind _=_;have:=a.len;rw[PS X hX l (by omega),qOb];have b:=l101a X hX (encL l) p hp 0 (dJ l) 0 (qp a) (by rw[jr];omega);rw[Hu,MK (by decide)]at b;exact b)
theorem c52(l:List V3)(a:Rd l)(p:V3)(hp:mW p):run tab X 52 [Al (encL l),.p (encV p)] []=some ([Ab (zx l p)],[]):=
 run_of (hX _ rfl) (by rw[encV,e52,X4 X hX l a p hp];rfl)
theorem c106(l:List V3)(a:Rd l)(p:V3)(hp:mW p):run tab X 106 [Al (encL l),.p (.ref [Av p.x,Av p.y,Av p.z])] []=some ([Ab (zx l p)],[]):=
 run_of (hX _ rfl) (by have b:=c52 X hX l a p hp;simp_all[encV,e106])
theorem X5(l:List V3)(a:Rd l)(p:V3)(hp:mW p):run tab X 121 [Al (encL l),.p (.ref [.fn 106 [.ref [Av p.x,Av p.y,Av p.z]]])] []=some ([Ac (decide (0<zx l p))],[]):=
 run_of (hX _ rfl) (by rw[Xu,c106 X hX l a p hp];rfl)
theorem X6(a:List (List V3))(j:∀ h∈a,Rd h)(d:a.length<=1000000)(p:V3)(hp:mW p):∀(r:List (List V3)) (i:Nat),a.drop i=r->i<=a.length ->
    L tab (run tab X) 158 [] [.lp [1,0,1,0]] (wX (bK a) p.x p.y p.z ((a.length:Nat):Int) (i:Int))=some ([Ab (rO (λh=>decide (0<zx h p)) r i)],[]):=by
  intro r;induction r with
  | nil =>
   intro i c g;have b:i=a.length:=by have:=congrArg List.length c;grind
   refine L_of ?_;rw[EZ,xO (by omega),qCf];rfl
  | cons h r k =>
   intro i c g;have b:i<a.length:=by grind
   have e:gh a i=h:=by grind[qLb,List.head?_drop]
   have f:h∈a:=by grind
   refine L_of ?_;rw[EZ,rZ b,qCt];simp only[bM,le0,rZ b,Bool.and_true,qCt,qIt,gY a b,e,dL (show i<=9000000000000000000 by omega)];show(run tab X 121 [Al (encL h),.p (.ref [.fn 106 [.ref [Av p.x,Av p.y,Av p.z]]])] []).bind _=_;rw[X5 X hX h (j h f) p hp,qOb];simp only[qLh,pv_p,toBool_bool];rw[rO];cases decide (0<zx h p)with
   | true=>rfl
   | false =>rw[qCf,if_neg (by decide)];grind[List.tail_drop]
theorem abI(f:Fen)(a:Ul f)(p:V3)(hp:mW p):run tab X 64 [.p (encF f),.p (.fn 106 [.ref [Av p.x,Av p.y,Av p.z]])] []=some ([Ac (GR f p.x p.y 1)],[]):=
 run_of (hX _ rfl) (by
  have b:run tab X 120 [Ao (bK f.holes),.p (.fn 121 [.ref [.fn 106 [.ref [Av p.x,Av p.y,Av p.z]]]])] []=some ([Ac (f.holes.any λh=>decide (0<zx h p))],[]):=run_of (hX _ rfl) (by have c:run tab X 158 [Ao (bK f.holes),.p (.fn 121 [.ref [.fn 106 [.ref [Av p.x,Av p.y,Av p.z]]]])] []=some ([Ab (rO (λh=>decide (0<zx h p)) f.holes 0)],[]):=run_of (hX _ rfl) (by rw[Xx,bM];exact X6 X hX f.holes a.holes a.len p hp f.holes 0 rfl (by omega));grind[Xq,qOb,qLh,pv_p,toInt_int,xk]);rw[encF,abm,c106 X hX f.outer a.outer p hp,qOb];simp only[qLh,pv_p,toInt_int];unfold GR;have e:decide (0<=uz f.outer p.x p.y 1)=decide (0<=zx f.outer p):=rfl;rw[e];show(bif decide (0<=zx f.outer p)then _ else _)=_;cases decide (0<=zx f.outer p)with
  | false=>rfl
  | true=>rw[qCt,b];rfl)
theorem c55(f:Fen)(b:Ul f)(p:V3)(hp:mW p):run tab X 55 [.p (encF f),.p (encV p)] []=some ([Ac (kJ f p)],[]):=
 run_of (hX _ rfl) (by have a:=abI X hX f b p hp;rw[encF]at a;rw[encF,encV,e55,a];unfold kJ;show(bif decide (f.low<=p.z)then(bif decide (p.z<=f.high)then _ else _)else _)=_;cases decide (f.low<=p.z)<;>cases decide (p.z<=f.high)<;>rfl)
end
end
section
variable {l:List V3}
def edgeOk(e:jW)(o:List V3):Bool:=(dJ o).all λd=>!sD e.1 e.2 d.1 d.2
def Fv(outer:List V3)(all:List (List V3))(h:List V3):Bool:=dO h&&(dJ h).all λe=>decide (0<=zx outer e.1)&&all.all (edgeOk e)
def uF(outer:List V3):List (List V3)->List (List V3)->Bool
 | _,[]=>true
 | all,h::r=>Fv outer all h&&uF outer (all++[h]) r
def rP(hs:List (List V3))(i k:Nat):Bool:=if i=k then true else !decide (0<=zx (gh hs k) (gt (gh hs i) 0))
def IW(hs:List (List V3)):Bool:=jC (λi=>jC (rP hs i) 0 hs.length) 0 hs.length
def Dx(f:Fen):Bool:=dO f.outer&&decide (f.holes.length<=16∧-1048576<=f.low/\f.high<=1048576/\f.low<=f.high)
def validP(f:Fen):Bool:=Dx f&&(uF f.outer [f.outer] f.holes&&IW f.holes)
theorem gX(h:dO l=true):3<=l.length/\l.length<=64/\l.all (inM 1048576)=true:=by unfold dO Dw at h;grind
theorem lU(h:dO l=true):Rd l:=by obtain⟨c,b,a⟩:=gX h;exact⟨by omega,IX a⟩
theorem vF{a:List (List V3)}{i:Nat}(h:i<a.length):gh a i∈a:=by grind
section
variable (X:Ext) (hX:Mine X)
include hX
theorem abJ(ys:List PV)(h' k:List PV)(j i:Int)(h:List PV)(g:Nat)(f c:Int)(s:List PV)(w v:List PV)(u t:Int)(A:Bool)(p:List PV)(n:Nat)(a b:V3)(C:mW a)(B:mW b)(R:Bool)
    (hnext:L tab (run tab X) 18 [] [.lp [1,1,1,0,1,0],.rg [1,1,0,0,1,1,0,1,0] [(true,kV3),(true,kV3)] ys,.lp [1,0,1,1,0]] (fC h' k j i h 0 g f (IntKind.i64.wrap (c+1)) w v u t A p 0 n a.x a.y a.z b.x b.y b.z)=some ([Ac R],[])):∀ o:List jW,(∀ e∈o,mW e.1/\mW e.2) ->
    L tab (run tab X) 18 [] [.lp [1,1,1,0,1,0],.rg [1,1,0,0,1,1,0,1,0] [(true,kV3),(true,kV3)] ys,.lp [1,0,1,1,0],.rg [1,1,0,0,1,1,0] [(true,kV3),(true,kV3)] (o.map eY)] (dh h' k j i h 0 g f c s w v u t A p 0 n a.x a.y a.z b.x b.y b.z)=some ([Ac ((o.all λd=>!sD a b d.1 d.2)&&R)],[]):=by
  intro o;induction o with
  | nil=>grind[lS]
  | cons e r D =>intro m;have q:=c42 X hX a b e.1 e.2 C B (m e (by simp)).1 (m e (by simp)).2;simp only[encV]at q;rw[List.map_cons,List.all_cons];show L tab (run tab X) 18 [] [.lp [1,1,1,0,1,0],.rg [1,1,0,0,1,1,0,1,0] [(true,kV3),(true,kV3)] ys,.lp [1,0,1,1,0],.rg [1,1,0,0,1,1,0] [(true,kV3),(true,kV3)] (.agg [.agg [Av e.1.x,Av e.1.y,Av e.1.z],.agg [Av e.2.x,Av e.2.y,Av e.2.z]]::r.map eY)] _=_;rw[lF,q,qOb];simp only[qLh,pv_p,toBool_bool];grind
theorem abK(ys:List PV)(h' g:List PV)(f e:Int)(d:List PV)(q n:List PV)(m k:Int)(s:Bool)(all:List (List V3))(h:∀ o∈all,Rd o)(F:all.length<=1000000)(a b:V3)(C:mW a)(B:mW b)(R:Bool)
    (hnext:L tab (run tab X) 18 [] [.lp [1,1,1,0,1,0],.rg [1,1,0,0,1,1,0,1,0] [(true,kV3),(true,kV3)] ys] (gK h' g f e d q n m k s (bK all) 0 all.length)=some ([Ac R],[])):∀(r:List (List V3)) (i:Nat),all.drop i=r->i<=all.length ->
    L tab (run tab X) 18 [] [.lp [1,1,1,0,1,0],.rg [1,1,0,0,1,1,0,1,0] [(true,kV3),(true,kV3)] ys,.lp [1,0,1,1,0]] (fC h' g f e d 0 all.length (all.length:Int) (i:Int) q n m k s (bK all) 0 all.length a.x a.y a.z b.x b.y b.z)=some ([Ac (r.all (edgeOk (a,b))&&R)],[]):=by
  intro r;induction r with
  | nil =>
   intro i u A;have c:i=all.length:=by have:=congrArg List.length u;grind
   refine L_of ?_;rw[lQ,xO (by omega),qCf];exact hnext
  | cons o r E =>
   intro i u A;have c:i<all.length:=by grind
   have t:gh all i=o:=by grind[qLb,List.head?_drop]
   have v:Rd o:=h o (by rw[<- t];exact vF c);have w:=v.len;have D:=dL (show i<=9000000000000000000 by omega);refine L_of ?_;rw[lQ,rZ c,qCt];simp only[le0,Bool.and_true,qCt,qIt,qNz,gY all c,t];show(run tab X 51 [Al (encL o)] []).bind _=_;rw[c51 X hX o,qOb];show(run tab X 100 [.yld,.p (.ref [As (encL o)])] [.log true []]).bind _=_;rw[PS X hX o (by omega),qOb,List.all_cons,Bool.and_assoc];have j:=abJ X hX ys h' g f e d all.length (all.length:Int) (i:Int) (encL o) q n m k s (bK all) all.length a b C B (r.all (edgeOk (a,b))&&R) (by grind[List.tail_drop]) (dJ o) (qp v);exact j
theorem abL(h' c:List PV)(b a:Int)(d:List PV)(outer:List V3)(u:Rd outer)(m:List PV)(k j:Int)(n:Bool)(all:List (List V3))(g:∀ o∈all,Rd o)(v:all.length<=1000000)(R:Bool)
    (hnext:L tab (run tab X) 18 [] [.lp [1,1,1,0,1,0]] (uo c b (IntKind.i64.wrap (a+1)) (encL outer) m k j n (bK all++[As h']) 0 (all.length+1))=some ([Ac R],[])):∀ h:List jW,(∀ e∈h,mW e.1/\mW e.2) ->
    L tab (run tab X) 18 [] [.lp [1,1,1,0,1,0],.rg [1,1,0,0,1,1,0,1,0] [(true,kV3),(true,kV3)] (h.map eY)] (gK h' c b a d (encL outer) m k j n (bK all) 0 all.length)=some ([Ac ((h.all λe=>decide (0<=zx outer e.1)&&all.all (edgeOk e))&&R)],[]):=by
  intro h;induction h with
  | nil =>intro _;rw[List.map_nil,vC,show leN (all.length+1) 2147483648=true from decide_eq_true (by omega),qCt,qLy,List.take_of_length_le (by rw[bM];omega)];exact hnext
  | cons e r s =>
   intro f;obtain⟨p,w⟩:=f e (by simp);have q:=c52 X hX outer u e.1 p;simp only[encV]at q;rw[List.map_cons,List.all_cons];show L tab (run tab X) 18 [] [.lp [1,1,1,0,1,0],.rg [1,1,0,0,1,1,0,1,0] [(true,kV3),(true,kV3)] (.agg [.agg [Av e.1.x,Av e.1.y,Av e.1.z],.agg [Av e.2.x,Av e.2.y,Av e.2.z]]::r.map eY)] _=_;rw[uK,q,qOb];simp only[qLh,pv_p,toInt_int];by_cases t:0<=zx outer e.1
   . rw[show ltI (zx outer e.1) 0=false from decide_eq_false (by omega),qCf,decide_eq_true t,Bool.true_and,Bool.and_assoc];exact abK X hX (r.map eY) h' c b a d (encL outer) m k j n all g v e.1 e.2 p w _ (s λA i=>f A (by simp[i])) all 0 rfl (by omega)
   grind
theorem abM(r A:List PV)(o n:Int)(t:Bool)(a:List (List V3))(j:∀ h∈a,dO h=true)(C:a.length<=1000000)(i:Nat)(v:i<a.length)(R:Bool)
    (hnext:L tab (run tab X) 18 [] [.lp [1,1,1,1,0,1,0]] (qO (bK a) (a.length:Int) ((i+1:Nat):Int) r (bK a) o n t)=some ([Ac R],[])):∀ m k,k+m=a.length ->
    L tab (run tab X) 18 [] [.lp [1,1,1,1,0,1,0],.lp [1,1,0,0,1,1,0]] (iT (i:Int) (encL (gh a i)) (bK a) (a.length:Int) (i:Int) (bK a) (a.length:Int) (k:Int) r (bK a) o n t)=some ([Ac (jC (rP a i) k m&&R)],[]):=by
  have _:=A;intro m;induction m with
  | zero =>intro k u;refine L_of ?_;rw[rX,xO (by omega),qCf,dL (by omega)];exact hnext
  | succ m B =>
   intro k u;have b:k<a.length:=by omega
   have c:=j _ (vF v);have g:=j _ (vF b);have D:=(gX c).1;have q:=c52 X hX (gh a k) (lU g) (gt (gh a i) 0) ((lU c).ok 0);simp only[encV]at q;have f:jC (rP a i) k (m+1)=(rP a i k&&jC (rP a i) (k+1) m):=rfl;refine L_of ?_;rw[rX,rZ b,qCt];simp only[bM,le0,rZ b,Bool.and_true,qCt,qIt,gY a b,dL (show k<=9000000000000000000 by omega)];rw[f];have w:((i:Int) !=(k:Int))=!decide (i=k):=by grind
   rw[w];by_cases e:i=k
   . have s:rP a i k=true:=by unfold rP;rw[if_pos e]
     grind
   . have s:rP a i k=!decide (0<=zx (gh a k) (gt (gh a i) 0)):=by unfold rP;rw[if_neg e]
     have d:ltI (0:Int) (((encL (gh a i)).length:Nat):Int)=true:=by rw[encL_length];exact decide_eq_true (by omega)
     rw[decide_eq_false e,Bool.not_false,qCt,d,qCt,encL_x,encL_y,encL_z,s];show(run tab X 52 [Al (encL (gh a k)),.p (.agg [Av (gt (gh a i) 0).x,Av (gt (gh a i) 0).y,Av (gt (gh a i) 0).z])] []).bind _=_;rw[q,qOb];simp only[qLh,pv_p,toInt_int];grind
theorem abO(e:List PV)(d c:Int)(f:Bool)(a:List (List V3))(n:∀ h∈a,dO h=true)(j:a.length<=1000000):∀ m i,i+m=a.length ->
    L tab (run tab X) 18 [] [.lp [1,1,1,1,0,1,0]] (qO (bK a) (a.length:Int) (i:Int) e (bK a) d c f)=some ([Ac (jC (λi=>jC (rP a i) 0 a.length) i m)],[]):=by
  intro m;induction m with
  | zero =>intro i k;refine L_of ?_;rw[Dt,xO (by omega),qCf];rfl
  | succ m g =>
   intro i k;have b:i<a.length:=by omega
   refine L_of ?_;rw[Dt,rZ b,qCt];simp only[bM,le0,rZ b,Bool.and_true,qCt,qIt,gY a b];exact abM X hX e [] d c f a n j i b _ (g (i+1) (by omega)) a.length 0 (by omega)
theorem abP(f:Fen)(A:f.holes.length<=16)(c:∀ h∈f.holes,h.length<=1000000)(t:dO f.outer=true)(q:Bool):∀(r:List (List V3)) (i:Nat) (all:List (List V3)),f.holes.drop i=r->i<=f.holes.length->all=f.outer::f.holes.take i->(∀ h∈f.holes.take i,dO h=true) ->
    L tab (run tab X) 18 [] [.lp [1,1,1,0,1,0]] (uo (bK f.holes) (f.holes.length:Int) (i:Int) (encL f.outer) (bK f.holes) f.low f.high q (bK all) 0 all.length)=some ([Ac (uF f.outer all r&&IW f.holes)],[]):=by
  intro r;induction r with
  | nil =>
   intro i all g w b e;have a:i=f.holes.length:=by have:=congrArg List.length g;grind
   subst a;rw[List.take_length]at e;refine L_of ?_;rw[Fa,xO (by omega),qCf,bM];exact abO X hX _ _ _ q f.holes e (by omega) f.holes.length 0 (by omega)
  | cons h r v =>
   intro i all g w b e;have a:i<f.holes.length:=by grind
   have s:gh f.holes i=h:=by show f.holes.getD i []=h;rw[qLb,<- List.head?_drop,g];rfl
   have u:h∈f.holes:=by rw[<- s];exact vF a
   refine L_of ?_;rw[Fa,rZ a,qCt];simp only[bM,le0,rZ a,Bool.and_true,qCt,qIt,gY f.holes a,s];show(run tab X 12 [Al (encL h)] []).bind _=_;rw[c12 X hX h (c h u),qOb];simp only[qLh,pv_p,toBool_bool];rw[uF,Fv,Bool.and_assoc,Bool.and_assoc];cases k:dO h with
   | false=>rfl
   | true =>
    rw[qBt,qCf,Bool.true_and];show(run tab X 51 [Al (encL h)] []).bind _=_;rw[c51 X hX h,qOb];show(run tab X 100 [.yld,.p (.ref [As (encL h)])] [.log true []]).bind _=_;have m:=lU k;rw[PS X hX h (c h u),qOb];have j:(f.holes.take i).length=i:=by rw[List.length_take];omega
    have x:all.length=i+1:=by rw[b,qLl,j]
    have n:f.holes.take (i+1)=f.holes.take i++[h]:=by simp_all[List.head?_drop,List.take_add_one]
    refine abL X hX (encL h) _ _ _ _ f.outer (lU t) _ _ _ q all (λo d=>?_) (by omega) _ ?_ (dJ h) (qp m)
    . rw[b]at d;rcases List.mem_cons.1 d with rfl | d
      . exact lU t
      . exact lU (e o d)
    . rw[dL (by omega)];have z:bK all++[As (encL h)]=bK (all++[h]):=by simp[bK]
      have y:all.length+1=(all++[h]).length:=by simp
      rw[z,y];refine v (i+1) (all++[h]) (by rw[<- List.tail_drop,g];rfl) (by omega) ?_ ?_
      . grind
      . rw[n];intro o d;rcases List.mem_append.1 d with d | d;all_goals simp_all
structure tY (f:Fen):Prop where
 outer:f.outer.length<=1000000
 holes:∀ h∈f.holes,h.length<=1000000
 len:f.holes.length<=1000000
theorem c18(f:Fen)(a:tY f):run tab X 18 [.p (encF f)] []=some ([Ac (validP f)],[]):=
 run_of (hX _ rfl) (by
  rw[encF,e18,c12 X hX f.outer a.outer,qOb];simp only[qLh,pv_p,toBool_bool,bM];unfold validP Dx;cases c:dO f.outer with
  | false=>rfl
  | true =>
   rw[qBt,qCf,Bool.true_and];by_cases b:f.holes.length<=16
   . rw[show gtI ((f.holes.length:Nat):Int) (16:Int)=false from decide_eq_false (by omega),qCf];by_cases e:-1048576<=f.low
     . rw[show ltI f.low (-1048576)=false from decide_eq_false (by omega),qCf];by_cases d:f.high<=1048576
       . rw[show gtI f.high 1048576=false from decide_eq_false (by omega),qCf];by_cases h4:f.low<=f.high
         . rw[show gtI f.low f.high=false from decide_eq_false (by omega),qCf,decide_eq_true ⟨b,e,d,h4⟩,Bool.true_and];exact abP X hX f b a.holes c false f.holes 0 [f.outer] rfl (by omega) rfl (by simp)
         grind
       grind
     grind
   grind)
end
end
section
variable {k m:Nat}{x y z:Int}
def Lt2(k:Nat)(z:Int):Prop:=z.natAbs<2^k
theorem Lt2.mono(h:Lt2 k z)(a:k<=m):Lt2 m z:=Nat.lt_of_lt_of_le h (Nat.pow_le_pow_right (by decide) a)
theorem Lt2.mul(b:Lt2 k x)(a:Lt2 m y):Lt2 (k+m) (x*y):=by unfold Lt2 at *;rw[Int.natAbs_mul,Nat.pow_add];exact Nat.mul_lt_mul_of_lt_of_lt b a
theorem Lt2.sub(b:Lt2 k x)(a:Lt2 k y):Lt2 (k+1) (x-y):=by unfold Lt2 at *;omega
theorem Lt2.add(b:Lt2 k x)(a:Lt2 k y):Lt2 (k+1) (x+y):=by unfold Lt2 at *;omega
theorem Lt2.okW{k:Nat}{z:Int}(h:Lt2 k z)(a:k<=65536):okW z:=Nat.le_trans (AQ h) a
theorem tJ{n:Nat}(h:-(n:Int)<=z/\z<=n)(a:n<2^k):Lt2 k z:=by unfold Lt2;omega
theorem vZ{v:V3}(h:mW v):Lt2 25 v.x/\Lt2 25 v.y:=by obtain⟨b,a,_⟩:=h;exact⟨tJ (n:=16777216) (by omega) (by decide),tJ (n:=16777216) (by omega) (by decide)⟩
theorem J8{a b:V3}(d:mW a)(c:mW b):Lt2 26 (b.x-a.x)/\Lt2 26 (b.y-a.y):=by obtain⟨g,f,_⟩:=d;obtain⟨b1,e,_⟩:=c;exact⟨tJ (n:=33554432) (by omega) (by decide),tJ (n:=33554432) (by omega) (by decide)⟩
abbrev pZ:PV:=.ref [Av 0]
abbrev J9(u v w:Int):List PV:=[.bool (decide (u<0)),.str (mQ u.natAbs),.bool (decide (v<0)),.str (mQ v.natAbs),.bool (decide (w<0)),.str (mQ w.natAbs)]
def X7(u v w:Int):PV:=.agg (J9 u v w)
theorem yj(z:Int):z.sign=iY z:=by grind[iY]
structure Sp (u v w:Int):Prop where
 bu:Lt2 20000 u
 bv:Lt2 20000 v
 bw:Lt2 20000 w
 pos:0<w
theorem Sp.off{u v w:Int}(h:Sp u v w){c:Int}(b:Lt2 25 c):okW (c*w)/\Lt2 20026 (u-c*w)/\Lt2 20026 (v-c*w):=by have a:Lt2 20025 (c*w):=(b.mul h.bw).mono (by omega);exact⟨a.okW (by omega),((h.bu.mono (by omega)).sub a).mono (by omega),((h.bv.mono (by omega)).sub a).mono (by omega)⟩
section
variable (X:Ext) (hX:Mine X) (hB:Bits X)
include hX
theorem c78(z:Int):run tab X 78 [.p pZ,.p (eW z),Ab 0] []=some ([.p (eW z)],[]):=run_of (hX _ rfl) (by rw[eW,e78];rfl)
include hB
theorem Um(a b:Int)(e:okW a)(d:okW b)(h:okW (a*b)):run tab X 77 [.p pZ,.p (eW a),.p (eW b)] []=some ([.p (eW (a*b))],[]):=
 run_of (hX _ rfl) (by have c:=c138 X hX hB a b e d;rw[yt,if_pos h,eW,eW]at c;rw[eW,eW,e77,c,qOb];simp only[qLh,List.tail_cons,pv_p,toInt_int,iV];rw[c78 X hX,qOb];rfl)
theorem VY(a b:Int)(e:okW a)(d:okW b)(h:okW (a-b)):run tab X 123 [.p pZ,.p (eW a),.p (eW b)] []=some ([.p (eW (a-b))],[]):=
 run_of (hX _ rfl) (by have c:=c159 X hX hB a b e d;rw[yt,if_pos h,eW,eW]at c;rw[eW,eW,abq,c,qOb];simp only[qLh,List.tail_cons,pv_p,toInt_int,iV];rw[c78 X hX,qOb];rfl)
theorem c63(a b c d:Int)(j:okW a)(h:okW b)(i:okW c)(hd:okW d)(o:okW (a*d))(n:okW (c*b))(l:okW (b*d)):run tab X 63 [.p pZ,.p (eR a b),.p (eR c d)] []=some ([.p (X7 (a*d) (c*b) (b*d))],[]):=
 run_of (hX _ rfl) (by have g:=Um X hX hB a d j hd o;have f:=Um X hX hB c b i h n;have e:=Um X hX hB b d h hd l;rw[eW]at g f e;rw[eW]at g f e;rw[eR,eR,e63,g,qOb,f,qOb,e,qOb];rfl)
theorem X8(a:V3)(i:mW a)(u v w:Int)(h:Sp u v w):run tab X 122 [.p (encV a),.p (.ref [pZ]),.p (.ref (J9 u v w))] []=some ([.p (eW (u-a.x*w)),.p (eW (v-a.y*w))],[]):=
 run_of (hX _ rfl) (by obtain⟨f,e⟩:=vZ i;obtain⟨b,j,_⟩:=h.off f;obtain⟨y1,_,y2⟩:=h.off e;obtain⟨b1,q,_⟩:=i;have g:=h.bw.okW (by omega);have d:=Um X hX hB a.x w (f.okW (by omega)) g b;have n:=Um X hX hB a.y w (e.okW (by omega)) g y1;have c:=VY X hX hB u (a.x*w) (h.bu.okW (by omega)) b (j.okW (by omega));have l:=VY X hX hB v (a.y*w) (h.bv.okW (by omega)) y1 (y2.okW (by omega));rw[eW,eW]at c l;have o:∀ z:Int,eW z=PV.agg [.bool (decide (z<0)),.str (mQ z.natAbs)]:=λ_=>rfl;rw[o w]at d n;rw[encV,abp,c61 X hX hB a.x (by omega) (by omega),qOb];simp only[qLh,pv_p,iV];rw[d,qOb];simp only[qLh,pv_p];rw[show(PV.agg [.bool (((eW (a.x*w)).cell 0).toBool),.str (((eW (a.x*w)).cell 1).toStr)])=PV.agg [.bool (decide (a.x*w<0)),.str (mQ (a.x*w).natAbs)] from rfl,c,qOb];rw[c61 X hX hB a.y (by omega) (by omega),qOb];simp_all)
abbrev Rl(u v w:Int):PV:=.fn 122 [.ref [pZ],.ref (J9 u v w)]
theorem c124(a b:V3)(e:mW a)(i:mW b)(u v w:Int)(h:Sp u v w):run tab X 124 [.p (encV a),.p (encV b),.p (.ref [Rl u v w]),.p (.ref [pZ])] []=some ([Ab (iY (Tq a b u v w))],[]):=
 run_of (hX _ rfl) (by obtain⟨s,r⟩:=vZ e;obtain⟨_,f,_⟩:=h.off s;obtain⟨_,_,y2⟩:=h.off r;obtain⟨l,j⟩:=J8 e i;have g:=X8 X hX hB a e u v w h;obtain⟨B,A,_⟩:=e;obtain⟨b1,t,_⟩:=i;have d:Lt2 20052 ((b.x-a.x)*(v-a.y*w)):=(l.mul y2).mono (by omega);have c:Lt2 20052 ((b.y-a.y)*(u-a.x*w)):=(j.mul f).mono (by omega);have q:=Um X hX hB (b.x-a.x) (v-a.y*w) (l.okW (by omega)) (y2.okW (by omega)) (d.okW (by omega));have o:=Um X hX hB (b.y-a.y) (u-a.x*w) (j.okW (by omega)) (f.okW (by omega)) (c.okW (by omega));have n:=VY X hX hB _ _ (d.okW (by omega)) (c.okW (by omega)) ((d.sub c).okW (by omega));rw[encV]at g;rw[encV,encV,abr,g,qOb,wrap_eq (x:=b.x-a.x) (by omega) (by omega),wrap_eq (x:=b.y-a.y) (by omega) (by omega),c61 X hX hB _ (by omega) (by omega),qOb];simp only[qLh,List.tail_cons,pv_p,iV];rw[q,qOb,c61 X hX hB _ (by omega) (by omega),qOb];simp only[qLh,List.tail_cons,pv_p,iV];rw[o,qOb];simp only[qLh,List.tail_cons,pv_p,iV];rw[n,qOb];simp only[qLh,List.tail_cons,pv_p,iV];rw[c109 X hX _ ((d.sub c).okW (by omega)),yj];rfl)
theorem Om(x y:Int):IntKind.i64.wrap (0-(x-y).sign)=iY (y-x):=by have _:=hX;have _:=hB;rw[yj];have d:=nM (n:=x-y);have c:=AO (n:=x-y);have b:=nM (n:=y-x);have h4:=AO (n:=y-x);rcases uy (x-y)with e | e | e<;>rcases uy (y-x)with a | a | a<;>rw[e,a]<;>rw[e]at d c<;>rw[a]at b h4<;>first | rfl | omega
theorem X9(a:V3)(c:mW a)(u v w:Int)(h:Sp u v w):run tab X 125 [.p (encV a),Ab 0,.p (.ref [Rl u v w])] []=some ([Ab (iY (a.x*w-u))],[])/\run tab X 125 [.p (encV a),Ab 1,.p (.ref [Rl u v w])] []=some ([Ab (iY (a.y*w-v))],[]):=by
 obtain⟨f,e⟩:=vZ c;obtain⟨_,d,_⟩:=h.off f;obtain⟨_,_,y2⟩:=h.off e;have b:=X8 X hX hB a c u v w h;rw[encV]at b;constructor
 . refine run_of (hX _ rfl) ?_;rw[encV,e125,b,qOb,show((0:Int)==0)=true from rfl,qCt];simp only[qLh,pv_p,iV];rw[c109 X hX _ (d.okW (by omega)),qOb];simp only[qLh,pv_p,toInt_int];rw[Om X hX hB]
 . refine run_of (hX _ rfl) ?_;rw[encV,e125,b,qOb,show((1:Int)==0)=false from rfl,qCf];simp only[qLh,List.tail_cons,pv_p,iV];rw[c109 X hX _ (y2.okW (by omega)),qOb];simp only[qLh,pv_p,toInt_int];rw[Om X hX hB]
end
end
section
abbrev SW(l:List PV)(u v w b6 wd:Int):St:=bF l 0 (decide (u<0)) (mQ u.natAbs) (decide (v<0)) (mQ v.natAbs) (decide (w<0)) (mQ w.natAbs) 0 0 (decide (u<0)) (mQ u.natAbs) (decide (v<0)) (mQ v.natAbs) (decide (w<0)) (mQ w.natAbs) b6 wd
abbrev rgW(ys:List PV):List Wy:=[.rg [1,1,0,1,0] [(true,kV3),(true,kV3)] ys]
section
variable (X:Ext) (hX:Mine X) (hB:Bits X)
include hX hB
theorem Ya(l:List PV)(u v w:Int)(hp:Sp u v w)(f:Int):∀(c:List jW) (a:Int),(∀ e∈c,mW e.1/\mW e.2)→-(1000000-(c.length:Int))<=a/\a<=1000000-(c.length:Int) ->
    L tab (run tab X) 101 [] (rgW (c.map eY)) (SW l u v w f a)=some ([Ab (Fq u v w a c)],[]):=by
  intro c;induction c with
  | nil =>intro a _ _;rw[List.map_nil,D6];unfold Fq D7;grind
  | cons e r p =>
   intro a d s;simp only[qLl]at s;obtain⟨o,n⟩:=d e (by simp);have m:=c124 X hX hB e.1 e.2 o n u v w hp;have h:=X9 X hX hB e.1 o u v w hp;have g:=X9 X hX hB e.2 n u v w hp;simp only[encV]at m h g;have A:=Hr u v w e;have B:=λb q=>p b (λt j=>d t (by simp[j])) q;rw[List.map_cons,Ht];show L tab (run tab X) 101 [] (rgW (.agg [.agg [Av e.1.x,Av e.1.y,Av e.1.z],.agg [Av e.2.x,Av e.2.y,Av e.2.z]]::r.map eY)) (SW l u v w f a)=_;rw[Ce,m,qOb,h.1,qOb,h.2,qOb,g.1,qOb,g.2,qOb];simp only[qLh,pv_p,toInt_int];have i:=J7 u v w e a (some ([Ab 0],([]:List Blk))) (λb=>L tab (run tab X) 101 [] (rgW (r.map eY)) (SW l u v w f b));have k:(if JE u v w e then some ([Ab 0],([]:List Blk))else L tab (run tab X) 101 [] (rgW (r.map eY)) (SW l u v w f (a+JF u v w e)))=some ([Ab (if JE u v w e then 0 else Fq u v w (a+JF u v w e) r)],[]):=by grind
   rw[<- k,<- i,yV,yV,wrap_eq (x:=a+1) (by omega) (by omega),wrap_eq (x:=a-1) (by omega) (by omega)];rw[J6 _ _ _ _ _ _ _ _ _ _ _ _ _ _ _ _ _ rfl rfl rfl rfl rfl rfl rfl rfl rfl];grind
theorem c66(l:List V3)(a:Rd l)(u v w:Int)(hp:Sp u v w):run tab X 66 [.p pZ,Al (encL l),.p (X7 u v w)] []=some ([Ab (uz l u v w)],[]):=
 run_of (hX _ rfl) (by have c:run tab X 101 [Al (encL l),.p (.fn 124 [.ref [Rl u v w],.ref [pZ]]),.p (.fn 125 [.ref [Rl u v w]])] []=some ([Ab (uz l u v w)],[]):=run_of (hX _ rfl) (by rw[XB,c51 X hX l,qOb];show(run tab X 100 [.yld,.p (.ref [As (encL l)])] [.log true []]).bind _=_;have:=a.len;rw[PS X hX l (by omega),qOb];have b:=Ya X hX hB (encL l) u v w hp 0 (dJ l) 0 (qp a) (by rw[jr];omega);rw[Hu,MK hp.pos]at b;exact b);rw[X7,e66,c];rfl)
theorem c65(l:List V3)(b:Rd l)(u v w:Int)(hp:Sp u v w):run tab X 65 [Al (encL l),.p pZ,.p (.ref (J9 u v w))] []=some ([Ab (uz l u v w)],[]):=
 run_of (hX _ rfl) (by have a:=c66 X hX hB l b u v w hp;rw[X7]at a;rw[e65,a];rfl)
theorem Yb(l:List V3)(a:Rd l)(u v w:Int)(hp:Sp u v w):run tab X 121 [Al (encL l),.p (.ref [.fn 65 [pZ,.ref (J9 u v w)]])] []=some ([Ac (decide (0<uz l u v w))],[]):=
 run_of (hX _ rfl) (by rw[Xv,c65 X hX hB l a u v w hp];rfl)
theorem l158a(a:List (List V3))(j:∀ h∈a,Rd h)(d:a.length<=1000000)(u v w:Int)(hp:Sp u v w):∀(r:List (List V3)) (i:Nat),a.drop i=r->i<=a.length ->
    L tab (run tab X) 158 [] [.lp [1,0,1,0]] (wY (bK a) 0 (decide (u<0)) (mQ u.natAbs) (decide (v<0)) (mQ v.natAbs) (decide (w<0)) (mQ w.natAbs) ((a.length:Nat):Int) (i:Int))=some ([Ab (rO (λh=>decide (0<uz h u v w)) r i)],[]):=by
  intro r;induction r with
  | nil =>
   intro i c g;have b:i=a.length:=by have:=congrArg List.length c;grind
   refine L_of ?_;rw[E5,xO (by omega),qCf];rfl
  | cons h r k =>
   intro i c g;have b:i<a.length:=by grind
   have e:gh a i=h:=by grind[qLb,List.head?_drop]
   have f:h∈a:=by grind
   refine L_of ?_;rw[E5,rZ b,qCt];simp only[bM,le0,rZ b,Bool.and_true,qCt,qIt,gY a b,e,dL (show i<=9000000000000000000 by omega)];show(run tab X 121 [Al (encL h),.p (.ref [.fn 65 [pZ,.ref (J9 u v w)]])] []).bind _=_;rw[Yb X hX hB h (j h f) u v w hp,qOb];simp only[qLh,pv_p,toBool_bool];rw[rO];cases decide (0<uz h u v w)with
   | true=>rfl
   | false =>rw[qCf,if_neg (by decide)];grind[List.tail_drop]
theorem abR(f:Fen)(a:Ul f)(u v w:Int)(hp:Sp u v w):run tab X 64 [.p (encF f),.p (.fn 65 [pZ,.ref (J9 u v w)])] []=some ([Ac (GR f u v w)],[]):=
 run_of (hX _ rfl) (by
  have b:run tab X 120 [Ao (bK f.holes),.p (.fn 121 [.ref [.fn 65 [pZ,.ref (J9 u v w)]]])] []=some ([Ac (f.holes.any λh=>decide (0<uz h u v w))],[]):=run_of (hX _ rfl) (by have c:run tab X 158 [Ao (bK f.holes),.p (.fn 121 [.ref [.fn 65 [pZ,.ref (J9 u v w)]]])] []=some ([Ab (rO (λh=>decide (0<uz h u v w)) f.holes 0)],[]):=run_of (hX _ rfl) (by rw[Xy,bM];exact l158a X hX hB f.holes a.holes a.len u v w hp f.holes 0 rfl (by omega));grind[Xr,qOb,qLh,pv_p,toInt_int,xk]);rw[encF,abn,c65 X hX hB f.outer a.outer u v w hp,qOb];simp only[qLh,pv_p,toInt_int];unfold GR;show(bif decide (0<=uz f.outer u v w)then _ else _)=_;cases decide (0<=uz f.outer u v w)with
  | false=>rfl
  | true=>rw[qCt,b];rfl)
theorem c82(l:List V3)(b:Rd l)(u v w:Int)(hp:Sp u v w):run tab X 82 [Al (encL l),.p pZ,.p (.ref (J9 u v w))] []=some ([Ab (uz l u v w)],[]):=
 run_of (hX _ rfl) (by have a:=c66 X hX hB l b u v w hp;rw[X7]at a;rw[e82,a];rfl)
theorem Yc(l:List V3)(a:Rd l)(u v w:Int)(hp:Sp u v w):run tab X 121 [Al (encL l),.p (.ref [.fn 82 [pZ,.ref (J9 u v w)]])] []=some ([Ac (decide (0<uz l u v w))],[]):=
 run_of (hX _ rfl) (by rw[Xw,c82 X hX hB l a u v w hp];rfl)
theorem Yd(a:List (List V3))(j:∀ h∈a,Rd h)(d:a.length<=1000000)(u v w:Int)(hp:Sp u v w):∀(r:List (List V3)) (i:Nat),a.drop i=r->i<=a.length ->
    L tab (run tab X) 158 [] [.lp [1,0,1,0]] (wZ (bK a) 0 (decide (u<0)) (mQ u.natAbs) (decide (v<0)) (mQ v.natAbs) (decide (w<0)) (mQ w.natAbs) ((a.length:Nat):Int) (i:Int))=some ([Ab (rO (λh=>decide (0<uz h u v w)) r i)],[]):=by
  intro r;induction r with
  | nil =>
   intro i c g;have b:i=a.length:=by have:=congrArg List.length c;grind
   refine L_of ?_;rw[E8,xO (by omega),qCf];rfl
  | cons h r k =>
   intro i c g;have b:i<a.length:=by grind
   have e:gh a i=h:=by grind[qLb,List.head?_drop]
   have f:h∈a:=by grind
   refine L_of ?_;rw[E8,rZ b,qCt];simp only[bM,le0,rZ b,Bool.and_true,qCt,qIt,gY a b,e,dL (show i<=9000000000000000000 by omega)];show(run tab X 121 [Al (encL h),.p (.ref [.fn 82 [pZ,.ref (J9 u v w)]])] []).bind _=_;rw[Yc X hX hB h (j h f) u v w hp,qOb];simp only[qLh,pv_p,toBool_bool];rw[rO];cases decide (0<uz h u v w)with
   | true=>rfl
   | false =>rw[qCf,if_neg (by decide)];grind[List.tail_drop]
theorem abS(f:Fen)(a:Ul f)(u v w:Int)(hp:Sp u v w):run tab X 64 [.p (encF f),.p (.fn 82 [pZ,.ref (J9 u v w)])] []=some ([Ac (GR f u v w)],[]):=
 run_of (hX _ rfl) (by
  have b:run tab X 120 [Ao (bK f.holes),.p (.fn 121 [.ref [.fn 82 [pZ,.ref (J9 u v w)]]])] []=some ([Ac (f.holes.any λh=>decide (0<uz h u v w))],[]):=run_of (hX _ rfl) (by have c:run tab X 158 [Ao (bK f.holes),.p (.fn 121 [.ref [.fn 82 [pZ,.ref (J9 u v w)]]])] []=some ([Ab (rO (λh=>decide (0<uz h u v w)) f.holes 0)],[]):=run_of (hX _ rfl) (by rw[Xz,bM];exact Yd X hX hB f.holes a.holes a.len u v w hp f.holes 0 rfl (by omega));grind[Xt,qOb,qLh,pv_p,toInt_int,xk]);rw[encF,abo,c82 X hX hB f.outer a.outer u v w hp,qOb];simp only[qLh,pv_p,toInt_int];unfold GR;show(bif decide (0<=uz f.outer u v w)then _ else _)=_;cases decide (0<=uz f.outer u v w)with
  | false=>rfl
  | true=>rw[qCt,b];rfl)
end
end
end Go.Skm.Fen
