import Derived.Test.YtoheflpoanjihaaGreatG10
import Derived.Test.YtoheflpoanjihaaGreatEqv2
import Derived.Test.YtoheflpoanjihaaGreatR2
set_option linter.all false
namespace Go.Skm.Fen
open Go Go.Skm
section
variable {α:Type}
theorem TQ(a b p:V3):Tq a b p.x p.y 1=area a b p:=by unfold Tq area;simp only[Int.mul_one]
theorem Fv(u v w:Int)(e:ku):Ie u v w e=1\/Ie u v w e=-1\/Ie u v w e=0:=by grind[Ie]
def QO{α:Type}(s ax ay bx by_ w:Int)(z:α)(k:Int->α):α:=
 if s=0/\ax*bx<=0/\ay*by_<=0 then z else k (w+(if ay<=0/\0<by_/\0<s then 1 else if by_<=0/\0<ay/\s<0 then -1 else 0))
theorem xA(a b:Int):IntKind.i64.wrap (iE a*iE b)=iE a*iE b:=by rcases rH a with h | h | h<;>rcases rH b with c | c | c<;>rw[h,c]<;>rfl
theorem IJ(s d b c a w:Int)(z:α)(K:Int->α)(c1 c2 c3 c4 c5 g f c8 e:Bool)(n:c1=decide (s=0))(m:c2=decide (d*c<=0))(l:c3=decide (b*a<=0))(h4:c4=decide (b<=0))(h5:c5=decide (0<a))(k:g=decide (0<s))(j:f=decide (0<b))(i:c8=decide (a<=0))(h:e=decide (s<0)) :
    QO s d b c a w z K=bif c1&&(c2&&c3)then z else bif c4&&(c5&&g)then K (w+1)else bif f&&(c8&&e)then K (w-1)else K w:=by
  unfold QO;by_cases o:s=0/\d*c<=0/\b*a<=0
  . grind
  . grind
theorem IK(u v w:Int)(e:ku)(a:Int)(z:α)(K:Int->α) :
    QO (iE (Tq e.1 e.2 u v w)) (iE (e.1.x*w-u)) (iE (e.1.y*w-v)) (iE (e.2.x*w-u)) (iE (e.2.y*w-v)) a z K=if GK u v w e then z else K (a+Ie u v w e):=by
  unfold QO GK Ie;have b:(iE (Tq e.1 e.2 u v w)=0/\iE (e.1.x*w-u)*iE (e.2.x*w-u)<=0/\iE (e.1.y*w-v)*iE (e.2.y*w-v)<=0)↔((iE (Tq e.1 e.2 u v w)==0)&&(decide (iE (e.1.x*w-u)*iE (e.2.x*w-u)<=0)&&decide (iE (e.1.y*w-v)*iE (e.2.y*w-v)<=0)))=true:=by simp
  by_cases h:iE (Tq e.1 e.2 u v w)=0/\iE (e.1.x*w-u)*iE (e.2.x*w-u)<=0/\iE (e.1.y*w-v)*iE (e.2.y*w-v)<=0
  . simp
  . simp
def D5(u v w wd:Int)(es:List ku):Int:=if es.any (GK u v w)then 0 else if wd+BQ u v w es≠0 then 1 else -1
theorem Fz(u v w a:Int)(e:ku)(b:List ku):D5 u v w a (e::b)=if GK u v w e then 0 else D5 u v w (a+Ie u v w e) b:=by unfold D5;rw[List.any_cons,BQ];grind
theorem FB(u v w:Int)(a:List ku):D5 u v w 0 a=VP u v w a:=by unfold D5 VP;rw[Int.zero_add]
section
variable (X:Ext) (hX:Mine X)
include hX
theorem c102(a b p:V3)(e:mg a)(d:mg b)(hp:mg p):run tab X 102 [.p (encV a),.p (encV b),.p (.ref [.int .i64 p.x,.int .i64 p.y,.int .i64 p.z])] []=some ([.p (.int .i64 (iE (Tq a b p.x p.y 1)))],[]):=
 run_of (hX _ rfl) (by have c:=c96 X hX a b p e d hp;simp only[encV]at c;rw[encV,encV,e102,c,TQ];rfl)
theorem c103(c p:V3)(a:mg c)(hp:mg p):(run tab X 103 [.p (encV c),.p (.int .i64 0),.p (.ref [.int .i64 p.x,.int .i64 p.y,.int .i64 p.z])] []=some ([.p (.int .i64 (iE (c.x*1-p.x)))],[]))/\(run tab X 103 [.p (encV c),.p (.int .i64 1),.p (.ref [.int .i64 p.x,.int .i64 p.y,.int .i64 p.z])] []=some ([.p (.int .i64 (iE (c.y*1-p.y)))],[])):=by
 obtain⟨e,d,_⟩:=a;obtain⟨b1,b,_⟩:=hp;constructor
 . refine run_of (hX _ rfl) ?_;rw[encV,e103,show((0:Int)==0)=true from rfl,qCt,wrap_eq (by omega) (by omega),c48 X hX,Int.mul_one];rfl
 . refine run_of (hX _ rfl) ?_;rw[encV,e103,show((1:Int)==0)=false from rfl,qCf,wrap_eq (by omega) (by omega),c48 X hX,Int.mul_one];rfl
theorem l101a(l:List PV)(p:V3)(hp:mg p)(f:Int):∀(c:List ku) (a:Int),(∀ e∈c,mg e.1/\mg e.2)→-(1000000-(c.length:Int))<=a/\a<=1000000-(c.length:Int) ->
    L tab (run tab X) 101 [] [.rg [1,1,0,1,0] [(true,kV3),(true,kV3)] (c.map eY)] (bC l p.x p.y p.z p.x p.y p.z f a)=some ([.p (.int .i64 (D5 p.x p.y 1 a c))],[]):=by
  intro c;induction c with
  | nil =>intro a _ _;rw[List.map_nil,BO];unfold D5 BQ;grind
  | cons e r q =>
   intro a d t;simp only[qLl]at t;obtain⟨o,n⟩:=d e (by simp);have m:=c102 X hX e.1 e.2 p o n hp;have h:=c103 X hX e.1 p o hp;have g:=c103 X hX e.2 p n hp;simp only[encV]at m h g;have v:=Fv p.x p.y 1 e;have w:=λb s=>q b (λu j=>d u (by simp[j])) s;rw[List.map_cons,Fz];show L tab (run tab X) 101 [] [.rg [1,1,0,1,0] [(true,kV3),(true,kV3)] (.agg [.agg [.int .i64 e.1.x,.int .i64 e.1.y,.int .i64 e.1.z],.agg [.int .i64 e.2.x,.int .i64 e.2.y,.int .i64 e.2.z]]::r.map eY)] (bC l p.x p.y p.z p.x p.y p.z f a)=_;rw[Ai,m,qOb,h.1,qOb,h.2,qOb,g.1,qOb,g.2,qOb];simp only[qLh,pv_p,toInt_int];have i:=IK p.x p.y 1 e a (some ([AV.p (.int .i64 0)],([]:List Blk))) (λb=>L tab (run tab X) 101 [] [.rg [1,1,0,1,0] [(true,kV3),(true,kV3)] (r.map eY)] (bC l p.x p.y p.z p.x p.y p.z f b));have k:(if GK p.x p.y 1 e then some ([AV.p (.int .i64 0)],([]:List Blk))else L tab (run tab X) 101 [] [.rg [1,1,0,1,0] [(true,kV3),(true,kV3)] (r.map eY)] (bC l p.x p.y p.z p.x p.y p.z f (a+Ie p.x p.y 1 e)))=some ([.p (.int .i64 (if GK p.x p.y 1 e then 0 else D5 p.x p.y 1 (a+Ie p.x p.y 1 e) r))],[]):=by grind
   rw[<- k,<- i,xA,xA,wrap_eq (x:=a+1) (by omega) (by omega),wrap_eq (x:=a-1) (by omega) (by omega)];rw[IJ _ _ _ _ _ _ _ _ _ _ _ _ _ _ _ _ _ rfl rfl rfl rfl rfl rfl rfl rfl rfl];grind
end
end
section
structure Fen where
 outer:List V3
 holes:List (List V3)
 low:Int
 high:Int
 deriving Inhabited
def bI(hs:List (List V3)):List PV:=hs.map λh=>.list true kV3 (encL h)
def encF(f:Fen):PV:=.agg [.list true kV3 (encL f.outer),.list false [.slice true kV3] (bI f.holes),.int .i64 f.low,.int .i64 f.high]
theorem bH(a:List (List V3)):(bI a).length=a.length:=by simp[bI]
abbrev gh(hs:List (List V3))(i:Nat):List V3:=hs.getD i []
theorem gJ(a:List (List V3)){i:Nat}(h:i<a.length):(bI a).getD i .nil=.list true kV3 (encL (gh a i)):=by grind[bI]
structure Rd (l:List V3):Prop where
 len:l.length<=1000
 ok:∀ i,mg (gt l i)
theorem o8{l:List V3}(h:Rd l):∀ e∈dA l,mg e.1/\mg e.2:=by intro e a;simp only[dA,sJ,List.mem_map]at a;obtain⟨i,_,rfl⟩:=a;exact⟨GN (h.ok _),GN (h.ok _)⟩
def xR(l:List V3)(p:V3):Int:=Aq l p.x p.y 1
def O4(f:Fen)(u v w:Int):Bool:=decide (0<=Aq f.outer u v w)&&!(f.holes.any λh=>decide (0<Aq h u v w))
def vg(f:Fen)(p:V3):Bool:=(decide (f.low<=p.z)&&decide (p.z<=f.high))&&O4 f p.x p.y 1
structure QS (f:Fen):Prop where
 outer:Rd f.outer
 holes:∀ h∈f.holes,Rd h
 len:f.holes.length<=1000000
def qB(P:List V3->Bool):List (List V3)->Nat->Int
 |[],_=>-1
 | h::r,i=>if P h then i else qB P r (i+1)
theorem vk(P:List V3->Bool):∀(a:List (List V3)) (i:Nat),geI (qB P a i) 0=a.any P
 |[],_=>rfl
 | h::r,i=>by
  rw[qB,List.any_cons];cases P h with
  | true=>exact decide_eq_true (show(0:Int)<=(i:Int) by omega)
  | false=>rw[Bool.false_or];exact vk P r (i+1)
section
variable (X:Ext) (hX:Mine X)
include hX
theorem VQ(l:List V3)(a:Rd l)(p:V3)(hp:mg p):run tab X 101 [.p (.list true kV3 (encL l)),.p (.fn 102 [.ref [.int .i64 p.x,.int .i64 p.y,.int .i64 p.z]]),.p (.fn 103 [.ref [.int .i64 p.x,.int .i64 p.y,.int .i64 p.z]])] []=some ([.p (.int .i64 (xR l p))],[]):=
 run_of (hX _ rfl) (by rw[Vk,c51 X hX l,qOb];show(run tab X 100 [.yld,.p (.ref [.list true kV3 (encL l)])] [.log true []]).bind _=_;have:=a.len;rw[NI X hX l (by omega),qOb];have b:=l101a X hX (encL l) p hp 0 (dA l) 0 (o8 a) (by rw[iI];omega);rw[FB,JW (by decide)]at b;exact b)
theorem Z7(l:List V3)(a:Rd l)(p:V3)(hp:mg p):run tab X 52 [.p (.list true kV3 (encL l)),.p (encV p)] []=some ([.p (.int .i64 (xR l p))],[]):=
 run_of (hX _ rfl) (by rw[encV,e52,VQ X hX l a p hp];rfl)
theorem c106(l:List V3)(a:Rd l)(p:V3)(hp:mg p):run tab X 106 [.p (.list true kV3 (encL l)),.p (.ref [.int .i64 p.x,.int .i64 p.y,.int .i64 p.z])] []=some ([.p (.int .i64 (xR l p))],[]):=
 run_of (hX _ rfl) (by have b:=Z7 X hX l a p hp;simp_all[encV,e106])
theorem VT(l:List V3)(a:Rd l)(p:V3)(hp:mg p):run tab X 121 [.p (.list true kV3 (encL l)),.p (.ref [.fn 106 [.ref [.int .i64 p.x,.int .i64 p.y,.int .i64 p.z]]])] []=some ([.p (.bool (decide (0<xR l p)))],[]):=
 run_of (hX _ rfl) (by rw[Vd,c106 X hX l a p hp];rfl)
theorem VU(a:List (List V3))(j:∀ h∈a,Rd h)(d:a.length<=1000000)(p:V3)(hp:mg p):∀(r:List (List V3)) (i:Nat),a.drop i=r->i<=a.length ->
    L tab (run tab X) 158 [] [.lp [1,0,1,0]] (uV (bI a) p.x p.y p.z ((a.length:Nat):Int) (i:Int))=some ([.p (.int .i64 (qB (λh=>decide (0<xR h p)) r i))],[]):=by
  intro r;induction r with
  | nil =>
   intro i c g;have b:i=a.length:=by have:=congrArg List.length c;grind
   refine L_of ?_;rw[DF,yL (by omega),qCf];rfl
  | cons h r k =>
   intro i c g;have b:i<a.length:=by grind
   have e:gh a i=h:=by grind[qLb,List.head?_drop]
   have f:h∈a:=by grind
   refine L_of ?_;rw[DF,sG b,qCt];simp only[bH,le0,sG b,Bool.and_true,qCt,qIt,gJ a b,e,fH (show i<=9000000000000000000 by omega)];show(run tab X 121 [.p (.list true kV3 (encL h)),.p (.ref [.fn 106 [.ref [.int .i64 p.x,.int .i64 p.y,.int .i64 p.z]]])] []).bind _=_;rw[VT X hX h (j h f) p hp,qOb];simp only[qLh,pv_p,toBool_bool];rw[qB];cases decide (0<xR h p)with
   | true=>rfl
   | false =>rw[qCf,if_neg (by decide)];grind[List.tail_drop]
theorem Z8(f:Fen)(a:QS f)(p:V3)(hp:mg p):run tab X 64 [.p (encF f),.p (.fn 106 [.ref [.int .i64 p.x,.int .i64 p.y,.int .i64 p.z]])] []=some ([.p (.bool (O4 f p.x p.y 1))],[]):=
 run_of (hX _ rfl) (by
  have b:run tab X 120 [.p (.list false [.slice true kV3] (bI f.holes)),.p (.fn 121 [.ref [.fn 106 [.ref [.int .i64 p.x,.int .i64 p.y,.int .i64 p.z]]]])] []=some ([.p (.bool (f.holes.any λh=>decide (0<xR h p)))],[]):=run_of (hX _ rfl) (by have c:run tab X 158 [.p (.list false [.slice true kV3] (bI f.holes)),.p (.fn 121 [.ref [.fn 106 [.ref [.int .i64 p.x,.int .i64 p.y,.int .i64 p.z]]]])] []=some ([.p (.int .i64 (qB (λh=>decide (0<xR h p)) f.holes 0))],[]):=run_of (hX _ rfl) (by rw[Vg,bH];exact VU X hX f.holes a.holes a.len p hp f.holes 0 rfl (by omega));grind[U9,qOb,qLh,pv_p,toInt_int,vk]);rw[encF,ZF,c106 X hX f.outer a.outer p hp,qOb];simp only[qLh,pv_p,toInt_int];unfold O4;have e:decide (0<=Aq f.outer p.x p.y 1)=decide (0<=xR f.outer p):=rfl;rw[e];show(bif decide (0<=xR f.outer p)then _ else _)=_;cases decide (0<=xR f.outer p)with
  | false=>rfl
  | true=>rw[qCt,b];rfl)
theorem c55(f:Fen)(b:QS f)(p:V3)(hp:mg p):run tab X 55 [.p (encF f),.p (encV p)] []=some ([.p (.bool (vg f p))],[]):=
 run_of (hX _ rfl) (by have a:=Z8 X hX f b p hp;rw[encF]at a;rw[encF,encV,e55,a];unfold vg;show(bif decide (f.low<=p.z)then(bif decide (p.z<=f.high)then _ else _)else _)=_;cases decide (f.low<=p.z)<;>cases decide (p.z<=f.high)<;>rfl)
end
end
section
variable {l:List V3}
def edgeOk(e:ku)(o:List V3):Bool:=(dA o).all λd=>!qH e.1 e.2 d.1 d.2
def D6(outer:List V3)(all:List (List V3))(h:List V3):Bool:=dG h&&(dA h).all λe=>decide (0<=xR outer e.1)&&all.all (edgeOk e)
def rM(outer:List V3):List (List V3)->List (List V3)->Bool
 | _,[]=>true
 | all,h::r=>D6 outer all h&&rM outer (all++[h]) r
def qC(hs:List (List V3))(i k:Nat):Bool:=if i=k then true else !decide (0<=xR (gh hs k) (gt (gh hs i) 0))
def GR(hs:List (List V3)):Bool:=jd (λi=>jd (qC hs i) 0 hs.length) 0 hs.length
def D7(f:Fen):Bool:=dG f.outer&&decide (f.holes.length<=16∧-1048576<=f.low/\f.high<=1048576/\f.low<=f.high)
def validP(f:Fen):Bool:=D7 f&&(rM f.outer [f.outer] f.holes&&GR f.holes)
theorem eH(h:dG l=true):3<=l.length/\l.length<=64/\l.all (inM 1048576)=true:=by unfold dG Bq at h;grind
theorem kX(h:dG l=true):Rd l:=by obtain⟨c,b,a⟩:=eH h;exact⟨by omega,GU a⟩
theorem tH{a:List (List V3)}{i:Nat}(h:i<a.length):gh a i∈a:=by grind
section
variable (X:Ext) (hX:Mine X)
include hX
theorem Z9(ys:List PV)(h' k:List PV)(j i:Int)(h:List PV)(g:Nat)(f c:Int)(t:List PV)(A w:List PV)(v u:Int)(B:Bool)(s:List PV)(n:Nat)(a b:V3)(D:mg a)(C:mg b)(R:Bool)
    (hnext:L tab (run tab X) 18 [] [.lp [1,1,1,0,1,0],.rg [1,1,0,0,1,1,0,1,0] [(true,kV3),(true,kV3)] ys,.lp [1,0,1,1,0]] (dO h' k j i h 0 g f (IntKind.i64.wrap (c+1)) A w v u B s 0 n a.x a.y a.z b.x b.y b.z)=some ([.p (.bool R)],[])):∀ o:List ku,(∀ e∈o,mg e.1/\mg e.2) ->
    L tab (run tab X) 18 [] [.lp [1,1,1,0,1,0],.rg [1,1,0,0,1,1,0,1,0] [(true,kV3),(true,kV3)] ys,.lp [1,0,1,1,0],.rg [1,1,0,0,1,1,0] [(true,kV3),(true,kV3)] (o.map eY)] (cu h' k j i h 0 g f c t A w v u B s 0 n a.x a.y a.z b.x b.y b.z)=some ([.p (.bool ((o.all λd=>!qH a b d.1 d.2)&&R))],[]):=by
  intro o;induction o with
  | nil=>grind[kT]
  | cons e r E =>intro m;have q:=c42 X hX a b e.1 e.2 D C (m e (by simp)).1 (m e (by simp)).2;simp only[encV]at q;rw[List.map_cons,List.all_cons];show L tab (run tab X) 18 [] [.lp [1,1,1,0,1,0],.rg [1,1,0,0,1,1,0,1,0] [(true,kV3),(true,kV3)] ys,.lp [1,0,1,1,0],.rg [1,1,0,0,1,1,0] [(true,kV3),(true,kV3)] (.agg [.agg [.int .i64 e.1.x,.int .i64 e.1.y,.int .i64 e.1.z],.agg [.int .i64 e.2.x,.int .i64 e.2.y,.int .i64 e.2.z]]::r.map eY)] _=_;rw[jW,q,qOb];simp only[qLh,pv_p,toBool_bool];grind
theorem aac(ys:List PV)(h' g:List PV)(f e:Int)(d:List PV)(q n:List PV)(m k:Int)(s:Bool)(all:List (List V3))(h:∀ o∈all,Rd o)(F:all.length<=1000000)(a b:V3)(C:mg a)(B:mg b)(R:Bool)
    (hnext:L tab (run tab X) 18 [] [.lp [1,1,1,0,1,0],.rg [1,1,0,0,1,1,0,1,0] [(true,kV3),(true,kV3)] ys] (fP h' g f e d q n m k s (bI all) 0 all.length)=some ([.p (.bool R)],[])):∀(r:List (List V3)) (i:Nat),all.drop i=r->i<=all.length ->
    L tab (run tab X) 18 [] [.lp [1,1,1,0,1,0],.rg [1,1,0,0,1,1,0,1,0] [(true,kV3),(true,kV3)] ys,.lp [1,0,1,1,0]] (dO h' g f e d 0 all.length (all.length:Int) (i:Int) q n m k s (bI all) 0 all.length a.x a.y a.z b.x b.y b.z)=some ([.p (.bool (r.all (edgeOk (a,b))&&R))],[]):=by
  intro r;induction r with
  | nil =>
   intro i u A;have c:i=all.length:=by have:=congrArg List.length u;grind
   refine L_of ?_;rw[kQ,yL (by omega),qCf];exact hnext
  | cons o r E =>
   intro i u A;have c:i<all.length:=by grind
   have t:gh all i=o:=by grind[qLb,List.head?_drop]
   have v:Rd o:=h o (by rw[<- t];exact tH c);have w:=v.len;have D:=fH (show i<=9000000000000000000 by omega);refine L_of ?_;rw[kQ,sG c,qCt];simp only[le0,Bool.and_true,qCt,qIt,qNz,gJ all c,t];show(run tab X 51 [.p (.list true kV3 (encL o))] []).bind _=_;rw[c51 X hX o,qOb];show(run tab X 100 [.yld,.p (.ref [.list true kV3 (encL o)])] [.log true []]).bind _=_;rw[NI X hX o (by omega),qOb,List.all_cons,Bool.and_assoc];have j:=Z9 X hX ys h' g f e d all.length (all.length:Int) (i:Int) (encL o) q n m k s (bI all) all.length a b C B (r.all (edgeOk (a,b))&&R) (by grind[List.tail_drop]) (dA o) (o8 v);exact j
theorem aad(h' c:List PV)(b a:Int)(d:List PV)(outer:List V3)(v:Rd outer)(m:List PV)(k j:Int)(n:Bool)(all:List (List V3))(g:∀ o∈all,Rd o)(w:all.length<=1000000)(R:Bool)
    (hnext:L tab (run tab X) 18 [] [.lp [1,1,1,0,1,0]] (rD c b (IntKind.i64.wrap (a+1)) (encL outer) m k j n (bI all++[.list true kV3 h']) 0 (all.length+1))=some ([.p (.bool R)],[])):∀ h:List ku,(∀ e∈h,mg e.1/\mg e.2) ->
    L tab (run tab X) 18 [] [.lp [1,1,1,0,1,0],.rg [1,1,0,0,1,1,0,1,0] [(true,kV3),(true,kV3)] (h.map eY)] (fP h' c b a d (encL outer) m k j n (bI all) 0 all.length)=some ([.p (.bool ((h.all λe=>decide (0<=xR outer e.1)&&all.all (edgeOk e))&&R))],[]):=by
  intro h;induction h with
  | nil =>intro _;rw[List.map_nil,tC,show leN (all.length+1) 2147483648=true from decide_eq_true (by omega),qCt,qLy,List.take_of_length_le (by rw[bH];omega)];exact hnext
  | cons e r t =>
   intro f;obtain⟨s,A⟩:=f e (by simp);have q:=Z7 X hX outer v e.1 s;simp only[encV]at q;rw[List.map_cons,List.all_cons];show L tab (run tab X) 18 [] [.lp [1,1,1,0,1,0],.rg [1,1,0,0,1,1,0,1,0] [(true,kV3),(true,kV3)] (.agg [.agg [.int .i64 e.1.x,.int .i64 e.1.y,.int .i64 e.1.z],.agg [.int .i64 e.2.x,.int .i64 e.2.y,.int .i64 e.2.z]]::r.map eY)] _=_;rw[rW,q,qOb];simp only[qLh,pv_p,toInt_int];by_cases u:0<=xR outer e.1
   . rw[show ltI (xR outer e.1) 0=false from decide_eq_false (by omega),qCf,decide_eq_true u,Bool.true_and,Bool.and_assoc];exact aac X hX (r.map eY) h' c b a d (encL outer) m k j n all g w e.1 e.2 s A _ (t λB i=>f B (by simp[i])) all 0 rfl (by omega)
   grind
theorem aae(r A:List PV)(o n:Int)(t:Bool)(a:List (List V3))(j:∀ h∈a,dG h=true)(C:a.length<=1000000)(i:Nat)(v:i<a.length)(R:Bool)
    (hnext:L tab (run tab X) 18 [] [.lp [1,1,1,1,0,1,0]] (qg (bI a) (a.length:Int) ((i+1:Nat):Int) r (bI a) o n t)=some ([.p (.bool R)],[])):∀ m k,k+m=a.length ->
    L tab (run tab X) 18 [] [.lp [1,1,1,1,0,1,0],.lp [1,1,0,0,1,1,0]] (iw (i:Int) (encL (gh a i)) (bI a) (a.length:Int) (i:Int) (bI a) (a.length:Int) (k:Int) r (bI a) o n t)=some ([.p (.bool (jd (qC a i) k m&&R))],[]):=by
  have _:=A;intro m;induction m with
  | zero =>intro k u;refine L_of ?_;rw[qG,yL (by omega),qCf,fH (by omega)];exact hnext
  | succ m B =>
   intro k u;have b:k<a.length:=by omega
   have c:=j _ (tH v);have g:=j _ (tH b);have D:=(eH c).1;have q:=Z7 X hX (gh a k) (kX g) (gt (gh a i) 0) ((kX c).ok 0);simp only[encV]at q;have f:jd (qC a i) k (m+1)=(qC a i k&&jd (qC a i) (k+1) m):=rfl;refine L_of ?_;rw[qG,sG b,qCt];simp only[bH,le0,sG b,Bool.and_true,qCt,qIt,gJ a b,fH (show k<=9000000000000000000 by omega)];rw[f];have w:((i:Int) !=(k:Int))=!decide (i=k):=by grind
   rw[w];by_cases e:i=k
   . have s:qC a i k=true:=by unfold qC;rw[if_pos e]
     grind
   . have s:qC a i k=!decide (0<=xR (gh a k) (gt (gh a i) 0)):=by unfold qC;rw[if_neg e]
     have d:ltI (0:Int) (((encL (gh a i)).length:Nat):Int)=true:=by rw[encL_length];exact decide_eq_true (by omega)
     rw[decide_eq_false e,qBf,qCt,d,qCt,encL_x,encL_y,encL_z,s];show(run tab X 52 [.p (.list true kV3 (encL (gh a k))),.p (.agg [.int .i64 (gt (gh a i) 0).x,.int .i64 (gt (gh a i) 0).y,.int .i64 (gt (gh a i) 0).z])] []).bind _=_;rw[q,qOb];simp only[qLh,pv_p,toInt_int];grind
theorem aag(e:List PV)(d c:Int)(f:Bool)(a:List (List V3))(n:∀ h∈a,dG h=true)(j:a.length<=1000000):∀ m i,i+m=a.length ->
    L tab (run tab X) 18 [] [.lp [1,1,1,1,0,1,0]] (qg (bI a) (a.length:Int) (i:Int) e (bI a) d c f)=some ([.p (.bool (jd (λi=>jd (qC a i) 0 a.length) i m))],[]):=by
  intro m;induction m with
  | zero =>intro i k;refine L_of ?_;rw[Bo,yL (by omega),qCf];rfl
  | succ m g =>
   intro i k;have b:i<a.length:=by omega
   refine L_of ?_;rw[Bo,sG b,qCt];simp only[bH,le0,sG b,Bool.and_true,qCt,qIt,gJ a b];exact aae X hX e [] d c f a n j i b _ (g (i+1) (by omega)) a.length 0 (by omega)
theorem aah(f:Fen)(A:f.holes.length<=16)(c:∀ h∈f.holes,h.length<=1000000)(t:dG f.outer=true)(q:Bool):∀(r:List (List V3)) (i:Nat) (all:List (List V3)),f.holes.drop i=r->i<=f.holes.length->all=f.outer::f.holes.take i->(∀ h∈f.holes.take i,dG h=true) ->
    L tab (run tab X) 18 [] [.lp [1,1,1,0,1,0]] (rD (bI f.holes) (f.holes.length:Int) (i:Int) (encL f.outer) (bI f.holes) f.low f.high q (bI all) 0 all.length)=some ([.p (.bool (rM f.outer all r&&GR f.holes))],[]):=by
  intro r;induction r with
  | nil =>
   intro i all g w b e;have a:i=f.holes.length:=by have:=congrArg List.length g;grind
   subst a;rw[List.take_length]at e;refine L_of ?_;rw[DK,yL (by omega),qCf,bH];exact aag X hX _ _ _ q f.holes e (by omega) f.holes.length 0 (by omega)
  | cons h r v =>
   intro i all g w b e;have a:i<f.holes.length:=by grind
   have s:gh f.holes i=h:=by show f.holes.getD i []=h;rw[qLb,<- List.head?_drop,g];rfl
   have u:h∈f.holes:=by rw[<- s];exact tH a
   refine L_of ?_;rw[DK,sG a,qCt];simp only[bH,le0,sG a,Bool.and_true,qCt,qIt,gJ f.holes a,s];show(run tab X 12 [.p (.list true kV3 (encL h))] []).bind _=_;rw[c12 X hX h (c h u),qOb];simp only[qLh,pv_p,toBool_bool];rw[rM,D6,Bool.and_assoc,Bool.and_assoc];cases k:dG h with
   | false=>rfl
   | true =>
    rw[qBt,qCf,Bool.true_and];show(run tab X 51 [.p (.list true kV3 (encL h))] []).bind _=_;rw[c51 X hX h,qOb];show(run tab X 100 [.yld,.p (.ref [.list true kV3 (encL h)])] [.log true []]).bind _=_;have m:=kX k;rw[NI X hX h (c h u),qOb];have j:(f.holes.take i).length=i:=by rw[List.length_take];omega
    have x:all.length=i+1:=by rw[b,qLl,j]
    have n:f.holes.take (i+1)=f.holes.take i++[h]:=by simp_all[List.head?_drop,List.take_add_one]
    refine aad X hX (encL h) _ _ _ _ f.outer (kX t) _ _ _ q all (λo d=>?_) (by omega) _ ?_ (dA h) (o8 m)
    . rw[b]at d;rcases List.mem_cons.1 d with rfl | d
      . exact kX t
      . exact kX (e o d)
    . rw[fH (by omega)];have z:bI all++[PV.list true kV3 (encL h)]=bI (all++[h]):=by simp[bI]
      have y:all.length+1=(all++[h]).length:=by simp
      rw[z,y];refine v (i+1) (all++[h]) (by rw[<- List.tail_drop,g];rfl) (by omega) ?_ ?_
      . grind
      . rw[n];intro o d;rcases List.mem_append.1 d with d | d;all_goals simp_all
structure qW (f:Fen):Prop where
 outer:f.outer.length<=1000000
 holes:∀ h∈f.holes,h.length<=1000000
 len:f.holes.length<=1000000
theorem c18(f:Fen)(a:qW f):run tab X 18 [.p (encF f)] []=some ([.p (.bool (validP f))],[]):=
 run_of (hX _ rfl) (by
  rw[encF,e18,c12 X hX f.outer a.outer,qOb];simp only[qLh,pv_p,toBool_bool,bH];unfold validP D7;cases c:dG f.outer with
  | false=>rfl
  | true =>
   rw[qBt,qCf,Bool.true_and];by_cases b:f.holes.length<=16
   . rw[show gtI ((f.holes.length:Nat):Int) (16:Int)=false from decide_eq_false (by omega),qCf];by_cases e:-1048576<=f.low
     . rw[show ltI f.low (-1048576)=false from decide_eq_false (by omega),qCf];by_cases d:f.high<=1048576
       . rw[show gtI f.high 1048576=false from decide_eq_false (by omega),qCf];by_cases h4:f.low<=f.high
         . rw[show gtI f.low f.high=false from decide_eq_false (by omega),qCf,decide_eq_true ⟨b,e,d,h4⟩,Bool.true_and];exact aah X hX f b a.holes c false f.holes 0 [f.outer] rfl (by omega) rfl (by simp)
         grind
       grind
     grind
   grind)
end
end
section
variable {k m:Nat}{x y z:Int}
def Lt2(k:Nat)(z:Int):Prop:=z.natAbs<2^k
theorem Lt2.mono(h:Lt2 k z)(a:k<=m):Lt2 m z:=Nat.lt_of_lt_of_le h (Nat.pow_le_pow_right (by decide) a)
theorem Lt2.mul(b:Lt2 k x)(a:Lt2 m y):Lt2 (k+m) (x*y):=by unfold Lt2 at *;rw[Int.natAbs_mul,Nat.pow_add];exact Nat.mul_lt_mul_of_lt_of_lt b a
theorem Lt2.sub(b:Lt2 k x)(a:Lt2 k y):Lt2 (k+1) (x-y):=by unfold Lt2 at *;omega
theorem Lt2.add(b:Lt2 k x)(a:Lt2 k y):Lt2 (k+1) (x+y):=by unfold Lt2 at *;omega
theorem Lt2.okW{k:Nat}{z:Int}(h:Lt2 k z)(a:k<=65536):okW z:=Nat.le_trans (zk h) a
theorem qR{n:Nat}(h:-(n:Int)<=z/\z<=n)(a:n<2^k):Lt2 k z:=by unfold Lt2;omega
theorem uy{v:V3}(h:mg v):Lt2 25 v.x/\Lt2 25 v.y:=by obtain⟨b,a,_⟩:=h;exact⟨qR (n:=16777216) (by omega) (by decide),qR (n:=16777216) (by omega) (by decide)⟩
theorem IL{a b:V3}(d:mg a)(c:mg b):Lt2 26 (b.x-a.x)/\Lt2 26 (b.y-a.y):=by obtain⟨g,f,_⟩:=d;obtain⟨b1,e,_⟩:=c;exact⟨qR (n:=33554432) (by omega) (by decide),qR (n:=33554432) (by omega) (by decide)⟩
abbrev pZ:PV:=.ref [.int .i64 0]
abbrev IQ(u v w:Int):List PV:=[.bool (decide (u<0)),.str (jD u.natAbs),.bool (decide (v<0)),.str (jD v.natAbs),.bool (decide (w<0)),.str (jD w.natAbs)]
def VW(u v w:Int):PV:=.agg (IQ u v w)
theorem wo(z:Int):z.sign=iE z:=by grind[iE]
structure Sp (u v w:Int):Prop where
 bu:Lt2 20000 u
 bv:Lt2 20000 v
 bw:Lt2 20000 w
 pos:0<w
theorem Sp.off{u v w:Int}(h:Sp u v w){c:Int}(b:Lt2 25 c):okW (c*w)/\Lt2 20026 (u-c*w)/\Lt2 20026 (v-c*w):=by have a:Lt2 20025 (c*w):=(b.mul h.bw).mono (by omega);exact⟨a.okW (by omega),((h.bu.mono (by omega)).sub a).mono (by omega),((h.bv.mono (by omega)).sub a).mono (by omega)⟩
section
variable (X:Ext) (hX:Mine X) (hB:Bits X)
include hX
theorem c78(z:Int):run tab X 78 [.p pZ,.p (eW z),.p (.int .i64 0)] []=some ([.p (eW z)],[]):=run_of (hX _ rfl) (by rw[eW,e78];rfl)
include hB
theorem QT(a b:Int)(e:okW a)(d:okW b)(h:okW (a*b)):run tab X 77 [.p pZ,.p (eW a),.p (eW b)] []=some ([.p (eW (a*b))],[]):=
 run_of (hX _ rfl) (by have c:=c138 X hX hB a b e d;rw[wu,if_pos h,eW,eW]at c;rw[eW,eW,e77,c,qOb];simp only[qLh,List.tail_cons,pv_p,toInt_int,iy];rw[c78 X hX,qOb];rfl)
theorem TR(a b:Int)(e:okW a)(d:okW b)(h:okW (a-b)):run tab X 123 [.p pZ,.p (eW a),.p (eW b)] []=some ([.p (eW (a-b))],[]):=
 run_of (hX _ rfl) (by have c:=c159 X hX hB a b e d;rw[wu,if_pos h,eW,eW]at c;rw[eW,eW,ZJ,c,qOb];simp only[qLh,List.tail_cons,pv_p,toInt_int,iy];rw[c78 X hX,qOb];rfl)
theorem c63(a b c d:Int)(j:okW a)(h:okW b)(i:okW c)(hd:okW d)(o:okW (a*d))(n:okW (c*b))(l:okW (b*d)):run tab X 63 [.p pZ,.p (eR a b),.p (eR c d)] []=some ([.p (VW (a*d) (c*b) (b*d))],[]):=
 run_of (hX _ rfl) (by have g:=QT X hX hB a d j hd o;have f:=QT X hX hB c b i h n;have e:=QT X hX hB b d h hd l;rw[eW]at g f e;rw[eW]at g f e;rw[eR,eR,e63,g,qOb,f,qOb,e,qOb];rfl)
theorem VX(a:V3)(i:mg a)(u v w:Int)(h:Sp u v w):run tab X 122 [.p (encV a),.p (.ref [pZ]),.p (.ref (IQ u v w))] []=some ([.p (eW (u-a.x*w)),.p (eW (v-a.y*w))],[]):=
 run_of (hX _ rfl) (by obtain⟨f,e⟩:=uy i;obtain⟨b,j,_⟩:=h.off f;obtain⟨y1,_,y2⟩:=h.off e;obtain⟨b1,q,_⟩:=i;have g:=h.bw.okW (by omega);have d:=QT X hX hB a.x w (f.okW (by omega)) g b;have n:=QT X hX hB a.y w (e.okW (by omega)) g y1;have c:=TR X hX hB u (a.x*w) (h.bu.okW (by omega)) b (j.okW (by omega));have l:=TR X hX hB v (a.y*w) (h.bv.okW (by omega)) y1 (y2.okW (by omega));rw[eW,eW]at c l;have o:∀ z:Int,eW z=PV.agg [.bool (decide (z<0)),.str (jD z.natAbs)]:=λ_=>rfl;rw[o w]at d n;rw[encV,ZI,c61 X hX hB a.x (by omega) (by omega),qOb];simp only[qLh,pv_p,iy];rw[d,qOb];simp only[qLh,pv_p];rw[show(PV.agg [.bool (((eW (a.x*w)).cell 0).toBool),.str (((eW (a.x*w)).cell 1).toStr)])=PV.agg [.bool (decide (a.x*w<0)),.str (jD (a.x*w).natAbs)] from rfl,c,qOb];rw[c61 X hX hB a.y (by omega) (by omega),qOb];simp_all)
abbrev O5(u v w:Int):PV:=.fn 122 [.ref [pZ],.ref (IQ u v w)]
theorem c124(a b:V3)(e:mg a)(i:mg b)(u v w:Int)(h:Sp u v w):run tab X 124 [.p (encV a),.p (encV b),.p (.ref [O5 u v w]),.p (.ref [pZ])] []=some ([.p (.int .i64 (iE (Tq a b u v w)))],[]):=
 run_of (hX _ rfl) (by obtain⟨s,r⟩:=uy e;obtain⟨_,f,_⟩:=h.off s;obtain⟨_,_,y2⟩:=h.off r;obtain⟨l,j⟩:=IL e i;have g:=VX X hX hB a e u v w h;obtain⟨B,A,_⟩:=e;obtain⟨b1,t,_⟩:=i;have d:Lt2 20052 ((b.x-a.x)*(v-a.y*w)):=(l.mul y2).mono (by omega);have c:Lt2 20052 ((b.y-a.y)*(u-a.x*w)):=(j.mul f).mono (by omega);have q:=QT X hX hB (b.x-a.x) (v-a.y*w) (l.okW (by omega)) (y2.okW (by omega)) (d.okW (by omega));have o:=QT X hX hB (b.y-a.y) (u-a.x*w) (j.okW (by omega)) (f.okW (by omega)) (c.okW (by omega));have n:=TR X hX hB _ _ (d.okW (by omega)) (c.okW (by omega)) ((d.sub c).okW (by omega));rw[encV]at g;rw[encV,encV,ZK,g,qOb,wrap_eq (x:=b.x-a.x) (by omega) (by omega),wrap_eq (x:=b.y-a.y) (by omega) (by omega),c61 X hX hB _ (by omega) (by omega),qOb];simp only[qLh,List.tail_cons,pv_p,iy];rw[q,qOb,c61 X hX hB _ (by omega) (by omega),qOb];simp only[qLh,List.tail_cons,pv_p,iy];rw[o,qOb];simp only[qLh,List.tail_cons,pv_p,iy];rw[n,qOb];simp only[qLh,List.tail_cons,pv_p,iy];rw[c109 X hX _ ((d.sub c).okW (by omega)),wo];rfl)
theorem LM(x y:Int):IntKind.i64.wrap (0-(x-y).sign)=iE (y-x):=by have _:=hX;have _:=hB;rw[wo];have d:=oh (n:=x-y);have c:=zh (n:=x-y);have b:=oh (n:=y-x);have h4:=zh (n:=y-x);rcases rH (x-y)with e | e | e<;>rcases rH (y-x)with a | a | a<;>rw[e,a]<;>rw[e]at d c<;>rw[a]at b h4<;>first | rfl | omega
theorem VY(a:V3)(c:mg a)(u v w:Int)(h:Sp u v w):run tab X 125 [.p (encV a),.p (.int .i64 0),.p (.ref [O5 u v w])] []=some ([.p (.int .i64 (iE (a.x*w-u)))],[])/\run tab X 125 [.p (encV a),.p (.int .i64 1),.p (.ref [O5 u v w])] []=some ([.p (.int .i64 (iE (a.y*w-v)))],[]):=by
 obtain⟨f,e⟩:=uy c;obtain⟨_,d,_⟩:=h.off f;obtain⟨_,_,y2⟩:=h.off e;have b:=VX X hX hB a c u v w h;rw[encV]at b;constructor
 . refine run_of (hX _ rfl) ?_;rw[encV,e125,b,qOb,show((0:Int)==0)=true from rfl,qCt];simp only[qLh,pv_p,iy];rw[c109 X hX _ (d.okW (by omega)),qOb];simp only[qLh,pv_p,toInt_int];rw[LM X hX hB]
 . refine run_of (hX _ rfl) ?_;rw[encV,e125,b,qOb,show((1:Int)==0)=false from rfl,qCf];simp only[qLh,List.tail_cons,pv_p,iy];rw[c109 X hX _ (y2.okW (by omega)),qOb];simp only[qLh,pv_p,toInt_int];rw[LM X hX hB]
end
end
section
abbrev SW(l:List PV)(u v w b6 wd:Int):St:=bD l 0 (decide (u<0)) (jD u.natAbs) (decide (v<0)) (jD v.natAbs) (decide (w<0)) (jD w.natAbs) 0 0 (decide (u<0)) (jD u.natAbs) (decide (v<0)) (jD v.natAbs) (decide (w<0)) (jD w.natAbs) b6 wd
abbrev YH(ys:List PV):List Wy:=[.rg [1,1,0,1,0] [(true,kV3),(true,kV3)] ys]
section
variable (X:Ext) (hX:Mine X) (hB:Bits X)
include hX hB
theorem VZ(l:List PV)(u v w:Int)(hp:Sp u v w)(f:Int):∀(c:List ku) (a:Int),(∀ e∈c,mg e.1/\mg e.2)→-(1000000-(c.length:Int))<=a/\a<=1000000-(c.length:Int) ->
    L tab (run tab X) 101 [] (YH (c.map eY)) (SW l u v w f a)=some ([.p (.int .i64 (D5 u v w a c))],[]):=by
  intro c;induction c with
  | nil =>intro a _ _;rw[List.map_nil,BP];unfold D5 BQ;grind
  | cons e r q =>
   intro a d t;simp only[qLl]at t;obtain⟨o,n⟩:=d e (by simp);have m:=c124 X hX hB e.1 e.2 o n u v w hp;have h:=VY X hX hB e.1 o u v w hp;have g:=VY X hX hB e.2 n u v w hp;simp only[encV]at m h g;have B:=Fv u v w e;have C:=λb s=>q b (λA j=>d A (by simp[j])) s;rw[List.map_cons,Fz];show L tab (run tab X) 101 [] (YH (.agg [.agg [.int .i64 e.1.x,.int .i64 e.1.y,.int .i64 e.1.z],.agg [.int .i64 e.2.x,.int .i64 e.2.y,.int .i64 e.2.z]]::r.map eY)) (SW l u v w f a)=_;rw[Aj,m,qOb,h.1,qOb,h.2,qOb,g.1,qOb,g.2,qOb];simp only[qLh,pv_p,toInt_int];have i:=IK u v w e a (some ([AV.p (.int .i64 0)],([]:List Blk))) (λb=>L tab (run tab X) 101 [] (YH (r.map eY)) (SW l u v w f b));have k:(if GK u v w e then some ([AV.p (.int .i64 0)],([]:List Blk))else L tab (run tab X) 101 [] (YH (r.map eY)) (SW l u v w f (a+Ie u v w e)))=some ([.p (.int .i64 (if GK u v w e then 0 else D5 u v w (a+Ie u v w e) r))],[]):=by grind
   rw[<- k,<- i,xA,xA,wrap_eq (x:=a+1) (by omega) (by omega),wrap_eq (x:=a-1) (by omega) (by omega)];rw[IJ _ _ _ _ _ _ _ _ _ _ _ _ _ _ _ _ _ rfl rfl rfl rfl rfl rfl rfl rfl rfl];grind
theorem c66(l:List V3)(a:Rd l)(u v w:Int)(hp:Sp u v w):run tab X 66 [.p pZ,.p (.list true kV3 (encL l)),.p (VW u v w)] []=some ([.p (.int .i64 (Aq l u v w))],[]):=
 run_of (hX _ rfl) (by have c:run tab X 101 [.p (.list true kV3 (encL l)),.p (.fn 124 [.ref [O5 u v w],.ref [pZ]]),.p (.fn 125 [.ref [O5 u v w]])] []=some ([.p (.int .i64 (Aq l u v w))],[]):=run_of (hX _ rfl) (by rw[Vl,c51 X hX l,qOb];show(run tab X 100 [.yld,.p (.ref [.list true kV3 (encL l)])] [.log true []]).bind _=_;have:=a.len;rw[NI X hX l (by omega),qOb];have b:=VZ X hX hB (encL l) u v w hp 0 (dA l) 0 (o8 a) (by rw[iI];omega);rw[FB,JW hp.pos]at b;exact b);rw[VW,e66,c];rfl)
theorem c65(l:List V3)(b:Rd l)(u v w:Int)(hp:Sp u v w):run tab X 65 [.p (.list true kV3 (encL l)),.p pZ,.p (.ref (IQ u v w))] []=some ([.p (.int .i64 (Aq l u v w))],[]):=
 run_of (hX _ rfl) (by have a:=c66 X hX hB l b u v w hp;rw[VW]at a;rw[e65,a];rfl)
theorem V4(l:List V3)(a:Rd l)(u v w:Int)(hp:Sp u v w):run tab X 121 [.p (.list true kV3 (encL l)),.p (.ref [.fn 65 [pZ,.ref (IQ u v w)]])] []=some ([.p (.bool (decide (0<Aq l u v w)))],[]):=
 run_of (hX _ rfl) (by rw[Ve,c65 X hX hB l a u v w hp];rfl)
theorem l158a(a:List (List V3))(j:∀ h∈a,Rd h)(d:a.length<=1000000)(u v w:Int)(hp:Sp u v w):∀(r:List (List V3)) (i:Nat),a.drop i=r->i<=a.length ->
    L tab (run tab X) 158 [] [.lp [1,0,1,0]] (uX (bI a) 0 (decide (u<0)) (jD u.natAbs) (decide (v<0)) (jD v.natAbs) (decide (w<0)) (jD w.natAbs) ((a.length:Nat):Int) (i:Int))=some ([.p (.int .i64 (qB (λh=>decide (0<Aq h u v w)) r i))],[]):=by
  intro r;induction r with
  | nil =>
   intro i c g;have b:i=a.length:=by have:=congrArg List.length c;grind
   refine L_of ?_;rw[DI,yL (by omega),qCf];rfl
  | cons h r k =>
   intro i c g;have b:i<a.length:=by grind
   have e:gh a i=h:=by grind[qLb,List.head?_drop]
   have f:h∈a:=by grind
   refine L_of ?_;rw[DI,sG b,qCt];simp only[bH,le0,sG b,Bool.and_true,qCt,qIt,gJ a b,e,fH (show i<=9000000000000000000 by omega)];show(run tab X 121 [.p (.list true kV3 (encL h)),.p (.ref [.fn 65 [pZ,.ref (IQ u v w)]])] []).bind _=_;rw[V4 X hX hB h (j h f) u v w hp,qOb];simp only[qLh,pv_p,toBool_bool];rw[qB];cases decide (0<Aq h u v w)with
   | true=>rfl
   | false =>rw[qCf,if_neg (by decide)];grind[List.tail_drop]
theorem aaj(f:Fen)(a:QS f)(u v w:Int)(hp:Sp u v w):run tab X 64 [.p (encF f),.p (.fn 65 [pZ,.ref (IQ u v w)])] []=some ([.p (.bool (O4 f u v w))],[]):=
 run_of (hX _ rfl) (by
  have b:run tab X 120 [.p (.list false [.slice true kV3] (bI f.holes)),.p (.fn 121 [.ref [.fn 65 [pZ,.ref (IQ u v w)]]])] []=some ([.p (.bool (f.holes.any λh=>decide (0<Aq h u v w)))],[]):=run_of (hX _ rfl) (by have c:run tab X 158 [.p (.list false [.slice true kV3] (bI f.holes)),.p (.fn 121 [.ref [.fn 65 [pZ,.ref (IQ u v w)]]])] []=some ([.p (.int .i64 (qB (λh=>decide (0<Aq h u v w)) f.holes 0))],[]):=run_of (hX _ rfl) (by rw[Vh,bH];exact l158a X hX hB f.holes a.holes a.len u v w hp f.holes 0 rfl (by omega));grind[Va,qOb,qLh,pv_p,toInt_int,vk]);rw[encF,ZG,c65 X hX hB f.outer a.outer u v w hp,qOb];simp only[qLh,pv_p,toInt_int];unfold O4;show(bif decide (0<=Aq f.outer u v w)then _ else _)=_;cases decide (0<=Aq f.outer u v w)with
  | false=>rfl
  | true=>rw[qCt,b];rfl)
theorem c82(l:List V3)(b:Rd l)(u v w:Int)(hp:Sp u v w):run tab X 82 [.p (.list true kV3 (encL l)),.p pZ,.p (.ref (IQ u v w))] []=some ([.p (.int .i64 (Aq l u v w))],[]):=
 run_of (hX _ rfl) (by have a:=c66 X hX hB l b u v w hp;rw[VW]at a;rw[e82,a];rfl)
theorem V5(l:List V3)(a:Rd l)(u v w:Int)(hp:Sp u v w):run tab X 121 [.p (.list true kV3 (encL l)),.p (.ref [.fn 82 [pZ,.ref (IQ u v w)]])] []=some ([.p (.bool (decide (0<Aq l u v w)))],[]):=
 run_of (hX _ rfl) (by rw[Vf,c82 X hX hB l a u v w hp];rfl)
theorem V6(a:List (List V3))(j:∀ h∈a,Rd h)(d:a.length<=1000000)(u v w:Int)(hp:Sp u v w):∀(r:List (List V3)) (i:Nat),a.drop i=r->i<=a.length ->
    L tab (run tab X) 158 [] [.lp [1,0,1,0]] (uY (bI a) 0 (decide (u<0)) (jD u.natAbs) (decide (v<0)) (jD v.natAbs) (decide (w<0)) (jD w.natAbs) ((a.length:Nat):Int) (i:Int))=some ([.p (.int .i64 (qB (λh=>decide (0<Aq h u v w)) r i))],[]):=by
  intro r;induction r with
  | nil =>
   intro i c g;have b:i=a.length:=by have:=congrArg List.length c;grind
   refine L_of ?_;rw[DJ,yL (by omega),qCf];rfl
  | cons h r k =>
   intro i c g;have b:i<a.length:=by grind
   have e:gh a i=h:=by grind[qLb,List.head?_drop]
   have f:h∈a:=by grind
   refine L_of ?_;rw[DJ,sG b,qCt];simp only[bH,le0,sG b,Bool.and_true,qCt,qIt,gJ a b,e,fH (show i<=9000000000000000000 by omega)];show(run tab X 121 [.p (.list true kV3 (encL h)),.p (.ref [.fn 82 [pZ,.ref (IQ u v w)]])] []).bind _=_;rw[V5 X hX hB h (j h f) u v w hp,qOb];simp only[qLh,pv_p,toBool_bool];rw[qB];cases decide (0<Aq h u v w)with
   | true=>rfl
   | false =>rw[qCf,if_neg (by decide)];grind[List.tail_drop]
theorem aak(f:Fen)(a:QS f)(u v w:Int)(hp:Sp u v w):run tab X 64 [.p (encF f),.p (.fn 82 [pZ,.ref (IQ u v w)])] []=some ([.p (.bool (O4 f u v w))],[]):=
 run_of (hX _ rfl) (by
  have b:run tab X 120 [.p (.list false [.slice true kV3] (bI f.holes)),.p (.fn 121 [.ref [.fn 82 [pZ,.ref (IQ u v w)]]])] []=some ([.p (.bool (f.holes.any λh=>decide (0<Aq h u v w)))],[]):=run_of (hX _ rfl) (by have c:run tab X 158 [.p (.list false [.slice true kV3] (bI f.holes)),.p (.fn 121 [.ref [.fn 82 [pZ,.ref (IQ u v w)]]])] []=some ([.p (.int .i64 (qB (λh=>decide (0<Aq h u v w)) f.holes 0))],[]):=run_of (hX _ rfl) (by rw[Vj,bH];exact V6 X hX hB f.holes a.holes a.len u v w hp f.holes 0 rfl (by omega));grind[Vb,qOb,qLh,pv_p,toInt_int,vk]);rw[encF,ZH,c82 X hX hB f.outer a.outer u v w hp,qOb];simp only[qLh,pv_p,toInt_int];unfold O4;show(bif decide (0<=Aq f.outer u v w)then _ else _)=_;cases decide (0<=Aq f.outer u v w)with
  | false=>rfl
  | true=>rw[qCt,b];rfl)
end
end
end Go.Skm.Fen
