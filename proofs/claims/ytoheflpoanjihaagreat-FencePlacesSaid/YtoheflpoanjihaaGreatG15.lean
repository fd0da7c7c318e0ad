import Derived.Test.YtoheflpoanjihaaGreatG10
import Derived.Test.YtoheflpoanjihaaGreatEqv2
import Derived.Test.YtoheflpoanjihaaGreatR2
set_option linter.all false
namespace Go.Skm.Fen
open Go Go.Skm
section
variable {α:Type}
theorem UH(a b p:V3):Tq a b p.x p.y 1=area a b p:=by unfold Tq area;simp only[Int.mul_one]
theorem G7(u v w:Int)(e:kX):Gt u v w e=1\/Gt u v w e=-1\/Gt u v w e=0:=by grind[Gt]
def Sv{α:Type}(s ax ay bx by_ w:Int)(z:α)(k:Int->α):α:=
 if s=0/\ax*bx<=0/\ay*by_<=0 then z else k (w+(if ay<=0/\0<by_/\0<s then 1 else if by_<=0/\0<ay/\s<0 then -1 else 0))
theorem yK(a b:Int):IntKind.i64.wrap (iC a*iC b)=iC a*iC b:=by rcases tC a with h | h | h<;>rcases tC b with c | c | c<;>rw[h,c]<;>rfl
theorem JB(s d b c a w:Int)(z:α)(K:Int->α)(c1 c2 c3 c4 c5 g f c8 e:Bool)(n:c1=decide (s=0))(m:c2=decide (d*c<=0))(l:c3=decide (b*a<=0))(h4:c4=decide (b<=0))(h5:c5=decide (0<a))(k:g=decide (0<s))(j:f=decide (0<b))(i:c8=decide (a<=0))(h:e=decide (s<0)) :
    Sv s d b c a w z K=bif c1&&(c2&&c3)then z else bif c4&&(c5&&g)then K (w+1)else bif f&&(c8&&e)then K (w-1)else K w:=by
  unfold Sv;by_cases o:s=0/\d*c<=0/\b*a<=0
  . grind
  . grind
theorem JC(u v w:Int)(e:kX)(a:Int)(z:α)(K:Int->α) :
    Sv (iC (Tq e.1 e.2 u v w)) (iC (e.1.x*w-u)) (iC (e.1.y*w-v)) (iC (e.2.x*w-u)) (iC (e.2.y*w-v)) a z K=if Gj u v w e then z else K (a+Gt u v w e):=by
  unfold Sv Gj Gt;have b:(iC (Tq e.1 e.2 u v w)=0/\iC (e.1.x*w-u)*iC (e.2.x*w-u)<=0/\iC (e.1.y*w-v)*iC (e.2.y*w-v)<=0)↔((iC (Tq e.1 e.2 u v w)==0)&&(decide (iC (e.1.x*w-u)*iC (e.2.x*w-u)<=0)&&decide (iC (e.1.y*w-v)*iC (e.2.y*w-v)<=0)))=true:=by simp
  by_cases h:iC (Tq e.1 e.2 u v w)=0/\iC (e.1.x*w-u)*iC (e.2.x*w-u)<=0/\iC (e.1.y*w-v)*iC (e.2.y*w-v)<=0
  . simp
  . simp
def EX(u v w wd:Int)(es:List kX):Int:=if es.any (Gj u v w)then 0 else if wd+AA u v w es≠0 then 1 else -1
theorem G8(u v w a:Int)(e:kX)(es:List kX):EX u v w a (e::es)=if Gj u v w e then 0 else EX u v w (a+Gt u v w e) es:=by unfold EX;rw[List.any_cons,AA];grind
theorem G9(u v w:Int)(es:List kX):EX u v w 0 es=Vw u v w es:=by unfold EX Vw;rw[Int.zero_add]
section
variable (X:Ext) (hX:Mine X)
include hX
theorem c102(a b p:V3)(e:mW a)(d:mW b)(hp:mW p):run tab X 102 [.p (encV a),.p (encV b),.p (.ref [.int .i64 p.x,.int .i64 p.y,.int .i64 p.z])] []=some ([.p (.int .i64 (iC (Tq a b p.x p.y 1)))],[]):=
 run_of (hX _ rfl) (by have c:=c96 X hX a b p e d hp;simp only[encV]at c;rw[encV,encV,e102,c,UH];rfl)
theorem c103(c p:V3)(a:mW c)(hp:mW p):(run tab X 103 [.p (encV c),.p (.int .i64 0),.p (.ref [.int .i64 p.x,.int .i64 p.y,.int .i64 p.z])] []=some ([.p (.int .i64 (iC (c.x*1-p.x)))],[]))/\(run tab X 103 [.p (encV c),.p (.int .i64 1),.p (.ref [.int .i64 p.x,.int .i64 p.y,.int .i64 p.z])] []=some ([.p (.int .i64 (iC (c.y*1-p.y)))],[])):=by
 obtain⟨e,d,_⟩:=a;obtain⟨b1,b,_⟩:=hp;constructor
 . refine run_of (hX _ rfl) ?_;rw[encV,e103,show((0:Int)==0)=true from rfl,qCt,wrap_eq (by omega) (by omega),c48 X hX,Int.mul_one];rfl
 . refine run_of (hX _ rfl) ?_;rw[encV,e103,show((1:Int)==0)=false from rfl,qCf,wrap_eq (by omega) (by omega),c48 X hX,Int.mul_one];rfl
theorem l101a(l:List PV)(p:V3)(hp:mW p)(d:Int):∀(es:List kX) (a:Int),(∀ e∈es,mW e.1/\mW e.2)→-(1000000-(es.length:Int))<=a/\a<=1000000-(es.length:Int) ->
    L tab (run tab X) 101 [] [.rg [1,1,0,1,0] [(true,kV3),(true,kV3)] (es.map eY)] (bC l p.x p.y p.z p.x p.y p.z d a)=some ([.p (.int .i64 (EX p.x p.y 1 a es))],[]):=by
  intro es;induction es with
  | nil =>intro a _ _;rw[List.map_nil,DR];unfold EX AA;grind
  | cons e r o =>
   intro a c s;simp only[qLl]at s;obtain⟨n,m⟩:=c e (by simp);have k:=c102 X hX e.1 e.2 p n m hp;have g:=c103 X hX e.1 p n hp;have f:=c103 X hX e.2 p m hp;simp only[encV]at k g f;have u:=G7 p.x p.y 1 e;have v:=λb q=>o b (λt i=>c t (by simp[i])) q;rw[List.map_cons,G8];show L tab (run tab X) 101 [] [.rg [1,1,0,1,0] [(true,kV3),(true,kV3)] (.agg [.agg [.int .i64 e.1.x,.int .i64 e.1.y,.int .i64 e.1.z],.agg [.int .i64 e.2.x,.int .i64 e.2.y,.int .i64 e.2.z]]::r.map eY)] (bC l p.x p.y p.z p.x p.y p.z d a)=_;rw[BU,k,qOb,g.1,qOb,g.2,qOb,f.1,qOb,f.2,qOb];simp only[qLh,pv_p,toInt_int];have h:=JC p.x p.y 1 e a (some ([AV.p (.int .i64 0)],([]:List Blk))) (λb=>L tab (run tab X) 101 [] [.rg [1,1,0,1,0] [(true,kV3),(true,kV3)] (r.map eY)] (bC l p.x p.y p.z p.x p.y p.z d b));have j:(if Gj p.x p.y 1 e then some ([AV.p (.int .i64 0)],([]:List Blk))else L tab (run tab X) 101 [] [.rg [1,1,0,1,0] [(true,kV3),(true,kV3)] (r.map eY)] (bC l p.x p.y p.z p.x p.y p.z d (a+Gt p.x p.y 1 e)))=some ([.p (.int .i64 (if Gj p.x p.y 1 e then 0 else EX p.x p.y 1 (a+Gt p.x p.y 1 e) r))],[]):=by grind
   rw[<- j,<- h,yK,yK,wrap_eq (x:=a+1) (by omega) (by omega),wrap_eq (x:=a-1) (by omega) (by omega)];rw[JB _ _ _ _ _ _ _ _ _ _ _ _ _ _ _ _ _ rfl rfl rfl rfl rfl rfl rfl rfl rfl];grind
end
end
section
structure Fen where
 outer:List V3
 holes:List (List V3)
 low:Int
 high:Int
 deriving Inhabited
def bI(hs:List (List V3)):List PV:=hs.map λh=>.list true kV3 (encL h)
def encF(f:Fen):PV:=.agg [.list true kV3 (encL f.outer),.list false [.slice true kV3] (bI f.holes),.int .i64 f.low,.int .i64 f.high]
theorem bG(a:List (List V3)):(bI a).length=a.length:=by simp[bI]
abbrev gh(hs:List (List V3))(i:Nat):List V3:=hs.getD i []
theorem gJ(a:List (List V3)){i:Nat}(h:i<a.length):(bI a).getD i .nil=.list true kV3 (encL (gh a i)):=by grind[bI]
structure Rd (l:List V3):Prop where
 len:l.length<=1000
 ok:∀ i,mW (gt l i)
theorem pO{l:List V3}(h:Rd l):∀ e∈dL l,mW e.1/\mW e.2:=by intro e a;simp only[dL,uz,List.mem_map]at a;obtain⟨i,_,rfl⟩:=a;exact⟨Iy (h.ok _),Iy (h.ok _)⟩
def y9(l:List V3)(p:V3):Int:=wW l p.x p.y 1
def Lh(f:Fen)(u v w:Int):Bool:=decide (0<=wW f.outer u v w)&&!(f.holes.any λh=>decide (0<wW h u v w))
def rO(f:Fen)(p:V3):Bool:=(decide (f.low<=p.z)&&decide (p.z<=f.high))&&Lh f p.x p.y 1
structure Sz (f:Fen):Prop where
 outer:Rd f.outer
 holes:∀ h∈f.holes,Rd h
 len:f.holes.length<=1000000
def qQ(P:List V3->Bool):List (List V3)->Nat->Int
 |[],_=>-1
 | h::r,i=>if P h then i else qQ P r (i+1)
theorem wG(P:List V3->Bool):∀(a:List (List V3)) (i:Nat),geI (qQ P a i) 0=a.any P
 |[],_=>rfl
 | h::r,i=>by
  rw[qQ,List.any_cons];cases P h with
  | true=>exact decide_eq_true (show(0:Int)<=(i:Int) by omega)
  | false=>rw[Bool.false_or];exact wG P r (i+1)
section
variable (X:Ext) (hX:Mine X)
include hX
theorem WM(l:List V3)(a:Rd l)(p:V3)(hp:mW p):run tab X 101 [.p (.list true kV3 (encL l)),.p (.fn 102 [.ref [.int .i64 p.x,.int .i64 p.y,.int .i64 p.z]]),.p (.fn 103 [.ref [.int .i64 p.x,.int .i64 p.y,.int .i64 p.z]])] []=some ([.p (.int .i64 (y9 l p))],[]):=
 run_of (hX _ rfl) (by rw[VY,c51 X hX l,qOb];show(run tab X 100 [.yld,.p (.ref [.list true kV3 (encL l)])] [.log true []]).bind _=_;have:=a.len;rw[Oz X hX l (by omega),qOb];have b:=l101a X hX (encL l) p hp 0 (dL l) 0 (pO a) (by rw[jg];omega);rw[G9,Iw (by decide)]at b;exact b)
theorem c52(l:List V3)(a:Rd l)(p:V3)(hp:mW p):run tab X 52 [.p (.list true kV3 (encL l)),.p (encV p)] []=some ([.p (.int .i64 (y9 l p))],[]):=
 run_of (hX _ rfl) (by rw[encV,e52,WM X hX l a p hp];rfl)
theorem c106(l:List V3)(a:Rd l)(p:V3)(hp:mW p):run tab X 106 [.p (.list true kV3 (encL l)),.p (.ref [.int .i64 p.x,.int .i64 p.y,.int .i64 p.z])] []=some ([.p (.int .i64 (y9 l p))],[]):=
 run_of (hX _ rfl) (by have b:=c52 X hX l a p hp;simp_all[encV,e106])
theorem WO(l:List V3)(a:Rd l)(p:V3)(hp:mW p):run tab X 121 [.p (.list true kV3 (encL l)),.p (.ref [.fn 106 [.ref [.int .i64 p.x,.int .i64 p.y,.int .i64 p.z]]])] []=some ([.p (.bool (decide (0<y9 l p)))],[]):=
 run_of (hX _ rfl) (by rw[VP,c106 X hX l a p hp];rfl)
theorem WQ(a:List (List V3))(j:∀ h∈a,Rd h)(d:a.length<=1000000)(p:V3)(hp:mW p):∀(r:List (List V3)) (i:Nat),a.drop i=r->i<=a.length ->
    L tab (run tab X) 158 [] [.lp [1,0,1,0]] (vZ (bI a) p.x p.y p.z ((a.length:Nat):Int) (i:Int))=some ([.p (.int .i64 (qQ (λh=>decide (0<y9 h p)) r i))],[]):=by
  intro r;induction r with
  | nil =>
   intro i c g;have b:i=a.length:=by have:=congrArg List.length c;grind
   refine L_of ?_;rw[EJ,y8 (by omega),qCf];rfl
  | cons h r k =>
   intro i c g;have b:i<a.length:=by grind
   have e:gh a i=h:=by grind[qLb,List.head?_drop]
   have f:h∈a:=by grind
   refine L_of ?_;rw[EJ,rM b,qCt];simp only[bG,le0,rM b,Bool.and_true,qCt,qIt,gJ a b,e,dZ (show i<=9000000000000000000 by omega)];show(run tab X 121 [.p (.list true kV3 (encL h)),.p (.ref [.fn 106 [.ref [.int .i64 p.x,.int .i64 p.y,.int .i64 p.z]]])] []).bind _=_;rw[WO X hX h (j h f) p hp,qOb];simp only[qLh,pv_p,toBool_bool];rw[qQ];cases decide (0<y9 h p)with
   | true=>rfl
   | false =>rw[qCf,if_neg (by decide)];grind[List.tail_drop]
theorem aaF(f:Fen)(a:Sz f)(p:V3)(hp:mW p):run tab X 64 [.p (encF f),.p (.fn 106 [.ref [.int .i64 p.x,.int .i64 p.y,.int .i64 p.z]])] []=some ([.p (.bool (Lh f p.x p.y 1))],[]):=
 run_of (hX _ rfl) (by
  have b:run tab X 120 [.p (.list false [.slice true kV3] (bI f.holes)),.p (.fn 121 [.ref [.fn 106 [.ref [.int .i64 p.x,.int .i64 p.y,.int .i64 p.z]]]])] []=some ([.p (.bool (f.holes.any λh=>decide (0<y9 h p)))],[]):=run_of (hX _ rfl) (by have c:run tab X 158 [.p (.list false [.slice true kV3] (bI f.holes)),.p (.fn 121 [.ref [.fn 106 [.ref [.int .i64 p.x,.int .i64 p.y,.int .i64 p.z]]]])] []=some ([.p (.int .i64 (qQ (λh=>decide (0<y9 h p)) f.holes 0))],[]):=run_of (hX _ rfl) (by rw[VU,bG];exact WQ X hX f.holes a.holes a.len p hp f.holes 0 rfl (by omega));grind[VL,qOb,qLh,pv_p,toInt_int,wG]);rw[encF,aae,c106 X hX f.outer a.outer p hp,qOb];simp only[qLh,pv_p,toInt_int];unfold Lh;have e:decide (0<=wW f.outer p.x p.y 1)=decide (0<=y9 f.outer p):=rfl;rw[e];show(bif decide (0<=y9 f.outer p)then _ else _)=_;cases decide (0<=y9 f.outer p)with
  | false=>rfl
  | true=>rw[qCt,b];rfl)
theorem c55(f:Fen)(b:Sz f)(p:V3)(hp:mW p):run tab X 55 [.p (encF f),.p (encV p)] []=some ([.p (.bool (rO f p))],[]):=
 run_of (hX _ rfl) (by have a:=aaF X hX f b p hp;rw[encF]at a;rw[encF,encV,e55,a];unfold rO;show(bif decide (f.low<=p.z)then(bif decide (p.z<=f.high)then _ else _)else _)=_;cases decide (f.low<=p.z)<;>cases decide (p.z<=f.high)<;>rfl)
end
end
section
variable {l:List V3}
def edgeOk(e:kX)(o:List V3):Bool:=(dL o).all λd=>!qY e.1 e.2 d.1 d.2
def EY(outer:List V3)(all:List (List V3))(h:List V3):Bool:=dM h&&(dL h).all λe=>decide (0<=y9 outer e.1)&&all.all (edgeOk e)
def tJ(outer:List V3):List (List V3)->List (List V3)->Bool
 | _,[]=>true
 | all,h::r=>EY outer all h&&tJ outer (all++[h]) r
def qR(hs:List (List V3))(i k:Nat):Bool:=if i=k then true else !decide (0<=y9 (gh hs k) (gt (gh hs i) 0))
def Iz(hs:List (List V3)):Bool:=jw (λi=>jw (qR hs i) 0 hs.length) 0 hs.length
def AB(f:Fen):Bool:=dM f.outer&&decide (f.holes.length<=16∧-1048576<=f.low/\f.high<=1048576/\f.low<=f.high)
def validP(f:Fen):Bool:=AB f&&(tJ f.outer [f.outer] f.holes&&Iz f.holes)
theorem gI(h:dM l=true):3<=l.length/\l.length<=64/\l.all (inM 1048576)=true:=by unfold dM Dn at h;grind
theorem lT(h:dM l=true):Rd l:=by obtain⟨c,b,a⟩:=gI h;exact⟨by omega,IB a⟩
theorem uO{a:List (List V3)}{i:Nat}(h:i<a.length):gh a i∈a:=by grind
section
variable (X:Ext) (hX:Mine X)
include hX
theorem aaG(ys:List PV)(h' k:List PV)(j i:Int)(h:List PV)(g:Nat)(f c:Int)(s:List PV)(w v:List PV)(u t:Int)(A:Bool)(o:List PV)(n:Nat)(a b:V3)(C:mW a)(B:mW b)(R:Bool)
    (hnext:L tab (run tab X) 18 [] [.lp [1,1,1,0,1,0],.rg [1,1,0,0,1,1,0,1,0] [(true,kV3),(true,kV3)] ys,.lp [1,0,1,1,0]] (fA h' k j i h 0 g f (IntKind.i64.wrap (c+1)) w v u t A o 0 n a.x a.y a.z b.x b.y b.z)=some ([.p (.bool R)],[])):∀ es:List kX,(∀ e∈es,mW e.1/\mW e.2) ->
    L tab (run tab X) 18 [] [.lp [1,1,1,0,1,0],.rg [1,1,0,0,1,1,0,1,0] [(true,kV3),(true,kV3)] ys,.lp [1,0,1,1,0],.rg [1,1,0,0,1,1,0] [(true,kV3),(true,kV3)] (es.map eY)] (dF h' k j i h 0 g f c s w v u t A o 0 n a.x a.y a.z b.x b.y b.z)=some ([.p (.bool ((es.all λd=>!qY a b d.1 d.2)&&R))],[]):=by
  intro es;induction es with
  | nil=>grind[lS]
  | cons e r D =>intro m;have q:=c42 X hX a b e.1 e.2 C B (m e (by simp)).1 (m e (by simp)).2;simp only[encV]at q;rw[List.map_cons,List.all_cons];show L tab (run tab X) 18 [] [.lp [1,1,1,0,1,0],.rg [1,1,0,0,1,1,0,1,0] [(true,kV3),(true,kV3)] ys,.lp [1,0,1,1,0],.rg [1,1,0,0,1,1,0] [(true,kV3),(true,kV3)] (.agg [.agg [.int .i64 e.1.x,.int .i64 e.1.y,.int .i64 e.1.z],.agg [.int .i64 e.2.x,.int .i64 e.2.y,.int .i64 e.2.z]]::r.map eY)] _=_;rw[lq,q,qOb];simp only[qLh,pv_p,toBool_bool];grind
theorem aaH(ys:List PV)(h' g:List PV)(f e:Int)(d:List PV)(q n:List PV)(m k:Int)(s:Bool)(all:List (List V3))(h:∀ o∈all,Rd o)(F:all.length<=1000000)(a b:V3)(C:mW a)(B:mW b)(R:Bool)
    (hnext:L tab (run tab X) 18 [] [.lp [1,1,1,0,1,0],.rg [1,1,0,0,1,1,0,1,0] [(true,kV3),(true,kV3)] ys] (gu h' g f e d q n m k s (bI all) 0 all.length)=some ([.p (.bool R)],[])):∀(r:List (List V3)) (i:Nat),all.drop i=r->i<=all.length ->
    L tab (run tab X) 18 [] [.lp [1,1,1,0,1,0],.rg [1,1,0,0,1,1,0,1,0] [(true,kV3),(true,kV3)] ys,.lp [1,0,1,1,0]] (fA h' g f e d 0 all.length (all.length:Int) (i:Int) q n m k s (bI all) 0 all.length a.x a.y a.z b.x b.y b.z)=some ([.p (.bool (r.all (edgeOk (a,b))&&R))],[]):=by
  intro r;induction r with
  | nil =>
   intro i u A;have c:i=all.length:=by have:=congrArg List.length u;grind
   refine L_of ?_;rw[lQ,y8 (by omega),qCf];exact hnext
  | cons o r E =>
   intro i u A;have c:i<all.length:=by grind
   have t:gh all i=o:=by grind[qLb,List.head?_drop]
   have v:Rd o:=h o (by rw[<- t];exact uO c);have w:=v.len;have D:=dZ (show i<=9000000000000000000 by omega);refine L_of ?_;rw[lQ,rM c,qCt];simp only[le0,Bool.and_true,qCt,qIt,qNz,gJ all c,t];show(run tab X 51 [.p (.list true kV3 (encL o))] []).bind _=_;rw[c51 X hX o,qOb];show(run tab X 100 [.yld,.p (.ref [.list true kV3 (encL o)])] [.log true []]).bind _=_;rw[Oz X hX o (by omega),qOb,List.all_cons,Bool.and_assoc];have j:=aaG X hX ys h' g f e d all.length (all.length:Int) (i:Int) (encL o) q n m k s (bI all) all.length a b C B (r.all (edgeOk (a,b))&&R) (by grind[List.tail_drop]) (dL o) (pO v);exact j
theorem aaI(h' c:List PV)(b a:Int)(d:List PV)(outer:List V3)(u:Rd outer)(k:List PV)(j i:Int)(m:Bool)(all:List (List V3))(g:∀ o∈all,Rd o)(v:all.length<=1000000)(R:Bool)
    (hnext:L tab (run tab X) 18 [] [.lp [1,1,1,0,1,0]] (sW c b (IntKind.i64.wrap (a+1)) (encL outer) k j i m (bI all++[.list true kV3 h']) 0 (all.length+1))=some ([.p (.bool R)],[])):∀ es:List kX,(∀ e∈es,mW e.1/\mW e.2) ->
    L tab (run tab X) 18 [] [.lp [1,1,1,0,1,0],.rg [1,1,0,0,1,1,0,1,0] [(true,kV3),(true,kV3)] (es.map eY)] (gu h' c b a d (encL outer) k j i m (bI all) 0 all.length)=some ([.p (.bool ((es.all λe=>decide (0<=y9 outer e.1)&&all.all (edgeOk e))&&R))],[]):=by
  intro es;induction es with
  | nil =>intro _;rw[List.map_nil,uM,show leN (all.length+1) 2147483648=true from decide_eq_true (by omega),qCt,qLy,List.take_of_length_le (by rw[bG];omega)];exact hnext
  | cons e r s =>
   intro f;obtain⟨n,w⟩:=f e (by simp);have q:=c52 X hX outer u e.1 n;simp only[encV]at q;rw[List.map_cons,List.all_cons];show L tab (run tab X) 18 [] [.lp [1,1,1,0,1,0],.rg [1,1,0,0,1,1,0,1,0] [(true,kV3),(true,kV3)] (.agg [.agg [.int .i64 e.1.x,.int .i64 e.1.y,.int .i64 e.1.z],.agg [.int .i64 e.2.x,.int .i64 e.2.y,.int .i64 e.2.z]]::r.map eY)] _=_;rw[uf,q,qOb];simp only[qLh,pv_p,toInt_int];by_cases t:0<=y9 outer e.1
   . rw[show ltI (y9 outer e.1) 0=false from decide_eq_false (by omega),qCf,decide_eq_true t,Bool.true_and,Bool.and_assoc];exact aaH X hX (r.map eY) h' c b a d (encL outer) k j i m all g v e.1 e.2 n w _ (s λA h=>f A (by simp[h])) all 0 rfl (by omega)
   grind
theorem aaJ(r A:List PV)(o n:Int)(t:Bool)(a:List (List V3))(j:∀ h∈a,dM h=true)(C:a.length<=1000000)(i:Nat)(v:i<a.length)(R:Bool)
    (hnext:L tab (run tab X) 18 [] [.lp [1,1,1,1,0,1,0]] (qC (bI a) (a.length:Int) ((i+1:Nat):Int) r (bI a) o n t)=some ([.p (.bool R)],[])):∀ m k,k+m=a.length ->
    L tab (run tab X) 18 [] [.lp [1,1,1,1,0,1,0],.lp [1,1,0,0,1,1,0]] (iK (i:Int) (encL (gh a i)) (bI a) (a.length:Int) (i:Int) (bI a) (a.length:Int) (k:Int) r (bI a) o n t)=some ([.p (.bool (jw (qR a i) k m&&R))],[]):=by
  have _:=A;intro m;induction m with
  | zero =>intro k u;refine L_of ?_;rw[qX,y8 (by omega),qCf,dZ (by omega)];exact hnext
  | succ m B =>
   intro k u;have b:k<a.length:=by omega
   have c:=j _ (uO v);have g:=j _ (uO b);have D:=(gI c).1;have q:=c52 X hX (gh a k) (lT g) (gt (gh a i) 0) ((lT c).ok 0);simp only[encV]at q;have f:jw (qR a i) k (m+1)=(qR a i k&&jw (qR a i) (k+1) m):=rfl;refine L_of ?_;rw[qX,rM b,qCt];simp only[bG,le0,rM b,Bool.and_true,qCt,qIt,gJ a b,dZ (show k<=9000000000000000000 by omega)];rw[f];have w:((i:Int) !=(k:Int))=!decide (i=k):=by grind
   rw[w];by_cases e:i=k
   . have s:qR a i k=true:=by unfold qR;rw[if_pos e]
     grind
   . have s:qR a i k=!decide (0<=y9 (gh a k) (gt (gh a i) 0)):=by unfold qR;rw[if_neg e]
     have d:ltI (0:Int) (((encL (gh a i)).length:Nat):Int)=true:=by rw[encL_length];exact decide_eq_true (by omega)
     rw[decide_eq_false e,qBf,qCt,d,qCt,encL_x,encL_y,encL_z,s];show(run tab X 52 [.p (.list true kV3 (encL (gh a k))),.p (.agg [.int .i64 (gt (gh a i) 0).x,.int .i64 (gt (gh a i) 0).y,.int .i64 (gt (gh a i) 0).z])] []).bind _=_;rw[q,qOb];simp only[qLh,pv_p,toInt_int];grind
theorem aaL(e:List PV)(d c:Int)(f:Bool)(a:List (List V3))(n:∀ h∈a,dM h=true)(j:a.length<=1000000):∀ m i,i+m=a.length ->
    L tab (run tab X) 18 [] [.lp [1,1,1,1,0,1,0]] (qC (bI a) (a.length:Int) (i:Int) e (bI a) d c f)=some ([.p (.bool (jw (λi=>jw (qR a i) 0 a.length) i m))],[]):=by
  intro m;induction m with
  | zero =>intro i k;refine L_of ?_;rw[Dl,y8 (by omega),qCf];rfl
  | succ m g =>
   intro i k;have b:i<a.length:=by omega
   refine L_of ?_;rw[Dl,rM b,qCt];simp only[bG,le0,rM b,Bool.and_true,qCt,qIt,gJ a b];exact aaJ X hX e [] d c f a n j i b _ (g (i+1) (by omega)) a.length 0 (by omega)
theorem aaM(f:Fen)(A:f.holes.length<=16)(c:∀ h∈f.holes,h.length<=1000000)(t:dM f.outer=true)(q:Bool):∀(r:List (List V3)) (i:Nat) (all:List (List V3)),f.holes.drop i=r->i<=f.holes.length->all=f.outer::f.holes.take i->(∀ h∈f.holes.take i,dM h=true) ->
    L tab (run tab X) 18 [] [.lp [1,1,1,0,1,0]] (sW (bI f.holes) (f.holes.length:Int) (i:Int) (encL f.outer) (bI f.holes) f.low f.high q (bI all) 0 all.length)=some ([.p (.bool (tJ f.outer all r&&Iz f.holes))],[]):=by
  intro r;induction r with
  | nil =>
   intro i all g w b e;have a:i=f.holes.length:=by have:=congrArg List.length g;grind
   subst a;rw[List.take_length]at e;refine L_of ?_;rw[EM,y8 (by omega),qCf,bG];exact aaL X hX _ _ _ q f.holes e (by omega) f.holes.length 0 (by omega)
  | cons h r v =>
   intro i all g w b e;have a:i<f.holes.length:=by grind
   have s:gh f.holes i=h:=by show f.holes.getD i []=h;rw[qLb,<- List.head?_drop,g];rfl
   have u:h∈f.holes:=by rw[<- s];exact uO a
   refine L_of ?_;rw[EM,rM a,qCt];simp only[bG,le0,rM a,Bool.and_true,qCt,qIt,gJ f.holes a,s];show(run tab X 12 [.p (.list true kV3 (encL h))] []).bind _=_;rw[c12 X hX h (c h u),qOb];simp only[qLh,pv_p,toBool_bool];rw[tJ,EY,Bool.and_assoc,Bool.and_assoc];cases k:dM h with
   | false=>rfl
   | true =>
    rw[qBt,qCf,Bool.true_and];show(run tab X 51 [.p (.list true kV3 (encL h))] []).bind _=_;rw[c51 X hX h,qOb];show(run tab X 100 [.yld,.p (.ref [.list true kV3 (encL h)])] [.log true []]).bind _=_;have m:=lT k;rw[Oz X hX h (c h u),qOb];have j:(f.holes.take i).length=i:=by rw[List.length_take];omega
    have x:all.length=i+1:=by rw[b,qLl,j]
    have n:f.holes.take (i+1)=f.holes.take i++[h]:=by simp_all[List.head?_drop,List.take_add_one]
    refine aaI X hX (encL h) _ _ _ _ f.outer (lT t) _ _ _ q all (λo d=>?_) (by omega) _ ?_ (dL h) (pO m)
    . rw[b]at d;rcases List.mem_cons.1 d with rfl | d
      . exact lT t
      . exact lT (e o d)
    . rw[dZ (by omega)];have z:bI all++[PV.list true kV3 (encL h)]=bI (all++[h]):=by simp[bI]
      have y:all.length+1=(all++[h]).length:=by simp
      rw[z,y];refine v (i+1) (all++[h]) (by rw[<- List.tail_drop,g];rfl) (by omega) ?_ ?_
      . grind
      . rw[n];intro o d;rcases List.mem_append.1 d with d | d;all_goals simp_all
structure nO (f:Fen):Prop where
 outer:f.outer.length<=1000000
 holes:∀ h∈f.holes,h.length<=1000000
 len:f.holes.length<=1000000
theorem c18(f:Fen)(a:nO f):run tab X 18 [.p (encF f)] []=some ([.p (.bool (validP f))],[]):=
 run_of (hX _ rfl) (by
  rw[encF,e18,c12 X hX f.outer a.outer,qOb];simp only[qLh,pv_p,toBool_bool,bG];unfold validP AB;cases c:dM f.outer with
  | false=>rfl
  | true =>
   rw[qBt,qCf,Bool.true_and];by_cases b:f.holes.length<=16
   . rw[show gtI ((f.holes.length:Nat):Int) (16:Int)=false from decide_eq_false (by omega),qCf];by_cases e:-1048576<=f.low
     . rw[show ltI f.low (-1048576)=false from decide_eq_false (by omega),qCf];by_cases d:f.high<=1048576
       . rw[show gtI f.high 1048576=false from decide_eq_false (by omega),qCf];by_cases h4:f.low<=f.high
         . rw[show gtI f.low f.high=false from decide_eq_false (by omega),qCf,decide_eq_true ⟨b,e,d,h4⟩,Bool.true_and];exact aaM X hX f b a.holes c false f.holes 0 [f.outer] rfl (by omega) rfl (by simp)
         grind
       grind
     grind
   grind)
end
end
section
variable {k m:Nat}{x y z:Int}
def Lt2(k:Nat)(z:Int):Prop:=z.natAbs<2^k
theorem Lt2.mono(h:Lt2 k z)(a:k<=m):Lt2 m z:=Nat.lt_of_lt_of_le h (Nat.pow_le_pow_right (by decide) a)
theorem Lt2.mul(b:Lt2 k x)(a:Lt2 m y):Lt2 (k+m) (x*y):=by unfold Lt2 at *;rw[Int.natAbs_mul,Nat.pow_add];exact Nat.mul_lt_mul_of_lt_of_lt b a
theorem Lt2.sub(b:Lt2 k x)(a:Lt2 k y):Lt2 (k+1) (x-y):=by unfold Lt2 at *;omega
theorem Lt2.add(b:Lt2 k x)(a:Lt2 k y):Lt2 (k+1) (x+y):=by unfold Lt2 at *;omega
theorem Lt2.okW{k:Nat}{z:Int}(h:Lt2 k z)(a:k<=65536):okW z:=Nat.le_trans (wR h) a
theorem sD{n:Nat}(h:-(n:Int)<=z/\z<=n)(a:n<2^k):Lt2 k z:=by unfold Lt2;omega
theorem vw{v:V3}(h:mW v):Lt2 25 v.x/\Lt2 25 v.y:=by obtain⟨b,a,_⟩:=h;exact⟨sD (n:=16777216) (by omega) (by decide),sD (n:=16777216) (by omega) (by decide)⟩
theorem JD{a b:V3}(d:mW a)(c:mW b):Lt2 26 (b.x-a.x)/\Lt2 26 (b.y-a.y):=by obtain⟨g,f,_⟩:=d;obtain⟨b1,e,_⟩:=c;exact⟨sD (n:=33554432) (by omega) (by decide),sD (n:=33554432) (by omega) (by decide)⟩
abbrev pZ:PV:=.ref [.int .i64 0]
abbrev JE(u v w:Int):List PV:=[.bool (decide (u<0)),.str (jS u.natAbs),.bool (decide (v<0)),.str (jS v.natAbs),.bool (decide (w<0)),.str (jS w.natAbs)]
def WR(u v w:Int):PV:=.agg (JE u v w)
theorem xH(z:Int):z.sign=iC z:=by grind[iC]
structure Sp (u v w:Int):Prop where
 bu:Lt2 20000 u
 bv:Lt2 20000 v
 bw:Lt2 20000 w
 pos:0<w
theorem Sp.off{u v w:Int}(h:Sp u v w){c:Int}(b:Lt2 25 c):okW (c*w)/\Lt2 20026 (u-c*w)/\Lt2 20026 (v-c*w):=by have a:Lt2 20025 (c*w):=(b.mul h.bw).mono (by omega);exact⟨a.okW (by omega),((h.bu.mono (by omega)).sub a).mono (by omega),((h.bv.mono (by omega)).sub a).mono (by omega)⟩
section
variable (X:Ext) (hX:Mine X) (hB:Bits X)
include hX
theorem c78(z:Int):run tab X 78 [.p pZ,.p (eW z),.p (.int .i64 0)] []=some ([.p (eW z)],[]):=run_of (hX _ rfl) (by rw[eW,e78];rfl)
include hB
theorem SA(a b:Int)(e:okW a)(d:okW b)(h:okW (a*b)):run tab X 77 [.p pZ,.p (eW a),.p (eW b)] []=some ([.p (eW (a*b))],[]):=
 run_of (hX _ rfl) (by have c:=c138 X hX hB a b e d;rw[xI,if_pos h,eW,eW]at c;rw[eW,eW,e77,c,qOb];simp only[qLh,List.tail_cons,pv_p,toInt_int,iL];rw[c78 X hX,qOb];rfl)
theorem UJ(a b:Int)(e:okW a)(d:okW b)(h:okW (a-b)):run tab X 123 [.p pZ,.p (eW a),.p (eW b)] []=some ([.p (eW (a-b))],[]):=
 run_of (hX _ rfl) (by have c:=c159 X hX hB a b e d;rw[xI,if_pos h,eW,eW]at c;rw[eW,eW,aak,c,qOb];simp only[qLh,List.tail_cons,pv_p,toInt_int,iL];rw[c78 X hX,qOb];rfl)
theorem c63(a b c d:Int)(j:okW a)(h:okW b)(i:okW c)(hd:okW d)(o:okW (a*d))(n:okW (c*b))(l:okW (b*d)):run tab X 63 [.p pZ,.p (eR a b),.p (eR c d)] []=some ([.p (WR (a*d) (c*b) (b*d))],[]):=
 run_of (hX _ rfl) (by have g:=SA X hX hB a d j hd o;have f:=SA X hX hB c b i h n;have e:=SA X hX hB b d h hd l;rw[eW]at g f e;rw[eW]at g f e;rw[eR,eR,e63,g,qOb,f,qOb,e,qOb];rfl)
theorem WS(a:V3)(i:mW a)(u v w:Int)(h:Sp u v w):run tab X 122 [.p (encV a),.p (.ref [pZ]),.p (.ref (JE u v w))] []=some ([.p (eW (u-a.x*w)),.p (eW (v-a.y*w))],[]):=
 run_of (hX _ rfl) (by obtain⟨f,e⟩:=vw i;obtain⟨b,j,_⟩:=h.off f;obtain⟨y1,_,y2⟩:=h.off e;obtain⟨b1,q,_⟩:=i;have g:=h.bw.okW (by omega);have d:=SA X hX hB a.x w (f.okW (by omega)) g b;have n:=SA X hX hB a.y w (e.okW (by omega)) g y1;have c:=UJ X hX hB u (a.x*w) (h.bu.okW (by omega)) b (j.okW (by omega));have l:=UJ X hX hB v (a.y*w) (h.bv.okW (by omega)) y1 (y2.okW (by omega));rw[eW,eW]at c l;have o:∀ z:Int,eW z=PV.agg [.bool (decide (z<0)),.str (jS z.natAbs)]:=λ_=>rfl;rw[o w]at d n;rw[encV,aaj,c61 X hX hB a.x (by omega) (by omega),qOb];simp only[qLh,pv_p,iL];rw[d,qOb];simp only[qLh,pv_p];rw[show(PV.agg [.bool (((eW (a.x*w)).cell 0).toBool),.str (((eW (a.x*w)).cell 1).toStr)])=PV.agg [.bool (decide (a.x*w<0)),.str (jS (a.x*w).natAbs)] from rfl,c,qOb];rw[c61 X hX hB a.y (by omega) (by omega),qOb];simp_all)
abbrev Qk(u v w:Int):PV:=.fn 122 [.ref [pZ],.ref (JE u v w)]
theorem c124(a b:V3)(e:mW a)(i:mW b)(u v w:Int)(h:Sp u v w):run tab X 124 [.p (encV a),.p (encV b),.p (.ref [Qk u v w]),.p (.ref [pZ])] []=some ([.p (.int .i64 (iC (Tq a b u v w)))],[]):=
 run_of (hX _ rfl) (by obtain⟨s,r⟩:=vw e;obtain⟨_,f,_⟩:=h.off s;obtain⟨_,_,y2⟩:=h.off r;obtain⟨l,j⟩:=JD e i;have g:=WS X hX hB a e u v w h;obtain⟨B,A,_⟩:=e;obtain⟨b1,t,_⟩:=i;have d:Lt2 20052 ((b.x-a.x)*(v-a.y*w)):=(l.mul y2).mono (by omega);have c:Lt2 20052 ((b.y-a.y)*(u-a.x*w)):=(j.mul f).mono (by omega);have q:=SA X hX hB (b.x-a.x) (v-a.y*w) (l.okW (by omega)) (y2.okW (by omega)) (d.okW (by omega));have o:=SA X hX hB (b.y-a.y) (u-a.x*w) (j.okW (by omega)) (f.okW (by omega)) (c.okW (by omega));have n:=UJ X hX hB _ _ (d.okW (by omega)) (c.okW (by omega)) ((d.sub c).okW (by omega));rw[encV]at g;rw[encV,encV,aal,g,qOb,wrap_eq (x:=b.x-a.x) (by omega) (by omega),wrap_eq (x:=b.y-a.y) (by omega) (by omega),c61 X hX hB _ (by omega) (by omega),qOb];simp only[qLh,List.tail_cons,pv_p,iL];rw[q,qOb,c61 X hX hB _ (by omega) (by omega),qOb];simp only[qLh,List.tail_cons,pv_p,iL];rw[o,qOb];simp only[qLh,List.tail_cons,pv_p,iL];rw[n,qOb];simp only[qLh,List.tail_cons,pv_p,iL];rw[c109 X hX _ ((d.sub c).okW (by omega)),xH];rfl)
theorem Nl(x y:Int):IntKind.i64.wrap (0-(x-y).sign)=iC (y-x):=by have _:=hX;have _:=hB;rw[xH];have d:=mg (n:=x-y);have c:=Au (n:=x-y);have b:=mg (n:=y-x);have h4:=Au (n:=y-x);rcases tC (x-y)with e | e | e<;>rcases tC (y-x)with a | a | a<;>rw[e,a]<;>rw[e]at d c<;>rw[a]at b h4<;>first | rfl | omega
theorem WT(a:V3)(c:mW a)(u v w:Int)(h:Sp u v w):run tab X 125 [.p (encV a),.p (.int .i64 0),.p (.ref [Qk u v w])] []=some ([.p (.int .i64 (iC (a.x*w-u)))],[])/\run tab X 125 [.p (encV a),.p (.int .i64 1),.p (.ref [Qk u v w])] []=some ([.p (.int .i64 (iC (a.y*w-v)))],[]):=by
 obtain⟨f,e⟩:=vw c;obtain⟨_,d,_⟩:=h.off f;obtain⟨_,_,y2⟩:=h.off e;have b:=WS X hX hB a c u v w h;rw[encV]at b;constructor
 . refine run_of (hX _ rfl) ?_;rw[encV,e125,b,qOb,show((0:Int)==0)=true from rfl,qCt];simp only[qLh,pv_p,iL];rw[c109 X hX _ (d.okW (by omega)),qOb];simp only[qLh,pv_p,toInt_int];rw[Nl X hX hB]
 . refine run_of (hX _ rfl) ?_;rw[encV,e125,b,qOb,show((1:Int)==0)=false from rfl,qCf];simp only[qLh,List.tail_cons,pv_p,iL];rw[c109 X hX _ (y2.okW (by omega)),qOb];simp only[qLh,pv_p,toInt_int];rw[Nl X hX hB]
end
end
section
abbrev SW(l:List PV)(u v w b6 wd:Int):St:=bD l 0 (decide (u<0)) (jS u.natAbs) (decide (v<0)) (jS v.natAbs) (decide (w<0)) (jS w.natAbs) 0 0 (decide (u<0)) (jS u.natAbs) (decide (v<0)) (jS v.natAbs) (decide (w<0)) (jS w.natAbs) b6 wd
abbrev Zd(ys:List PV):List Wy:=[.rg [1,1,0,1,0] [(true,kV3),(true,kV3)] ys]
section
variable (X:Ext) (hX:Mine X) (hB:Bits X)
include hX hB
theorem WU(l:List PV)(u v w:Int)(hp:Sp u v w)(d:Int):∀(es:List kX) (a:Int),(∀ e∈es,mW e.1/\mW e.2)→-(1000000-(es.length:Int))<=a/\a<=1000000-(es.length:Int) ->
    L tab (run tab X) 101 [] (Zd (es.map eY)) (SW l u v w d a)=some ([.p (.int .i64 (EX u v w a es))],[]):=by
  intro es;induction es with
  | nil =>intro a _ _;rw[List.map_nil,DU];unfold EX AA;grind
  | cons e r o =>
   intro a c s;simp only[qLl]at s;obtain⟨n,m⟩:=c e (by simp);have k:=c124 X hX hB e.1 e.2 n m u v w hp;have g:=WT X hX hB e.1 n u v w hp;have f:=WT X hX hB e.2 m u v w hp;simp only[encV]at k g f;have A:=G7 u v w e;have B:=λb q=>o b (λt i=>c t (by simp[i])) q;rw[List.map_cons,G8];show L tab (run tab X) 101 [] (Zd (.agg [.agg [.int .i64 e.1.x,.int .i64 e.1.y,.int .i64 e.1.z],.agg [.int .i64 e.2.x,.int .i64 e.2.y,.int .i64 e.2.z]]::r.map eY)) (SW l u v w d a)=_;rw[BX,k,qOb,g.1,qOb,g.2,qOb,f.1,qOb,f.2,qOb];simp only[qLh,pv_p,toInt_int];have h:=JC u v w e a (some ([AV.p (.int .i64 0)],([]:List Blk))) (λb=>L tab (run tab X) 101 [] (Zd (r.map eY)) (SW l u v w d b));have j:(if Gj u v w e then some ([AV.p (.int .i64 0)],([]:List Blk))else L tab (run tab X) 101 [] (Zd (r.map eY)) (SW l u v w d (a+Gt u v w e)))=some ([.p (.int .i64 (if Gj u v w e then 0 else EX u v w (a+Gt u v w e) r))],[]):=by grind
   rw[<- j,<- h,yK,yK,wrap_eq (x:=a+1) (by omega) (by omega),wrap_eq (x:=a-1) (by omega) (by omega)];rw[JB _ _ _ _ _ _ _ _ _ _ _ _ _ _ _ _ _ rfl rfl rfl rfl rfl rfl rfl rfl rfl];grind
theorem c66(l:List V3)(a:Rd l)(u v w:Int)(hp:Sp u v w):run tab X 66 [.p pZ,.p (.list true kV3 (encL l)),.p (WR u v w)] []=some ([.p (.int .i64 (wW l u v w))],[]):=
 run_of (hX _ rfl) (by have c:run tab X 101 [.p (.list true kV3 (encL l)),.p (.fn 124 [.ref [Qk u v w],.ref [pZ]]),.p (.fn 125 [.ref [Qk u v w]])] []=some ([.p (.int .i64 (wW l u v w))],[]):=run_of (hX _ rfl) (by rw[VZ,c51 X hX l,qOb];show(run tab X 100 [.yld,.p (.ref [.list true kV3 (encL l)])] [.log true []]).bind _=_;have:=a.len;rw[Oz X hX l (by omega),qOb];have b:=WU X hX hB (encL l) u v w hp 0 (dL l) 0 (pO a) (by rw[jg];omega);rw[G9,Iw hp.pos]at b;exact b);rw[WR,e66,c];rfl)
theorem c65(l:List V3)(b:Rd l)(u v w:Int)(hp:Sp u v w):run tab X 65 [.p (.list true kV3 (encL l)),.p pZ,.p (.ref (JE u v w))] []=some ([.p (.int .i64 (wW l u v w))],[]):=
 run_of (hX _ rfl) (by have a:=c66 X hX hB l b u v w hp;rw[WR]at a;rw[e65,a];rfl)
theorem WV(l:List V3)(a:Rd l)(u v w:Int)(hp:Sp u v w):run tab X 121 [.p (.list true kV3 (encL l)),.p (.ref [.fn 65 [pZ,.ref (JE u v w)]])] []=some ([.p (.bool (decide (0<wW l u v w)))],[]):=
 run_of (hX _ rfl) (by rw[VQ,c65 X hX hB l a u v w hp];rfl)
theorem l158a(a:List (List V3))(j:∀ h∈a,Rd h)(d:a.length<=1000000)(u v w:Int)(hp:Sp u v w):∀(r:List (List V3)) (i:Nat),a.drop i=r->i<=a.length ->
    L tab (run tab X) 158 [] [.lp [1,0,1,0]] (wo (bI a) 0 (decide (u<0)) (jS u.natAbs) (decide (v<0)) (jS v.natAbs) (decide (w<0)) (jS w.natAbs) ((a.length:Nat):Int) (i:Int))=some ([.p (.int .i64 (qQ (λh=>decide (0<wW h u v w)) r i))],[]):=by
  intro r;induction r with
  | nil =>
   intro i c g;have b:i=a.length:=by have:=congrArg List.length c;grind
   refine L_of ?_;rw[EK,y8 (by omega),qCf];rfl
  | cons h r k =>
   intro i c g;have b:i<a.length:=by grind
   have e:gh a i=h:=by grind[qLb,List.head?_drop]
   have f:h∈a:=by grind
   refine L_of ?_;rw[EK,rM b,qCt];simp only[bG,le0,rM b,Bool.and_true,qCt,qIt,gJ a b,e,dZ (show i<=9000000000000000000 by omega)];show(run tab X 121 [.p (.list true kV3 (encL h)),.p (.ref [.fn 65 [pZ,.ref (JE u v w)]])] []).bind _=_;rw[WV X hX hB h (j h f) u v w hp,qOb];simp only[qLh,pv_p,toBool_bool];rw[qQ];cases decide (0<wW h u v w)with
   | true=>rfl
   | false =>rw[qCf,if_neg (by decide)];grind[List.tail_drop]
theorem aaO(f:Fen)(a:Sz f)(u v w:Int)(hp:Sp u v w):run tab X 64 [.p (encF f),.p (.fn 65 [pZ,.ref (JE u v w)])] []=some ([.p (.bool (Lh f u v w))],[]):=
 run_of (hX _ rfl) (by
  have b:run tab X 120 [.p (.list false [.slice true kV3] (bI f.holes)),.p (.fn 121 [.ref [.fn 65 [pZ,.ref (JE u v w)]]])] []=some ([.p (.bool (f.holes.any λh=>decide (0<wW h u v w)))],[]):=run_of (hX _ rfl) (by have c:run tab X 158 [.p (.list false [.slice true kV3] (bI f.holes)),.p (.fn 121 [.ref [.fn 65 [pZ,.ref (JE u v w)]]])] []=some ([.p (.int .i64 (qQ (λh=>decide (0<wW h u v w)) f.holes 0))],[]):=run_of (hX _ rfl) (by rw[VW,bG];exact l158a X hX hB f.holes a.holes a.len u v w hp f.holes 0 rfl (by omega));grind[VN,qOb,qLh,pv_p,toInt_int,wG]);rw[encF,aaf,c65 X hX hB f.outer a.outer u v w hp,qOb];simp only[qLh,pv_p,toInt_int];unfold Lh;show(bif decide (0<=wW f.outer u v w)then _ else _)=_;cases decide (0<=wW f.outer u v w)with
  | false=>rfl
  | true=>rw[qCt,b];rfl)
theorem c82(l:List V3)(b:Rd l)(u v w:Int)(hp:Sp u v w):run tab X 82 [.p (.list true kV3 (encL l)),.p pZ,.p (.ref (JE u v w))] []=some ([.p (.int .i64 (wW l u v w))],[]):=
 run_of (hX _ rfl) (by have a:=c66 X hX hB l b u v w hp;rw[WR]at a;rw[e82,a];rfl)
theorem WW(l:List V3)(a:Rd l)(u v w:Int)(hp:Sp u v w):run tab X 121 [.p (.list true kV3 (encL l)),.p (.ref [.fn 82 [pZ,.ref (JE u v w)]])] []=some ([.p (.bool (decide (0<wW l u v w)))],[]):=
 run_of (hX _ rfl) (by rw[VT,c82 X hX hB l a u v w hp];rfl)
theorem WX(a:List (List V3))(j:∀ h∈a,Rd h)(d:a.length<=1000000)(u v w:Int)(hp:Sp u v w):∀(r:List (List V3)) (i:Nat),a.drop i=r->i<=a.length ->
    L tab (run tab X) 158 [] [.lp [1,0,1,0]] (wu (bI a) 0 (decide (u<0)) (jS u.natAbs) (decide (v<0)) (jS v.natAbs) (decide (w<0)) (jS w.natAbs) ((a.length:Nat):Int) (i:Int))=some ([.p (.int .i64 (qQ (λh=>decide (0<wW h u v w)) r i))],[]):=by
  intro r;induction r with
  | nil =>
   intro i c g;have b:i=a.length:=by have:=congrArg List.length c;grind
   refine L_of ?_;rw[EL,y8 (by omega),qCf];rfl
  | cons h r k =>
   intro i c g;have b:i<a.length:=by grind
   have e:gh a i=h:=by grind[qLb,List.head?_drop]
   have f:h∈a:=by grind
   refine L_of ?_;rw[EL,rM b,qCt];simp only[bG,le0,rM b,Bool.and_true,qCt,qIt,gJ a b,e,dZ (show i<=9000000000000000000 by omega)];show(run tab X 121 [.p (.list true kV3 (encL h)),.p (.ref [.fn 82 [pZ,.ref (JE u v w)]])] []).bind _=_;rw[WW X hX hB h (j h f) u v w hp,qOb];simp only[qLh,pv_p,toBool_bool];rw[qQ];cases decide (0<wW h u v w)with
   | true=>rfl
   | false =>rw[qCf,if_neg (by decide)];grind[List.tail_drop]
theorem aaP(f:Fen)(a:Sz f)(u v w:Int)(hp:Sp u v w):run tab X 64 [.p (encF f),.p (.fn 82 [pZ,.ref (JE u v w)])] []=some ([.p (.bool (Lh f u v w))],[]):=
 run_of (hX _ rfl) (by
  have b:run tab X 120 [.p (.list false [.slice true kV3] (bI f.holes)),.p (.fn 121 [.ref [.fn 82 [pZ,.ref (JE u v w)]]])] []=some ([.p (.bool (f.holes.any λh=>decide (0<wW h u v w)))],[]):=run_of (hX _ rfl) (by have c:run tab X 158 [.p (.list false [.slice true kV3] (bI f.holes)),.p (.fn 121 [.ref [.fn 82 [pZ,.ref (JE u v w)]]])] []=some ([.p (.int .i64 (qQ (λh=>decide (0<wW h u v w)) f.holes 0))],[]):=run_of (hX _ rfl) (by rw[VX,bG];exact WX X hX hB f.holes a.holes a.len u v w hp f.holes 0 rfl (by omega));grind[VO,qOb,qLh,pv_p,toInt_int,wG]);rw[encF,aag,c82 X hX hB f.outer a.outer u v w hp,qOb];simp only[qLh,pv_p,toInt_int];unfold Lh;show(bif decide (0<=wW f.outer u v w)then _ else _)=_;cases decide (0<=wW f.outer u v w)with
  | false=>rfl
  | true=>rw[qCt,b];rfl)
end
end
end Go.Skm.Fen
