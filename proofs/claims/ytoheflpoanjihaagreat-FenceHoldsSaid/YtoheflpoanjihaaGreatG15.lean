import Derived.Test.YtoheflpoanjihaaGreatG10
import Derived.Test.YtoheflpoanjihaaGreatEqv2
import Derived.Test.YtoheflpoanjihaaGreatR3
set_option linter.all false
namespace Go.Skm.Fen
open Go Go.Skm
section
variable {α:Type}
theorem anm(a b p:V3):Tq a b p.x p.y 1=area a b p:=by unfold Tq area;simp only[Int.mul_one]
theorem Yu(u v w:Int)(e:pG):crQ u v w e=1\/crQ u v w e=-1\/crQ u v w e=0:=by grind[crQ]
def alf{α:Type}(s ax ay bx DN w:Int)(z:α)(k:Int->α):α:=
 if s=0/\ax*bx<=0/\ay*DN<=0 then z else k (w+(if ay<=0/\0<DN/\0<s then 1 else if DN<=0/\0<ay/\s<0 then -1 else 0))
theorem Lh(a b:Int):IntKind.i64.wrap (nG a*nG b)=nG a*nG b:=by rcases DY a with h | h | h<;>rcases DY b with c | c | c<;>rw[h,c]<;>rfl
theorem abK(s d a c b w:Int)(z:α)(K:Int->α)(c1 c2 c3 c4 c5 g f c8 e:Bool)(n:c1=decide (s=0))(m:c2=decide (d*c<=0))(l:c3=decide (a*b<=0))(h4:c4=decide (a<=0))(h5:c5=decide (0<b))(k:g=decide (0<s))(j:f=decide (0<a))(i:c8=decide (b<=0))(h:e=decide (s<0)) :
    alf s d a c b w z K=bif c1&&(c2&&c3)then z else bif c4&&(c5&&g)then K (w+1)else bif f&&(c8&&e)then K (w-1)else K w:=by
  unfold alf;by_cases o:s=0/\d*c<=0/\a*b<=0
  . grind
  . grind
theorem abL(u v w:Int)(e:pG)(a:Int)(z:α)(K:Int->α) :
    alf (nG (Tq e.1 e.2 u v w)) (nG (e.1.x*w-u)) (nG (e.1.y*w-v)) (nG (e.2.x*w-u)) (nG (e.2.y*w-v)) a z K=if onQ u v w e then z else K (a+crQ u v w e):=by
  unfold alf onQ crQ;have b:(nG (Tq e.1 e.2 u v w)=0/\nG (e.1.x*w-u)*nG (e.2.x*w-u)<=0/\nG (e.1.y*w-v)*nG (e.2.y*w-v)<=0)↔((nG (Tq e.1 e.2 u v w)==0)&&(decide (nG (e.1.x*w-u)*nG (e.2.x*w-u)<=0)&&decide (nG (e.1.y*w-v)*nG (e.2.y*w-v)<=0)))=true:=by simp
  by_cases h:nG (Tq e.1 e.2 u v w)=0/\nG (e.1.x*w-u)*nG (e.2.x*w-u)<=0/\nG (e.1.y*w-v)*nG (e.2.y*w-v)<=0
  . simp
  . simp
def Vp(u v w wd:Int)(es:List pG):Int:=if es.any (onQ u v w)then 0 else if wd+TU u v w es≠0 then 1 else -1
theorem Yv(u v w a:Int)(e:pG)(b:List pG):Vp u v w a (e::b)=if onQ u v w e then 0 else Vp u v w (a+crQ u v w e) b:=by unfold Vp;rw[List.any_cons,TU];grind
theorem Yw(u v w:Int)(a:List pG):Vp u v w 0 a=whE u v w a:=by unfold Vp whE;rw[Int.zero_add]
section
variable (X:Ext) (hX:Mine X)
include hX
theorem auF(a b p:V3)(e:vN a)(d:vN b)(hp:vN p):run tab X 102 [.p (cO a),.p (cO b),.p (.ref [Ap p.x,Ap p.y,Ap p.z])] []=some ([Ab (nG (Tq a b p.x p.y 1))],[]):=
 aY (hX _ rfl) (by have c:=c96 X hX a b p e d hp;simp only[cO]at c;rw[cO,cO,atQ,c,anm];rfl)
theorem apt(c p:V3)(a:vN c)(hp:vN p):(run tab X 103 [.p (cO c),Ab 0,.p (.ref [Ap p.x,Ap p.y,Ap p.z])] []=some ([Ab (nG (c.x*1-p.x))],[]))/\(run tab X 103 [.p (cO c),Ab 1,.p (.ref [Ap p.x,Ap p.y,Ap p.z])] []=some ([Ab (nG (c.y*1-p.y))],[])):=by
 obtain⟨e,d,_⟩:=a;obtain⟨b1,b,_⟩:=hp;constructor
 . refine aY (hX _ rfl) ?_;rw[cO,aoM,show((0:Int)==0)=true from rfl,qCt,wrap_eq (by omega) (by omega),c48 X hX,Int.mul_one];rfl
 . refine aY (hX _ rfl) ?_;rw[cO,aoM,show((1:Int)==0)=false from rfl,qCf,wrap_eq (by omega) (by omega),c48 X hX,Int.mul_one];rfl
theorem l101a(l:List PV)(p:V3)(hp:vN p)(f:Int):∀(c:List pG) (a:Int),(∀ e∈c,vN e.1/\vN e.2)→-(1000000-(c.length:Int))<=a/\a<=1000000-(c.length:Int) ->
    L tab (run tab X) 101 [] [.rg [1,1,0,1,0] [(true,aU),(true,aU)] (c.map eY)] (bW l p.x p.y p.z p.x p.y p.z f a)=some ([Ab (Vp p.x p.y 1 a c)],[]):=by
  intro c;induction c with
  | nil =>intro a _ _;rw[List.map_nil,TS];unfold Vp TU;grind
  | cons e r q =>
   intro a d t;simp only[qLl]at t;obtain⟨o,n⟩:=d e (by simp);have m:=auF X hX e.1 e.2 p o n hp;have h:=apt X hX e.1 p o hp;have g:=apt X hX e.2 p n hp;simp only[cO]at m h g;have v:=Yu p.x p.y 1 e;have w:=λb s=>q b (λu j=>d u (by simp[j])) s;rw[List.map_cons,Yv];show L tab (run tab X) 101 [] [.rg [1,1,0,1,0] [(true,aU),(true,aU)] (.agg [.agg [Ap e.1.x,Ap e.1.y,Ap e.1.z],.agg [Ap e.2.x,Ap e.2.y,Ap e.2.z]]::r.map eY)] (bW l p.x p.y p.z p.x p.y p.z f a)=_;rw[QG,m,qOb,h.1,qOb,h.2,qOb,g.1,qOb,g.2,qOb];simp only[qLh,bV,toInt_int];have i:=abL p.x p.y 1 e a (some ([Ab 0],([]:List bZ))) (λb=>L tab (run tab X) 101 [] [.rg [1,1,0,1,0] [(true,aU),(true,aU)] (r.map eY)] (bW l p.x p.y p.z p.x p.y p.z f b));have k:(if onQ p.x p.y 1 e then some ([Ab 0],([]:List bZ))else L tab (run tab X) 101 [] [.rg [1,1,0,1,0] [(true,aU),(true,aU)] (r.map eY)] (bW l p.x p.y p.z p.x p.y p.z f (a+crQ p.x p.y 1 e)))=some ([Ab (if onQ p.x p.y 1 e then 0 else Vp p.x p.y 1 (a+crQ p.x p.y 1 e) r)],[]):=by grind
   rw[<- k,<- i,Lh,Lh,wrap_eq (x:=a+1) (by omega) (by omega),wrap_eq (x:=a-1) (by omega) (by omega)];rw[abK _ _ _ _ _ _ _ _ _ _ _ _ _ _ _ _ _ rfl rfl rfl rfl rfl rfl rfl rfl rfl];grind
end
end
section
structure Fen where
 outer:List V3
 holes:List (List V3)
 low:Int
 high:Int
 deriving Inhabited
def dG(hs:List (List V3)):List PV:=hs.map λh=>.list true aU (bT h)
def kZ(f:Fen):PV:=.agg [.list true aU (bT f.outer),.list false [.slice true aU] (dG f.holes),Ap f.low,Ap f.high]
theorem dL(a:List (List V3)):(dG a).length=a.length:=by simp[dG]
abbrev gh(hs:List (List V3))(i:Nat):List V3:=hs.getD i []
theorem kX(a:List (List V3)){i:Nat}(h:i<a.length):(dG a).getD i .nil=.list true aU (bT (gh a i)):=by grind[dG]
structure Rd (l:List V3):Prop where
 len:l.length<=1000
 ok:∀ i,vN (gt l i)
theorem zk{l:List V3}(h:Rd l):∀ e∈fH l,vN e.1/\vN e.2:=by intro e a;simp only[fH,EM,List.mem_map]at a;obtain⟨i,_,rfl⟩:=a;exact⟨ZP (h.ok _),ZP (h.ok _)⟩
def Fp(l:List V3)(p:V3):Int:=Ez l p.x p.y 1
def XT(f:Fen)(u v w:Int):Bool:=decide (0<=Ez f.outer u v w)&&!(f.holes.any λh=>decide (0<Ez h u v w))
def kK(f:Fen)(p:V3):Bool:=(decide (f.low<=p.z)&&decide (p.z<=f.high))&&XT f p.x p.y 1
structure RdF (f:Fen):Prop where
 outer:Rd f.outer
 holes:∀ h∈f.holes,Rd h
 len:f.holes.length<=1000000
def Bz(P:List V3->Bool):List (List V3)->Nat->Int
 |[],_=>-1
 | h::r,i=>if P h then i else Bz P r (i+1)
theorem Ie(P:List V3->Bool):∀(a:List (List V3)) (i:Nat),BJ (Bz P a i) 0=a.any P
 |[],_=>rfl
 | h::r,i=>by
  rw[Bz,List.any_cons];cases P h with
  | true=>exact decide_eq_true (show(0:Int)<=(i:Int) by omega)
  | false=>rw[Bool.false_or];exact Ie P r (i+1)
section
variable (X:Ext) (hX:Mine X)
include hX
theorem apu(l:List V3)(a:Rd l)(p:V3)(hp:vN p):run tab X 101 [.p (.list true aU (bT l)),.p (.fn 102 [.ref [Ap p.x,Ap p.y,Ap p.z]]),.p (.fn 103 [.ref [Ap p.x,Ap p.y,Ap p.z]])] []=some ([Ab (Fp l p)],[]):=
 aY (hX _ rfl) (by rw[aoW,c51 X hX l,qOb];show(run tab X 100 [.yL,.p (.ref [.list true aU (bT l)])] [.log true []]).bind _=_;have:=a.len;rw[ag0 X hX l (by omega),qOb];have b:=l101a X hX (bT l) p hp 0 (fH l) 0 (zk a) (by rw[qA];omega);rw[Yw,ad1 (by decide)]at b;exact b)
theorem c52(l:List V3)(a:Rd l)(p:V3)(hp:vN p):run tab X 52 [.p (.list true aU (bT l)),.p (cO p)] []=some ([Ab (Fp l p)],[]):=
 aY (hX _ rfl) (by rw[cO,e52,apu X hX l a p hp];rfl)
theorem apv(l:List V3)(a:Rd l)(p:V3)(hp:vN p):run tab X 106 [.p (.list true aU (bT l)),.p (.ref [Ap p.x,Ap p.y,Ap p.z])] []=some ([Ab (Fp l p)],[]):=
 aY (hX _ rfl) (by have b:=c52 X hX l a p hp;simp_all[cO,atS])
theorem apw(l:List V3)(a:Rd l)(p:V3)(hp:vN p):run tab X 121 [.p (.list true aU (bT l)),.p (.ref [.fn 106 [.ref [Ap p.x,Ap p.y,Ap p.z]]])] []=some ([Ac (decide (0<Fp l p))],[]):=
 aY (hX _ rfl) (by rw[aoQ,apv X hX l a p hp];rfl)
theorem apx(a:List (List V3))(j:∀ h∈a,Rd h)(d:a.length<=1000000)(p:V3)(hp:vN p):∀(r:List (List V3)) (i:Nat),a.drop i=r->i<=a.length ->
    L tab (run tab X) 158 [] [.lp [1,0,1,0]] (H8 (dG a) p.x p.y p.z ((a.length:Nat):Int) (i:Int))=some ([Ab (Bz (λh=>decide (0<Fp h p)) r i)],[]):=by
  intro r;induction r with
  | nil =>
   intro i c g;have b:i=a.length:=by have:=congrArg List.length c;grind
   refine dU ?_;rw[Va,O3 (by omega),qCf];rfl
  | cons h r k =>
   intro i c g;have b:i<a.length:=by grind
   have e:gh a i=h:=by grind[qLb,List.head?_drop]
   have f:h∈a:=by grind
   refine dU ?_;rw[Va,F6 b,qCt];simp only[dL,le0,F6 b,Bool.and_true,qCt,qIt,kX a b,e,kG (show i<=9000000000000000000 by omega)];show(run tab X 121 [.p (.list true aU (bT h)),.p (.ref [.fn 106 [.ref [Ap p.x,Ap p.y,Ap p.z]]])] []).bind _=_;rw[apw X hX h (j h f) p hp,qOb];simp only[qLh,bV,bf];rw[Bz];cases decide (0<Fp h p)with
   | true=>rfl
   | false =>rw[qCf,if_neg (by decide)];grind[List.tail_drop]
theorem auH(f:Fen)(a:RdF f)(p:V3)(hp:vN p):run tab X 64 [.p (kZ f),.p (.fn 106 [.ref [Ap p.x,Ap p.y,Ap p.z]])] []=some ([Ac (XT f p.x p.y 1)],[]):=
 aY (hX _ rfl) (by
  have b:run tab X 120 [.p (.list false [.slice true aU] (dG f.holes)),.p (.fn 121 [.ref [.fn 106 [.ref [Ap p.x,Ap p.y,Ap p.z]]]])] []=some ([Ac (f.holes.any λh=>decide (0<Fp h p))],[]):=aY (hX _ rfl) (by have c:run tab X 158 [.p (.list false [.slice true aU] (dG f.holes)),.p (.fn 121 [.ref [.fn 106 [.ref [Ap p.x,Ap p.y,Ap p.z]]]])] []=some ([Ab (Bz (λh=>decide (0<Fp h p)) f.holes 0)],[]):=aY (hX _ rfl) (by rw[aoT,dL];exact apx X hX f.holes a.holes a.len p hp f.holes 0 rfl (by omega));grind[aoN,qOb,qLh,bV,toInt_int,Ie]);rw[kZ,atK,apv X hX f.outer a.outer p hp,qOb];simp only[qLh,bV,toInt_int];unfold XT;have e:decide (0<=Ez f.outer p.x p.y 1)=decide (0<=Fp f.outer p):=rfl;rw[e];show(bif decide (0<=Fp f.outer p)then _ else _)=_;cases decide (0<=Fp f.outer p)with
  | false=>rfl
  | true=>rw[qCt,b];rfl)
theorem c55(f:Fen)(b:RdF f)(p:V3)(hp:vN p):run tab X 55 [.p (kZ f),.p (cO p)] []=some ([Ac (kK f p)],[]):=
 aY (hX _ rfl) (by have a:=auH X hX f b p hp;rw[kZ]at a;rw[kZ,cO,e55,a];unfold kK;show(bif decide (f.low<=p.z)then(bif decide (p.z<=f.high)then _ else _)else _)=_;cases decide (f.low<=p.z)<;>cases decide (p.z<=f.high)<;>rfl)
end
end
section
variable {l:List V3}
def edgeOk(e:pG)(o:List V3):Bool:=(fH o).all λd=>!tZ e.1 e.2 d.1 d.2
def Jy(outer:List V3)(all:List (List V3))(h:List V3):Bool:=gG h&&(fH h).all λe=>decide (0<=Fp outer e.1)&&all.all (edgeOk e)
def rZ(outer:List V3):List (List V3)->List (List V3)->Bool
 | _,[]=>true
 | all,h::r=>Jy outer all h&&rZ outer (all++[h]) r
def yx(hs:List (List V3))(i k:Nat):Bool:=if i=k then true else !decide (0<=Fp (gh hs k) (gt (gh hs i) 0))
def NC(hs:List (List V3)):Bool:=pz (λi=>pz (yx hs i) 0 hs.length) 0 hs.length
def Jz(f:Fen):Bool:=gG f.outer&&decide (f.holes.length<=16∧-1048576<=f.low/\f.high<=1048576/\f.low<=f.high)
def eX(f:Fen):Bool:=Jz f&&(rZ f.outer [f.outer] f.holes&&NC f.holes)
theorem ig(h:gG l=true):3<=l.length/\l.length<=64/\l.all (rF 1048576)=true:=by unfold gG O9 at h;grind
theorem uf(h:gG l=true):Rd l:=by obtain⟨c,b,a⟩:=ig h;exact⟨by omega,ZQ a⟩
theorem DX{a:List (List V3)}{i:Nat}(h:i<a.length):gh a i∈a:=by grind
section
variable (X:Ext) (hX:Mine X)
include hX
theorem auJ(ys:List PV)(h' k:List PV)(j i:Int)(h:List PV)(g:Nat)(f c:Int)(s:List PV)(w v:List PV)(u t:Int)(A:Bool)(p:List PV)(n:Nat)(a b:V3)(C:vN a)(B:vN b)(R:Bool)
    (hnext:L tab (run tab X) 18 [] [.lp [1,1,1,0,1,0],.rg [1,1,0,0,1,1,0,1,0] [(true,aU),(true,aU)] ys,.lp [1,0,1,1,0]] (jf h' k j i h 0 g f (IntKind.i64.wrap (c+1)) w v u t A p 0 n a.x a.y a.z b.x b.y b.z)=some ([Ac R],[])):∀ o:List pG,(∀ e∈o,vN e.1/\vN e.2) ->
    L tab (run tab X) 18 [] [.lp [1,1,1,0,1,0],.rg [1,1,0,0,1,1,0,1,0] [(true,aU),(true,aU)] ys,.lp [1,0,1,1,0],.rg [1,1,0,0,1,1,0] [(true,aU),(true,aU)] (o.map eY)] (gU h' k j i h 0 g f c s w v u t A p 0 n a.x a.y a.z b.x b.y b.z)=some ([Ac ((o.all λd=>!tZ a b d.1 d.2)&&R)],[]):=by
  intro o;induction o with
  | nil=>grind[tY]
  | cons e r D =>intro m;have q:=c42 X hX a b e.1 e.2 C B (m e (by simp)).1 (m e (by simp)).2;simp only[cO]at q;rw[List.map_cons,List.all_cons];show L tab (run tab X) 18 [] [.lp [1,1,1,0,1,0],.rg [1,1,0,0,1,1,0,1,0] [(true,aU),(true,aU)] ys,.lp [1,0,1,1,0],.rg [1,1,0,0,1,1,0] [(true,aU),(true,aU)] (.agg [.agg [Ap e.1.x,Ap e.1.y,Ap e.1.z],.agg [Ap e.2.x,Ap e.2.y,Ap e.2.z]]::r.map eY)] _=_;rw[sK,q,qOb];simp only[qLh,bV,bf];grind
theorem auK(ys:List PV)(h' g:List PV)(f e:Int)(d:List PV)(q n:List PV)(m k:Int)(s:Bool)(all:List (List V3))(h:∀ o∈all,Rd o)(F:all.length<=1000000)(a b:V3)(C:vN a)(B:vN b)(R:Bool)
    (hnext:L tab (run tab X) 18 [] [.lp [1,1,1,0,1,0],.rg [1,1,0,0,1,1,0,1,0] [(true,aU),(true,aU)] ys] (jV h' g f e d q n m k s (dG all) 0 all.length)=some ([Ac R],[])):∀(r:List (List V3)) (i:Nat),all.drop i=r->i<=all.length ->
    L tab (run tab X) 18 [] [.lp [1,1,1,0,1,0],.rg [1,1,0,0,1,1,0,1,0] [(true,aU),(true,aU)] ys,.lp [1,0,1,1,0]] (jf h' g f e d 0 all.length (all.length:Int) (i:Int) q n m k s (dG all) 0 all.length a.x a.y a.z b.x b.y b.z)=some ([Ac (r.all (edgeOk (a,b))&&R)],[]):=by
  intro r;induction r with
  | nil =>
   intro i u A;have c:i=all.length:=by have:=congrArg List.length u;grind
   refine dU ?_;rw[tX,O3 (by omega),qCf];exact hnext
  | cons o r E =>
   intro i u A;have c:i<all.length:=by grind
   have t:gh all i=o:=by grind[qLb,List.head?_drop]
   have v:Rd o:=h o (by rw[<- t];exact DX c);have w:=v.len;have D:=kG (show i<=9000000000000000000 by omega);refine dU ?_;rw[tX,F6 c,qCt];simp only[le0,Bool.and_true,qCt,qIt,qNz,kX all c,t];show(run tab X 51 [.p (.list true aU (bT o))] []).bind _=_;rw[c51 X hX o,qOb];show(run tab X 100 [.yL,.p (.ref [.list true aU (bT o)])] [.log true []]).bind _=_;rw[ag0 X hX o (by omega),qOb,List.all_cons,Bool.and_assoc];have j:=auJ X hX ys h' g f e d all.length (all.length:Int) (i:Int) (bT o) q n m k s (dG all) all.length a b C B (r.all (edgeOk (a,b))&&R) (by grind[List.tail_drop]) (fH o) (zk v);exact j
theorem auL(h' c:List PV)(b a:Int)(d:List PV)(outer:List V3)(u:Rd outer)(m:List PV)(k j:Int)(n:Bool)(all:List (List V3))(g:∀ o∈all,Rd o)(v:all.length<=1000000)(R:Bool)
    (hnext:L tab (run tab X) 18 [] [.lp [1,1,1,0,1,0]] (DR c b (IntKind.i64.wrap (a+1)) (bT outer) m k j n (dG all++[.list true aU h']) 0 (all.length+1))=some ([Ac R],[])):∀ h:List pG,(∀ e∈h,vN e.1/\vN e.2) ->
    L tab (run tab X) 18 [] [.lp [1,1,1,0,1,0],.rg [1,1,0,0,1,1,0,1,0] [(true,aU),(true,aU)] (h.map eY)] (jV h' c b a d (bT outer) m k j n (dG all) 0 all.length)=some ([Ac ((h.all λe=>decide (0<=Fp outer e.1)&&all.all (edgeOk e))&&R)],[]):=by
  intro h;induction h with
  | nil =>intro _;rw[List.map_nil,Fg,show F5 (all.length+1) 2147483648=true from decide_eq_true (by omega),qCt,qLy,List.take_of_length_le (by rw[dL];omega)];exact hnext
  | cons e r s =>
   intro f;obtain⟨p,w⟩:=f e (by simp);have q:=c52 X hX outer u e.1 p;simp only[cO]at q;rw[List.map_cons,List.all_cons];show L tab (run tab X) 18 [] [.lp [1,1,1,0,1,0],.rg [1,1,0,0,1,1,0,1,0] [(true,aU),(true,aU)] (.agg [.agg [Ap e.1.x,Ap e.1.y,Ap e.1.z],.agg [Ap e.2.x,Ap e.2.y,Ap e.2.z]]::r.map eY)] _=_;rw[Ew,q,qOb];simp only[qLh,bV,toInt_int];by_cases t:0<=Fp outer e.1
   . rw[show cu (Fp outer e.1) 0=false from decide_eq_false (by omega),qCf,decide_eq_true t,Bool.true_and,Bool.and_assoc];exact auK X hX (r.map eY) h' c b a d (bT outer) m k j n all g v e.1 e.2 p w _ (s λA i=>f A (by simp[i])) all 0 rfl (by omega)
   grind
theorem auM(r A:List PV)(o n:Int)(t:Bool)(a:List (List V3))(j:∀ h∈a,gG h=true)(C:a.length<=1000000)(i:Nat)(v:i<a.length)(R:Bool)
    (hnext:L tab (run tab X) 18 [] [.lp [1,1,1,1,0,1,0]] (Aj (dG a) (a.length:Int) ((i+1:Nat):Int) r (dG a) o n t)=some ([Ac R],[])):∀ m k,k+m=a.length ->
    L tab (run tab X) 18 [] [.lp [1,1,1,1,0,1,0],.lp [1,1,0,0,1,1,0]] (mW (i:Int) (bT (gh a i)) (dG a) (a.length:Int) (i:Int) (dG a) (a.length:Int) (k:Int) r (dG a) o n t)=some ([Ac (pz (yx a i) k m&&R)],[]):=by
  have _:=A;intro m;induction m with
  | zero =>intro k u;refine dU ?_;rw[BM,O3 (by omega),qCf,kG (by omega)];exact hnext
  | succ m B =>
   intro k u;have b:k<a.length:=by omega
   have c:=j _ (DX v);have g:=j _ (DX b);have D:=(ig c).1;have q:=c52 X hX (gh a k) (uf g) (gt (gh a i) 0) ((uf c).ok 0);simp only[cO]at q;have f:pz (yx a i) k (m+1)=(yx a i k&&pz (yx a i) (k+1) m):=rfl;refine dU ?_;rw[BM,F6 b,qCt];simp only[dL,le0,F6 b,Bool.and_true,qCt,qIt,kX a b,kG (show k<=9000000000000000000 by omega)];rw[f];have w:((i:Int) !=(k:Int))=!decide (i=k):=by grind
   rw[w];by_cases e:i=k
   . have s:yx a i k=true:=by unfold yx;rw[if_pos e]
     grind
   . have s:yx a i k=!decide (0<=Fp (gh a k) (gt (gh a i) 0)):=by unfold yx;rw[if_neg e]
     have d:cu (0:Int) (((bT (gh a i)).length:Nat):Int)=true:=by rw[lY];exact decide_eq_true (by omega)
     rw[decide_eq_false e,qBf,qCt,d,qCt,JA,JB,QN,s];show(run tab X 52 [.p (.list true aU (bT (gh a k))),.p (.agg [Ap (gt (gh a i) 0).x,Ap (gt (gh a i) 0).y,Ap (gt (gh a i) 0).z])] []).bind _=_;rw[q,qOb];simp only[qLh,bV,toInt_int];grind
theorem auN(e:List PV)(d c:Int)(f:Bool)(a:List (List V3))(n:∀ h∈a,gG h=true)(j:a.length<=1000000):∀ m i,i+m=a.length ->
    L tab (run tab X) 18 [] [.lp [1,1,1,1,0,1,0]] (Aj (dG a) (a.length:Int) (i:Int) e (dG a) d c f)=some ([Ac (pz (λi=>pz (yx a i) 0 a.length) i m)],[]):=by
  intro m;induction m with
  | zero =>intro i k;refine dU ?_;rw[Sz,O3 (by omega),qCf];rfl
  | succ m g =>
   intro i k;have b:i<a.length:=by omega
   refine dU ?_;rw[Sz,F6 b,qCt];simp only[dL,le0,F6 b,Bool.and_true,qCt,qIt,kX a b];exact auM X hX e [] d c f a n j i b _ (g (i+1) (by omega)) a.length 0 (by omega)
theorem auO(f:Fen)(A:f.holes.length<=16)(d:∀ h∈f.holes,h.length<=1000000)(t:gG f.outer=true)(q:Bool):∀(r:List (List V3)) (i:Nat) (all:List (List V3)),f.holes.drop i=r->i<=f.holes.length->all=f.outer::f.holes.take i->(∀ h∈f.holes.take i,gG h=true) ->
    L tab (run tab X) 18 [] [.lp [1,1,1,0,1,0]] (DR (dG f.holes) (f.holes.length:Int) (i:Int) (bT f.outer) (dG f.holes) f.low f.high q (dG all) 0 all.length)=some ([Ac (rZ f.outer all r&&NC f.holes)],[]):=by
  intro r;induction r with
  | nil =>
   intro i all g w c e;have b:i=f.holes.length:=by have:=congrArg List.length g;grind
   subst b;rw[List.take_length]at e;refine dU ?_;rw[Ve,O3 (by omega),qCf,dL];exact auN X hX _ _ _ q f.holes e (by omega) f.holes.length 0 (by omega)
  | cons h r v =>
   intro i all g w c e;have b:i<f.holes.length:=by grind
   have s:gh f.holes i=h:=by show f.holes.getD i []=h;rw[qLb,<- List.head?_drop,g];rfl
   have u:h∈f.holes:=by rw[<- s];exact DX b
   refine dU ?_;rw[Ve,F6 b,qCt];simp only[dL,le0,F6 b,Bool.and_true,qCt,qIt,kX f.holes b,s];show(run tab X 12 [.p (.list true aU (bT h))] []).bind _=_;rw[c12 X hX h (d h u),qOb];simp only[qLh,bV,bf];rw[rZ,Jy,Bool.and_assoc,Bool.and_assoc];cases k:gG h with
   | false=>rfl
   | true =>
    rw[qBt,qCf,Bool.true_and];show(run tab X 51 [.p (.list true aU (bT h))] []).bind _=_;rw[c51 X hX h,qOb];show(run tab X 100 [.yL,.p (.ref [.list true aU (bT h)])] [.log true []]).bind _=_;have m:=uf k;rw[ag0 X hX h (d h u),qOb];have j:(f.holes.take i).length=i:=by rw[List.length_take];omega
    have x:all.length=i+1:=by rw[c,qLl,j]
    have n:f.holes.take (i+1)=f.holes.take i++[h]:=by simp_all[List.head?_drop,List.take_add_one]
    refine auL X hX (bT h) _ _ _ _ f.outer (uf t) _ _ _ q all (λo a=>?_) (by omega) _ ?_ (fH h) (zk m)
    . rw[c]at a;rcases List.mem_cons.1 a with rfl | a
      . exact uf t
      . exact uf (e o a)
    . rw[kG (by omega)];have z:dG all++[PV.list true aU (bT h)]=dG (all++[h]):=by simp[dG]
      have y:all.length+1=(all++[h]).length:=by simp
      rw[z,y];refine v (i+1) (all++[h]) (by rw[<- List.tail_drop,g];rfl) (by omega) ?_ ?_
      . grind
      . rw[n];intro o a;rcases List.mem_append.1 a with a | a;all_goals simp_all
structure sS (f:Fen):Prop where
 outer:f.outer.length<=1000000
 holes:∀ h∈f.holes,h.length<=1000000
 len:f.holes.length<=1000000
theorem c18(f:Fen)(a:sS f):run tab X 18 [.p (kZ f)] []=some ([Ac (eX f)],[]):=
 aY (hX _ rfl) (by
  rw[kZ,e18,c12 X hX f.outer a.outer,qOb];simp only[qLh,bV,bf,dL];unfold eX Jz;cases c:gG f.outer with
  | false=>rfl
  | true =>
   rw[qBt,qCf,Bool.true_and];by_cases b:f.holes.length<=16
   . rw[show mg ((f.holes.length:Nat):Int) (16:Int)=false from decide_eq_false (by omega),qCf];by_cases e:-1048576<=f.low
     . rw[show cu f.low (-1048576)=false from decide_eq_false (by omega),qCf];by_cases d:f.high<=1048576
       . rw[show mg f.high 1048576=false from decide_eq_false (by omega),qCf];by_cases h4:f.low<=f.high
         . rw[show mg f.low f.high=false from decide_eq_false (by omega),qCf,decide_eq_true ⟨b,e,d,h4⟩,Bool.true_and];exact auO X hX f b a.holes c false f.holes 0 [f.outer] rfl (by omega) rfl (by simp)
         grind
       grind
     grind
   grind)
end
end
section
variable {k m:Nat}{x y z:Int}
def Lt2(k:Nat)(z:Int):Prop:=z.natAbs<2^k
theorem Lt2.mono(h:Lt2 k z)(a:k<=m):Lt2 m z:=Nat.lt_of_lt_of_le h (Nat.pow_le_pow_right (by decide) a)
theorem Lt2.mul(b:Lt2 k x)(a:Lt2 m y):Lt2 (k+m) (x*y):=by unfold Lt2 at *;rw[Int.natAbs_mul,Nat.pow_add];exact Nat.mul_lt_mul_of_lt_of_lt b a
theorem Lt2.sub(b:Lt2 k x)(a:Lt2 k y):Lt2 (k+1) (x-y):=by unfold Lt2 at *;omega
theorem Lt2.add(b:Lt2 k x)(a:Lt2 k y):Lt2 (k+1) (x+y):=by unfold Lt2 at *;omega
theorem Lt2.okW{k:Nat}{z:Int}(h:Lt2 k z)(a:k<=65536):okW z:=Nat.le_trans (JC h) a
theorem Dn{n:Nat}(h:-(n:Int)<=z/\z<=n)(a:n<2^k):Lt2 k z:=by unfold Lt2;omega
theorem Gx{v:V3}(h:vN v):Lt2 25 v.x/\Lt2 25 v.y:=by obtain⟨b,a,_⟩:=h;exact⟨Dn (n:=16777216) (by omega) (by decide),Dn (n:=16777216) (by omega) (by decide)⟩
theorem abM{a b:V3}(d:vN a)(c:vN b):Lt2 26 (b.x-a.x)/\Lt2 26 (b.y-a.y):=by obtain⟨g,f,_⟩:=d;obtain⟨b1,e,_⟩:=c;exact⟨Dn (n:=33554432) (by omega) (by decide),Dn (n:=33554432) (by omega) (by decide)⟩
abbrev pZ:PV:=.ref [Ap 0]
abbrev spC(u v w:Int):List PV:=[.bool (decide (u<0)),.str (vk u.natAbs),.bool (decide (v<0)),.str (vk v.natAbs),.bool (decide (w<0)),.str (vk w.natAbs)]
def eSp(u v w:Int):PV:=.agg (spC u v w)
theorem JD(z:Int):z.sign=nG z:=by grind[nG]
structure Sp (u v w:Int):Prop where
 bu:Lt2 20000 u
 bv:Lt2 20000 v
 bw:Lt2 20000 w
 pos:0<w
theorem Sp.off{u v w:Int}(h:Sp u v w){c:Int}(b:Lt2 25 c):okW (c*w)/\Lt2 20026 (u-c*w)/\Lt2 20026 (v-c*w):=by have a:Lt2 20025 (c*w):=(b.mul h.bw).mono (by omega);exact⟨a.okW (by omega),((h.bu.mono (by omega)).sub a).mono (by omega),((h.bv.mono (by omega)).sub a).mono (by omega)⟩
section
variable (X:Ext) (hX:Mine X) (hB:Bits X)
include hX
theorem c78(z:Int):run tab X 78 [.p pZ,.p (eW z),Ab 0] []=some ([.p (eW z)],[]):=aY (hX _ rfl) (by rw[eW,e78];rfl)
include hB
theorem c77(a b:Int)(e:okW a)(d:okW b)(h:okW (a*b)):run tab X 77 [.p pZ,.p (eW a),.p (eW b)] []=some ([.p (eW (a*b))],[]):=
 aY (hX _ rfl) (by have c:=c138 X hX hB a b e d;rw[JE,if_pos h,eW,eW]at c;rw[eW,eW,e77,c,qOb];simp only[qLh,List.tail_cons,bV,toInt_int,mX];rw[c78 X hX,qOb];rfl)
theorem ano(a b:Int)(e:okW a)(d:okW b)(h:okW (a-b)):run tab X 123 [.p pZ,.p (eW a),.p (eW b)] []=some ([.p (eW (a-b))],[]):=
 aY (hX _ rfl) (by have c:=c159 X hX hB a b e d;rw[JE,if_pos h,eW,eW]at c;rw[eW,eW,atV,c,qOb];simp only[qLh,List.tail_cons,bV,toInt_int,mX];rw[c78 X hX,qOb];rfl)
theorem c63(a b c d:Int)(j:okW a)(h:okW b)(i:okW c)(hd:okW d)(o:okW (a*d))(n:okW (c*b))(l:okW (b*d)):run tab X 63 [.p pZ,.p (eR a b),.p (eR c d)] []=some ([.p (eSp (a*d) (c*b) (b*d))],[]):=
 aY (hX _ rfl) (by have g:=c77 X hX hB a d j hd o;have f:=c77 X hX hB c b i h n;have e:=c77 X hX hB b d h hd l;rw[eW]at g f e;rw[eW]at g f e;rw[eR,eR,e63,g,qOb,f,qOb,e,qOb];rfl)
theorem apz(a:V3)(i:vN a)(u v w:Int)(h:Sp u v w):run tab X 122 [.p (cO a),.p (.ref [pZ]),.p (.ref (spC u v w))] []=some ([.p (eW (u-a.x*w)),.p (eW (v-a.y*w))],[]):=
 aY (hX _ rfl) (by obtain⟨f,e⟩:=Gx i;obtain⟨b,j,_⟩:=h.off f;obtain⟨y1,_,y2⟩:=h.off e;obtain⟨b1,q,_⟩:=i;have g:=h.bw.okW (by omega);have d:=c77 X hX hB a.x w (f.okW (by omega)) g b;have n:=c77 X hX hB a.y w (e.okW (by omega)) g y1;have c:=ano X hX hB u (a.x*w) (h.bu.okW (by omega)) b (j.okW (by omega));have l:=ano X hX hB v (a.y*w) (h.bv.okW (by omega)) y1 (y2.okW (by omega));rw[eW,eW]at c l;have o:∀ z:Int,eW z=PV.agg [.bool (decide (z<0)),.str (vk z.natAbs)]:=λ_=>rfl;rw[o w]at d n;rw[cO,atU,c61 X hX hB a.x (by omega) (by omega),qOb];simp only[qLh,bV,mX];rw[d,qOb];simp only[qLh,bV];rw[show(PV.agg [.bool (((eW (a.x*w)).cell 0).toBool),.str (((eW (a.x*w)).cell 1).toStr)])=PV.agg [.bool (decide (a.x*w<0)),.str (vk (a.x*w).natAbs)] from rfl,c,qOb];rw[c61 X hX hB a.y (by omega) (by omega),qOb];simp_all)
abbrev aiU(u v w:Int):PV:=.fn 122 [.ref [pZ],.ref (spC u v w)]
theorem c124(a b:V3)(e:vN a)(i:vN b)(u v w:Int)(h:Sp u v w):run tab X 124 [.p (cO a),.p (cO b),.p (.ref [aiU u v w]),.p (.ref [pZ])] []=some ([Ab (nG (Tq a b u v w))],[]):=
 aY (hX _ rfl) (by obtain⟨s,r⟩:=Gx e;obtain⟨_,f,_⟩:=h.off s;obtain⟨_,_,y2⟩:=h.off r;obtain⟨l,j⟩:=abM e i;have g:=apz X hX hB a e u v w h;obtain⟨B,A,_⟩:=e;obtain⟨b1,t,_⟩:=i;have d:Lt2 20052 ((b.x-a.x)*(v-a.y*w)):=(l.mul y2).mono (by omega);have c:Lt2 20052 ((b.y-a.y)*(u-a.x*w)):=(j.mul f).mono (by omega);have q:=c77 X hX hB (b.x-a.x) (v-a.y*w) (l.okW (by omega)) (y2.okW (by omega)) (d.okW (by omega));have o:=c77 X hX hB (b.y-a.y) (u-a.x*w) (j.okW (by omega)) (f.okW (by omega)) (c.okW (by omega));have n:=ano X hX hB _ _ (d.okW (by omega)) (c.okW (by omega)) ((d.sub c).okW (by omega));rw[cO]at g;rw[cO,cO,atW,g,qOb,wrap_eq (x:=b.x-a.x) (by omega) (by omega),wrap_eq (x:=b.y-a.y) (by omega) (by omega),c61 X hX hB _ (by omega) (by omega),qOb];simp only[qLh,List.tail_cons,bV,mX];rw[q,qOb,c61 X hX hB _ (by omega) (by omega),qOb];simp only[qLh,List.tail_cons,bV,mX];rw[o,qOb];simp only[qLh,List.tail_cons,bV,mX];rw[n,qOb];simp only[qLh,List.tail_cons,bV,mX];rw[c109 X hX _ ((d.sub c).okW (by omega)),JD];rfl)
theorem afE(x y:Int):IntKind.i64.wrap (0-(x-y).sign)=nG (y-x):=by have _:=hX;have _:=hB;rw[JD];have d:=zN (n:=x-y);have c:=O5 (n:=x-y);have b:=zN (n:=y-x);have h4:=O5 (n:=y-x);rcases DY (x-y)with e | e | e<;>rcases DY (y-x)with a | a | a<;>rw[e,a]<;>rw[e]at d c<;>rw[a]at b h4<;>first | rfl | omega
theorem apA(a:V3)(c:vN a)(u v w:Int)(h:Sp u v w):run tab X 125 [.p (cO a),Ab 0,.p (.ref [aiU u v w])] []=some ([Ab (nG (a.x*w-u))],[])/\run tab X 125 [.p (cO a),Ab 1,.p (.ref [aiU u v w])] []=some ([Ab (nG (a.y*w-v))],[]):=by
 obtain⟨f,e⟩:=Gx c;obtain⟨_,d,_⟩:=h.off f;obtain⟨_,_,y2⟩:=h.off e;have b:=apz X hX hB a c u v w h;rw[cO]at b;constructor
 . refine aY (hX _ rfl) ?_;rw[cO,e125,b,qOb,show((0:Int)==0)=true from rfl,qCt];simp only[qLh,bV,mX];rw[c109 X hX _ (d.okW (by omega)),qOb];simp only[qLh,bV,toInt_int];rw[afE X hX hB]
 . refine aY (hX _ rfl) ?_;rw[cO,e125,b,qOb,show((1:Int)==0)=false from rfl,qCf];simp only[qLh,List.tail_cons,bV,mX];rw[c109 X hX _ (y2.okW (by omega)),qOb];simp only[qLh,bV,toInt_int];rw[afE X hX hB]
end
end
section
abbrev SW(l:List PV)(u v w b6 wd:Int):St:=dh l 0 (decide (u<0)) (vk u.natAbs) (decide (v<0)) (vk v.natAbs) (decide (w<0)) (vk w.natAbs) 0 0 (decide (u<0)) (vk u.natAbs) (decide (v<0)) (vk v.natAbs) (decide (w<0)) (vk w.natAbs) b6 wd
abbrev rgW(ys:List PV):List Wy:=[.rg [1,1,0,1,0] [(true,aU),(true,aU)] ys]
section
variable (X:Ext) (hX:Mine X) (hB:Bits X)
include hX hB
theorem apB(l:List PV)(u v w:Int)(hp:Sp u v w)(f:Int):∀(c:List pG) (a:Int),(∀ e∈c,vN e.1/\vN e.2)→-(1000000-(c.length:Int))<=a/\a<=1000000-(c.length:Int) ->
    L tab (run tab X) 101 [] (rgW (c.map eY)) (SW l u v w f a)=some ([Ab (Vp u v w a c)],[]):=by
  intro c;induction c with
  | nil =>intro a _ _;rw[List.map_nil,TT];unfold Vp TU;grind
  | cons e r p =>
   intro a d s;simp only[qLl]at s;obtain⟨o,n⟩:=d e (by simp);have m:=c124 X hX hB e.1 e.2 o n u v w hp;have h:=apA X hX hB e.1 o u v w hp;have g:=apA X hX hB e.2 n u v w hp;simp only[cO]at m h g;have A:=Yu u v w e;have B:=λb q=>p b (λt j=>d t (by simp[j])) q;rw[List.map_cons,Yv];show L tab (run tab X) 101 [] (rgW (.agg [.agg [Ap e.1.x,Ap e.1.y,Ap e.1.z],.agg [Ap e.2.x,Ap e.2.y,Ap e.2.z]]::r.map eY)) (SW l u v w f a)=_;rw[QH,m,qOb,h.1,qOb,h.2,qOb,g.1,qOb,g.2,qOb];simp only[qLh,bV,toInt_int];have i:=abL u v w e a (some ([Ab 0],([]:List bZ))) (λb=>L tab (run tab X) 101 [] (rgW (r.map eY)) (SW l u v w f b));have k:(if onQ u v w e then some ([Ab 0],([]:List bZ))else L tab (run tab X) 101 [] (rgW (r.map eY)) (SW l u v w f (a+crQ u v w e)))=some ([Ab (if onQ u v w e then 0 else Vp u v w (a+crQ u v w e) r)],[]):=by grind
   rw[<- k,<- i,Lh,Lh,wrap_eq (x:=a+1) (by omega) (by omega),wrap_eq (x:=a-1) (by omega) (by omega)];rw[abK _ _ _ _ _ _ _ _ _ _ _ _ _ _ _ _ _ rfl rfl rfl rfl rfl rfl rfl rfl rfl];grind
theorem c66(l:List V3)(a:Rd l)(u v w:Int)(hp:Sp u v w):run tab X 66 [.p pZ,.p (.list true aU (bT l)),.p (eSp u v w)] []=some ([Ab (Ez l u v w)],[]):=
 aY (hX _ rfl) (by have c:run tab X 101 [.p (.list true aU (bT l)),.p (.fn 124 [.ref [aiU u v w],.ref [pZ]]),.p (.fn 125 [.ref [aiU u v w]])] []=some ([Ab (Ez l u v w)],[]):=aY (hX _ rfl) (by rw[aoX,c51 X hX l,qOb];show(run tab X 100 [.yL,.p (.ref [.list true aU (bT l)])] [.log true []]).bind _=_;have:=a.len;rw[ag0 X hX l (by omega),qOb];have b:=apB X hX hB (bT l) u v w hp 0 (fH l) 0 (zk a) (by rw[qA];omega);rw[Yw,ad1 hp.pos]at b;exact b);rw[eSp,e66,c];rfl)
theorem c65(l:List V3)(b:Rd l)(u v w:Int)(hp:Sp u v w):run tab X 65 [.p (.list true aU (bT l)),.p pZ,.p (.ref (spC u v w))] []=some ([Ab (Ez l u v w)],[]):=
 aY (hX _ rfl) (by have a:=c66 X hX hB l b u v w hp;rw[eSp]at a;rw[e65,a];rfl)
theorem apC(l:List V3)(a:Rd l)(u v w:Int)(hp:Sp u v w):run tab X 121 [.p (.list true aU (bT l)),.p (.ref [.fn 65 [pZ,.ref (spC u v w)]])] []=some ([Ac (decide (0<Ez l u v w))],[]):=
 aY (hX _ rfl) (by rw[aoR,c65 X hX hB l a u v w hp];rfl)
theorem l158a(a:List (List V3))(j:∀ h∈a,Rd h)(d:a.length<=1000000)(u v w:Int)(hp:Sp u v w):∀(r:List (List V3)) (i:Nat),a.drop i=r->i<=a.length ->
    L tab (run tab X) 158 [] [.lp [1,0,1,0]] (H9 (dG a) 0 (decide (u<0)) (vk u.natAbs) (decide (v<0)) (vk v.natAbs) (decide (w<0)) (vk w.natAbs) ((a.length:Nat):Int) (i:Int))=some ([Ab (Bz (λh=>decide (0<Ez h u v w)) r i)],[]):=by
  intro r;induction r with
  | nil =>
   intro i c g;have b:i=a.length:=by have:=congrArg List.length c;grind
   refine dU ?_;rw[Vb,O3 (by omega),qCf];rfl
  | cons h r k =>
   intro i c g;have b:i<a.length:=by grind
   have e:gh a i=h:=by grind[qLb,List.head?_drop]
   have f:h∈a:=by grind
   refine dU ?_;rw[Vb,F6 b,qCt];simp only[dL,le0,F6 b,Bool.and_true,qCt,qIt,kX a b,e,kG (show i<=9000000000000000000 by omega)];show(run tab X 121 [.p (.list true aU (bT h)),.p (.ref [.fn 65 [pZ,.ref (spC u v w)]])] []).bind _=_;rw[apC X hX hB h (j h f) u v w hp,qOb];simp only[qLh,bV,bf];rw[Bz];cases decide (0<Ez h u v w)with
   | true=>rfl
   | false =>rw[qCf,if_neg (by decide)];grind[List.tail_drop]
theorem auQ(f:Fen)(a:RdF f)(u v w:Int)(hp:Sp u v w):run tab X 64 [.p (kZ f),.p (.fn 65 [pZ,.ref (spC u v w)])] []=some ([Ac (XT f u v w)],[]):=
 aY (hX _ rfl) (by
  have b:run tab X 120 [.p (.list false [.slice true aU] (dG f.holes)),.p (.fn 121 [.ref [.fn 65 [pZ,.ref (spC u v w)]]])] []=some ([Ac (f.holes.any λh=>decide (0<Ez h u v w))],[]):=aY (hX _ rfl) (by have c:run tab X 158 [.p (.list false [.slice true aU] (dG f.holes)),.p (.fn 121 [.ref [.fn 65 [pZ,.ref (spC u v w)]]])] []=some ([Ab (Bz (λh=>decide (0<Ez h u v w)) f.holes 0)],[]):=aY (hX _ rfl) (by rw[aoU,dL];exact l158a X hX hB f.holes a.holes a.len u v w hp f.holes 0 rfl (by omega));grind[aoO,qOb,qLh,bV,toInt_int,Ie]);rw[kZ,atL,c65 X hX hB f.outer a.outer u v w hp,qOb];simp only[qLh,bV,toInt_int];unfold XT;show(bif decide (0<=Ez f.outer u v w)then _ else _)=_;cases decide (0<=Ez f.outer u v w)with
  | false=>rfl
  | true=>rw[qCt,b];rfl)
theorem c82(l:List V3)(b:Rd l)(u v w:Int)(hp:Sp u v w):run tab X 82 [.p (.list true aU (bT l)),.p pZ,.p (.ref (spC u v w))] []=some ([Ab (Ez l u v w)],[]):=
 aY (hX _ rfl) (by have a:=c66 X hX hB l b u v w hp;rw[eSp]at a;rw[e82,a];rfl)
theorem apD(l:List V3)(a:Rd l)(u v w:Int)(hp:Sp u v w):run tab X 121 [.p (.list true aU (bT l)),.p (.ref [.fn 82 [pZ,.ref (spC u v w)]])] []=some ([Ac (decide (0<Ez l u v w))],[]):=
 aY (hX _ rfl) (by rw[aoS,c82 X hX hB l a u v w hp];rfl)
theorem apE(a:List (List V3))(j:∀ h∈a,Rd h)(d:a.length<=1000000)(u v w:Int)(hp:Sp u v w):∀(r:List (List V3)) (i:Nat),a.drop i=r->i<=a.length ->
    L tab (run tab X) 158 [] [.lp [1,0,1,0]] (Ia (dG a) 0 (decide (u<0)) (vk u.natAbs) (decide (v<0)) (vk v.natAbs) (decide (w<0)) (vk w.natAbs) ((a.length:Nat):Int) (i:Int))=some ([Ab (Bz (λh=>decide (0<Ez h u v w)) r i)],[]):=by
  intro r;induction r with
  | nil =>
   intro i c g;have b:i=a.length:=by have:=congrArg List.length c;grind
   refine dU ?_;rw[Vd,O3 (by omega),qCf];rfl
  | cons h r k =>
   intro i c g;have b:i<a.length:=by grind
   have e:gh a i=h:=by grind[qLb,List.head?_drop]
   have f:h∈a:=by grind
   refine dU ?_;rw[Vd,F6 b,qCt];simp only[dL,le0,F6 b,Bool.and_true,qCt,qIt,kX a b,e,kG (show i<=9000000000000000000 by omega)];show(run tab X 121 [.p (.list true aU (bT h)),.p (.ref [.fn 82 [pZ,.ref (spC u v w)]])] []).bind _=_;rw[apD X hX hB h (j h f) u v w hp,qOb];simp only[qLh,bV,bf];rw[Bz];cases decide (0<Ez h u v w)with
   | true=>rfl
   | false =>rw[qCf,if_neg (by decide)];grind[List.tail_drop]
theorem auR(f:Fen)(a:RdF f)(u v w:Int)(hp:Sp u v w):run tab X 64 [.p (kZ f),.p (.fn 82 [pZ,.ref (spC u v w)])] []=some ([Ac (XT f u v w)],[]):=
 aY (hX _ rfl) (by
  have b:run tab X 120 [.p (.list false [.slice true aU] (dG f.holes)),.p (.fn 121 [.ref [.fn 82 [pZ,.ref (spC u v w)]]])] []=some ([Ac (f.holes.any λh=>decide (0<Ez h u v w))],[]):=aY (hX _ rfl) (by have c:run tab X 158 [.p (.list false [.slice true aU] (dG f.holes)),.p (.fn 121 [.ref [.fn 82 [pZ,.ref (spC u v w)]]])] []=some ([Ab (Bz (λh=>decide (0<Ez h u v w)) f.holes 0)],[]):=aY (hX _ rfl) (by rw[aoV,dL];exact apE X hX hB f.holes a.holes a.len u v w hp f.holes 0 rfl (by omega));grind[aoP,qOb,qLh,bV,toInt_int,Ie]);rw[kZ,atM,c82 X hX hB f.outer a.outer u v w hp,qOb];simp only[qLh,bV,toInt_int];unfold XT;show(bif decide (0<=Ez f.outer u v w)then _ else _)=_;cases decide (0<=Ez f.outer u v w)with
  | false=>rfl
  | true=>rw[qCt,b];rfl)
end
end
end Go.Skm.Fen
