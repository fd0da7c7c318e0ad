import Derived.Test.YtoheflpoanjihaaGreatG10
import Derived.Test.YtoheflpoanjihaaGreatEqv2
import Derived.Test.YtoheflpoanjihaaGreatR4
namespace Go.Skm.Fen
open Go Go.Skm
theorem aho (a b p:V3):Tq a b p.x p.y 1=area a b p:=by unfold Tq area;simp only[Int.mul_one]
theorem TT (u v w:Int) (e:AX):Xq u v w e=1∨Xq u v w e=-1∨Xq u v w e=0:=by
 unfold Xq;split
 · exact .inl rfl
 · split
   · exact .inr (.inl rfl)
   · exact .inr (.inr rfl)
def afD {α:Type} (s ax ay bx Ea w:Int) (z:α) (k:Int→α):α :=
 if s=0∧ax*bx≤0∧ay*Ea≤0 then z else k (w+(if ay≤0∧0<Ea∧0<s then 1 else if Ea≤0∧0<ay∧s<0 then -1 else 0))
theorem HY (a b:Int):IntKind.i64.wrap (lS a*lS b)=lS a*lS b:=by rcases Dz a with h | h | h<;>rcases Dz b with h2 | h2 | h2<;>rw[h,h2]<;>rfl
theorem Xr {α : Type} (s ax ay bx Ea w : Int) (z : α) (K : Int → α) (c1 c2 c3 c4 c5 c6 c7 c8 c9 : Bool) (h1 : c1 = decide (s = 0)) (h2 : c2 = decide (ax * bx ≤ 0)) (h3 : c3 = decide (ay * Ea ≤ 0)) (h4 : c4 = decide (ay ≤ 0)) (h5 : c5 = decide (0 < Ea)) (h6 : c6 = decide (0 < s)) (h7 : c7 = decide (0 < ay)) (h8 : c8 = decide (Ea ≤ 0)) (h9 : c9 = decide (s < 0)) :
    afD s ax ay bx Ea w z K=bif c1&&(c2&&c3) then z else bif c4&&(c5&&c6) then K (w+1) else bif c7&&(c8&&c9) then K (w-1) else K w:=by
  unfold afD;by_cases a1:s=0∧ax*bx≤0∧ay*Ea≤0
  · rw[if_pos a1,h1,h2,h3,decide_eq_true a1.1,decide_eq_true a1.2.1,decide_eq_true a1.2.2];rfl
  · rw[if_neg a1];have e:(c1&&(c2&&c3))=false:=by rw[h1,h2,h3,← Bool.decide_and,← Bool.decide_and];exact decide_eq_false a1
    rw[e,cond_false];by_cases a2:ay≤0∧0<Ea∧0<s
    · rw[if_pos a2,h4,h5,h6,decide_eq_true a2.1,decide_eq_true a2.2.1,decide_eq_true a2.2.2];rfl
    · rw[if_neg a2];have e:(c4&&(c5&&c6))=false:=by rw[h4,h5,h6,← Bool.decide_and,← Bool.decide_and];exact decide_eq_false a2
      rw[e,cond_false];by_cases a3:Ea≤0∧0<ay∧s<0
      · rw[if_pos a3,h7,h8,h9,decide_eq_true a3.1,decide_eq_true a3.2.1,decide_eq_true a3.2.2];rfl
      · rw[if_neg a3];have e:(c7&&(c8&&c9))=false:=by rw[h7,h8,h9,← Bool.decide_and,← Bool.decide_and];exact decide_eq_false fun h=>a3 ⟨h.2.1,h.1,h.2.2⟩
        rw[e,cond_false,Int.add_zero]
theorem Xt {α : Type} (u v w : Int) (e : AX) (wd : Int) (z : α) (K : Int → α) :
    afD (lS (Tq e.1 e.2 u v w)) (lS (e.1.x*w-u)) (lS (e.1.y*w-v)) (lS (e.2.x*w-u)) (lS (e.2.y*w-v)) wd z K=if Zh u v w e then z else K (wd+Xq u v w e):=by
  unfold afD Zh Xq;have e1:(lS (Tq e.1 e.2 u v w)=0∧lS (e.1.x*w-u)*lS (e.2.x*w-u)≤0∧lS (e.1.y*w-v)*lS (e.2.y*w-v)≤0)↔((lS (Tq e.1 e.2 u v w)==0)&&(decide (lS (e.1.x*w-u)*lS (e.2.x*w-u)≤0)&&decide (lS (e.1.y*w-v)*lS (e.2.y*w-v)≤0)))=true:=by simp only[qBa,beq_iff_eq,qDa]
  by_cases h:lS (Tq e.1 e.2 u v w)=0∧lS (e.1.x*w-u)*lS (e.2.x*w-u)≤0∧lS (e.1.y*w-v)*lS (e.2.y*w-v)≤0
  · rw[if_pos h,if_pos (e1.1 h)]
  · rw[if_neg h,if_neg fun h'=>h (e1.2 h')]
def P8 (u v w wd:Int) (es:List AX):Int:=if es.any (Zh u v w) then 0 else if wd+OB u v w es≠0 then 1 else -1
theorem TU (u v w wd:Int) (e:AX) (es:List AX):P8 u v w wd (e::es)=if Zh u v w e then 0 else P8 u v w (wd+Xq u v w e) es:=by
 unfold P8;rw[List.any_cons,OB];cases Zh u v w e with
 | true=>rfl
 | false=>rw[Bool.false_or,Int.add_assoc];simp
theorem TV (u v w:Int) (es:List AX):P8 u v w 0 es=whE u v w es:=by unfold P8 whE;rw[Int.zero_add]
section
variable (X:Ext) (hX:Mine X)
include hX
theorem ano (a b p:V3) (ha:x9 a) (hb:x9 b) (hp:x9 p):run tab X 102 [.p (dn a),.p (dn b),.p (.ref [.int .i64 p.x,.int .i64 p.y,.int .i64 p.z])] []=some ([.p (.int .i64 (lS (Tq a b p.x p.y 1)))],[]) :=
 bF (hX _ rfl) (by have h1:=c96 X hX a b p ha hb hp;simp only[dn]at h1;rw[dn,dn,amS,h1,aho];rfl)
theorem aje (c p:V3) (hc:x9 c) (hp:x9 p):(run tab X 103 [.p (dn c),.p (.int .i64 0),.p (.ref [.int .i64 p.x,.int .i64 p.y,.int .i64 p.z])] []=some ([.p (.int .i64 (lS (c.x*1-p.x)))],[]))∧(run tab X 103 [.p (dn c),.p (.int .i64 1),.p (.ref [.int .i64 p.x,.int .i64 p.y,.int .i64 p.z])] []=some ([.p (.int .i64 (lS (c.y*1-p.y)))],[])):=by
 obtain⟨a1,a2,_⟩:=hc;obtain⟨b1,b2,_⟩:=hp;constructor
 · refine bF (hX _ rfl) ?_;rw[dn,aiF,show ((0:Int)==0)=true from rfl,cond_true,wrap_eq (by omega) (by omega),c48 X hX,Int.mul_one];rfl
 · refine bF (hX _ rfl) ?_;rw[dn,aiF,show ((1:Int)==0)=false from rfl,cond_false,wrap_eq (by omega) (by omega),c48 X hX,Int.mul_one];rfl
theorem l101a (l : List PV) (p : V3) (hp : x9 p) (b6 : Int) : ∀ (es : List AX) (wd : Int),(∀ e ∈ es,x9 e.1 ∧ x9 e.2) → -(1000000 - (es.length : Int)) ≤ wd ∧ wd ≤ 1000000 - (es.length : Int) →
    L tab (run tab X) 101 [] [.rg [1,1,0,1,0] [(true,aW),(true,aW)] (es.map eY)] (bT l p.x p.y p.z p.x p.y p.z b6 wd)=some ([.p (.int .i64 (P8 p.x p.y 1 wd es))],[]):=by
  intro es;induction es with
  | nil =>
   intro wd _ _;rw[List.map_nil,Oy];unfold P8 OB;rw[Int.add_zero];by_cases h:wd=0
   · subst h;rfl
   · rw[show (wd != 0)=true from bne_iff_ne.2 h,cond_true,if_neg (by simp),if_pos h]
  | cons e r ih =>
   intro wd hok hs;simp only[List.length_cons]at hs;obtain⟨ha,hb⟩:=hok e (by simp);have q1:=ano X hX e.1 e.2 p ha hb hp;have q2:=aje X hX e.1 p ha hp;have q3:=aje X hX e.2 p hb hp;simp only[dn]at q1 q2 q3;have hc:=TT p.x p.y 1 e;have h1:=fun wd' hw=>ih wd' (fun e' he'=>hok e' (by simp[he'])) hw;rw[List.map_cons,TU];show L tab (run tab X) 101 [] [.rg [1,1,0,1,0] [(true,aW),(true,aW)] (.agg [.agg [.int .i64 e.1.x,.int .i64 e.1.y,.int .i64 e.1.z],.agg [.int .i64 e.2.x,.int .i64 e.2.y,.int .i64 e.2.z]]::r.map eY)] (bT l p.x p.y p.z p.x p.y p.z b6 wd)=_;rw[LZ,q1,Option.bind_some,q2.1,Option.bind_some,q2.2,Option.bind_some,q3.1,Option.bind_some,q3.2,Option.bind_some];simp only[List.headD_cons,dA,toInt_int];have key:=Xt p.x p.y 1 e wd (some ([AV.p (.int .i64 0)],([]:List cu))) (fun wd'=>L tab (run tab X) 101 [] [.rg [1,1,0,1,0] [(true,aW),(true,aW)] (r.map eY)] (bT l p.x p.y p.z p.x p.y p.z b6 wd'));have fin:(if Zh p.x p.y 1 e then some ([AV.p (.int .i64 0)],([]:List cu)) else L tab (run tab X) 101 [] [.rg [1,1,0,1,0] [(true,aW),(true,aW)] (r.map eY)] (bT l p.x p.y p.z p.x p.y p.z b6 (wd+Xq p.x p.y 1 e)))=some ([.p (.int .i64 (if Zh p.x p.y 1 e then 0 else P8 p.x p.y 1 (wd+Xq p.x p.y 1 e) r))],[]):=by
    cases Zh p.x p.y 1 e with
    | true=>rfl
    | false =>have:=h1 (wd+Xq p.x p.y 1 e) (by omega);simpa using this
   rw[← fin,← key,HY,HY,wrap_eq (x:=wd+1) (by omega) (by omega),wrap_eq (x:=wd-1) (by omega) (by omega)];rw[Xr _ _ _ _ _ _ _ _ _ _ _ _ _ _ _ _ _ rfl rfl rfl rfl rfl rfl rfl rfl rfl];have g0:(lS (Tq e.1 e.2 p.x p.y 1)==0)=decide (lS (Tq e.1 e.2 p.x p.y 1)=0):=rfl;have g1:∀ x y:Int,leI x y=decide (x≤y):=fun _ _=>rfl;have g2:∀ x y:Int,kX x y=decide (y<x):=fun _ _=>rfl;have g3:∀ x y:Int,dG x y=decide (x<y):=fun _ _=>rfl;rw[g0];simp only[g1,g2,g3];generalize decide (lS (Tq e.1 e.2 p.x p.y 1)=0)=c1;generalize decide (lS (e.1.x*1-p.x)*lS (e.2.x*1-p.x)≤0)=c2;generalize decide (lS (e.1.y*1-p.y)*lS (e.2.y*1-p.y)≤0)=c3;generalize decide (lS (e.1.y*1-p.y)≤0)=c4;generalize decide (0<lS (e.2.y*1-p.y))=c5;generalize decide (0<lS (Tq e.1 e.2 p.x p.y 1))=c6;generalize decide (0<lS (e.1.y*1-p.y))=c7;generalize decide (lS (e.2.y*1-p.y)≤0)=c8;generalize decide (lS (Tq e.1 e.2 p.x p.y 1)<0)=c9;generalize L tab (run tab X) 101 [] [.rg [1,1,0,1,0] [(true,aW),(true,aW)] (r.map eY)] (bT l p.x p.y p.z p.x p.y p.z b6 (wd+1))=k1;generalize L tab (run tab X) 101 [] [.rg [1,1,0,1,0] [(true,aW),(true,aW)] (r.map eY)] (bT l p.x p.y p.z p.x p.y p.z b6 (wd-1))=k2;generalize L tab (run tab X) 101 [] [.rg [1,1,0,1,0] [(true,aW),(true,aW)] (r.map eY)] (bT l p.x p.y p.z p.x p.y p.z b6 wd)=k3;clear fin key h1 hc q1 q2 q3 ih;cases c1<;>cases c2<;>cases c3<;>cases c4<;>cases c5<;>cases c6<;>cases c7<;>cases c8<;>cases c9<;>rfl
end
end Go.Skm.Fen
namespace Go.Skm.Fen
open Go Go.Skm
structure Fen where
 outer:List V3
 holes:List (List V3)
 low:Int
 high:Int
 deriving Inhabited
def fB (hs:List (List V3)):List PV:=hs.map fun h=>.list true aW (dh h)
def mF (f:Fen):PV:=.agg [.list true aW (dh f.outer),.list false [.slice true aW] (fB f.holes),.int .i64 f.low,.int .i64 f.high]
theorem fZ (hs:List (List V3)):(fB hs).length=hs.length:=by simp[fB]
abbrev gh (hs:List (List V3)) (i:Nat):List V3:=hs.getD i []
theorem qZ (hs:List (List V3)) {i:Nat} (h:i<hs.length):(fB hs).getD i .nil=.list true aW (dh (gh hs i)):=by rw[fB,qLb,List.getElem?_map,qLd h];simp[gh,qLb,qLd h]
structure Rd (l:List V3):Prop where
 len:l.length≤1000
 ok:∀ i,x9 (gt l i)
theorem H6 {l:List V3} (h:Rd l):∀ e∈nC l,x9 e.1∧x9 e.2:=by intro e he;simp only[nC,DC,List.mem_map]at he;obtain⟨i,_,rfl⟩:=he;exact⟨Vo (h.ok _),Vo (h.ok _)⟩
def TW (l:List V3) (p:V3):Int:=OT l p.x p.y 1
def inQ (f:Fen) (u v w:Int):Bool:=decide (0≤OT f.outer u v w)&&!(f.holes.any fun h=>decide (0<OT h u v w))
def Ew (f:Fen) (p:V3):Bool:=(decide (f.low≤p.z)&&decide (p.z≤f.high))&&inQ f p.x p.y 1
structure RdF (f:Fen):Prop where
 outer:Rd f.outer
 holes:∀ h∈f.holes,Rd h
 len:f.holes.length≤1000000
def yL (P:List V3→Bool):List (List V3)→Nat→Int
 | [],_=>-1
 | h::r,i=>if P h then i else yL P r (i+1)
theorem Ey (P:List V3→Bool):∀ (hs:List (List V3)) (i:Nat),yH (yL P hs i) 0=hs.any P
 | [],_=>rfl
 | h::r,i=>by
  rw[yL,List.any_cons];cases P h with
  | true=>exact decide_eq_true (show (0:Int)≤(i:Int) by omega)
  | false=>rw[Bool.false_or];exact Ey P r (i+1)
section
variable (X:Ext) (hX:Mine X)
include hX
theorem ajf (l:List V3) (hl:Rd l) (p:V3) (hp:x9 p):run tab X 101 [.p (.list true aW (dh l)),.p (.fn 102 [.ref [.int .i64 p.x,.int .i64 p.y,.int .i64 p.z]]),.p (.fn 103 [.ref [.int .i64 p.x,.int .i64 p.y,.int .i64 p.z]])] []=some ([.p (.int .i64 (TW l p))],[]) :=
 bF (hX _ rfl) (by rw[aiP,c51 X hX l,Option.bind_some];show (run tab X 100 [.vN,.p (.ref [.list true aW (dh l)])] [.log true []]).bind _=_;have:=hl.len;rw[ab7 X hX l (by omega),Option.bind_some];have h1:=l101a X hX (dh l) p hp 0 (nC l) 0 (H6 hl) (by rw[uJ];omega);rw[TV,adR (by decide)]at h1;exact h1)
theorem c52 (l:List V3) (hl:Rd l) (p:V3) (hp:x9 p):run tab X 52 [.p (.list true aW (dh l)),.p (dn p)] []=some ([.p (.int .i64 (TW l p))],[]) :=
 bF (hX _ rfl) (by rw[dn,e52,ajf X hX l hl p hp];rfl)
theorem ajg (l:List V3) (hl:Rd l) (p:V3) (hp:x9 p):run tab X 106 [.p (.list true aW (dh l)),.p (.ref [.int .i64 p.x,.int .i64 p.y,.int .i64 p.z])] []=some ([.p (.int .i64 (TW l p))],[]) :=
 bF (hX _ rfl) (by have h1:=c52 X hX l hl p hp;rw[dn]at h1;rw[amT,h1];rfl)
theorem ajh (l:List V3) (hl:Rd l) (p:V3) (hp:x9 p):run tab X 121 [.p (.list true aW (dh l)),.p (.ref [.fn 106 [.ref [.int .i64 p.x,.int .i64 p.y,.int .i64 p.z]]])] []=some ([.p (.bool (decide (0<TW l p)))],[]) :=
 bF (hX _ rfl) (by rw[aiJ,ajg X hX l hl p hp];rfl)
theorem aji (hs : List (List V3)) (hh : ∀ h ∈ hs,Rd h) (hlen : hs.length ≤ 1000000) (p : V3) (hp : x9 p) : ∀ (r : List (List V3)) (i : Nat),hs.drop i = r → i ≤ hs.length →
    L tab (run tab X) 158 [] [.lp [1,0,1,0]] (Ep (fB hs) p.x p.y p.z ((hs.length:Nat):Int) (i:Int))=some ([.p (.int .i64 (yL (fun h=>decide (0<TW h p)) r i))],[]):=by
  intro r;induction r with
  | nil =>
   intro i hr hi;have hil:i=hs.length:=by have:=congrArg List.length hr;simp at this;omega
   refine dW ?_;rw[PN,SQ (by omega),cond_false];rfl
  | cons h r ih =>
   intro i hr hi;have hil:i<hs.length:=by have:=congrArg List.length hr;simp at this;omega
   have hv:gh hs i=h:=by show hs.getD i []=h;rw[qLb,← List.head?_drop,hr];rfl
   have hm:h∈hs:=by rw[← hv];show hs.getD i []∈hs;rw[qLb,qLd hil];exact List.getElem_mem hil
   refine dW ?_;rw[PN,Hw hil,cond_true];simp only[fZ,le0,Hw hil,Bool.and_true,cond_true,Int.toNat_natCast,qZ hs hil,hv,lW (show i≤9000000000000000000 by omega)];show (run tab X 121 [.p (.list true aW (dh h)),.p (.ref [.fn 106 [.ref [.int .i64 p.x,.int .i64 p.y,.int .i64 p.z]]])] []).bind _=_;rw[ajh X hX h (hh h hm) p hp,Option.bind_some];simp only[List.headD_cons,dA,bD];rw[yL];cases decide (0<TW h p) with
   | true=>rfl
   | false =>rw[cond_false,if_neg (by decide)];exact ih (i+1) (by rw[← List.tail_drop,hr];rfl) (by omega)
theorem anq (f:Fen) (hf:RdF f) (p:V3) (hp:x9 p):run tab X 64 [.p (mF f),.p (.fn 106 [.ref [.int .i64 p.x,.int .i64 p.y,.int .i64 p.z]])] []=some ([.p (.bool (inQ f p.x p.y 1))],[]) :=
 bF (hX _ rfl) (by
  have h1:run tab X 120 [.p (.list false [.slice true aW] (fB f.holes)),.p (.fn 121 [.ref [.fn 106 [.ref [.int .i64 p.x,.int .i64 p.y,.int .i64 p.z]]]])] []=some ([.p (.bool (f.holes.any fun h=>decide (0<TW h p)))],[]):=bF (hX _ rfl) (by have h2:run tab X 158 [.p (.list false [.slice true aW] (fB f.holes)),.p (.fn 121 [.ref [.fn 106 [.ref [.int .i64 p.x,.int .i64 p.y,.int .i64 p.z]]]])] []=some ([.p (.int .i64 (yL (fun h=>decide (0<TW h p)) f.holes 0))],[]):=bF (hX _ rfl) (by rw[aiM,fZ];exact aji X hX f.holes hf.holes hf.len p hp f.holes 0 rfl (by omega));rw[aiG,h2,Option.bind_some];simp only[List.headD_cons,dA,toInt_int];rw[Ey]);rw[mF,amN,ajg X hX f.outer hf.outer p hp,Option.bind_some];simp only[List.headD_cons,dA,toInt_int];unfold inQ;have e:decide (0≤OT f.outer p.x p.y 1)=decide (0≤TW f.outer p):=rfl;rw[e];show (bif decide (0≤TW f.outer p) then _ else _)=_;cases decide (0≤TW f.outer p) with
  | false=>rfl
  | true=>rw[cond_true,h1];rfl)
theorem c55 (f:Fen) (hf:RdF f) (p:V3) (hp:x9 p):run tab X 55 [.p (mF f),.p (dn p)] []=some ([.p (.bool (Ew f p))],[]) :=
 bF (hX _ rfl) (by have h1:=anq X hX f hf p hp;rw[mF]at h1;rw[mF,dn,e55,h1];unfold Ew;show (bif decide (f.low≤p.z) then(bif decide (p.z≤f.high) then _ else _) else _)=_;cases decide (f.low≤p.z)<;>cases decide (p.z≤f.high)<;>rfl)
end
end Go.Skm.Fen
namespace Go.Skm.Fen
open Go Go.Skm
def edgeOk (e:AX) (o:List V3):Bool:=(nC o).all fun d=>!BA e.1 e.2 d.1 d.2
def aaP (outer:List V3) (all:List (List V3)) (h:List V3):Bool:=lG h&&(nC h).all fun e=>decide (0≤TW outer e.1)&&all.all (edgeOk e)
def FU (outer:List V3):List (List V3)→List (List V3)→Bool
 | _,[]=>true
 | all,h::r=>aaP outer all h&&FU outer (all++[h]) r
def BZ (hs:List (List V3)) (i k:Nat):Bool:=if i=k then true else !decide (0≤TW (gh hs k) (gt (gh hs i) 0))
def adU (hs:List (List V3)):Bool:=pU (fun i=>pU (BZ hs i) 0 hs.length) 0 hs.length
def aaQ (f:Fen):Bool:=lG f.outer&&decide (f.holes.length≤16∧-1048576≤f.low∧f.high≤1048576∧f.low≤f.high)
def lV (f:Fen):Bool:=aaQ f&&(FU f.outer [f.outer] f.holes&&adU f.holes)
theorem mG {l:List V3} (h:lG l=true):3≤l.length∧l.length≤64∧l.all (vO 1048576)=true:=by unfold lG P9 at h;simp only[qBa,qDa]at h;exact⟨h.1.1.1,h.1.1.2,h.1.2⟩
theorem yc {l:List V3} (h:lG l=true):Rd l:=by obtain⟨h1,h2,h3⟩:=mG h;exact⟨by omega,Vp h3⟩
theorem Md {hs:List (List V3)} {i:Nat} (h:i<hs.length):gh hs i∈hs:=by show hs.getD i []∈hs;rw[qLb,qLd h];exact List.getElem_mem h
section
variable (X:Ext) (hX:Mine X)
include hX
theorem ant (ys : List PV) (h' t47 : List PV) (t48 t49 : Int) (t57 : List PV) (t65 : Nat) (t66 t67 : Int) (t72 : List PV) (f0 f1 : List PV) (f2 f3 : Int) (b2 : Bool) (b45 : List PV) (n : Nat) (a b : V3) (ha : x9 a) (hb : x9 b) (R : Bool)
    (hnext:L tab (run tab X) 18 [] [.lp [1,1,1,0,1,0],.rg [1,1,0,0,1,1,0,1,0] [(true,aW),(true,aW)] ys,.lp [1,0,1,1,0]] (iy h' t47 t48 t49 t57 0 t65 t66 (IntKind.i64.wrap (t67+1)) f0 f1 f2 f3 b2 b45 0 n a.x a.y a.z b.x b.y b.z)=some ([.p (.bool R)],[])):∀ es:List AX,(∀ e∈es,x9 e.1∧x9 e.2) →
    L tab (run tab X) 18 [] [.lp [1,1,1,0,1,0],.rg [1,1,0,0,1,1,0,1,0] [(true,aW),(true,aW)] ys,.lp [1,0,1,1,0],.rg [1,1,0,0,1,1,0] [(true,aW),(true,aW)] (es.map eY)] (fJ h' t47 t48 t49 t57 0 t65 t66 t67 t72 f0 f1 f2 f3 b2 b45 0 n a.x a.y a.z b.x b.y b.z)=some ([.p (.bool ((es.all fun d=>!BA a b d.1 d.2)&&R))],[]):=by
  intro es;induction es with
  | nil =>intro _;rw[List.map_nil,qF];exact hnext
  | cons e r ih =>
   intro hok;have q:=c42 X hX a b e.1 e.2 ha hb (hok e (by simp)).1 (hok e (by simp)).2;simp only[dn]at q;rw[List.map_cons,List.all_cons];show L tab (run tab X) 18 [] [.lp [1,1,1,0,1,0],.rg [1,1,0,0,1,1,0,1,0] [(true,aW),(true,aW)] ys,.lp [1,0,1,1,0],.rg [1,1,0,0,1,1,0] [(true,aW),(true,aW)] (.agg [.agg [.int .i64 e.1.x,.int .i64 e.1.y,.int .i64 e.1.z],.agg [.int .i64 e.2.x,.int .i64 e.2.y,.int .i64 e.2.z]]::r.map eY)] _=_;rw[qj,q,Option.bind_some];simp only[List.headD_cons,dA,bD];cases BA a b e.1 e.2 with
   | true=>rfl
   | false =>rw[cond_false,Bool.not_false,Bool.true_and];exact ih fun e' he'=>hok e' (by simp[he'])
theorem anu (ys : List PV) (h' t47 : List PV) (t48 t49 : Int) (t57 : List PV) (f0 f1 : List PV) (f2 f3 : Int) (b2 : Bool) (all : List (List V3)) (hall : ∀ o ∈ all,Rd o) (hn : all.length ≤ 1000000) (a b : V3) (ha : x9 a) (hb : x9 b) (R : Bool)
    (hnext:L tab (run tab X) 18 [] [.lp [1,1,1,0,1,0],.rg [1,1,0,0,1,1,0,1,0] [(true,aW),(true,aW)] ys] (jf h' t47 t48 t49 t57 f0 f1 f2 f3 b2 (fB all) 0 all.length)=some ([.p (.bool R)],[])):∀ (r:List (List V3)) (i:Nat),all.drop i=r→i≤all.length →
    L tab (run tab X) 18 [] [.lp [1,1,1,0,1,0],.rg [1,1,0,0,1,1,0,1,0] [(true,aW),(true,aW)] ys,.lp [1,0,1,1,0]] (iy h' t47 t48 t49 t57 0 all.length (all.length:Int) (i:Int) f0 f1 f2 f3 b2 (fB all) 0 all.length a.x a.y a.z b.x b.y b.z)=some ([.p (.bool (r.all (edgeOk (a,b))&&R))],[]):=by
  intro r;induction r with
  | nil =>
   intro i hr hi;have hil:i=all.length:=by have:=congrArg List.length hr;simp at this;omega
   refine dW ?_;rw[qE,SQ (by omega),cond_false];exact hnext
  | cons o r ih =>
   intro i hr hi;have hil:i<all.length:=by have:=congrArg List.length hr;simp at this;omega
   have hv:gh all i=o:=by show all.getD i []=o;rw[qLb,← List.head?_drop,hr];rfl
   have hm:Rd o:=hall o (by rw[← hv];exact Md hil);have hlen:=hm.len;have w1:=lW (show i≤9000000000000000000 by omega);refine dW ?_;rw[qE,Hw hil,cond_true];simp only[le0,Bool.and_true,cond_true,Int.toNat_natCast,Nat.zero_add,qZ all hil,hv];show (run tab X 51 [.p (.list true aW (dh o))] []).bind _=_;rw[c51 X hX o,Option.bind_some];show (run tab X 100 [.vN,.p (.ref [.list true aW (dh o)])] [.log true []]).bind _=_;rw[ab7 X hX o (by omega),Option.bind_some,List.all_cons,Bool.and_assoc];have key:=ant X hX ys h' t47 t48 t49 t57 all.length (all.length:Int) (i:Int) (dh o) f0 f1 f2 f3 b2 (fB all) all.length a b ha hb (r.all (edgeOk (a,b))&&R) (by rw[w1];exact ih (i+1) (by rw[← List.tail_drop,hr];rfl) (by omega)) (nC o) (H6 hm);exact key
theorem anv (h' t47 : List PV) (t48 t49 : Int) (t57 : List PV) (outer : List V3) (ho : Rd outer) (f1 : List PV) (f2 f3 : Int) (b2 : Bool) (all : List (List V3)) (hall : ∀ o ∈ all,Rd o) (hn : all.length ≤ 1000000) (R : Bool)
    (hnext:L tab (run tab X) 18 [] [.lp [1,1,1,0,1,0]] (Af t47 t48 (IntKind.i64.wrap (t49+1)) (dh outer) f1 f2 f3 b2 (fB all++[.list true aW h']) 0 (all.length+1))=some ([.p (.bool R)],[])):∀ es:List AX,(∀ e∈es,x9 e.1∧x9 e.2) →
    L tab (run tab X) 18 [] [.lp [1,1,1,0,1,0],.rg [1,1,0,0,1,1,0,1,0] [(true,aW),(true,aW)] (es.map eY)] (jf h' t47 t48 t49 t57 (dh outer) f1 f2 f3 b2 (fB all) 0 all.length)=some ([.p (.bool ((es.all fun e=>decide (0≤TW outer e.1)&&all.all (edgeOk e))&&R))],[]):=by
  intro es;induction es with
  | nil =>intro _;rw[List.map_nil,BU,show Fe (all.length+1) 2147483648=true from decide_eq_true (by omega),cond_true,List.drop_zero,List.take_of_length_le (by rw[fZ];omega)];exact hnext
  | cons e r ih =>
   intro hok;obtain⟨ha,hb⟩:=hok e (by simp);have q:=c52 X hX outer ho e.1 ha;simp only[dn]at q;rw[List.map_cons,List.all_cons];show L tab (run tab X) 18 [] [.lp [1,1,1,0,1,0],.rg [1,1,0,0,1,1,0,1,0] [(true,aW),(true,aW)] (.agg [.agg [.int .i64 e.1.x,.int .i64 e.1.y,.int .i64 e.1.z],.agg [.int .i64 e.2.x,.int .i64 e.2.y,.int .i64 e.2.z]]::r.map eY)] _=_;rw[A8,q,Option.bind_some];simp only[List.headD_cons,dA,toInt_int];by_cases hw:0≤TW outer e.1
   · rw[show dG (TW outer e.1) 0=false from decide_eq_false (by omega),cond_false,decide_eq_true hw,Bool.true_and,Bool.and_assoc];exact anu X hX (r.map eY) h' t47 t48 t49 t57 (dh outer) f1 f2 f3 b2 all hall hn e.1 e.2 ha hb _ (ih fun e' he'=>hok e' (by simp[he'])) all 0 rfl (by omega)
   · rw[show dG (TW outer e.1) 0=true from decide_eq_true (by omega),cond_true,decide_eq_false hw];rfl
theorem anw (f0 f1 : List PV) (f2 f3 : Int) (b2 : Bool) (hs : List (List V3)) (hh : ∀ h ∈ hs,lG h = true) (hn : hs.length ≤ 1000000) (i : Nat) (hi : i < hs.length) (R : Bool)
    (hnext:L tab (run tab X) 18 [] [.lp [1,1,1,1,0,1,0]] (xP (fB hs) (hs.length:Int) ((i+1:Nat):Int) f0 (fB hs) f2 f3 b2)=some ([.p (.bool R)],[])):∀ m k,k+m=hs.length →
    L tab (run tab X) 18 [] [.lp [1,1,1,1,0,1,0],.lp [1,1,0,0,1,1,0]] (kS (i:Int) (dh (gh hs i)) (fB hs) (hs.length:Int) (i:Int) (fB hs) (hs.length:Int) (k:Int) f0 (fB hs) f2 f3 b2)=some ([.p (.bool (pU (BZ hs i) k m&&R))],[]):=by
  have _:=f1;intro m;induction m with
  | zero =>intro k hk;refine dW ?_;rw[yX,SQ (by omega),cond_false,lW (by omega)];exact hnext
  | succ m ih =>
   intro k hk;have hkl:k<hs.length:=by omega
   have hsi:=hh _ (Md hi);have hsk:=hh _ (Md hkl);have h3:=(mG hsi).1;have q:=c52 X hX (gh hs k) (yc hsk) (gt (gh hs i) 0) ((yc hsi).ok 0);simp only[dn]at q;have key:pU (BZ hs i) k (m+1)=(BZ hs i k&&pU (BZ hs i) (k+1) m):=rfl;refine dW ?_;rw[yX,Hw hkl,cond_true];simp only[fZ,le0,Hw hkl,Bool.and_true,cond_true,Int.toNat_natCast,qZ hs hkl,lW (show k≤9000000000000000000 by omega)];rw[key];have hb:((i:Int) != (k:Int))=!decide (i=k):=by show (!((i:Int)==(k:Int)))=_;rw[acd]
   rw[hb];by_cases e:i=k
   · have e':BZ hs i k=true:=by unfold BZ;rw[if_pos e]
     rw[decide_eq_true e,Bool.not_true,cond_false,e',Bool.true_and];exact ih (k+1) (by omega)
   · have e':BZ hs i k=!decide (0≤TW (gh hs k) (gt (gh hs i) 0)):=by unfold BZ;rw[if_neg e]
     have lt0:dG (0:Int) (((dh (gh hs i)).length:Nat):Int)=true:=by rw[lH];exact decide_eq_true (by omega)
     rw[decide_eq_false e,Bool.not_false,cond_true,lt0,cond_true,Jl,Jm,Qa,e'];show (run tab X 52 [.p (.list true aW (dh (gh hs k))),.p (.agg [.int .i64 (gt (gh hs i) 0).x,.int .i64 (gt (gh hs i) 0).y,.int .i64 (gt (gh hs i) 0).z])] []).bind _=_;rw[q,Option.bind_some];simp only[List.headD_cons,dA,toInt_int];show (bif decide (0≤TW (gh hs k) (gt (gh hs i) 0)) then _ else _)=_;cases decide (0≤TW (gh hs k) (gt (gh hs i) 0)) with
     | true=>rfl
     | false =>rw[cond_false,Bool.not_false,Bool.true_and];exact ih (k+1) (by omega)
theorem anx (f0 : List PV) (f2 f3 : Int) (b2 : Bool) (hs : List (List V3)) (hh : ∀ h ∈ hs,lG h = true) (hn : hs.length ≤ 1000000) : ∀ m i,i + m = hs.length →
    L tab (run tab X) 18 [] [.lp [1,1,1,1,0,1,0]] (xP (fB hs) (hs.length:Int) (i:Int) f0 (fB hs) f2 f3 b2)=some ([.p (.bool (pU (fun i=>pU (BZ hs i) 0 hs.length) i m))],[]):=by
  intro m;induction m with
  | zero =>intro i hi;refine dW ?_;rw[NI,SQ (by omega),cond_false];rfl
  | succ m ih =>
   intro i hi;have hil:i<hs.length:=by omega
   refine dW ?_;rw[NI,Hw hil,cond_true];simp only[fZ,le0,Hw hil,Bool.and_true,cond_true,Int.toNat_natCast,qZ hs hil];exact anw X hX f0 [] f2 f3 b2 hs hh hn i hil _ (ih (i+1) (by omega)) hs.length 0 (by omega)
theorem anz (f : Fen) (hf : f.holes.length ≤ 16) (hlen : ∀ h ∈ f.holes,h.length ≤ 1000000) (ho : lG f.outer = true) (b2 : Bool) : ∀ (r : List (List V3)) (i : Nat) (all : List (List V3)),f.holes.drop i = r → i ≤ f.holes.length → all = f.outer::f.holes.take i → (∀ h ∈ f.holes.take i,lG h = true) →
    L tab (run tab X) 18 [] [.lp [1,1,1,0,1,0]] (Af (fB f.holes) (f.holes.length:Int) (i:Int) (dh f.outer) (fB f.holes) f.low f.high b2 (fB all) 0 all.length)=some ([.p (.bool (FU f.outer all r&&adU f.holes))],[]):=by
  intro r;induction r with
  | nil =>
   intro i all hr hi hall hs;have hil:i=f.holes.length:=by have:=congrArg List.length hr;simp at this;omega
   subst hil;rw[List.take_length]at hs;refine dW ?_;rw[PU,SQ (by omega),cond_false,fZ];exact anx X hX _ _ _ b2 f.holes hs (by omega) f.holes.length 0 (by omega)
  | cons h r ih =>
   intro i all hr hi hall hs;have hil:i<f.holes.length:=by have:=congrArg List.length hr;simp at this;omega
   have hv:gh f.holes i=h:=by show f.holes.getD i []=h;rw[qLb,← List.head?_drop,hr];rfl
   have hm:h∈f.holes:=by rw[← hv];exact Md hil
   refine dW ?_;rw[PU,Hw hil,cond_true];simp only[fZ,le0,Hw hil,Bool.and_true,cond_true,Int.toNat_natCast,qZ f.holes hil,hv];show (run tab X 12 [.p (.list true aW (dh h))] []).bind _=_;rw[c12 X hX h (hlen h hm),Option.bind_some];simp only[List.headD_cons,dA,bD];rw[FU,aaP,Bool.and_assoc,Bool.and_assoc];cases hsm:lG h with
   | false=>rfl
   | true =>
    rw[Bool.not_true,cond_false,Bool.true_and];show (run tab X 51 [.p (.list true aW (dh h))] []).bind _=_;rw[c51 X hX h,Option.bind_some];show (run tab X 100 [.vN,.p (.ref [.list true aW (dh h)])] [.log true []]).bind _=_;have hrd:=yc hsm;rw[ab7 X hX h (hlen h hm),Option.bind_some];have htl:(f.holes.take i).length=i:=by rw[List.length_take];omega
    have hal:all.length=i+1:=by rw[hall,List.length_cons,htl]
    have hgi:f.holes.take (i+1)=f.holes.take i++[h]:=by
     have e1:f.holes[i]?=some h:=by rw[← List.head?_drop,hr];rfl
     rw[List.take_add_one,e1];rfl
    refine anv X hX (dh h) _ _ _ _ f.outer (yc ho) _ _ _ b2 all (fun o hom=>?_) (by omega) _ ?_ (nC h) (H6 hrd)
    · rw[hall]at hom;rcases List.mem_cons.1 hom with rfl | hom
      · exact yc ho
      · exact yc (hs o hom)
    · rw[lW (by omega)];have e2:fB all++[PV.list true aW (dh h)]=fB (all++[h]):=by simp[fB]
      have e3:all.length+1=(all++[h]).length:=by simp
      rw[e2,e3];refine ih (i+1) (all++[h]) (by rw[← List.tail_drop,hr];rfl) (by omega) ?_ ?_
      · rw[hall,hgi];rfl
      · rw[hgi];intro o hom;rcases List.mem_append.1 hom with hom | hom
        · exact hs o hom
        · simp at hom;rw[hom];exact hsm
structure Dh (f:Fen):Prop where
 outer:f.outer.length≤1000000
 holes:∀ h∈f.holes,h.length≤1000000
 len:f.holes.length≤1000000
theorem c18 (f:Fen) (hf:Dh f):run tab X 18 [.p (mF f)] []=some ([.p (.bool (lV f))],[]) :=
 bF (hX _ rfl) (by
  rw[mF,e18,c12 X hX f.outer hf.outer,Option.bind_some];simp only[List.headD_cons,dA,bD,fZ];unfold lV aaQ;cases ho:lG f.outer with
  | false=>rfl
  | true =>
   rw[Bool.not_true,cond_false,Bool.true_and];by_cases h1:f.holes.length≤16
   · rw[show kX ((f.holes.length:Nat):Int) (16:Int)=false from decide_eq_false (by omega),cond_false];by_cases h2:-1048576≤f.low
     · rw[show dG f.low (-1048576)=false from decide_eq_false (by omega),cond_false];by_cases h3:f.high≤1048576
       · rw[show kX f.high 1048576=false from decide_eq_false (by omega),cond_false];by_cases h4:f.low≤f.high
         · rw[show kX f.low f.high=false from decide_eq_false (by omega),cond_false,decide_eq_true ⟨h1,h2,h3,h4⟩,Bool.true_and];exact anz X hX f h1 hf.holes ho false f.holes 0 [f.outer] rfl (by omega) rfl (by simp)
         · rw[show kX f.low f.high=true from decide_eq_true (by omega),cond_true,decide_eq_false fun h=>h4 h.2.2.2];rfl
       · rw[show kX f.high 1048576=true from decide_eq_true (by omega),cond_true,decide_eq_false fun h=>h3 h.2.2.1];rfl
     · rw[show dG f.low (-1048576)=true from decide_eq_true (by omega),cond_true,decide_eq_false fun h=>h2 h.2.1];rfl
   · rw[show kX ((f.holes.length:Nat):Int) (16:Int)=true from decide_eq_true (by omega),cond_true,decide_eq_false fun h=>h1 h.1];rfl)
end
end Go.Skm.Fen
namespace Go.Skm.Fen
open Go Go.Skm
def Lt2 (k:Nat) (z:Int):Prop:=z.natAbs<2 ^ k
theorem Lt2.mono {k m:Nat} {z:Int} (h:Lt2 k z) (hm:k≤m):Lt2 m z:=Nat.lt_of_lt_of_le h (Nat.pow_le_pow_right (by decide) hm)
theorem Lt2.mul {k m:Nat} {x y:Int} (hx:Lt2 k x) (hy:Lt2 m y):Lt2 (k+m) (x*y):=by unfold Lt2 at *;rw[Int.natAbs_mul,Nat.pow_add];exact Nat.mul_lt_mul_of_lt_of_lt hx hy
theorem Lt2.sub {k:Nat} {x y:Int} (hx:Lt2 k x) (hy:Lt2 k y):Lt2 (k+1) (x-y):=by unfold Lt2 at *;rw[Nat.pow_succ];have:=Int.natAbs_sub_le x y;omega
theorem Lt2.add {k:Nat} {x y:Int} (hx:Lt2 k x) (hy:Lt2 k y):Lt2 (k+1) (x+y):=by unfold Lt2 at *;rw[Nat.pow_succ];have:=Int.natAbs_add_le x y;omega
theorem Lt2.okW {k:Nat} {z:Int} (h:Lt2 k z) (hk:k≤65536):okW z:=Nat.le_trans (Kr h) hk
theorem zL {z:Int} {n k:Nat} (h:-(n:Int)≤z∧z≤n) (hn:n<2 ^ k):Lt2 k z:=by unfold Lt2;omega
theorem DF {v:V3} (h:x9 v):Lt2 25 v.x∧Lt2 25 v.y:=by obtain⟨h1,h2,_⟩:=h;exact⟨zL (n:=16777216) (by omega) (by decide),zL (n:=16777216) (by omega) (by decide)⟩
theorem Xu {a b:V3} (ha:x9 a) (hb:x9 b):Lt2 26 (b.x-a.x)∧Lt2 26 (b.y-a.y):=by obtain⟨a1,a2,_⟩:=ha;obtain⟨b1,b2,_⟩:=hb;exact⟨zL (n:=33554432) (by omega) (by decide),zL (n:=33554432) (by omega) (by decide)⟩
abbrev pZ:PV:=.ref [.int .i64 0]
abbrev Xv (u v w:Int):List PV:=[.bool (decide (u<0)),.str (rQ u.natAbs),.bool (decide (v<0)),.str (rQ v.natAbs),.bool (decide (w<0)),.str (rQ w.natAbs)]
def eSp (u v w:Int):PV:=.agg (Xv u v w)
theorem ace (u v w:Int):PV.agg [.bool (((eW u).cell 0).toBool),.str (((eW u).cell 1).toStr),.bool (((eW v).cell 0).toBool),.str (((eW v).cell 1).toStr),.bool (((eW w).cell 0).toBool),.str (((eW w).cell 1).toStr)]=eSp u v w:=rfl
theorem Xw (z:Int):z.sign=lS z:=by
 unfold lS;rcases Int.lt_trichotomy z 0 with h | h | h
 · rw[if_pos h,Int.sign_eq_neg_one_of_neg h]
 · subst h;rfl
 · rw[if_neg (by omega),if_pos h,Int.sign_eq_one_of_pos h]
structure Sp (u v w:Int):Prop where
 bu:Lt2 20000 u
 bv:Lt2 20000 v
 bw:Lt2 20000 w
 pos:0<w
theorem Sp.off {u v w:Int} (h:Sp u v w) {c:Int} (hc:Lt2 25 c):okW (c*w)∧Lt2 20026 (u-c*w)∧Lt2 20026 (v-c*w):=by have h1:Lt2 20025 (c*w):=(hc.mul h.bw).mono (by omega);exact⟨h1.okW (by omega),((h.bu.mono (by omega)).sub h1).mono (by omega),((h.bv.mono (by omega)).sub h1).mono (by omega)⟩
section
variable (X:Ext) (hX:Mine X) (hB:Bits X)
include hX
theorem c78 (z:Int):run tab X 78 [.p pZ,.p (eW z),.p (.int .i64 0)] []=some ([.p (eW z)],[]):=bF (hX _ rfl) (by rw[eW,e78];rfl)
include hB
theorem c77 (a b:Int) (ha:okW a) (hb:okW b) (h:okW (a*b)):run tab X 77 [.p pZ,.p (eW a),.p (eW b)] []=some ([.p (eW (a*b))],[]) :=
 bF (hX _ rfl) (by have h1:=c138 X hX hB a b ha hb;rw[FV,if_pos h,eW,eW]at h1;rw[eW,eW,e77,h1,Option.bind_some];simp only[List.headD_cons,List.tail_cons,dA,toInt_int,jg];rw[c78 X hX,Option.bind_some];simp only[List.headD_cons,dA,jg])
theorem ahp (a b:Int) (ha:okW a) (hb:okW b) (h:okW (a-b)):run tab X 123 [.p pZ,.p (eW a),.p (eW b)] []=some ([.p (eW (a-b))],[]) :=
 bF (hX _ rfl) (by have h1:=c159 X hX hB a b ha hb;rw[FV,if_pos h,eW,eW]at h1;rw[eW,eW,amV,h1,Option.bind_some];simp only[List.headD_cons,List.tail_cons,dA,toInt_int,jg];rw[c78 X hX,Option.bind_some];simp only[List.headD_cons,dA,jg])
theorem c63 (a b c d:Int) (ha:okW a) (hb:okW b) (hc:okW c) (hd:okW d) (h1:okW (a*d)) (h2:okW (c*b)) (h3:okW (b*d)):run tab X 63 [.p pZ,.p (eR a b),.p (eR c d)] []=some ([.p (eSp (a*d) (c*b) (b*d))],[]) :=
 bF (hX _ rfl) (by have q1:=c77 X hX hB a d ha hd h1;have q2:=c77 X hX hB c b hc hb h2;have q3:=c77 X hX hB b d hb hd h3;rw[eW]at q1 q2 q3;rw[eW]at q1 q2 q3;rw[eR,eR,e63,q1,Option.bind_some,q2,Option.bind_some,q3,Option.bind_some];simp only[List.headD_cons,dA,ace])
theorem ajj (a:V3) (ha:x9 a) (u v w:Int) (h:Sp u v w):run tab X 122 [.p (dn a),.p (.ref [pZ]),.p (.ref (Xv u v w))] []=some ([.p (eW (u-a.x*w)),.p (eW (v-a.y*w))],[]) :=
 bF (hX _ rfl) (by obtain⟨hx,hy⟩:=DF ha;obtain⟨x1,x2,_⟩:=h.off hx;obtain⟨y1,_,y2⟩:=h.off hy;obtain⟨b1,b2,_⟩:=ha;have hw:=h.bw.okW (by omega);have q1:=c77 X hX hB a.x w (hx.okW (by omega)) hw x1;have q2:=c77 X hX hB a.y w (hy.okW (by omega)) hw y1;have q3:=ahp X hX hB u (a.x*w) (h.bu.okW (by omega)) x1 (x2.okW (by omega));have q4:=ahp X hX hB v (a.y*w) (h.bv.okW (by omega)) y1 (y2.okW (by omega));rw[eW,eW]at q3 q4;have e3:∀ z:Int,eW z=PV.agg [.bool (decide (z<0)),.str (rQ z.natAbs)]:=fun _=>rfl;rw[e3 w]at q1 q2;rw[dn,amU,YW X hX hB a.x (by omega) (by omega),Option.bind_some];simp only[List.headD_cons,dA,jg];rw[q1,Option.bind_some];simp only[List.headD_cons,dA];rw[show (PV.agg [.bool (((eW (a.x*w)).cell 0).toBool),.str (((eW (a.x*w)).cell 1).toStr)])=PV.agg [.bool (decide (a.x*w<0)),.str (rQ (a.x*w).natAbs)] from rfl,q3,Option.bind_some];rw[YW X hX hB a.y (by omega) (by omega),Option.bind_some];simp only[List.headD_cons,dA,jg];rw[q2,Option.bind_some];simp only[List.headD_cons,dA];rw[show (PV.agg [.bool (((eW (a.y*w)).cell 0).toBool),.str (((eW (a.y*w)).cell 1).toStr)])=PV.agg [.bool (decide (a.y*w<0)),.str (rQ (a.y*w).natAbs)] from rfl,q4,Option.bind_some];simp only[List.headD_cons,dA,jg])
abbrev adW (u v w:Int):PV:=.fn 122 [.ref [pZ],.ref (Xv u v w)]
theorem c124 (a b:V3) (ha:x9 a) (hb:x9 b) (u v w:Int) (h:Sp u v w):run tab X 124 [.p (dn a),.p (dn b),.p (.ref [adW u v w]),.p (.ref [pZ])] []=some ([.p (.int .i64 (lS (Tq a b u v w)))],[]) :=
 bF (hX _ rfl) (by obtain⟨hx,hy⟩:=DF ha;obtain⟨_,x2,_⟩:=h.off hx;obtain⟨_,_,y2⟩:=h.off hy;obtain⟨d1,d2⟩:=Xu ha hb;have q0:=ajj X hX hB a ha u v w h;obtain⟨a1,a2,_⟩:=ha;obtain⟨b1,b2,_⟩:=hb;have m1:Lt2 20052 ((b.x-a.x)*(v-a.y*w)):=(d1.mul y2).mono (by omega);have m2:Lt2 20052 ((b.y-a.y)*(u-a.x*w)):=(d2.mul x2).mono (by omega);have q1:=c77 X hX hB (b.x-a.x) (v-a.y*w) (d1.okW (by omega)) (y2.okW (by omega)) (m1.okW (by omega));have q2:=c77 X hX hB (b.y-a.y) (u-a.x*w) (d2.okW (by omega)) (x2.okW (by omega)) (m2.okW (by omega));have q3:=ahp X hX hB _ _ (m1.okW (by omega)) (m2.okW (by omega)) ((m1.sub m2).okW (by omega));rw[dn]at q0;rw[dn,dn,amW,q0,Option.bind_some,wrap_eq (x:=b.x-a.x) (by omega) (by omega),wrap_eq (x:=b.y-a.y) (by omega) (by omega),YW X hX hB _ (by omega) (by omega),Option.bind_some];simp only[List.headD_cons,List.tail_cons,dA,jg];rw[q1,Option.bind_some,YW X hX hB _ (by omega) (by omega),Option.bind_some];simp only[List.headD_cons,List.tail_cons,dA,jg];rw[q2,Option.bind_some];simp only[List.headD_cons,List.tail_cons,dA,jg];rw[q3,Option.bind_some];simp only[List.headD_cons,List.tail_cons,dA,jg];rw[c109 X hX _ ((m1.sub m2).okW (by omega)),Xw];rfl)
theorem aaR (x y:Int):IntKind.i64.wrap (0-(x-y).sign)=lS (y-x):=by have _:=hX;have _:=hB;rw[Xw];have h1:=Hy (n:=x-y);have h2:=Hz (n:=x-y);have h3:=Hy (n:=y-x);have h4:=Hz (n:=y-x);rcases Dz (x-y) with e | e | e<;>rcases Dz (y-x) with e' | e' | e'<;>rw[e,e']<;>rw[e]at h1 h2<;>rw[e']at h3 h4<;>first | rfl | omega
theorem ajk (a:V3) (ha:x9 a) (u v w:Int) (h:Sp u v w):run tab X 125 [.p (dn a),.p (.int .i64 0),.p (.ref [adW u v w])] []=some ([.p (.int .i64 (lS (a.x*w-u)))],[])∧run tab X 125 [.p (dn a),.p (.int .i64 1),.p (.ref [adW u v w])] []=some ([.p (.int .i64 (lS (a.y*w-v)))],[]):=by
 obtain⟨hx,hy⟩:=DF ha;obtain⟨_,x2,_⟩:=h.off hx;obtain⟨_,_,y2⟩:=h.off hy;have q0:=ajj X hX hB a ha u v w h;rw[dn]at q0;constructor
 · refine bF (hX _ rfl) ?_;rw[dn,e125,q0,Option.bind_some,show ((0:Int)==0)=true from rfl,cond_true];simp only[List.headD_cons,dA,jg];rw[c109 X hX _ (x2.okW (by omega)),Option.bind_some];simp only[List.headD_cons,dA,toInt_int];rw[aaR X hX hB]
 · refine bF (hX _ rfl) ?_;rw[dn,e125,q0,Option.bind_some,show ((1:Int)==0)=false from rfl,cond_false];simp only[List.headD_cons,List.tail_cons,dA,jg];rw[c109 X hX _ (y2.okW (by omega)),Option.bind_some];simp only[List.headD_cons,dA,toInt_int];rw[aaR X hX hB]
end
end Go.Skm.Fen
