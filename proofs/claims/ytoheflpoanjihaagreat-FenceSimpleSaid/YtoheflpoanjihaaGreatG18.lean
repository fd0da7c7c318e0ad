import Derived.Test.YtoheflpoanjihaaGreatG14
namespace Go.Skm.Fen
open Go Go.Skm
abbrev SW (l:List PV) (u v w b6 wd:Int):St:=cO l 0 (decide (u<0)) (rQ u.natAbs) (decide (v<0)) (rQ v.natAbs) (decide (w<0)) (rQ w.natAbs) 0 0 (decide (u<0)) (rQ u.natAbs) (decide (v<0)) (rQ v.natAbs) (decide (w<0)) (rQ w.natAbs) b6 wd
abbrev rgW (ys:List PV):List Wy:=[.rg [1,1,0,1,0] [(true,aW),(true,aW)] ys]
section
variable (X:Ext) (hX:Mine X) (hB:Bits X)
include hX hB
theorem ajl (l : List PV) (u v w : Int) (hp : Sp u v w) (b6 : Int) : ∀ (es : List AX) (wd : Int),(∀ e ∈ es,x9 e.1 ∧ x9 e.2) → -(1000000 - (es.length : Int)) ≤ wd ∧ wd ≤ 1000000 - (es.length : Int) →
    L tab (run tab X) 101 [] (rgW (es.map eY)) (SW l u v w b6 wd)=some ([.p (.int .i64 (P8 u v w wd es))],[]):=by
  intro es;induction es with
  | nil =>
   intro wd _ _;rw[List.map_nil,Oz];unfold P8 OB;rw[Int.add_zero];by_cases h:wd=0
   · subst h;rfl
   · rw[show (wd != 0)=true from bne_iff_ne.2 h,cond_true,if_neg (by simp),if_pos h]
  | cons e r ih =>
   intro wd hok hs;simp only[List.length_cons]at hs;obtain⟨ha,hb⟩:=hok e (by simp);have q1:=c124 X hX hB e.1 e.2 ha hb u v w hp;have q2:=ajk X hX hB e.1 ha u v w hp;have q3:=ajk X hX hB e.2 hb u v w hp;simp only[dn]at q1 q2 q3;have hc:=TT u v w e;have h1:=fun wd' hw=>ih wd' (fun e' he'=>hok e' (by simp[he'])) hw;rw[List.map_cons,TU];show L tab (run tab X) 101 [] (rgW (.agg [.agg [.int .i64 e.1.x,.int .i64 e.1.y,.int .i64 e.1.z],.agg [.int .i64 e.2.x,.int .i64 e.2.y,.int .i64 e.2.z]]::r.map eY)) (SW l u v w b6 wd)=_;rw[L6,q1,Option.bind_some,q2.1,Option.bind_some,q2.2,Option.bind_some,q3.1,Option.bind_some,q3.2,Option.bind_some];simp only[List.headD_cons,dA,toInt_int];have key:=Xt u v w e wd (some ([AV.p (.int .i64 0)],([]:List cu))) (fun wd'=>L tab (run tab X) 101 [] (rgW (r.map eY)) (SW l u v w b6 wd'));have fin:(if Zh u v w e then some ([AV.p (.int .i64 0)],([]:List cu)) else L tab (run tab X) 101 [] (rgW (r.map eY)) (SW l u v w b6 (wd+Xq u v w e)))=some ([.p (.int .i64 (if Zh u v w e then 0 else P8 u v w (wd+Xq u v w e) r))],[]):=by
    cases Zh u v w e with
    | true=>rfl
    | false =>have:=h1 (wd+Xq u v w e) (by omega);simpa using this
   rw[← fin,← key,HY,HY,wrap_eq (x:=wd+1) (by omega) (by omega),wrap_eq (x:=wd-1) (by omega) (by omega)];rw[Xr _ _ _ _ _ _ _ _ _ _ _ _ _ _ _ _ _ rfl rfl rfl rfl rfl rfl rfl rfl rfl];have g0:(lS (Tq e.1 e.2 u v w)==0)=decide (lS (Tq e.1 e.2 u v w)=0):=rfl;have g1:∀ x y:Int,leI x y=decide (x≤y):=fun _ _=>rfl;have g2:∀ x y:Int,kX x y=decide (y<x):=fun _ _=>rfl;have g3:∀ x y:Int,dG x y=decide (x<y):=fun _ _=>rfl;rw[g0];simp only[g1,g2,g3];generalize decide (lS (Tq e.1 e.2 u v w)=0)=c1;generalize decide (lS (e.1.x*w-u)*lS (e.2.x*w-u)≤0)=c2;generalize decide (lS (e.1.y*w-v)*lS (e.2.y*w-v)≤0)=c3;generalize decide (lS (e.1.y*w-v)≤0)=c4;generalize decide (0<lS (e.2.y*w-v))=c5;generalize decide (0<lS (Tq e.1 e.2 u v w))=c6;generalize decide (0<lS (e.1.y*w-v))=c7;generalize decide (lS (e.2.y*w-v)≤0)=c8;generalize decide (lS (Tq e.1 e.2 u v w)<0)=c9;generalize L tab (run tab X) 101 [] (rgW (r.map eY)) (SW l u v w b6 (wd+1))=k1;generalize L tab (run tab X) 101 [] (rgW (r.map eY)) (SW l u v w b6 (wd-1))=k2;generalize L tab (run tab X) 101 [] (rgW (r.map eY)) (SW l u v w b6 wd)=k3;clear fin key h1 hc q1 q2 q3 ih;cases c1<;>cases c2<;>cases c3<;>cases c4<;>cases c5<;>cases c6<;>cases c7<;>cases c8<;>cases c9<;>rfl
theorem c66 (l:List V3) (hl:Rd l) (u v w:Int) (hp:Sp u v w):run tab X 66 [.p pZ,.p (.list true aW (dh l)),.p (eSp u v w)] []=some ([.p (.int .i64 (OT l u v w))],[]) :=
 bF (hX _ rfl) (by have h2:run tab X 101 [.p (.list true aW (dh l)),.p (.fn 124 [.ref [adW u v w],.ref [pZ]]),.p (.fn 125 [.ref [adW u v w]])] []=some ([.p (.int .i64 (OT l u v w))],[]):=bF (hX _ rfl) (by rw[aiQ,c51 X hX l,Option.bind_some];show (run tab X 100 [.vN,.p (.ref [.list true aW (dh l)])] [.log true []]).bind _=_;have:=hl.len;rw[ab7 X hX l (by omega),Option.bind_some];have h1:=ajl X hX hB (dh l) u v w hp 0 (nC l) 0 (H6 hl) (by rw[uJ];omega);rw[TV,adR hp.pos]at h1;exact h1);rw[eSp,e66,h2];rfl)
theorem c65 (l:List V3) (hl:Rd l) (u v w:Int) (hp:Sp u v w):run tab X 65 [.p (.list true aW (dh l)),.p pZ,.p (.ref (Xv u v w))] []=some ([.p (.int .i64 (OT l u v w))],[]) :=
 bF (hX _ rfl) (by have h1:=c66 X hX hB l hl u v w hp;rw[eSp]at h1;rw[e65,h1];rfl)
theorem ajm (l:List V3) (hl:Rd l) (u v w:Int) (hp:Sp u v w):run tab X 121 [.p (.list true aW (dh l)),.p (.ref [.fn 65 [pZ,.ref (Xv u v w)]])] []=some ([.p (.bool (decide (0<OT l u v w)))],[]) :=
 bF (hX _ rfl) (by rw[aiK,c65 X hX hB l hl u v w hp];rfl)
theorem l158a (hs : List (List V3)) (hh : ∀ h ∈ hs,Rd h) (hlen : hs.length ≤ 1000000) (u v w : Int) (hp : Sp u v w) : ∀ (r : List (List V3)) (i : Nat),hs.drop i = r → i ≤ hs.length →
    L tab (run tab X) 158 [] [.lp [1,0,1,0]] (Es (fB hs) 0 (decide (u<0)) (rQ u.natAbs) (decide (v<0)) (rQ v.natAbs) (decide (w<0)) (rQ w.natAbs) ((hs.length:Nat):Int) (i:Int))=some ([.p (.int .i64 (yL (fun h=>decide (0<OT h u v w)) r i))],[]):=by
  intro r;induction r with
  | nil =>
   intro i hr hi;have hil:i=hs.length:=by have:=congrArg List.length hr;simp at this;omega
   refine dW ?_;rw[PO,SQ (by omega),cond_false];rfl
  | cons h r ih =>
   intro i hr hi;have hil:i<hs.length:=by have:=congrArg List.length hr;simp at this;omega
   have hv:gh hs i=h:=by show hs.getD i []=h;rw[qLb,← List.head?_drop,hr];rfl
   have hm:h∈hs:=by rw[← hv];show hs.getD i []∈hs;rw[qLb,qLd hil];exact List.getElem_mem hil
   refine dW ?_;rw[PO,Hw hil,cond_true];simp only[fZ,le0,Hw hil,Bool.and_true,cond_true,Int.toNat_natCast,qZ hs hil,hv,lW (show i≤9000000000000000000 by omega)];show (run tab X 121 [.p (.list true aW (dh h)),.p (.ref [.fn 65 [pZ,.ref (Xv u v w)]])] []).bind _=_;rw[ajm X hX hB h (hh h hm) u v w hp,Option.bind_some];simp only[List.headD_cons,dA,bD];rw[yL];cases decide (0<OT h u v w) with
   | true=>rfl
   | false =>rw[cond_false,if_neg (by decide)];exact ih (i+1) (by rw[← List.tail_drop,hr];rfl) (by omega)
theorem anB (f:Fen) (hf:RdF f) (u v w:Int) (hp:Sp u v w):run tab X 64 [.p (mF f),.p (.fn 65 [pZ,.ref (Xv u v w)])] []=some ([.p (.bool (inQ f u v w))],[]) :=
 bF (hX _ rfl) (by
  have h1:run tab X 120 [.p (.list false [.slice true aW] (fB f.holes)),.p (.fn 121 [.ref [.fn 65 [pZ,.ref (Xv u v w)]]])] []=some ([.p (.bool (f.holes.any fun h=>decide (0<OT h u v w)))],[]):=bF (hX _ rfl) (by have h2:run tab X 158 [.p (.list false [.slice true aW] (fB f.holes)),.p (.fn 121 [.ref [.fn 65 [pZ,.ref (Xv u v w)]]])] []=some ([.p (.int .i64 (yL (fun h=>decide (0<OT h u v w)) f.holes 0))],[]):=bF (hX _ rfl) (by rw[aiN,fZ];exact l158a X hX hB f.holes hf.holes hf.len u v w hp f.holes 0 rfl (by omega));rw[aiH,h2,Option.bind_some];simp only[List.headD_cons,dA,toInt_int];rw[Ey]);rw[mF,amO,c65 X hX hB f.outer hf.outer u v w hp,Option.bind_some];simp only[List.headD_cons,dA,toInt_int];unfold inQ;show (bif decide (0≤OT f.outer u v w) then _ else _)=_;cases decide (0≤OT f.outer u v w) with
  | false=>rfl
  | true=>rw[cond_true,h1];rfl)
theorem c82 (l:List V3) (hl:Rd l) (u v w:Int) (hp:Sp u v w):run tab X 82 [.p (.list true aW (dh l)),.p pZ,.p (.ref (Xv u v w))] []=some ([.p (.int .i64 (OT l u v w))],[]) :=
 bF (hX _ rfl) (by have h1:=c66 X hX hB l hl u v w hp;rw[eSp]at h1;rw[e82,h1];rfl)
theorem ajn (l:List V3) (hl:Rd l) (u v w:Int) (hp:Sp u v w):run tab X 121 [.p (.list true aW (dh l)),.p (.ref [.fn 82 [pZ,.ref (Xv u v w)]])] []=some ([.p (.bool (decide (0<OT l u v w)))],[]) :=
 bF (hX _ rfl) (by rw[aiL,c82 X hX hB l hl u v w hp];rfl)
theorem ajo (hs : List (List V3)) (hh : ∀ h ∈ hs,Rd h) (hlen : hs.length ≤ 1000000) (u v w : Int) (hp : Sp u v w) : ∀ (r : List (List V3)) (i : Nat),hs.drop i = r → i ≤ hs.length →
    L tab (run tab X) 158 [] [.lp [1,0,1,0]] (Et (fB hs) 0 (decide (u<0)) (rQ u.natAbs) (decide (v<0)) (rQ v.natAbs) (decide (w<0)) (rQ w.natAbs) ((hs.length:Nat):Int) (i:Int))=some ([.p (.int .i64 (yL (fun h=>decide (0<OT h u v w)) r i))],[]):=by
  intro r;induction r with
  | nil =>
   intro i hr hi;have hil:i=hs.length:=by have:=congrArg List.length hr;simp at this;omega
   refine dW ?_;rw[PS,SQ (by omega),cond_false];rfl
  | cons h r ih =>
   intro i hr hi;have hil:i<hs.length:=by have:=congrArg List.length hr;simp at this;omega
   have hv:gh hs i=h:=by show hs.getD i []=h;rw[qLb,← List.head?_drop,hr];rfl
   have hm:h∈hs:=by rw[← hv];show hs.getD i []∈hs;rw[qLb,qLd hil];exact List.getElem_mem hil
   refine dW ?_;rw[PS,Hw hil,cond_true];simp only[fZ,le0,Hw hil,Bool.and_true,cond_true,Int.toNat_natCast,qZ hs hil,hv,lW (show i≤9000000000000000000 by omega)];show (run tab X 121 [.p (.list true aW (dh h)),.p (.ref [.fn 82 [pZ,.ref (Xv u v w)]])] []).bind _=_;rw[ajn X hX hB h (hh h hm) u v w hp,Option.bind_some];simp only[List.headD_cons,dA,bD];rw[yL];cases decide (0<OT h u v w) with
   | true=>rfl
   | false =>rw[cond_false,if_neg (by decide)];exact ih (i+1) (by rw[← List.tail_drop,hr];rfl) (by omega)
theorem anC (f:Fen) (hf:RdF f) (u v w:Int) (hp:Sp u v w):run tab X 64 [.p (mF f),.p (.fn 82 [pZ,.ref (Xv u v w)])] []=some ([.p (.bool (inQ f u v w))],[]) :=
 bF (hX _ rfl) (by
  have h1:run tab X 120 [.p (.list false [.slice true aW] (fB f.holes)),.p (.fn 121 [.ref [.fn 82 [pZ,.ref (Xv u v w)]]])] []=some ([.p (.bool (f.holes.any fun h=>decide (0<OT h u v w)))],[]):=bF (hX _ rfl) (by have h2:run tab X 158 [.p (.list false [.slice true aW] (fB f.holes)),.p (.fn 121 [.ref [.fn 82 [pZ,.ref (Xv u v w)]]])] []=some ([.p (.int .i64 (yL (fun h=>decide (0<OT h u v w)) f.holes 0))],[]):=bF (hX _ rfl) (by rw[aiO,fZ];exact ajo X hX hB f.holes hf.holes hf.len u v w hp f.holes 0 rfl (by omega));rw[aiI,h2,Option.bind_some];simp only[List.headD_cons,dA,toInt_int];rw[Ey]);rw[mF,amP,c82 X hX hB f.outer hf.outer u v w hp,Option.bind_some];simp only[List.headD_cons,dA,toInt_int];unfold inQ;show (bif decide (0≤OT f.outer u v w) then _ else _)=_;cases decide (0≤OT f.outer u v w) with
  | false=>rfl
  | true=>rw[cond_true,h1];rfl)
end
end Go.Skm.Fen
namespace Go.Skm.Fen
open Go Go.Skm
structure Rt where
 n:Int
 d:Int
 deriving DecidableEq
abbrev Rt.ok (r:Rt):Prop:=okR r.n r.d
def sG (r:Rt):PV:=eR r.n r.d
def qG (r:Rt):Bool:=decide (8192<bl r.n.natAbs∨8192<bl r.d.natAbs)
def Xx (f:Fen) (x y z:Rt):Bool:=(decide (f.low*z.d≤z.n)&&decide (z.n≤f.high*z.d))&&inQ f (x.n*y.d) (y.n*x.d) (x.d*y.d)
def atP (f:Fen) (x y z:Rt):Bool × Int :=
 if x.ok∧y.ok∧z.ok then(if lV f then(if qG x||(qG y||qG z) then(false,7) else(Xx f x y z,0)) else(false,2)) else(false,2)
def OC (a:Bool × Int):List AV:=[.p (.bool a.1),.p (.int .i64 a.2)]
def Zk (f:Fen) (p:V3):Bool × Int:=if lV f then(if vO 1048576 p then(Ew f p,0) else(false,2)) else(false,2)
theorem aaS {z:Int} {k:Nat} (h:bl z.natAbs≤k):Lt2 k z:=Nat.lt_of_lt_of_le (IX _) (Nat.pow_le_pow_right (by decide) h)
theorem Qb {r:Rt} (h:qG r=false):Lt2 8192 r.n∧Lt2 8192 r.d:=by
 have h1:=of_decide_eq_false h;constructor
 · exact aaS (by omega)
 · exact aaS (by omega)
theorem acf (r:Rt):kX (Di ((bl r.n.natAbs:Nat):Int) ((bl r.d.natAbs:Nat):Int)) (8192:Int)=qG r:=by
 unfold qG Di kX;by_cases h:((bl r.n.natAbs:Nat):Int)<((bl r.d.natAbs:Nat):Int)
 · rw[if_pos h];apply decide_eq_decide.2;omega
 · rw[if_neg h];apply decide_eq_decide.2;omega
theorem aaT (z:Int):yH z.sign 0=decide (0≤z):=by
 rcases Int.lt_trichotomy z 0 with h | h | h
 · rw[Int.sign_eq_neg_one_of_neg h,decide_eq_false (by omega)];rfl
 · subst h;rfl
 · rw[Int.sign_eq_one_of_pos h,decide_eq_true (by omega)];rfl
theorem aaU (z:Int):leI z.sign 0=decide (z≤0):=by
 rcases Int.lt_trichotomy z 0 with h | h | h
 · rw[Int.sign_eq_neg_one_of_neg h,decide_eq_true (by omega)];rfl
 · subst h;rfl
 · rw[Int.sign_eq_one_of_pos h,decide_eq_false (by omega)];rfl
theorem zK {f:Fen} (h:lV f=true):RdF f∧f.holes.length≤16∧-1048576≤f.low∧f.high≤1048576∧f.low≤f.high:=by
 unfold lV aaQ at h;simp only[qBa,qDa]at h;obtain⟨⟨h1,h2⟩,h3,_⟩:=h;refine⟨⟨yc h1,?_,by omega⟩,h2⟩;have:∀ (hs all:List (List V3)),FU f.outer all hs=true→∀ x∈hs,Rd x:=by
  intro hs;induction hs with
  | nil=>intro _ _ x hx;cases hx
  | cons y r ih =>
   intro all hh x hx;unfold FU aaP at hh;simp only[qBa]at hh;rcases List.mem_cons.1 hx with rfl | hx
   · exact yc hh.1.1
   · exact ih _ hh.2 x hx
 exact this f.holes [f.outer] h3
abbrev S24 (f:Fen) (x y z:Rt) (full:Bool) (i:Nat):St:=Dw full 0 3 3 (i:Int) (dh f.outer) (fB f.holes) f.low f.high (decide (x.n<0)) (rQ x.n.natAbs) (decide (x.d<0)) (rQ x.d.natAbs) (decide (y.n<0)) (rQ y.n.natAbs) (decide (y.d<0)) (rQ y.d.natAbs) (decide (z.n<0)) (rQ z.n.natAbs) (decide (z.d<0)) (rQ z.d.natAbs) [sG x,sG y,sG z]
abbrev w24:List Wy:=[.lp [1,1,0,1,0]]
section
variable (X:Ext) (hX:Mine X)
include hX
theorem c20 (f:Fen) (hf:Dh f) (p:V3):run tab X 20 [.p (mF f),.p (dn p)] []=some (OC (Zk f p),[]) :=
 bF (hX _ rfl) (by
  have h1:=c18 X hX f hf;have h3:=c40 X hX p;rw[mF]at h1;rw[dn]at h3;rw[mF,dn,e20,h1,Option.bind_some];simp only[List.headD_cons,dA,bD];unfold Zk;cases hv:lV f with
  | false=>rfl
  | true =>
   rw[Bool.not_true,cond_false,h3,Option.bind_some,if_pos rfl];simp only[List.headD_cons,dA,bD];cases hm:vO 1048576 p with
   | false=>rfl
   | true =>have h4:=c55 X hX f (zK hv).1 p ((Cc.1 hm).mono (by decide));rw[mF,dn]at h4;rw[Bool.not_true,cond_false,h4,Option.bind_some,if_pos rfl];rfl)
variable (hB:Bits X)
include hB
theorem r24 (f : Fen) (x y z : Rt) (full : Bool) (i : Nat) (hi : i < 3) (r : Rt) (hr : [sG x,sG y,sG z].getD i .nil = sG r)
    (v:Bool × Int) (h:if r.ok then L tab (run tab X) 24 [] w24 (S24 f x y z (full||qG r) (i+1))=some (OC v,[]) else v=(false,2)):L tab (run tab X) 24 [] w24 (S24 f x y z full i)=some (OC v,[]):=by
  have q1:(leI (0:Int) ((i:Nat):Int)&&dG ((i:Nat):Int) (((3:Nat)):Int))=true:=rng hi;have q2:dG ((i:Nat):Int) (3:Int)=true:=Hw hi;by_cases hk:r.ok
  · rw[if_pos hk]at h;refine dW ?_;rw[LY,q2,cond_true,q1,cond_true];simp only[Int.toNat_natCast,Nat.zero_add,hr,lW (show i≤9000000000000000000 by omega)];have a1:=c59 X hX r.n r.d;rw[decide_eq_true hk]at a1;show (run tab X 59 [.p (eR r.n r.d)] []).bind _=_;rw[a1,Option.bind_some];simp only[List.headD_cons,dA,bD,Bool.not_true,cond_false];cases full with
    | true=>rw[cond_true];exact h
    | false =>rw[Bool.false_or]at h;rw[cond_false];show (run tab X 60 [.p (eW r.n)] []).bind _=_;rw[c60 X hX hB r.n hk.1,Option.bind_some];show (run tab X 60 [.p (eW r.d)] []).bind _=_;rw[c60 X hX hB r.d hk.2.1,Option.bind_some];simp only[List.headD_cons,dA,toInt_int,acf];exact h
  · rw[if_neg hk]at h;refine dW ?_;rw[LY,q2,cond_true,q1,cond_true];simp only[Int.toNat_natCast,Nat.zero_add,hr];have a1:=c59 X hX r.n r.d;rw[decide_eq_false hk]at a1;show (run tab X 59 [.p (eR r.n r.d)] []).bind _=_;rw[a1,Option.bind_some,h];rfl
theorem ajp (f : Fen) (hf : Dh f) (x y z : Rt) (hx : x.ok) (hy : y.ok) (hz : z.ok) (full : Bool) (hfull : full = (qG x || (qG y || qG z))) :
    L tab (run tab X) 24 [] w24 (S24 f x y z full 3)=some (OC (if lV f then(if full then(false,7) else(Xx f x y z,0)) else(false,2)),[]):=by
  refine dW ?_;have h1:=c18 X hX f hf;rw[mF]at h1;rw[LY,show dG ((3:Nat):Int) 3=false from rfl,cond_false,h1,Option.bind_some];simp only[List.headD_cons,dA,bD];cases hv:lV f with
  | false=>rfl
  | true =>
   rw[Bool.not_true,cond_false,if_pos rfl];cases full with
   | true=>rfl
   | false =>
    obtain⟨hR,hn,hlo,hhi,_⟩:=zK hv;have hl:qG x=false∧qG y=false∧qG z=false:=by have h:=hfull.symm;simp only[Bool.or_eq_false_iff]at h;exact h
    obtain⟨xn,xd⟩:=Qb hl.1;obtain⟨yn,yd⟩:=Qb hl.2.1;have m1:Lt2 20000 (x.n*y.d):=(xn.mul yd).mono (by omega);have m2:Lt2 20000 (y.n*x.d):=(yn.mul xd).mono (by omega);have m3:Lt2 20000 (x.d*y.d):=(xd.mul yd).mono (by omega);have hp:Sp (x.n*y.d) (y.n*x.d) (x.d*y.d):=⟨m1,m2,m3,Int.mul_pos hx.2.2 hy.2.2⟩;have one:okR f.low 1∧okR f.high 1:=⟨⟨FX X hX hB (by omega) (by omega),FX X hX hB (by omega) (by omega),by omega⟩,FX X hX hB (by omega) (by omega),FX X hX hB (by omega) (by omega),by omega⟩;have a1:=c62 X hX hB z.n z.d f.low 1 hz one.1;have a2:=c62 X hX hB z.n z.d f.high 1 hz one.2;have a3:=c63 X hX hB x.n x.d y.n y.d hx.1 hx.2.1 hy.1 hy.2.1 (m1.okW (by omega)) (m2.okW (by omega)) (m3.okW (by omega));have a4:=anB X hX hB f hR (x.n*y.d) (y.n*x.d) (x.d*y.d) hp;rw[cond_false,YW X hX hB 1 (by omega) (by omega),Option.bind_some,YW X hX hB f.low (by omega) (by omega),Option.bind_some];show (run tab X 62 [.p (eR z.n z.d),.p (eR f.low 1)] []).bind _=_;rw[a1,Option.bind_some,YW X hX hB f.high (by omega) (by omega),Option.bind_some];show (run tab X 62 [.p (eR z.n z.d),.p (eR f.high 1)] []).bind _=_;rw[a2,Option.bind_some];show (run tab X 63 [.p pZ,.p (eR x.n x.d),.p (eR y.n y.d)] []).bind _=_;rw[a3,Option.bind_some];simp only[List.headD_cons,dA,toInt_int,aaT,aaU];unfold Xx;have e1:decide (0≤z.n*1-f.low*z.d)=decide (f.low*z.d≤z.n):=decide_eq_decide.2 (by omega);have e2:decide (z.n*1-f.high*z.d≤0)=decide (z.n≤f.high*z.d):=decide_eq_decide.2 (by omega);rw[e1,e2];cases decide (f.low*z.d≤z.n) with
    | false=>rfl
    | true =>
     rw[cond_true,Bool.true_and];cases decide (z.n≤f.high*z.d) with
     | false=>rfl
     | true =>rw[cond_true,Bool.true_and];rw[mF]at a4;show (run tab X 64 [_,.p (.fn 65 [pZ,.ref (Xv (x.n*y.d) (y.n*x.d) (x.d*y.d))])] []).bind _=_;rw[a4,Option.bind_some];simp only[List.headD_cons,dA,bD];cases inQ f (x.n*y.d) (y.n*x.d) (x.d*y.d)<;>rfl
theorem c24 (f:Fen) (hf:Dh f) (x y z:Rt):run tab X 24 [.p (mF f),.p (sG x),.p (sG y),.p (sG z)] []=some (OC (atP f x y z),[]) :=
 bF (hX _ rfl) (by
  rw[mF,sG,sG,sG,eR,eR,eR,e24];show L tab (run tab X) 24 [] w24 (S24 f x y z false 0)=_;unfold atP;refine r24 X hX hB f x y z false 0 (by omega) x rfl _ ?_;by_cases hx:x.ok
  · rw[if_pos hx];refine r24 X hX hB f x y z _ 1 (by omega) y rfl _ ?_;by_cases hy:y.ok
    · rw[if_pos hy];refine r24 X hX hB f x y z _ 2 (by omega) z rfl _ ?_;by_cases hz:z.ok
      · rw[if_pos hz,if_pos ⟨hx,hy,hz⟩];have key:=ajp X hX hB f hf x y z hx hy hz (((false||qG x)||qG y)||qG z) (by rw[Bool.false_or,Bool.or_assoc]);have e:(qG x||(qG y||qG z))=(((false||qG x)||qG y)||qG z):=by rw[Bool.false_or,Bool.or_assoc]
        rw[e];exact key
      · rw[if_neg hz,if_neg fun h=>hz h.2.2]
    · rw[if_neg hy,if_neg fun h=>hy h.2.1]
  · rw[if_neg hx,if_neg fun h=>hx h.1])
end
end Go.Skm.Fen
namespace Go.Skm.Fen
open Go Go.Skm
def Qc (n:Int):Int:=n*lS n
theorem afG (n:Int):Qc n=(n.natAbs:Int):=by
 unfold Qc lS;split
 · omega
 · split<;>omega
def Jo:List (List V3)→Int
 | []=>0
 | h::r=>Qc (wH h)+Jo r
def ajq (f:Fen):Int:=Qc (wH f.outer)-Jo f.holes
def Vq (f:Fen):Int × Int:=if lV f then(ajq f,0) else(0,2)
theorem Vs {n m:Int} (h:-m≤n∧n≤m):0≤Qc n∧Qc n≤m:=by rw[afG];omega
theorem Qd {l:List V3} (h:lG l=true):-1000000000000000≤wH l∧wH l≤1000000000000000:=by
 obtain⟨h1,h2,h3⟩:=mG h;unfold wH;have key:∀ es:List AX,(∀ e∈es,qR e.1∧qR e.2)→-(2199023255552*(es.length:Int))≤Vt es∧Vt es≤2199023255552*(es.length:Int):=by
  intro es;induction es with
  | nil=>intro _;simp[Vt]
  | cons e r ih =>intro hk;have b1:=ih fun e' he'=>hk e' (by simp[he']);have b2:=TY (hk e (by simp));simp only[Vt,List.length_cons];unfold Vu;omega
 have b:=key (nC l) (H7 h3 _);rw[uJ]at b;have:(l.length:Int)≤64:=by omega
 omega
theorem Ah {f:Fen} (h:lV f=true):lG f.outer=true∧∀ x∈f.holes,lG x=true:=by
 unfold lV aaQ at h;simp only[qBa,qDa]at h;obtain⟨⟨h1,_⟩,h3,_⟩:=h;refine⟨h1,?_⟩;have:∀ (hs all:List (List V3)),FU f.outer all hs=true→∀ x∈hs,lG x=true:=by
  intro hs;induction hs with
  | nil=>intro _ _ x hx;cases hx
  | cons y r ih =>
   intro all hh x hx;unfold FU aaP at hh;simp only[qBa]at hh;rcases List.mem_cons.1 hx with rfl | hx
   · exact hh.1.1
   · exact ih _ hh.2 x hx
 exact this f.holes [f.outer] h3
section
variable (X:Ext) (hX:Mine X)
include hX
theorem Xy {n:Int} (h:-1000000000000000≤n∧n≤1000000000000000):IntKind.i64.wrap (n*lS n)=Qc n:=by have _:=hX;have:=Vs h;exact wrap_eq (by unfold Qc at this;omega) (by unfold Qc at this;omega)
theorem l16 (hs : List (List V3)) (hh : ∀ h ∈ hs,lG h = true) (hlen : hs.length ≤ 16) : ∀ (r : List (List V3)) (i : Nat) (n : Int),hs.drop i = r → i ≤ hs.length → -((i : Int) * 1000000000000000) ≤ n ∧ n ≤ 1000000000000000 →
    L tab (run tab X) 16 [] [.lp [1,1,1,0,1,0]] (En n (fB hs) ((hs.length:Nat):Int) (i:Int))=some ([.p (.int .i64 (n-Jo r)),.p (.int .i64 0)],[]):=by
  intro r;induction r with
  | nil =>
   intro i n hr hi hn;have hil:i=hs.length:=by have:=congrArg List.length hr;simp at this;omega
   refine dW ?_;rw[PK,SQ (by omega),cond_false,Jo,Int.sub_zero]
  | cons h r ih =>
   intro i n hr hi hn;have hil:i<hs.length:=by have:=congrArg List.length hr;simp at this;omega
   have hv:gh hs i=h:=by show hs.getD i []=h;rw[qLb,← List.head?_drop,hr];rfl
   have hs1:lG h=true:=hh h (hv▸Md hil);obtain⟨s1,s2,s3⟩:=mG hs1;have b:=Qd hs1;have b2:=Vs b;have q:=c47 X hX h (by omega) s3;refine dW ?_;rw[PK,Hw hil,cond_true];simp only[fZ,le0,Hw hil,Bool.and_true,cond_true,Int.toNat_natCast,qZ hs hil,hv,lW (show i≤9000000000000000000 by omega)];show (run tab X 47 [.p (.list true aW (dh h))] []).bind _=_;rw[q,Option.bind_some];show (run tab X 47 [.p (.list true aW (dh h))] []).bind _=_;rw[q,Option.bind_some];simp only[List.headD_cons,dA,toInt_int];rw[c48 X hX,Option.bind_some];simp only[List.headD_cons,dA,toInt_int];rw[Xy X hX b,wrap_eq (by omega) (by omega),Jo,show n-(Qc (wH h)+Jo r)=n-Qc (wH h)-Jo r from by omega];exact ih (i+1) _ (by rw[← List.tail_drop,hr];rfl) (by omega) (by omega)
theorem c16 (f:Fen) (hf:Dh f):run tab X 16 [.p (mF f)] []=some ([.p (.int .i64 (Vq f).1),.p (.int .i64 (Vq f).2)],[]) :=
 bF (hX _ rfl) (by
  have h1:=c18 X hX f hf;rw[mF]at h1;rw[mF,e16,h1,Option.bind_some];simp only[List.headD_cons,dA,bD];unfold Vq;cases hv:lV f with
  | false=>rfl
  | true =>obtain⟨v1,v2⟩:=Ah hv;obtain⟨s1,s2,s3⟩:=mG v1;have b:=Qd v1;have b2:=Vs b;have hn:=(zK hv).2.1;have q:=c47 X hX f.outer (by omega) s3;rw[Bool.not_true,cond_false,q,Option.bind_some,Option.bind_some];simp only[List.headD_cons,dA,toInt_int];rw[c48 X hX,Option.bind_some];simp only[List.headD_cons,dA,toInt_int,fZ];rw[Xy X hX b,if_pos trivial];exact l16 X hX f.holes v2 hn f.holes 0 _ rfl (by omega) (by omega))
theorem c31 (f:Fen):run tab X 31 [.p (mF f)] []=some ([.p (.fn 87 [.ref [.list true aW (dh f.outer),.list false [.slice true aW] (fB f.holes),.int .i64 f.low,.int .i64 f.high]])],[]) :=
 bF (hX _ rfl) (by rw[mF,e31])
end
end Go.Skm.Fen
namespace Go.Skm.Fen
open Go Go.Skm
theorem Xz (a:Int) (g:Nat):(a / (g:Int)).natAbs≤a.natAbs:=by
 rcases Nat.eq_zero_or_pos g with h | h
 · subst h;simp
 · rcases Int.le_total 0 a with ha | ha
   · obtain⟨n,rfl⟩:=Int.eq_ofNat_of_zero_le ha;rw[show ((n:Int) / (g:Int))=((n / g:Nat):Int) from rfl];exact Nat.div_le_self n g
   · have h1:a*1 ≥ a*(g:Int):=Int.mul_le_mul_of_nonpos_left ha (by omega);have h2:=Int.le_ediv_of_mul_le (show (0:Int)<g by omega) (show a*(g:Int)≤a by omega);have h4:a / (g:Int)≤0:=Int.ediv_le_of_le_mul (by omega) (by omega);omega
theorem XA (a b:Int):(Qe a b).natAbs≤a.natAbs:=by
 unfold Qe;rw[Int.natAbs_mul];have h1:b.sign.natAbs≤1:=by
  rcases Int.lt_trichotomy b 0 with h | h | h
  · rw[Int.sign_eq_neg_one_of_neg h];decide
  · subst h;decide
  · rw[Int.sign_eq_one_of_pos h];decide
 calc _≤1*(a / (Int.gcd a b:Int)).natAbs:=Nat.mul_le_mul_right _ h1
  _≤_:=by rw[Nat.one_mul];exact Xz _ _
theorem XB (a b:Int):(OD a b).natAbs≤b.natAbs:=by unfold OD;have:=Xz ((b.natAbs:Nat):Int) (Int.gcd a b);simpa using this
theorem Kt {a b:Int} (h:b≠0):0<OD a b:=by
 unfold OD;have h1:Int.gcd a b ∣ b.natAbs:=Int.gcd_dvd_natAbs_right ..;have h2:0<b.natAbs:=by omega
 have h3:0<Int.gcd a b:=Nat.pos_of_dvd_of_pos h1 h2;have h4:=Nat.div_pos (Nat.le_of_dvd h2 h1) h3;have:((b.natAbs:Nat):Int) / (Int.gcd a b:Int)=((b.natAbs / Int.gcd a b:Nat):Int):=rfl;rw[this];omega
def low (a b:Int):Rt:=⟨Qe a b,OD a b⟩
theorem Qg {a b:Int} (ha:okW a) (hb:okW b) (h0:b≠0):(low a b).ok:=by
 refine⟨?_,?_,Kt h0⟩
 · exact Nat.le_trans (Kr (Nat.lt_of_le_of_lt (XA a b) (IX _))) ha
 · exact Nat.le_trans (Kr (Nat.lt_of_le_of_lt (XB a b) (IX _))) hb
theorem Ku {a b:Int} (ha:okW a) (hb:okW b) (h0:b≠0):OE a b=[.p (sG (low a b)),.p (.int .i64 0)]:=by have h:=Qg ha hb h0;unfold OE;rw[if_pos ⟨h.1,h.2.1⟩];rfl
def vT (a b p:V3):Int:=(b.x-a.x)*(p.x-a.x)+(b.y-a.y)*(p.y-a.y)
def XC (a b p:V3):Int:=(b.x-a.x)*(p.y-a.y)-(b.y-a.y)*(p.x-a.x)
def JL (a b:V3):Int:=vT a b b
def dist (a b p:V3):Rt :=
 if 0<vT a b p∧vT a b p<JL a b then low (XC a b p*XC a b p) (JL a b) else if JL a b≤vT a b p then low (JL b p) 1 else low (JL a p) 1
structure Ds (a b p:V3):Prop where
 dot:-35184372088832≤vT a b p∧vT a b p≤35184372088832
 crs:-35184372088832≤XC a b p∧XC a b p≤35184372088832
theorem tJ {x y:Int} (hx:-2097152≤x∧x≤2097152) (hy:-2097152≤y∧y≤2097152):-4398046511104≤x*y∧x*y≤4398046511104:=by
 have h:(x*y).natAbs≤2097152*2097152:=by rw[Int.natAbs_mul];exact Nat.mul_le_mul (by omega) (by omega)
 omega
theorem xk {a b:V3} (ha:qR a) (hb:qR b):(-2097152≤b.x-a.x∧b.x-a.x≤2097152)∧(-2097152≤b.y-a.y∧b.y-a.y≤2097152):=by obtain⟨a1,a2,_⟩:=ha;obtain⟨b1,b2,_⟩:=hb;omega
theorem ds {a b p:V3} (ha:qR a) (hb:qR b) (hp:qR p):Ds a b p:=by
 obtain⟨x1,y1⟩:=xk ha hb;obtain⟨x2,y2⟩:=xk ha hp;have q1:=tJ x1 x2;have q2:=tJ y1 y2;have q3:=tJ x1 y2;have q4:=tJ y1 x2;constructor
 · unfold vT;omega
 · unfold XC;omega
theorem agK (x:Int):(0:Int)≤x*x:=by
 rcases Int.le_total 0 x with h | h
 · exact Int.mul_nonneg h h
 · exact Int.mul_nonneg_of_nonpos_of_nonpos h h
theorem Ez {a b p:V3} (ha:qR a) (hb:qR b) (hp:qR p):IntKind.i64.wrap ((IntKind.i64.wrap ((IntKind.i64.wrap (b.x-a.x))*(IntKind.i64.wrap (p.x-a.x))))+(IntKind.i64.wrap ((IntKind.i64.wrap (b.y-a.y))*(IntKind.i64.wrap (p.y-a.y)))))=vT a b p:=by obtain⟨x1,y1⟩:=xk ha hb;obtain⟨x2,y2⟩:=xk ha hp;have q1:=tJ x1 x2;have q2:=tJ y1 y2;rw[wrap_eq (x:=b.x-a.x) (by omega) (by omega),wrap_eq (x:=p.x-a.x) (by omega) (by omega),wrap_eq (x:=b.y-a.y) (by omega) (by omega),wrap_eq (x:=p.y-a.y) (by omega) (by omega),wrap_eq (x:=(b.x-a.x)*_) (by omega) (by omega),wrap_eq (x:=(b.y-a.y)*_) (by omega) (by omega),wrap_eq (by omega) (by omega)];rfl
theorem afH {a b p:V3} (ha:qR a) (hb:qR b) (hp:qR p):IntKind.i64.wrap ((IntKind.i64.wrap ((IntKind.i64.wrap (b.x-a.x))*(IntKind.i64.wrap (p.y-a.y))))-(IntKind.i64.wrap ((IntKind.i64.wrap (b.y-a.y))*(IntKind.i64.wrap (p.x-a.x)))))=XC a b p:=by obtain⟨x1,y1⟩:=xk ha hb;obtain⟨x2,y2⟩:=xk ha hp;have q1:=tJ x1 y2;have q2:=tJ y1 x2;rw[wrap_eq (x:=b.x-a.x) (by omega) (by omega),wrap_eq (x:=p.x-a.x) (by omega) (by omega),wrap_eq (x:=b.y-a.y) (by omega) (by omega),wrap_eq (x:=p.y-a.y) (by omega) (by omega),wrap_eq (x:=(b.x-a.x)*_) (by omega) (by omega),wrap_eq (x:=(b.y-a.y)*_) (by omega) (by omega),wrap_eq (by omega) (by omega)];rfl
theorem Qh {n:Int} (h:-35184372088832≤n∧n≤35184372088832):okW n∧okW (n*n):=by have h1:Lt2 46 n:=zL (n:=35184372088832) (by omega) (by decide);exact⟨h1.okW (by omega),(h1.mul h1).okW (by omega)⟩
theorem Vw {a b p:V3} (ha:qR a) (hb:qR b) (hp:qR p):(dist a b p).ok:=by
 have d1:=ds ha hb hp;have one:okW 1:=wI (by decide);unfold dist;split
 · next h=>exact Qg (Qh d1.crs).2 (Qh (ds ha hb hb).dot).1 (by omega)
 · split
   · exact Qg (Qh (ds hb hp hp).dot).1 one (by decide)
   · exact Qg (Qh (ds ha hp hp).dot).1 one (by decide)
theorem Ua (r:Rt):PV.agg [.bool (((sG r).cell 0).toBool),.str (((sG r).cell 1).toStr),.bool (((sG r).cell 2).toBool),.str (((sG r).cell 3).toStr)]=sG r:=rfl
section
variable (X:Ext) (hX:Mine X) (hB:Bits X)
include hX hB
theorem ajr (a b:Int) (ha:okW a) (hb:okW b) (h0:b≠0):run tab X 143 [.p (eW a),.p (eW b)] []=some ([.p (sG (low a b)),.p (.int .i64 0)],[]):=by rw[c143 X hX hB a b ha hb h0,Ku ha hb h0]
theorem adX (a b:Int) (ha:-9223372036854775808≤a∧a≤9223372036854775807) (hb:-9223372036854775808≤b∧b≤9223372036854775807) (h0:b≠0):run tab X 134 [.p (.int .i64 a),.p (.int .i64 b)] []=some ([.p (sG (low a b)),.p (.int .i64 0)],[]):=by rw[anF X hX hB a b ha hb h0,Ku (FX X hX hB ha.1 ha.2) (FX X hX hB hb.1 hb.2) h0]
theorem c90 (a b p:V3) (ha:qR a) (hb:qR b) (hp:qR p):run tab X 90 [.p (dn a),.p (dn b),.p (dn p)] []=some ([.p (sG (dist a b p))],[]) :=
 bF (hX _ rfl) (by
  have d1:=ds ha hb hp;have d2:=ds ha hb hb;have d3:=ds hb hp hp;have d4:=ds ha hp hp;have q3:=adX X hX hB (JL b p) 1 (by have:=d3.dot;unfold JL;omega) (by omega) (by decide);have q4:=adX X hX hB (JL a p) 1 (by have:=d4.dot;unfold JL;omega) (by omega) (by decide);have e1:∀ v:V3,IntKind.i64.wrap v.x=IntKind.i64.wrap v.x:=fun _=>rfl;rw[dn,dn,dn,e90,Ez ha hb hp,Ez ha hb hb,Ez hb hp hp,Ez ha hp hp,afH ha hb hp];rw[show vT a b b=JL a b from rfl,show vT b p p=JL b p from rfl,show vT a p p=JL a p from rfl,q3,q4];have b2:=d2.dot;rw[show vT a b b=JL a b from rfl]at b2;simp only[Option.bind_some,List.headD_cons,dA,Ua];unfold dist;by_cases h1:0<vT a b p
  · rw[show kX (vT a b p) 0=true from decide_eq_true h1,cond_true];by_cases h2:vT a b p<JL a b
    · have o1:=Qh d1.crs;have o2:=Qh b2;have m:=c138 X hX hB (XC a b p) (XC a b p) o1.1 o1.1;rw[FV,if_pos o1.2]at m;rw[show dG (vT a b p) (JL a b)=true from decide_eq_true h2,cond_true,if_pos ⟨h1,h2⟩];rw[YW X hX hB _ (by have:=d1.crs;omega) (by have:=d1.crs;omega),Option.bind_some];simp only[List.headD_cons,dA,jg];rw[m,Option.bind_some,YW X hX hB _ (by omega) (by omega),Option.bind_some];simp only[List.headD_cons,dA,jg];rw[ajr X hX hB _ _ o1.2 o2.1 (by omega)];rfl
    · rw[show dG (vT a b p) (JL a b)=false from decide_eq_false h2,cond_false,if_neg fun h=>h2 h.2,show yH (vT a b p) (JL a b)=true from decide_eq_true (by omega),cond_true,if_pos (by omega)]
  · rw[show kX (vT a b p) 0=false from decide_eq_false h1,cond_false,if_neg fun h=>h1 h.1];by_cases h2:JL a b≤vT a b p
    · rw[show yH (vT a b p) (JL a b)=true from decide_eq_true h2,cond_true,if_pos h2]
    · rw[show yH (vT a b p) (JL a b)=false from decide_eq_false h2,cond_false,if_neg h2])
end
end Go.Skm.Fen
