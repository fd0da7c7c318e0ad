/-
  The points of rings and ain, by the program (which gives them one by one, and looks one step further) and by the document; condition: shapes that are valid.
-/
import Derived.Test.YtipkmkmngcjdbaaGreatDoorF9
namespace Go.Skm.Fig
open Go Go.Skm
def Hg (n r:Int):Bool:=decide (r*r-r≤n)&&decide (n≤r*r+r)
def sPt (s:Sh) (i j k:Int):V3 :=
 if s.p=1 then⟨(at_ s.c 0).x+i*s.s,(at_ s.c 0).y,(at_ s.c 0).z+j*s.s⟩
 else if s.p=2 then⟨(at_ s.c 0).x,(at_ s.c 0).y+i*s.s,(at_ s.c 0).z+j*s.s⟩
 else⟨(at_ s.c 0).x+i*s.s,(at_ s.c 0).y+j*s.s,(at_ s.c 0).z+k*s.s⟩
def kC (s:Sh) (i j k:Int):List V3:=if Hg (i*i+j*j+k*k) s.r then [sPt s i j k] else []
def kF (s:Sh) (i j:Int):Nat→Int→List V3
 | 0,_=>[]
 | n+1,k=>kC s i j k++kF s i j n (k+1)
def jF (s:Sh) (d i:Int):Nat→Int→List V3
 | 0,_=>[]
 | n+1,j=>kF s i j (2*d+1).toNat (-d)++jF s d i n (j+1)
def iF (s:Sh) (d R:Int):Nat→Int→List V3
 | 0,_=>[]
 | n+1,i=>jF s d i (2*R+1).toNat (-R)++iF s d R n (i+1)
def OU (s:Sh) (d R:Int):List V3:=iF s d R (2*R+1).toNat (-R)
structure WM (s:Sh):Prop where
 len:s.c.length=1
 c:vU (at_ s.c 0)=true
 kd:s.k=4∨s.k=5
 r:1≤s.r∧s.r≤50
 st:1≤s.s∧s.s≤10000
 pl:0≤s.p∧s.p≤2
 p5:s.k=5→s.p=0
def dR (s:Sh):Int:=if s.k=5 then s.r else 0
def dP (s:Sh):Int:=if s.k=5 then s.r+1 else 0
def JD (s:Sh):List V3:=OU s (dR s) s.r
theorem YH {a b:Int} (h0:0≤b) (h:b≤a∨a≤-b):b*b≤a*a:=by
 rcases h with h | h
 · exact Int.mul_le_mul h h h0 (by omega)
 · have:=Int.mul_le_mul (show b≤-a by omega) (show b≤-a by omega) h0 (by omega)
   rwa[Int.neg_mul_neg]at this
theorem TK {s:Sh} (h:1≤s.r) {i j k:Int} (hf:s.r+1≤i∨i≤-(s.r+1)∨s.r+1≤j∨j≤-(s.r+1)∨s.r+1≤k∨k≤-(s.r+1)):kC s i j k=[]:=by
 have h1:=Vq i
 have h2:=Vq j
 have h3:=Vq k
 have e:(s.r+1)*(s.r+1)=s.r*s.r+2*s.r+1:=by rw[Int.add_mul,Int.mul_add,Int.one_mul];omega
 have:¬ (i*i+j*j+k*k≤s.r*s.r+s.r):=by
  by_cases a:s.r+1≤i∨i≤-(s.r+1)
  · have:=YH (show 0≤s.r+1 by omega) a;omega
  by_cases b:s.r+1≤j∨j≤-(s.r+1)
  · have:=YH (show 0≤s.r+1 by omega) b;omega
  · have:=YH (a:=k) (show 0≤s.r+1 by omega) (by omega);omega
 unfold kC Hg
 rw[decide_eq_false this,Bool.and_false];rfl
theorem Vr (s:Sh) (i j:Int):∀ (n:Nat) (a:Int),kF s i j (n+1) a=kF s i j n a++kC s i j (a+n)
 | 0,a=>by simp[kF]
 | n+1,a=>by
  show kC s i j a++kF s i j (n+1) (a+1)=(kC s i j a++kF s i j n (a+1))++_
  rw[Vr s i j n (a+1),List.append_assoc,show a+1+(n:Int)=a+((n+1:Nat):Int) by omega]
theorem Vs (s:Sh) (d i:Int):∀ n a,jF s d i (n+1) a=jF s d i n a++kF s i (a+n) (2*d+1).toNat (-d)
 | 0,a=>by simp[jF]
 | n+1,a=>by
  show kF s i a _ _++jF s d i (n+1) (a+1)=(kF s i a _ _++jF s d i n (a+1))++_
  rw[Vs s d i n (a+1),List.append_assoc,show a+1+(n:Int)=a+((n+1:Nat):Int) by omega]
theorem Vt (s:Sh) (d R:Int):∀ n a,iF s d R (n+1) a=iF s d R n a++jF s d (a+n) (2*R+1).toNat (-R)
 | 0,a=>by simp[iF]
 | n+1,a=>by
  show jF s d a _ _++iF s d R (n+1) (a+1)=(jF s d a _ _++iF s d R n (a+1))++_
  rw[Vt s d R n (a+1),List.append_assoc,show a+1+(n:Int)=a+((n+1:Nat):Int) by omega]
theorem OV {s:Sh} (h:1≤s.r) {i j:Int} (hf:s.r+1≤i∨i≤-(s.r+1)∨s.r+1≤j∨j≤-(s.r+1)):∀ n a,kF s i j n a=[]
 | 0,_=>rfl
 | n+1,a=>by
  show kC s i j a++kF s i j n (a+1)=[]
  rw[TK h (by omega),OV h hf n (a+1)];rfl
theorem TL {s:Sh} (h:1≤s.r) {d i:Int} (hf:s.r+1≤i∨i≤-(s.r+1)):∀ n a,jF s d i n a=[]
 | 0,_=>rfl
 | n+1,a=>by
  show kF s i a _ _++jF s d i n (a+1)=[]
  rw[OV h (by omega),TL h hf n (a+1)];rfl
theorem aaC {s:Sh} (h:WM s) (i j:Int):kF s i j (2*dP s+1).toNat (-(dP s))=kF s i j (2*dR s+1).toNat (-(dR s)):=by
 have hr:=h.r
 unfold dP dR
 by_cases h5:s.k=5
 · rw[if_pos h5,if_pos h5]
   obtain⟨n,hn⟩:∃ n:Nat,(2*s.r+1).toNat=n:=⟨_,rfl⟩
   rw[hn,show (2*(s.r+1)+1).toNat=n+1+1 by omega,Vr]
   show (kC s i j _++kF s i j n _)++_=_
   rw[TK hr.1 (by omega),TK hr.1 (by omega),List.nil_append,List.append_nil,show -(s.r+1)+1=-s.r by omega]
 · rw[if_neg h5,if_neg h5]
theorem Vu {s:Sh} (h:WM s) (i:Int):∀ n a,jF s (dP s) i n a=jF s (dR s) i n a
 | 0,_=>rfl
 | n+1,a=>by
  show kF s i a _ _++jF s (dP s) i n (a+1)=kF s i a _ _++jF s (dR s) i n (a+1)
  rw[aaC h,Vu h i n (a+1)]
theorem aaD {s:Sh} (h:WM s) (i:Int):jF s (dP s) i (2*(s.r+1)+1).toNat (-(s.r+1))=jF s (dR s) i (2*s.r+1).toNat (-s.r):=by
 have hr:=h.r
 obtain⟨n,hn⟩:∃ n:Nat,(2*s.r+1).toNat=n:=⟨_,rfl⟩
 rw[Vu h,hn,show (2*(s.r+1)+1).toNat=n+1+1 by omega,Vs]
 show (kF s i _ _ _++jF s (dR s) i n _)++_=_
 rw[OV hr.1 (by omega),OV hr.1 (by omega),List.nil_append,List.append_nil,show -(s.r+1)+1=-s.r by omega]
theorem Vw {s:Sh} (h:WM s):∀ n a,iF s (dP s) (s.r+1) n a=iF s (dR s) s.r n a
 | 0,_=>rfl
 | n+1,a=>by
  show jF s (dP s) a _ _++iF s (dP s) (s.r+1) n (a+1)=jF s (dR s) a _ _++iF s (dR s) s.r n (a+1)
  rw[aaD h,Vw h n (a+1)]
theorem YI {s:Sh} (h:WM s):OU s (dP s) (s.r+1)=JD s:=by
 have hr:=h.r
 unfold JD OU
 rw[Vw h]
 obtain⟨n,hn⟩:∃ n:Nat,(2*s.r+1).toNat=n:=⟨_,rfl⟩
 rw[hn,show (2*(s.r+1)+1).toNat=n+1+1 by omega,Vt]
 show (jF s (dR s) _ _ _++iF s (dR s) s.r n _)++_=_
 rw[TL hr.1 (by omega),TL hr.1 (by omega),List.nil_append,List.append_nil,show -(s.r+1)+1=-s.r by omega]
theorem sqw {i:Int} (h:-51≤i∧i≤51):0≤i*i∧i*i≤2601:=⟨Vq i,(acj (a:=i) (b:=i) (m:=51) (n:=51) h h).2⟩
theorem ad7 {i j k : Int} (hi : -51 ≤ i ∧ i ≤ 51) (hj : -51 ≤ j ∧ j ≤ 51) (hk : -51 ≤ k ∧ k ≤ 51) :
    IntKind.i64.wrap ((IntKind.i64.wrap ((IntKind.i64.wrap (i*i))+(IntKind.i64.wrap (j*j))))+(IntKind.i64.wrap (k*k)))=i*i+j*j+k*k:=by
  have h1:=sqw hi
  have h2:=sqw hj
  have h3:=sqw hk
  rw[wrap_eq (x:=i*i) (by omega) (by omega),wrap_eq (x:=j*j) (by omega) (by omega),wrap_eq (x:=k*k) (by omega) (by omega),wrap_eq (x:=i*i+j*j) (by omega) (by omega),wrap_eq (by omega) (by omega)]
theorem aaE {r:Int} (h:1≤r∧r≤50):IntKind.i64.wrap ((IntKind.i64.wrap (r*r))-r)=r*r-r∧IntKind.i64.wrap ((IntKind.i64.wrap (r*r))+r)=r*r+r:=by
 have h1:=sqw (i:=r) (by omega)
 rw[wrap_eq (x:=r*r) (by omega) (by omega),wrap_eq (by omega) (by omega),wrap_eq (by omega) (by omega)]
 exact⟨rfl,rfl⟩
theorem stw {i s:Int} (hi:-51≤i∧i≤51) (hs:1≤s∧s≤10000):-510000≤i*s∧i*s≤510000∧IntKind.i64.wrap (i*s)=i*s:=by
 have:=acj (a:=i) (b:=s) (m:=51) (n:=10000) hi (by omega)
 exact⟨by omega,by omega,wrap_eq (by omega) (by omega)⟩
theorem cw {c i s:Int} (hc:-1048576≤c∧c≤1048576) (hi:-51≤i∧i≤51) (hs:1≤s∧s≤10000):IntKind.i64.wrap (c+IntKind.i64.wrap (i*s))=c+i*s:=by
 have h:=stw hi hs
 rw[h.2.2,wrap_eq (by omega) (by omega)]
theorem cw0 {c:Int} (hc:-1048576≤c∧c≤1048576):IntKind.i64.wrap (c+0)=c:=by
 rw[wrap_eq (by omega) (by omega),Int.add_zero]
section
variable (X:Ext)
theorem ad8 (s : Sh) (hs : WM s) (d i j : Int) (hd : 0 ≤ d ∧ d ≤ 51) (hi : -51 ≤ i ∧ i ≤ 51) (hj : -51 ≤ j ∧ j ≤ 51) (r : List AV × List aI) : ∀ (n : Nat) (k : Int) (pre : List V3),k + (n : Int) = d + 1 → -51 ≤ k →
    L tab (run tab X) 95 [.log true []] [.lp [1,1,1,1,0],.lp [1,0,0,1,0]] (iq s.k (bJ s.c) s.m s.r s.s s.p s.r (at_ s.c 0).x (at_ s.c 0).y (at_ s.c 0).z d i (j+1) (lg (pre++kF s i j n k)))=some r →
    L tab (run tab X) 95 [.log true []] [.lp [1,1,1,1,0],.lp [1,0,0,1,0],.lp [1,0,0,1,0]] (bD s.k (bJ s.c) s.m s.r s.s s.p s.r (at_ s.c 0).x (at_ s.c 0).y (at_ s.c 0).z d i j k (lg pre))=some r:=by
  obtain⟨hlen,hc,hk,hr,hst,hp,hp5⟩:=hs
  have hc:=ED.1 hc
  intro n
  induction n with
  | zero =>
   intro k pre hkn _ h
   refine dQ ?_
   rw[nS]
   refine bM (by omega) ?_
   rw[wrap_eq (x:=j+1) (by omega) (by omega)]
   simpa [kF] using h
  | succ n ih =>
   intro k pre hkn hk0 h
   have hkb:-51≤k∧k≤51:=by omega
   have h':=h
   have ek:kF s i j (n+1) k=kC s i j k++kF s i j n (k+1):=rfl
   rw[ek,← List.append_assoc]at h
   refine dQ ?_
   rw[nS,ad7 hi hj hkb,(aaE hr).1,(aaE hr).2,wrap_eq (x:=k+1) (by omega) (by omega)]
   refine bT (by omega) ?_
   by_cases h1:i*i+j*j+k*k<s.r*s.r-s.r
   · refine bT h1 ?_
     have:kC s i j k=[]:=by unfold kC Hg;rw[decide_eq_false (show ¬ (s.r*s.r-s.r≤i*i+j*j+k*k) by omega)];rfl
     rw[this,List.append_nil]at h
     exact ih (k+1) pre (by omega) (by omega) h
   refine bM h1 ?_
   by_cases h2:i*i+j*j+k*k > s.r*s.r+s.r
   · refine bT h2 ?_
     have:kC s i j k=[]:=by unfold kC Hg;rw[decide_eq_false (show ¬ (i*i+j*j+k*k≤s.r*s.r+s.r) by omega),Bool.and_false];rfl
     rw[this,List.append_nil]at h
     exact ih (k+1) pre (by omega) (by omega) h
   refine bM h2 ?_
   have e:kC s i j k=[sPt s i j k]:=by unfold kC Hg;rw[decide_eq_true (show s.r*s.r-s.r≤i*i+j*j+k*k by omega),decide_eq_true (show i*i+j*j+k*k≤s.r*s.r+s.r by omega)];rfl
   rw[e]at h
   have hh:=ih (k+1) (pre++[sPt s i j k]) (by omega) (by omega) h
   rw[← xU pre (sPt s i j k)]at hh
   unfold sPt at hh
   by_cases q1:s.p=1
   · refine ou q1 ?_
     rw[cw hc.1 hi hst,cw0 hc.2.1,cw hc.2.2 hj hst]
     rw[if_pos q1]at hh
     exact hh
   refine pU q1 ?_
   by_cases q2:s.p=2
   · refine ou q2 ?_
     rw[cw0 hc.1,cw hc.2.1 hi hst,cw hc.2.2 hj hst]
     rw[if_neg q1,if_pos q2]at hh
     exact hh
   refine pU q2 ?_
   rw[cw hc.1 hi hst,cw hc.2.1 hj hst,cw hc.2.2 hkb hst]
   rw[if_neg q1,if_neg q2]at hh
   exact hh
theorem ad9 (s : Sh) (hs : WM s) (d i j : Int) (hd : 0 ≤ d ∧ d ≤ 51) (hi : -51 ≤ i ∧ i ≤ 51) (hj : -51 ≤ j ∧ j ≤ 51) (r : List AV × List aI) : ∀ (n : Nat) (k : Int) (pre : List V3),k + (n : Int) = d + 1 → -51 ≤ k →
    L tab (run tab X) 95 [.log true []] [.lp [1,1,1,1,0],.lp [1,0,0,1,0]] (lQ s.k (bJ s.c) s.m s.r s.s s.p s.r d i (j+1) (lg (pre++kF s i j n k)) (at_ s.c 0).x (at_ s.c 0).y (at_ s.c 0).z)=some r →
    L tab (run tab X) 95 [.log true []] [.lp [1,1,1,1,0],.lp [1,0,0,1,0]] (iq s.k (bJ s.c) s.m s.r s.s s.p s.r (at_ s.c 0).x (at_ s.c 0).y (at_ s.c 0).z d i (j+1) (lg (pre++kF s i j n k)))=some r →
    L tab (run tab X) 95 [.log true []] [.lp [1,1,1,1,0],.lp [1,0,0,1,0],.lp [1,0,0,1,0]] (ig s.k (bJ s.c) s.m s.r s.s s.p s.r d i j k (lg pre) (at_ s.c 0).x (at_ s.c 0).y (at_ s.c 0).z)=some r:=by
  have hs':=hs
  obtain⟨hlen,hc,hk,hr,hst,hp,hp5⟩:=hs
  have hc:=ED.1 hc
  intro n
  induction n with
  | zero =>
   intro k pre hkn _ h _
   refine dQ ?_
   rw[qF]
   refine bM (by omega) ?_
   rw[wrap_eq (x:=j+1) (by omega) (by omega)]
   simpa [kF] using h
  | succ n ih =>
   intro k pre hkn hk0 hN h
   have hkb:-51≤k∧k≤51:=by omega
   have ek:kF s i j (n+1) k=kC s i j k++kF s i j n (k+1):=rfl
   rw[ek,← List.append_assoc]at h hN
   refine dQ ?_
   rw[qF,ad7 hi hj hkb,(aaE hr).1,(aaE hr).2,wrap_eq (x:=k+1) (by omega) (by omega)]
   refine bT (by omega) ?_
   by_cases h1:i*i+j*j+k*k<s.r*s.r-s.r
   · refine bT h1 ?_
     have:kC s i j k=[]:=by unfold kC Hg;rw[decide_eq_false (show ¬ (s.r*s.r-s.r≤i*i+j*j+k*k) by omega)];rfl
     rw[this,List.append_nil]at h hN
     exact ih (k+1) pre (by omega) (by omega) hN h
   refine bM h1 ?_
   by_cases h2:i*i+j*j+k*k > s.r*s.r+s.r
   · refine bT h2 ?_
     have:kC s i j k=[]:=by unfold kC Hg;rw[decide_eq_false (show ¬ (i*i+j*j+k*k≤s.r*s.r+s.r) by omega),Bool.and_false];rfl
     rw[this,List.append_nil]at h hN
     exact ih (k+1) pre (by omega) (by omega) hN h
   refine bM h2 ?_
   have e:kC s i j k=[sPt s i j k]:=by unfold kC Hg;rw[decide_eq_true (show s.r*s.r-s.r≤i*i+j*j+k*k by omega),decide_eq_true (show i*i+j*j+k*k≤s.r*s.r+s.r by omega)];rfl
   rw[e]at h
   have hh:=ad8 X s hs' d i j hd hi hj r n (k+1) (pre++[sPt s i j k]) (by omega) (by omega) h
   rw[← xU pre (sPt s i j k)]at hh
   unfold sPt at hh
   by_cases q1:s.p=1
   · refine ou q1 ?_
     rw[cw hc.1 hi hst,cw0 hc.2.1,cw hc.2.2 hj hst]
     rw[if_pos q1]at hh
     exact hh
   refine pU q1 ?_
   by_cases q2:s.p=2
   · refine ou q2 ?_
     rw[cw0 hc.1,cw hc.2.1 hi hst,cw hc.2.2 hj hst]
     rw[if_neg q1,if_pos q2]at hh
     exact hh
   refine pU q2 ?_
   rw[cw hc.1 hi hst,cw hc.2.1 hj hst,cw hc.2.2 hkb hst]
   rw[if_neg q1,if_neg q2]at hh
   exact hh
theorem aea (s : Sh) (hs : WM s) (d i : Int) (hd : 0 ≤ d ∧ d ≤ 51) (hi : -51 ≤ i ∧ i ≤ 51) (r : List AV × List aI) : ∀ (n : Nat) (j : Int) (pre : List V3),j + (n : Int) = s.r + 2 → -51 ≤ j →
    L tab (run tab X) 95 [.log true []] [.lp [1,1,1,1,0]] (pR s.k (bJ s.c) s.m s.r s.s s.p s.r (at_ s.c 0).x (at_ s.c 0).y (at_ s.c 0).z d (i+1) (lg (pre++jF s d i n j)))=some r →
    L tab (run tab X) 95 [.log true []] [.lp [1,1,1,1,0],.lp [1,0,0,1,0]] (iq s.k (bJ s.c) s.m s.r s.s s.p s.r (at_ s.c 0).x (at_ s.c 0).y (at_ s.c 0).z d i j (lg pre))=some r:=by
  have hr:=hs.r
  intro n
  induction n with
  | zero =>
   intro j pre hjn _ h
   refine dQ ?_
   rw[uT,wrap_eq (x:=s.r+1) (by omega) (by omega),wrap_eq (x:=i+1) (by omega) (by omega)]
   refine bM (by omega) ?_
   simpa [jF] using h
  | succ n ih =>
   intro j pre hjn hj0 h
   have ej:jF s d i (n+1) j=kF s i j (2*d+1).toNat (-d)++jF s d i n (j+1):=rfl
   rw[ej,← List.append_assoc]at h
   refine dQ ?_
   rw[uT,wrap_eq (x:=s.r+1) (by omega) (by omega),wrap_eq (x:=0-d) (by omega) (by omega),Int.zero_sub]
   refine bT (by omega) ?_
   exact ad8 X s hs d i j hd hi (by omega) r (2*d+1).toNat (-d) pre (by omega) (by omega) (ih (j+1) _ (by omega) (by omega) h)
theorem aeb (s : Sh) (hs : WM s) (d i : Int) (hd : 0 ≤ d ∧ d ≤ 51) (hi : -51 ≤ i ∧ i ≤ 51) (r : List AV × List aI) : ∀ (n : Nat) (j : Int) (pre : List V3),j + (n : Int) = s.r + 2 → -51 ≤ j →
    L tab (run tab X) 95 [.log true []] [.lp [1,1,1,1,0]] (uw s.k (bJ s.c) s.m s.r s.s s.p s.r d (i+1) (lg (pre++jF s d i n j)) (at_ s.c 0).x (at_ s.c 0).y (at_ s.c 0).z)=some r →
    L tab (run tab X) 95 [.log true []] [.lp [1,1,1,1,0]] (pR s.k (bJ s.c) s.m s.r s.s s.p s.r (at_ s.c 0).x (at_ s.c 0).y (at_ s.c 0).z d (i+1) (lg (pre++jF s d i n j)))=some r →
    L tab (run tab X) 95 [.log true []] [.lp [1,1,1,1,0],.lp [1,0,0,1,0]] (lQ s.k (bJ s.c) s.m s.r s.s s.p s.r d i j (lg pre) (at_ s.c 0).x (at_ s.c 0).y (at_ s.c 0).z)=some r:=by
  have hr:=hs.r
  intro n
  induction n with
  | zero =>
   intro j pre hjn _ h _
   refine dQ ?_
   rw[zy,wrap_eq (x:=s.r+1) (by omega) (by omega),wrap_eq (x:=i+1) (by omega) (by omega)]
   refine bM (by omega) ?_
   simpa [jF] using h
  | succ n ih =>
   intro j pre hjn hj0 hN h
   have ej:jF s d i (n+1) j=kF s i j (2*d+1).toNat (-d)++jF s d i n (j+1):=rfl
   rw[ej,← List.append_assoc]at h hN
   refine dQ ?_
   rw[zy,wrap_eq (x:=s.r+1) (by omega) (by omega),wrap_eq (x:=0-d) (by omega) (by omega),Int.zero_sub]
   refine bT (by omega) ?_
   exact ad9 X s hs d i j hd hi (by omega) r (2*d+1).toNat (-d) pre (by omega) (by omega) (ih (j+1) _ (by omega) (by omega) hN h) (aea X s hs d i hd hi r n (j+1) _ (by omega) (by omega) h)
theorem aiT (s : Sh) (hs : WM s) (d : Int) (hd : 0 ≤ d ∧ d ≤ 51) : ∀ (n : Nat) (i : Int) (pre : List V3),i + (n : Int) = s.r + 2 → -51 ≤ i →
    L tab (run tab X) 95 [.log true []] [.lp [1,1,1,1,0]] (pR s.k (bJ s.c) s.m s.r s.s s.p s.r (at_ s.c 0).x (at_ s.c 0).y (at_ s.c 0).z d i (lg pre))=some ([],[.log true (lg (pre++iF s d (s.r+1) n i))]):=by
  have hr:=hs.r
  intro n
  induction n with
  | zero =>
   intro i pre hin _
   refine dQ ?_
   rw[Ez,wrap_eq (x:=s.r+1) (by omega) (by omega)]
   refine bM (by omega) ?_
   simp[iF]
  | succ n ih =>
   intro i pre hin hi0
   refine dQ ?_
   rw[Ez,wrap_eq (x:=s.r+1) (by omega) (by omega),wrap_eq (x:=0-s.r) (by omega) (by omega),wrap_eq (x:=0-s.r-1) (by omega) (by omega),show 0-s.r-1=-(s.r+1) by omega]
   refine bT (by omega) ?_
   refine aea X s hs d i hd (by omega) _ (2*(s.r+1)+1).toNat (-(s.r+1)) pre (by omega) (by omega) ?_
   rw[ih (i+1) _ (by omega) (by omega),List.append_assoc];rfl
theorem abr (s : Sh) (hs : WM s) (d : Int) (hd : 0 ≤ d ∧ d ≤ 51) : ∀ (n : Nat) (i : Int) (pre : List V3),i + (n : Int) = s.r + 2 → -51 ≤ i →
    L tab (run tab X) 95 [.log true []] [.lp [1,1,1,1,0]] (uw s.k (bJ s.c) s.m s.r s.s s.p s.r d i (lg pre) (at_ s.c 0).x (at_ s.c 0).y (at_ s.c 0).z)=some ([],[.log true (lg (pre++iF s d (s.r+1) n i))]):=by
  have hr:=hs.r
  intro n
  induction n with
  | zero =>
   intro i pre hin _
   refine dQ ?_
   rw[Nl,wrap_eq (x:=s.r+1) (by omega) (by omega)]
   refine bM (by omega) ?_
   simp[iF]
  | succ n ih =>
   intro i pre hin hi0
   refine dQ ?_
   rw[Nl,wrap_eq (x:=s.r+1) (by omega) (by omega),wrap_eq (x:=0-s.r) (by omega) (by omega),wrap_eq (x:=0-s.r-1) (by omega) (by omega),show 0-s.r-1=-(s.r+1) by omega]
   refine bT (by omega) ?_
   refine aeb X s hs d i hd (by omega) _ (2*(s.r+1)+1).toNat (-(s.r+1)) pre (by omega) (by omega) ?_ ?_
   · rw[ih (i+1) _ (by omega) (by omega),List.append_assoc];rfl
   · rw[aiT X s hs d hd n (i+1) _ (by omega) (by omega),List.append_assoc];rfl
theorem c95 (hX:Mine X) (s:Sh) (hs:WM s):run tab X 95 [.sJ,.p (.ref [.int .i64 s.k,.list true kV (bJ s.c),.int .i64 s.m,.int .i64 s.r,.int .i64 s.s,.int .i64 s.p])] [.log true []]=some ([],[.log true (lg (JD s))]) :=
 bK (hX _ rfl) (by
  have hr:=hs.r
  have hl:=hs.len
  rw[e95,aQ]
  refine bT (by omega) ?_
  rw[wrap_eq (x:=s.r+1) (by omega) (by omega),wrap_eq (x:=0-s.r) (by omega) (by omega),wrap_eq (x:=0-s.r-1) (by omega) (by omega),show 0-s.r-1=-(s.r+1) by omega]
  simp only[pV,pW,pX]
  rw[← YI hs]
  unfold OU dP
  by_cases h5:s.k=5
  · refine ou h5 ?_
    rw[if_pos h5]
    exact abr X s hs (s.r+1) (by omega) (2*(s.r+1)+1).toNat (-(s.r+1)) [] (by omega) (by omega)
  · refine pU h5 ?_
    rw[if_neg h5]
    exact abr X s hs 0 (by omega) (2*(s.r+1)+1).toNat (-(s.r+1)) [] (by omega) (by omega))
end
section
variable (X:Ext) (hX:Mine X)
include hX
end
end Go.Skm.Fig
