/-
  The points of rings and spheres, by the program (which gives them one by one, and looks one step further) and by the document; condition: shapes that are valid.
-/
import Derived.Test.YtipkmkmngcjdbaaGreatDoorF9
namespace Go.Skm.Fig
open Go Go.Skm
def nearB (n r:Int):Bool:=decide (r*r-r≤n)&&decide (n≤r*r+r)
def sPt (s:Sh) (i j k:Int):V3 :=
 if s.p=1 then⟨(at_ s.c 0).x+i*s.s,(at_ s.c 0).y,(at_ s.c 0).z+j*s.s⟩
 else if s.p=2 then⟨(at_ s.c 0).x,(at_ s.c 0).y+i*s.s,(at_ s.c 0).z+j*s.s⟩
 else⟨(at_ s.c 0).x+i*s.s,(at_ s.c 0).y+j*s.s,(at_ s.c 0).z+k*s.s⟩
def kC (s:Sh) (i j k:Int):List V3:=if nearB (i*i+j*j+k*k) s.r then [sPt s i j k] else []
def kF (s:Sh) (i j:Int):Nat→Int→List V3
 | 0,_=>[]
 | n+1,k=>kC s i j k++kF s i j n (k+1)
def jF (s:Sh) (d i:Int):Nat→Int→List V3
 | 0,_=>[]
 | n+1,j=>kF s i j (2*d+1).toNat (-d)++jF s d i n (j+1)
def iF (s:Sh) (d R:Int):Nat→Int→List V3
 | 0,_=>[]
 | n+1,i=>jF s d i (2*R+1).toNat (-R)++iF s d R n (i+1)
def shellF (s:Sh) (d R:Int):List V3:=iF s d R (2*R+1).toNat (-R)
structure Rou (s:Sh):Prop where
 len:s.c.length=1
 c:pnt (at_ s.c 0)=true
 kd:s.k=4∨s.k=5
 r:1≤s.r∧s.r≤50
 st:1≤s.s∧s.s≤10000
 pl:0≤s.p∧s.p≤2
 p5:s.k=5→s.p=0
def dR (s:Sh):Int:=if s.k=5 then s.r else 0
def dP (s:Sh):Int:=if s.k=5 then s.r+1 else 0
def shellP (s:Sh):List V3:=shellF s (dR s) s.r
theorem sq_ge {a b:Int} (h0:0≤b) (h:b≤a∨a≤-b):b*b≤a*a:=by
 rcases h with h | h
 · exact Int.mul_le_mul h h h0 (by omega)
 · have:=Int.mul_le_mul (show b≤-a by omega) (show b≤-a by omega) h0 (by omega)
   rwa[Int.neg_mul_neg]at this
theorem kC_far {s:Sh} (h:1≤s.r) {i j k:Int} (hf:s.r+1≤i∨i≤-(s.r+1)∨s.r+1≤j∨j≤-(s.r+1)∨s.r+1≤k∨k≤-(s.r+1)):kC s i j k=[]:=by
 have h1:=sq_nn i
 have h2:=sq_nn j
 have h3:=sq_nn k
 have e:(s.r+1)*(s.r+1)=s.r*s.r+2*s.r+1:=by rw[Int.add_mul,Int.mul_add,Int.one_mul];omega
 have:¬ (i*i+j*j+k*k≤s.r*s.r+s.r):=by
  by_cases a:s.r+1≤i∨i≤-(s.r+1)
  · have:=sq_ge (show 0≤s.r+1 by omega) a;omega
  by_cases b:s.r+1≤j∨j≤-(s.r+1)
  · have:=sq_ge (show 0≤s.r+1 by omega) b;omega
  · have:=sq_ge (a:=k) (show 0≤s.r+1 by omega) (by omega);omega
 unfold kC nearB
 rw[decide_eq_false this,Bool.and_false];rfl
theorem kF_snoc (s:Sh) (i j:Int):∀ (n:Nat) (a:Int),kF s i j (n+1) a=kF s i j n a++kC s i j (a+n)
 | 0,a=>by simp[kF]
 | n+1,a=>by
  show kC s i j a++kF s i j (n+1) (a+1)=(kC s i j a++kF s i j n (a+1))++_
  rw[kF_snoc s i j n (a+1),List.append_assoc,show a+1+(n:Int)=a+((n+1:Nat):Int) by omega]
theorem jF_snoc (s:Sh) (d i:Int):∀ n a,jF s d i (n+1) a=jF s d i n a++kF s i (a+n) (2*d+1).toNat (-d)
 | 0,a=>by simp[jF]
 | n+1,a=>by
  show kF s i a _ _++jF s d i (n+1) (a+1)=(kF s i a _ _++jF s d i n (a+1))++_
  rw[jF_snoc s d i n (a+1),List.append_assoc,show a+1+(n:Int)=a+((n+1:Nat):Int) by omega]
theorem iF_snoc (s:Sh) (d R:Int):∀ n a,iF s d R (n+1) a=iF s d R n a++jF s d (a+n) (2*R+1).toNat (-R)
 | 0,a=>by simp[iF]
 | n+1,a=>by
  show jF s d a _ _++iF s d R (n+1) (a+1)=(jF s d a _ _++iF s d R n (a+1))++_
  rw[iF_snoc s d R n (a+1),List.append_assoc,show a+1+(n:Int)=a+((n+1:Nat):Int) by omega]
theorem kF_far {s:Sh} (h:1≤s.r) {i j:Int} (hf:s.r+1≤i∨i≤-(s.r+1)∨s.r+1≤j∨j≤-(s.r+1)):∀ n a,kF s i j n a=[]
 | 0,_=>rfl
 | n+1,a=>by
  show kC s i j a++kF s i j n (a+1)=[]
  rw[kC_far h (by omega),kF_far h hf n (a+1)];rfl
theorem jF_far {s:Sh} (h:1≤s.r) {d i:Int} (hf:s.r+1≤i∨i≤-(s.r+1)):∀ n a,jF s d i n a=[]
 | 0,_=>rfl
 | n+1,a=>by
  show kF s i a _ _++jF s d i n (a+1)=[]
  rw[kF_far h (by omega),jF_far h hf n (a+1)];rfl
theorem kF_trim {s:Sh} (h:Rou s) (i j:Int):kF s i j (2*dP s+1).toNat (-(dP s))=kF s i j (2*dR s+1).toNat (-(dR s)):=by
 have hr:=h.r
 unfold dP dR
 by_cases h5:s.k=5
 · rw[if_pos h5,if_pos h5]
   obtain⟨n,hn⟩:∃ n:Nat,(2*s.r+1).toNat=n:=⟨_,rfl⟩
   rw[hn,show (2*(s.r+1)+1).toNat=n+1+1 by omega,kF_snoc]
   show (kC s i j _++kF s i j n _)++_=_
   rw[kC_far hr.1 (by omega),kC_far hr.1 (by omega),List.nil_append,List.append_nil,show -(s.r+1)+1=-s.r by omega]
 · rw[if_neg h5,if_neg h5]
theorem jF_trim {s:Sh} (h:Rou s) (i:Int):∀ n a,jF s (dP s) i n a=jF s (dR s) i n a
 | 0,_=>rfl
 | n+1,a=>by
  show kF s i a _ _++jF s (dP s) i n (a+1)=kF s i a _ _++jF s (dR s) i n (a+1)
  rw[kF_trim h,jF_trim h i n (a+1)]
theorem jF_ends {s:Sh} (h:Rou s) (i:Int):jF s (dP s) i (2*(s.r+1)+1).toNat (-(s.r+1))=jF s (dR s) i (2*s.r+1).toNat (-s.r):=by
 have hr:=h.r
 obtain⟨n,hn⟩:∃ n:Nat,(2*s.r+1).toNat=n:=⟨_,rfl⟩
 rw[jF_trim h,hn,show (2*(s.r+1)+1).toNat=n+1+1 by omega,jF_snoc]
 show (kF s i _ _ _++jF s (dR s) i n _)++_=_
 rw[kF_far hr.1 (by omega),kF_far hr.1 (by omega),List.nil_append,List.append_nil,show -(s.r+1)+1=-s.r by omega]
theorem iF_ends {s:Sh} (h:Rou s):∀ n a,iF s (dP s) (s.r+1) n a=iF s (dR s) s.r n a
 | 0,_=>rfl
 | n+1,a=>by
  show jF s (dP s) a _ _++iF s (dP s) (s.r+1) n (a+1)=jF s (dR s) a _ _++iF s (dR s) s.r n (a+1)
  rw[jF_ends h,iF_ends h n (a+1)]
theorem shell_eq {s:Sh} (h:Rou s):shellF s (dP s) (s.r+1)=shellP s:=by
 have hr:=h.r
 unfold shellP shellF
 rw[iF_ends h]
 obtain⟨n,hn⟩:∃ n:Nat,(2*s.r+1).toNat=n:=⟨_,rfl⟩
 rw[hn,show (2*(s.r+1)+1).toNat=n+1+1 by omega,iF_snoc]
 show (jF s (dR s) _ _ _++iF s (dR s) s.r n _)++_=_
 rw[jF_far hr.1 (by omega),jF_far hr.1 (by omega),List.nil_append,List.append_nil,show -(s.r+1)+1=-s.r by omega]
theorem sqw {i:Int} (h:-51≤i∧i≤51):0≤i*i∧i*i≤2601:=⟨sq_nn i,(mulB (a:=i) (b:=i) (m:=51) (n:=51) h h).2⟩
theorem sumw {i j k : Int} (hi : -51 ≤ i ∧ i ≤ 51) (hj : -51 ≤ j ∧ j ≤ 51) (hk : -51 ≤ k ∧ k ≤ 51) :
    IntKind.i64.wrap ((IntKind.i64.wrap ((IntKind.i64.wrap (i*i))+(IntKind.i64.wrap (j*j))))+(IntKind.i64.wrap (k*k)))=i*i+j*j+k*k:=by
  have h1:=sqw hi
  have h2:=sqw hj
  have h3:=sqw hk
  rw[wrap_eq (x:=i*i) (by omega) (by omega),wrap_eq (x:=j*j) (by omega) (by omega),wrap_eq (x:=k*k) (by omega) (by omega),wrap_eq (x:=i*i+j*j) (by omega) (by omega),wrap_eq (by omega) (by omega)]
theorem sum2w {i j:Int} (hi:-51≤i∧i≤51) (hj:-51≤j∧j≤51):IntKind.i64.wrap ((IntKind.i64.wrap (i*i))+(IntKind.i64.wrap (j*j)))=i*i+j*j:=by
 have h1:=sqw hi
 have h2:=sqw hj
 rw[wrap_eq (x:=i*i) (by omega) (by omega),wrap_eq (x:=j*j) (by omega) (by omega),wrap_eq (by omega) (by omega)]
theorem lowr {r:Int} (h:1≤r∧r≤50):IntKind.i64.wrap ((IntKind.i64.wrap (r*r))-r)=r*r-r∧IntKind.i64.wrap ((IntKind.i64.wrap (r*r))+r)=r*r+r:=by
 have h1:=sqw (i:=r) (by omega)
 rw[wrap_eq (x:=r*r) (by omega) (by omega),wrap_eq (by omega) (by omega),wrap_eq (by omega) (by omega)]
 exact⟨rfl,rfl⟩
theorem stw {i s:Int} (hi:-51≤i∧i≤51) (hs:1≤s∧s≤10000):-510000≤i*s∧i*s≤510000∧IntKind.i64.wrap (i*s)=i*s:=by
 have:=mulB (a:=i) (b:=s) (m:=51) (n:=10000) hi (by omega)
 exact⟨by omega,by omega,wrap_eq (by omega) (by omega)⟩
theorem cw {c i s:Int} (hc:-1048576≤c∧c≤1048576) (hi:-51≤i∧i≤51) (hs:1≤s∧s≤10000):IntKind.i64.wrap (c+IntKind.i64.wrap (i*s))=c+i*s:=by
 have h:=stw hi hs
 rw[h.2.2,wrap_eq (by omega) (by omega)]
theorem cw0 {c:Int} (hc:-1048576≤c∧c≤1048576):IntKind.i64.wrap (c+0)=c:=by
 rw[wrap_eq (by omega) (by omega),Int.add_zero]
section
variable (X:Ext)
theorem l99k (s : Sh) (hs : Rou s) (d i j : Int) (hd : 0 ≤ d ∧ d ≤ 51) (hi : -51 ≤ i ∧ i ≤ 51) (hj : -51 ≤ j ∧ j ≤ 51) (r : List AV × List Blk) : ∀ (n : Nat) (k : Int) (pre : List V3),k + (n : Int) = d + 1 → -51 ≤ k →
    L tab (run tab X) 95 [.log true []] [.lp [1,1,1,1,0],.lp [1,0,0,1,0]] (S95_11110_10010_s1 s.k (encL s.c) s.m s.r s.s s.p s.r (at_ s.c 0).x (at_ s.c 0).y (at_ s.c 0).z d i (j+1) (encG (pre++kF s i j n k)))=some r →
    L tab (run tab X) 95 [.log true []] [.lp [1,1,1,1,0],.lp [1,0,0,1,0],.lp [1,0,0,1,0]] (S95_11110_10010_10010_s1 s.k (encL s.c) s.m s.r s.s s.p s.r (at_ s.c 0).x (at_ s.c 0).y (at_ s.c 0).z d i j k (encG pre))=some r:=by
  obtain⟨hlen,hc,hk,hr,hst,hp,hp5⟩:=hs
  have hc:=pnt_iff.1 hc
  intro n
  induction n with
  | zero =>
   intro k pre hkn _ h
   refine L_of ?_
   rw[e95_11110_10010_10010_s1]
   refine condNP (by omega) ?_
   rw[wrap_eq (x:=j+1) (by omega) (by omega)]
   simpa [kF] using h
  | succ n ih =>
   intro k pre hkn hk0 h
   have hkb:-51≤k∧k≤51:=by omega
   have h':=h
   have ek:kF s i j (n+1) k=kC s i j k++kF s i j n (k+1):=rfl
   rw[ek,← List.append_assoc]at h
   refine L_of ?_
   rw[e95_11110_10010_10010_s1,sumw hi hj hkb,(lowr hr).1,(lowr hr).2,wrap_eq (x:=k+1) (by omega) (by omega)]
   refine condP (by omega) ?_
   by_cases h1:i*i+j*j+k*k<s.r*s.r-s.r
   · refine condP h1 ?_
     have:kC s i j k=[]:=by unfold kC nearB;rw[decide_eq_false (show ¬ (s.r*s.r-s.r≤i*i+j*j+k*k) by omega)];rfl
     rw[this,List.append_nil]at h
     exact ih (k+1) pre (by omega) (by omega) h
   refine condNP h1 ?_
   by_cases h2:i*i+j*j+k*k > s.r*s.r+s.r
   · refine condP h2 ?_
     have:kC s i j k=[]:=by unfold kC nearB;rw[decide_eq_false (show ¬ (i*i+j*j+k*k≤s.r*s.r+s.r) by omega),Bool.and_false];rfl
     rw[this,List.append_nil]at h
     exact ih (k+1) pre (by omega) (by omega) h
   refine condNP h2 ?_
   have e:kC s i j k=[sPt s i j k]:=by unfold kC nearB;rw[decide_eq_true (show s.r*s.r-s.r≤i*i+j*j+k*k by omega),decide_eq_true (show i*i+j*j+k*k≤s.r*s.r+s.r by omega)];rfl
   rw[e]at h
   have hh:=ih (k+1) (pre++[sPt s i j k]) (by omega) (by omega) h
   rw[← encG_snoc pre (sPt s i j k)]at hh
   unfold sPt at hh
   by_cases q1:s.p=1
   · refine condEqs q1 ?_
     rw[cw hc.1 hi hst,cw0 hc.2.1,cw hc.2.2 hj hst]
     rw[if_pos q1]at hh
     exact hh
   refine condNes q1 ?_
   by_cases q2:s.p=2
   · refine condEqs q2 ?_
     rw[cw0 hc.1,cw hc.2.1 hi hst,cw hc.2.2 hj hst]
     rw[if_neg q1,if_pos q2]at hh
     exact hh
   refine condNes q2 ?_
   rw[cw hc.1 hi hst,cw hc.2.1 hj hst,cw hc.2.2 hkb hst]
   rw[if_neg q1,if_neg q2]at hh
   exact hh
theorem l99kn (s : Sh) (hs : Rou s) (d i j : Int) (hd : 0 ≤ d ∧ d ≤ 51) (hi : -51 ≤ i ∧ i ≤ 51) (hj : -51 ≤ j ∧ j ≤ 51) (r : List AV × List Blk) : ∀ (n : Nat) (k : Int) (pre : List V3),k + (n : Int) = d + 1 → -51 ≤ k →
    L tab (run tab X) 95 [.log true []] [.lp [1,1,1,1,0],.lp [1,0,0,1,0]] (S95_11110_10010 s.k (encL s.c) s.m s.r s.s s.p s.r d i (j+1) (encG (pre++kF s i j n k)) (at_ s.c 0).x (at_ s.c 0).y (at_ s.c 0).z)=some r →
    L tab (run tab X) 95 [.log true []] [.lp [1,1,1,1,0],.lp [1,0,0,1,0]] (S95_11110_10010_s1 s.k (encL s.c) s.m s.r s.s s.p s.r (at_ s.c 0).x (at_ s.c 0).y (at_ s.c 0).z d i (j+1) (encG (pre++kF s i j n k)))=some r →
    L tab (run tab X) 95 [.log true []] [.lp [1,1,1,1,0],.lp [1,0,0,1,0],.lp [1,0,0,1,0]] (S95_11110_10010_10010 s.k (encL s.c) s.m s.r s.s s.p s.r d i j k (encG pre) (at_ s.c 0).x (at_ s.c 0).y (at_ s.c 0).z)=some r:=by
  have hs':=hs
  obtain⟨hlen,hc,hk,hr,hst,hp,hp5⟩:=hs
  have hc:=pnt_iff.1 hc
  intro n
  induction n with
  | zero =>
   intro k pre hkn _ h _
   refine L_of ?_
   rw[e95_11110_10010_10010]
   refine condNP (by omega) ?_
   rw[wrap_eq (x:=j+1) (by omega) (by omega)]
   simpa [kF] using h
  | succ n ih =>
   intro k pre hkn hk0 hN h
   have hkb:-51≤k∧k≤51:=by omega
   have ek:kF s i j (n+1) k=kC s i j k++kF s i j n (k+1):=rfl
   rw[ek,← List.append_assoc]at h hN
   refine L_of ?_
   rw[e95_11110_10010_10010,sumw hi hj hkb,(lowr hr).1,(lowr hr).2,wrap_eq (x:=k+1) (by omega) (by omega)]
   refine condP (by omega) ?_
   by_cases h1:i*i+j*j+k*k<s.r*s.r-s.r
   · refine condP h1 ?_
     have:kC s i j k=[]:=by unfold kC nearB;rw[decide_eq_false (show ¬ (s.r*s.r-s.r≤i*i+j*j+k*k) by omega)];rfl
     rw[this,List.append_nil]at h hN
     exact ih (k+1) pre (by omega) (by omega) hN h
   refine condNP h1 ?_
   by_cases h2:i*i+j*j+k*k > s.r*s.r+s.r
   · refine condP h2 ?_
     have:kC s i j k=[]:=by unfold kC nearB;rw[decide_eq_false (show ¬ (i*i+j*j+k*k≤s.r*s.r+s.r) by omega),Bool.and_false];rfl
     rw[this,List.append_nil]at h hN
     exact ih (k+1) pre (by omega) (by omega) hN h
   refine condNP h2 ?_
   have e:kC s i j k=[sPt s i j k]:=by unfold kC nearB;rw[decide_eq_true (show s.r*s.r-s.r≤i*i+j*j+k*k by omega),decide_eq_true (show i*i+j*j+k*k≤s.r*s.r+s.r by omega)];rfl
   rw[e]at h
   have hh:=l99k X s hs' d i j hd hi hj r n (k+1) (pre++[sPt s i j k]) (by omega) (by omega) h
   rw[← encG_snoc pre (sPt s i j k)]at hh
   unfold sPt at hh
   by_cases q1:s.p=1
   · refine condEqs q1 ?_
     rw[cw hc.1 hi hst,cw0 hc.2.1,cw hc.2.2 hj hst]
     rw[if_pos q1]at hh
     exact hh
   refine condNes q1 ?_
   by_cases q2:s.p=2
   · refine condEqs q2 ?_
     rw[cw0 hc.1,cw hc.2.1 hi hst,cw hc.2.2 hj hst]
     rw[if_neg q1,if_pos q2]at hh
     exact hh
   refine condNes q2 ?_
   rw[cw hc.1 hi hst,cw hc.2.1 hj hst,cw hc.2.2 hkb hst]
   rw[if_neg q1,if_neg q2]at hh
   exact hh
theorem l99j (s : Sh) (hs : Rou s) (d i : Int) (hd : 0 ≤ d ∧ d ≤ 51) (hi : -51 ≤ i ∧ i ≤ 51) (r : List AV × List Blk) : ∀ (n : Nat) (j : Int) (pre : List V3),j + (n : Int) = s.r + 2 → -51 ≤ j →
    L tab (run tab X) 95 [.log true []] [.lp [1,1,1,1,0]] (S95_11110_s1 s.k (encL s.c) s.m s.r s.s s.p s.r (at_ s.c 0).x (at_ s.c 0).y (at_ s.c 0).z d (i+1) (encG (pre++jF s d i n j)))=some r →
    L tab (run tab X) 95 [.log true []] [.lp [1,1,1,1,0],.lp [1,0,0,1,0]] (S95_11110_10010_s1 s.k (encL s.c) s.m s.r s.s s.p s.r (at_ s.c 0).x (at_ s.c 0).y (at_ s.c 0).z d i j (encG pre))=some r:=by
  have hr:=hs.r
  intro n
  induction n with
  | zero =>
   intro j pre hjn _ h
   refine L_of ?_
   rw[e95_11110_10010_s1,wrap_eq (x:=s.r+1) (by omega) (by omega),wrap_eq (x:=i+1) (by omega) (by omega)]
   refine condNP (by omega) ?_
   simpa [jF] using h
  | succ n ih =>
   intro j pre hjn hj0 h
   have ej:jF s d i (n+1) j=kF s i j (2*d+1).toNat (-d)++jF s d i n (j+1):=rfl
   rw[ej,← List.append_assoc]at h
   refine L_of ?_
   rw[e95_11110_10010_s1,wrap_eq (x:=s.r+1) (by omega) (by omega),wrap_eq (x:=0-d) (by omega) (by omega),Int.zero_sub]
   refine condP (by omega) ?_
   exact l99k X s hs d i j hd hi (by omega) r (2*d+1).toNat (-d) pre (by omega) (by omega) (ih (j+1) _ (by omega) (by omega) h)
theorem l99jn (s : Sh) (hs : Rou s) (d i : Int) (hd : 0 ≤ d ∧ d ≤ 51) (hi : -51 ≤ i ∧ i ≤ 51) (r : List AV × List Blk) : ∀ (n : Nat) (j : Int) (pre : List V3),j + (n : Int) = s.r + 2 → -51 ≤ j →
    L tab (run tab X) 95 [.log true []] [.lp [1,1,1,1,0]] (S95_11110 s.k (encL s.c) s.m s.r s.s s.p s.r d (i+1) (encG (pre++jF s d i n j)) (at_ s.c 0).x (at_ s.c 0).y (at_ s.c 0).z)=some r →
    L tab (run tab X) 95 [.log true []] [.lp [1,1,1,1,0]] (S95_11110_s1 s.k (encL s.c) s.m s.r s.s s.p s.r (at_ s.c 0).x (at_ s.c 0).y (at_ s.c 0).z d (i+1) (encG (pre++jF s d i n j)))=some r →
    L tab (run tab X) 95 [.log true []] [.lp [1,1,1,1,0],.lp [1,0,0,1,0]] (S95_11110_10010 s.k (encL s.c) s.m s.r s.s s.p s.r d i j (encG pre) (at_ s.c 0).x (at_ s.c 0).y (at_ s.c 0).z)=some r:=by
  have hr:=hs.r
  intro n
  induction n with
  | zero =>
   intro j pre hjn _ h _
   refine L_of ?_
   rw[e95_11110_10010,wrap_eq (x:=s.r+1) (by omega) (by omega),wrap_eq (x:=i+1) (by omega) (by omega)]
   refine condNP (by omega) ?_
   simpa [jF] using h
  | succ n ih =>
   intro j pre hjn hj0 hN h
   have ej:jF s d i (n+1) j=kF s i j (2*d+1).toNat (-d)++jF s d i n (j+1):=rfl
   rw[ej,← List.append_assoc]at h hN
   refine L_of ?_
   rw[e95_11110_10010,wrap_eq (x:=s.r+1) (by omega) (by omega),wrap_eq (x:=0-d) (by omega) (by omega),Int.zero_sub]
   refine condP (by omega) ?_
   exact l99kn X s hs d i j hd hi (by omega) r (2*d+1).toNat (-d) pre (by omega) (by omega) (ih (j+1) _ (by omega) (by omega) hN h) (l99j X s hs d i hd hi r n (j+1) _ (by omega) (by omega) h)
theorem l99i (s : Sh) (hs : Rou s) (d : Int) (hd : 0 ≤ d ∧ d ≤ 51) : ∀ (n : Nat) (i : Int) (pre : List V3),i + (n : Int) = s.r + 2 → -51 ≤ i →
    L tab (run tab X) 95 [.log true []] [.lp [1,1,1,1,0]] (S95_11110_s1 s.k (encL s.c) s.m s.r s.s s.p s.r (at_ s.c 0).x (at_ s.c 0).y (at_ s.c 0).z d i (encG pre))=some ([],[.log true (encG (pre++iF s d (s.r+1) n i))]):=by
  have hr:=hs.r
  intro n
  induction n with
  | zero =>
   intro i pre hin _
   refine L_of ?_
   rw[e95_11110_s1,wrap_eq (x:=s.r+1) (by omega) (by omega)]
   refine condNP (by omega) ?_
   simp[iF]
  | succ n ih =>
   intro i pre hin hi0
   refine L_of ?_
   rw[e95_11110_s1,wrap_eq (x:=s.r+1) (by omega) (by omega),wrap_eq (x:=0-s.r) (by omega) (by omega),wrap_eq (x:=0-s.r-1) (by omega) (by omega),show 0-s.r-1=-(s.r+1) by omega]
   refine condP (by omega) ?_
   refine l99j X s hs d i hd (by omega) _ (2*(s.r+1)+1).toNat (-(s.r+1)) pre (by omega) (by omega) ?_
   rw[ih (i+1) _ (by omega) (by omega),List.append_assoc];rfl
theorem l99in (s : Sh) (hs : Rou s) (d : Int) (hd : 0 ≤ d ∧ d ≤ 51) : ∀ (n : Nat) (i : Int) (pre : List V3),i + (n : Int) = s.r + 2 → -51 ≤ i →
    L tab (run tab X) 95 [.log true []] [.lp [1,1,1,1,0]] (S95_11110 s.k (encL s.c) s.m s.r s.s s.p s.r d i (encG pre) (at_ s.c 0).x (at_ s.c 0).y (at_ s.c 0).z)=some ([],[.log true (encG (pre++iF s d (s.r+1) n i))]):=by
  have hr:=hs.r
  intro n
  induction n with
  | zero =>
   intro i pre hin _
   refine L_of ?_
   rw[e95_11110,wrap_eq (x:=s.r+1) (by omega) (by omega)]
   refine condNP (by omega) ?_
   simp[iF]
  | succ n ih =>
   intro i pre hin hi0
   refine L_of ?_
   rw[e95_11110,wrap_eq (x:=s.r+1) (by omega) (by omega),wrap_eq (x:=0-s.r) (by omega) (by omega),wrap_eq (x:=0-s.r-1) (by omega) (by omega),show 0-s.r-1=-(s.r+1) by omega]
   refine condP (by omega) ?_
   refine l99jn X s hs d i hd (by omega) _ (2*(s.r+1)+1).toNat (-(s.r+1)) pre (by omega) (by omega) ?_ ?_
   · rw[ih (i+1) _ (by omega) (by omega),List.append_assoc];rfl
   · rw[l99i X s hs d hd n (i+1) _ (by omega) (by omega),List.append_assoc];rfl
theorem c95 (hX:Mine X) (s:Sh) (hs:Rou s):run tab X 95 [.yld,.p (.ref [.int .i64 s.k,.list true kV (encL s.c),.int .i64 s.m,.int .i64 s.r,.int .i64 s.s,.int .i64 s.p])] [.log true []]=some ([],[.log true (encG (shellP s))]) :=
 run_of (hX _ rfl) (by
  have hr:=hs.r
  have hl:=hs.len
  rw[e95,encL_length]
  refine condP (by omega) ?_
  rw[wrap_eq (x:=s.r+1) (by omega) (by omega),wrap_eq (x:=0-s.r) (by omega) (by omega),wrap_eq (x:=0-s.r-1) (by omega) (by omega),show 0-s.r-1=-(s.r+1) by omega]
  simp only[encL_x,encL_y,encL_z]
  rw[← shell_eq hs]
  unfold shellF dP
  by_cases h5:s.k=5
  · refine condEqs h5 ?_
    rw[if_pos h5]
    exact l99in X s hs (s.r+1) (by omega) (2*(s.r+1)+1).toNat (-(s.r+1)) [] (by omega) (by omega)
  · refine condNes h5 ?_
    rw[if_neg h5]
    exact l99in X s hs 0 (by omega) (2*(s.r+1)+1).toNat (-(s.r+1)) [] (by omega) (by omega))
end
theorem kF_len (s:Sh) (i j:Int):∀ n a,(kF s i j n a).length≤n
 | 0,_=>Nat.le_refl _
 | n+1,a=>by
  have h1:(kC s i j a).length≤1:=by unfold kC;split<;>simp
  have h2:=kF_len s i j n (a+1)
  show (kC s i j a++kF s i j n (a+1)).length≤_
  rw[List.length_append];omega
theorem jF_len (s:Sh) (d i:Int):∀ n a,(jF s d i n a).length≤n*(2*d+1).toNat
 | 0,_=>by simp[jF]
 | n+1,a=>by
  have h1:=kF_len s i a (2*d+1).toNat (-d)
  have h2:=jF_len s d i n (a+1)
  show (kF s i a _ _++jF s d i n (a+1)).length≤_
  rw[List.length_append,Nat.succ_mul];omega
section
variable (X:Ext) (hX:Mine X)
include hX
theorem c69 (n r:Int) (hr:1≤r∧r≤50):run tab X 69 [.p (.int .i64 n),.p (.int .i64 r)] []=some ([.p (.bool (nearB n r))],[]) :=
 run_of (hX _ rfl) (by
  rw[e69,(lowr hr).1,(lowr hr).2]
  unfold nearB
  by_cases h:r*r-r≤n
  · exact condP h (by simp[h])
  · exact condNP h (by simp[h]))
theorem add_cell (s:Sh) (hs:Rou s) (v:V3) (hv:Bd 1099511627776 v):run tab X 26 [.p (eV (at_ s.c 0)),.p (eV v)] []=some ([.p (eV ⟨(at_ s.c 0).x+v.x,(at_ s.c 0).y+v.y,(at_ s.c 0).z+v.z⟩)],[]):=by
 have hc:=pnt_iff.1 hs.c
 exact u59 X hX _ v ⟨by omega,by omega,by omega⟩ hv
theorem l56k (s : Sh) (hs : Rou s) (h5 : s.k = 5) (i j : Int) (hi : -50 ≤ i ∧ i ≤ 50) (hj : -50 ≤ j ∧ j ≤ 50) (r : List AV × List Blk) : ∀ (n : Nat) (k : Int) (pre : List V3),k + (n : Int) = s.r + 1 → -50 ≤ k → pre.length + n ≤ 2147483648 →
    L tab (run tab X) 36 [] [.lp [1,1,1,1,1,0,1,0],.lp [1,0,0,1,0]] (S36_11111010_10010 0 (pre++kF s i j n k).length (encL s.c) s.r i (j+1) s.k (encL s.c) s.m s.r s.s s.p (encL (pre++kF s i j n k)))=some r →
    L tab (run tab X) 36 [] [.lp [1,1,1,1,1,0,1,0],.lp [1,0,0,1,0],.lp [1,0,0,1,1,0]] (S36_11111010_10010_100110 0 pre.length (encL s.c) s.r i j k s.k (encL s.c) s.m s.r s.s s.p (encL pre))=some r:=by
  have hs':=hs
  obtain⟨hlen,hc,hk,hr,hst,hp,hp5⟩:=hs
  intro n
  induction n with
  | zero =>
   intro k pre hkn _ _ h
   refine L_of ?_
   rw[e36_11111010_10010_100110]
   refine condNP (by omega) ?_
   rw[wrap_eq (x:=j+1) (by omega) (by omega)]
   simpa [kF] using h
  | succ n ih =>
   intro k pre hkn hk0 hpl h
   have hkb:-51≤k∧k≤51:=by omega
   have ek:kF s i j (n+1) k=kC s i j k++kF s i j n (k+1):=rfl
   rw[ek,← List.append_assoc]at h
   refine L_of ?_
   rw[e36_11111010_10010_100110,sumw (by omega) (by omega) hkb,wrap_eq (x:=k+1) (by omega) (by omega)]
   refine condP (by omega) (bindS (c69 X hX _ _ hr) ?_)
   simp only[List.headD_cons,pv_p,toBool_bool]
   cases hn:nearB (i*i+j*j+k*k) s.r
   · have:kC s i j k=[]:=by unfold kC;rw[hn];rfl
     rw[this,List.append_nil]at h
     exact ih (k+1) pre (by omega) (by omega) (by omega) h
   · have e:kC s i j k=[sPt s i j k]:=by unfold kC;rw[hn];rfl
     rw[e]at h
     have w1:=stw (i:=i) (s:=s.s) (by omega) hst
     have w2:=stw (i:=j) (s:=s.s) (by omega) hst
     have w3:=stw (i:=k) (s:=s.s) (by omega) hst
     simp only[cond_true,encL_length,encL_x,encL_y,encL_z]
     refine condP (by omega) ?_
     rw[w1.2.2,w2.2.2,w3.2.2]
     refine bindS (add_cell X hX s hs' ⟨i*s.s,j*s.s,k*s.s⟩ ⟨by simp only;omega,by simp only;omega,by simp only;omega⟩) (condP (p:=pre.length+1≤2147483648) (by omega) ?_)
     rw[List.drop_zero,List.take_of_length_le (by simp)]
     simp only[List.headD_cons,pv_p,cell_agg,List.getD_cons_zero,List.getD_cons_succ,toInt_int]
     have es:sPt s i j k=⟨(at_ s.c 0).x+i*s.s,(at_ s.c 0).y+j*s.s,(at_ s.c 0).z+k*s.s⟩:=by
      have:=hp5 h5
      unfold sPt;rw[if_neg (by omega),if_neg (by omega)]
     rw[encV_mk,encL_one,encL_append,← es]
     have hh:=ih (k+1) (pre++[sPt s i j k]) (by omega) (by omega) (by simp;omega) h
     simpa using hh
theorem l56j (s : Sh) (hs : Rou s) (i : Int) (hi : -50 ≤ i ∧ i ≤ 50) (r : List AV × List Blk) : ∀ (n : Nat) (j : Int) (pre : List V3),j + (n : Int) = s.r + 1 → -50 ≤ j → pre.length + n * 101 ≤ 2147483648 →
    L tab (run tab X) 36 [] [.lp [1,1,1,1,1,0,1,0]] (S36_11111010 0 (pre++jF s (dR s) i n j).length (encL s.c) s.r (i+1) s.k (encL s.c) s.m s.r s.s s.p (encL (pre++jF s (dR s) i n j)))=some r →
    L tab (run tab X) 36 [] [.lp [1,1,1,1,1,0,1,0],.lp [1,0,0,1,0]] (S36_11111010_10010 0 pre.length (encL s.c) s.r i j s.k (encL s.c) s.m s.r s.s s.p (encL pre))=some r:=by
  have hs':=hs
  obtain⟨hlen,hc,hk,hr,hst,hp,hp5⟩:=hs
  intro n
  induction n with
  | zero =>
   intro j pre hjn _ _ h
   refine L_of ?_
   rw[e36_11111010_10010,wrap_eq (x:=i+1) (by omega) (by omega)]
   refine condNP (by omega) ?_
   simpa [jF] using h
  | succ n ih =>
   intro j pre hjn hj0 hpl h
   have ej:jF s (dR s) i (n+1) j=kF s i j (2*dR s+1).toNat (-(dR s))++jF s (dR s) i n (j+1):=rfl
   rw[ej,← List.append_assoc]at h
   have hkl:=kF_len s i j (2*dR s+1).toNat (-(dR s))
   have hdr:0≤dR s∧dR s≤50:=by unfold dR;split<;>omega
   have hh:=ih (j+1) _ (by omega) (by omega) (by rw[List.length_append];omega) h
   refine L_of ?_
   rw[e36_11111010_10010]
   refine condP (by omega) ?_
   rcases hk with h4 | h5
   · refine condEqs h4 ?_
     rw[sum2w (by omega) (by omega)]
     refine bindS (c69 X hX _ _ hr) ?_
     simp only[List.headD_cons,pv_p,toBool_bool]
     have e0:kF s i j (2*dR s+1).toNat (-(dR s))=kC s i j 0:=by
      have:dR s=0:=by unfold dR;rw[if_neg (by omega)]
      rw[this];show kC s i j 0++[]=_;rw[List.append_nil]
     have ez:i*i+j*j+0*0=i*i+j*j:=by omega
     rw[e0]at hh
     cases hn:nearB (i*i+j*j) s.r
     · have:kC s i j 0=[]:=by unfold kC;rw[ez,hn];rfl
       rw[this,List.append_nil]at hh
       rw[wrap_eq (x:=j+1) (by omega) (by omega)]
       exact hh
     · have e:kC s i j 0=[sPt s i j 0]:=by unfold kC;rw[ez,hn];rfl
       rw[e]at hh
       have w1:=stw (i:=i) (s:=s.s) (by omega) hst
       have w2:=stw (i:=j) (s:=s.s) (by omega) hst
       simp only[cond_true,encL_length,encL_x,encL_y,encL_z]
       refine condT (by simp only[Bool.and_eq_true,decide_eq_true_eq];omega) (condP (by omega) ?_)
       rw[w1.2.2,w2.2.2,wrap_eq (x:=j+1) (by omega) (by omega)]
       have fin : ∀ v : V3,Bd 1099511627776 v → sPt s i j 0 = ⟨(at_ s.c 0).x + v.x,(at_ s.c 0).y + v.y,(at_ s.c 0).z + v.z⟩ →
           ((run tab X 26 [.p (eV (at_ s.c 0)),.p (eV v)] []).bind fun r2 =>
             bif leN (pre.length+1) 2147483648 then L tab (run tab X) 36 [] [.lp [1,1,1,1,1,0,1,0],.lp [1,0,0,1,0]] (S36_11111010_10010 0 (pre.length+1) (encL s.c) s.r i (j+1) s.k (encL s.c) s.m s.r s.s s.p (((encL pre).drop 0).take pre.length++[.agg [.int .i64 (((r2.1.headD .undef).pv.cell 0).toInt),.int .i64 (((r2.1.headD .undef).pv.cell 1).toInt),.int .i64 (((r2.1.headD .undef).pv.cell 2).toInt)]])) else none)=some r:=by
         intro v hv he
         refine bindS (add_cell X hX s hs' v hv) (condP (p:=pre.length+1≤2147483648) (by omega) ?_)
         rw[List.drop_zero,List.take_of_length_le (by simp)]
         simp only[List.headD_cons,pv_p,cell_agg,List.getD_cons_zero,List.getD_cons_succ,toInt_int]
         rw[encV_mk,encL_one,encL_append,← he]
         simpa using hh
       have hpc:s.p=0∨s.p=1∨s.p=2:=by omega
       rcases hpc with q | q | q
       · rw[show s.p.toNat=0 by omega]
         refine fin ⟨i*s.s,j*s.s,0⟩ ⟨by simp only;omega,by simp only;omega,by simp only;omega⟩ ?_
         unfold sPt;rw[if_neg (by omega),if_neg (by omega)];simp
       · rw[show s.p.toNat=1 by omega]
         refine fin ⟨i*s.s,0,j*s.s⟩ ⟨by simp only;omega,by simp only;omega,by simp only;omega⟩ ?_
         unfold sPt;rw[if_pos q];simp
       · rw[show s.p.toNat=2 by omega]
         refine fin ⟨0,i*s.s,j*s.s⟩ ⟨by simp only;omega,by simp only;omega,by simp only;omega⟩ ?_
         unfold sPt;rw[if_neg (by omega),if_pos q];simp
   · refine condNes (by omega) ?_
     have e0:dR s=s.r:=by unfold dR;rw[if_pos h5]
     rw[e0]at hh
     rw[wrap_eq (x:=0-s.r) (by omega) (by omega),Int.zero_sub]
     exact l56k X hX s hs' h5 i j hi (by omega) r (2*s.r+1).toNat (-s.r) pre (by omega) (by omega) (by omega) hh
theorem l56i (s : Sh) (hs : Rou s) : ∀ (n : Nat) (i : Int) (pre : List V3),i + (n : Int) = s.r + 1 → -50 ≤ i → pre.length + n * 10201 ≤ 2147483648 →
    L tab (run tab X) 36 [] [.lp [1,1,1,1,1,0,1,0]] (S36_11111010 0 pre.length (encL s.c) s.r i s.k (encL s.c) s.m s.r s.s s.p (encL pre))=some ([.p (.list true kV (encL (pre++iF s (dR s) s.r n i)))],[]):=by
  have hr:=hs.r
  intro n
  induction n with
  | zero =>
   intro i pre hin _ _
   refine L_of ?_
   rw[e36_11111010]
   refine condNP (by omega) ?_
   rw[List.drop_zero,List.take_of_length_le (by simp)]
   simp[iF]
  | succ n ih =>
   intro i pre hin hi0 hpl
   refine L_of ?_
   rw[e36_11111010,wrap_eq (x:=0-s.r) (by omega) (by omega),Int.zero_sub]
   refine condP (by omega) ?_
   have hjl:=jF_len s (dR s) i (2*s.r+1).toNat (-s.r)
   have hdr:0≤dR s∧dR s≤50:=by unfold dR;split<;>omega
   have h2:(2*s.r+1).toNat*(2*dR s+1).toNat≤101*101:=Nat.mul_le_mul (by omega) (by omega)
   refine l56j X hX s hs i (by omega) _ (2*s.r+1).toNat (-s.r) pre (by omega) (by omega) (by omega) ?_
   rw[ih (i+1) _ (by omega) (by omega) (by rw[List.length_append];omega),List.append_assoc];rfl
theorem c36b (s:Sh) (hs:Rou s):run tab X 36 [.p (eS s)] []=some ([.p (.list true kV (encL (shellP s)))],[]) :=
 run_of (hX _ rfl) (by
  have hr:=hs.r
  have hk:=hs.kd
  have h:=l56i X hX s hs (2*s.r+1).toNat (-s.r) [] (by omega) (by omega) (by simp;omega)
  rw[e36,wrap_eq (x:=0-s.r) (by omega) (by omega),Int.zero_sub]
  exact condNes (by omega) (condNes (by omega) (condNes (by omega) h)))
end
end Go.Skm.Fig
