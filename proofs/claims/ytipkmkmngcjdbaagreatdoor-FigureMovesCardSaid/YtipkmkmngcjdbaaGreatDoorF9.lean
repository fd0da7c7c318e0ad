/-
  acy between two others; the points of lines, by the program (which gives them one by one) and by the document; condition: points, numbers of parts that are allowed.
-/
import Derived.Test.YtipkmkmngcjdbaaGreatDoorF8
namespace Go.Skm.Fig
open Go Go.Skm
theorem tdm (a:Int) {b:Int} (hb:0<b):b*a.tdiv b+a.tmod b=a∧-b<a.tmod b∧a.tmod b<b:=by
 refine⟨Int.mul_tdiv_add_tmod a b,?_,?_⟩
 · have:=Int.lt_tmod_of_pos a hb;omega
 · exact Int.tmod_lt_of_pos a hb
theorem NG {a b q:Int} (hb:0<b) (h1:b*q≤a) (h2:a<b*q+b):a / b=q:=by
 apply Int.le_antisymm
 · have : a / b < q + 1 := by
     rw[Int.ediv_lt_iff_lt_mul hb,Int.add_mul,Int.mul_comm q b];omega
   omega
 · rw[Int.le_ediv_iff_mul_le hb,Int.mul_comm];omega
theorem QM (a:Int) {b:Int} (hb:0<b):(a.tmod b<0∧a / b=a.tdiv b-1)∨(0≤a.tmod b∧a / b=a.tdiv b):=by
 obtain⟨h1,h2,h3⟩:=tdm a hb
 by_cases h:a.tmod b<0
 · refine .inl ⟨h,NG hb ?_ ?_⟩
   · rw[Int.mul_sub];omega
   · rw[Int.mul_sub];omega
 · refine .inr ⟨by omega,NG hb (by omega) (by omega)⟩
theorem aaI {a b A:Int} (hb:1≤b) (h1:-A≤a) (h2:a≤A):-A≤a / b∧a / b≤A:=by
 have hb':0<b:=by omega
 constructor
 · rw[Int.le_ediv_iff_mul_le hb']
   have:A*1≤A*b:=Int.mul_le_mul_of_nonneg_left (by omega) (by omega)
   rw[Int.neg_mul];omega
 · have : a / b < A + 1 := by
     rw[Int.ediv_lt_iff_lt_mul hb']
     have:(A+1)*1≤(A+1)*b:=Int.mul_le_mul_of_nonneg_left (by omega) (by omega)
     omega
   omega
theorem neI {x y:Int} (h:¬ x=y):(!(eqI x y))=true:=by unfold eqI;rw[decide_eq_false h];rfl
def Ua (n d:Int):Int:=(2*n+d) / (2*d)
def YW (x y k m:Int):Int:=x+Ua ((y-x)*k) m
def btw (a b:V3) (k m:Int):V3:=⟨YW a.x b.x k m,YW a.y b.y k m,YW a.z b.z k m⟩
theorem acB {n d:Int} (hd:1≤d) (hd2:d≤500) (h1:-1048576000≤n) (h2:n≤1048576000):-2097152500≤Ua n d∧Ua n d≤2097152500:=by
 unfold Ua
 exact aaI (A:=2097152500) (by omega) (by omega) (by omega)
theorem aaJ {x y k m:Int} (hx:-1048576≤x∧x≤1048576) (hy:-1048576≤y∧y≤1048576) (hk:0≤k) (hkm:k≤m) (hm:m≤500):-1048576000≤(y-x)*k∧(y-x)*k≤1048576000:=by
 have:=acj (a:=y-x) (b:=k) (m:=2097152) (n:=500) (by omega) (by omega)
 omega
section
variable (X:Ext) (hX:Mine X)
include hX
theorem c109 (x y k m : Int) (hx : -1048576 ≤ x ∧ x ≤ 1048576) (hy : -1048576 ≤ y ∧ y ≤ 1048576) (hk : 0 ≤ k) (hkm : k ≤ m) (hm1 : 1 ≤ m) (hm : m ≤ 500) :
    run tab X 109 [.p (.int .i64 x),.p (.int .i64 y),.p (.ref [.int .i64 k]),.p (.ref [.int .i64 m])] []=some ([.p (.int .i64 (YW x y k m))],[]) :=
  bK (hX _ rfl) (by
   have hb:=aaJ hx hy hk hkm hm
   have e1:2*(y-x)*k=2*((y-x)*k):=Int.mul_assoc _ _ _
   rw[e109]
   rw[wrap_eq (x:=2*m) (by omega) (by omega),wrap_eq (x:=y-x) (by omega) (by omega),wrap_eq (x:=2*(y-x)) (by omega) (by omega),e1,wrap_eq (x:=2*((y-x)*k)) (by omega) (by omega),wrap_eq (x:=2*((y-x)*k)+m) (by omega) (by omega)]
   have hne:(!(eqI (2*m) 0))=true:=neI (by omega)
   have hr:=acB hm1 hm hb.1 hb.2
   have hd:=QM (2*((y-x)*k)+m) (b:=2*m) (by omega)
   refine jV hne (jV hne ?_)
   unfold YW
   unfold Ua at hr ⊢
   rcases hd with ⟨g1,g2⟩ | ⟨g1,g2⟩
   · refine bT g1 ?_
     rw[g2]at hr ⊢
     rw[wrap_eq (x:=(2*((y-x)*k)+m).tdiv (2*m)) (by omega) (by omega),wrap_eq (x:=(2*((y-x)*k)+m).tdiv (2*m)-1) (by omega) (by omega),wrap_eq (by omega) (by omega)]
   · refine bM (by omega) ?_
     rw[g2]at hr ⊢
     rw[wrap_eq (x:=(2*((y-x)*k)+m).tdiv (2*m)) (by omega) (by omega),wrap_eq (by omega) (by omega)])
theorem c94 (a b : V3) (k m : Int) (ha : vU a = true) (hb : vU b = true) (hk : 0 ≤ k) (hkm : k ≤ m) (hm1 : 1 ≤ m) (hm : m ≤ 500) :
    run tab X 94 [.p (eV a),.p (eV b),.p (.int .i64 k),.p (.int .i64 m)] []=some ([.p (eV (btw a b k m)),.p (.int .i64 0)],[]) :=
  bK (hX _ rfl) (by
   rw[e94]
   have ha':=ED.1 ha
   have hb':=ED.1 hb
   have h64:run tab X 85 [.p (eV a),.p (eV b),.p (.fn 109 [.ref [.int .i64 k],.ref [.int .i64 m]])] []=some ([.p (eV (btw a b k m))],[]):=bK (hX _ rfl) (by
    rw[aiN,c109 X hX a.x b.x k m ha'.1 hb'.1 hk hkm hm1 hm,c109 X hX a.y b.y k m ha'.2.1 hb'.2.1 hk hkm hm1 hm,c109 X hX a.z b.z k m ha'.2.2 hb'.2.2 hk hkm hm1 hm];rfl)
   simp only[u63 X hX,ND ha,ND hb,Option.bind_some,List.headD_cons,iP,bF,Bool.not_true,cond_false]
   refine bM (by omega) (bM (by omega) (bM (by omega) (bM (by omega) ?_)))
   rw[h64];rfl)
end
def seg (a b:V3) (m:Int) (k n:Nat):List V3:=(List.range' k n).map fun j:Nat=>btw a b (j:Int) m
def NH (a b:V3) (m:Int):List V3:=seg a b m 0 (m.toNat+1)
theorem aaK (a b:V3) (m:Int) (k:Nat):seg a b m k 0=[]:=rfl
theorem QN (a b:V3) (m:Int) (k n:Nat):seg a b m k (n+1)=btw a b (k:Int) m::seg a b m (k+1) n:=rfl
@[simp] theorem seg_length (a b:V3) (m:Int) (k n:Nat):(seg a b m k n).length=n:=by simp[seg]
def lg (l:List V3):List PV:=l.map fun v=>.agg [eV v]
theorem xU (l:List V3) (v:V3):lg l++[PV.agg [PV.agg [.int .i64 v.x,.int .i64 v.y,.int .i64 v.z]]]=lg (l++[v]):=by simp[lg]
def lf (s:Sh):Nat→Nat→List V3
 | 0,i=>if s.k=3 then NH (at_ s.c i) (at_ s.c 0) s.m else []
 | n+1,i=>NH (at_ s.c i) (at_ s.c (i+1)) s.m++lf s n (i+1)
def TN (s:Sh):List V3:=lf s (s.c.length-1) 0
def Lin (s:Sh):Prop:=s.c.length≤200∧(∀ v∈s.c,vU v=true)∧(s.k=2∨s.k=3)∧2≤s.c.length∧1≤s.m∧s.m≤500
section
variable (X:Ext) (hX:Mine X)
include hX
theorem ai9 (s : Sh) (a b : V3) (ha : vU a = true) (hb : vU b = true) (hm1 : 1 ≤ s.m) (hm : s.m ≤ 500) (i : Int) (r : List AV × List aI) : ∀ n k (pre : List V3),k + n = s.m.toNat + 1 →
    L tab (run tab X) 93 [.log true []] [.lp [1,0]] (Ae s.k (bJ s.c) s.m s.r s.s s.p (bJ s.c) ((s.c.length:Nat):Int) (IntKind.i64.wrap (i+1)) (lg (pre++seg a b s.m k n)))=some r →
    L tab (run tab X) 93 [.log true []] [.lp [1,0],.lp [1,1,0,0,1,1,1,1,0]] (ku s.k (bJ s.c) s.m s.r s.s s.p a.x a.y a.z b.x b.y b.z (bJ s.c) ((s.c.length:Nat):Int) i (s.m+1) (k:Int) (lg pre))=some r:=by
  intro n
  induction n with
  | zero =>
   intro k pre hk h
   refine dQ ?_
   rw[tH]
   refine bM (by omega) ?_
   simpa [aaK] using h
  | succ n ih =>
   intro k pre hk h
   refine dQ ?_
   rw[tH]
   refine bT (by omega) (aW (c94 X hX a b k s.m ha hb (by omega) (by omega) hm1 hm) ?_)
   simp only[List.headD_cons,iP,gu,List.getD_cons_zero,List.getD_cons_succ,toInt_int]
   rw[X6 (show k<1099511627776 by omega),xU pre (btw a b (k:Int) s.m)]
   rw[QN]at h
   exact ih (k+1) (pre++[btw a b (k:Int) s.m]) (by omega) (by simpa using h)
theorem aeh (s : Sh) (a b : V3) (ha : vU a = true) (hb : vU b = true) (hm1 : 1 ≤ s.m) (hm : s.m ≤ 500) (i : Int) (r : List AV × List aI) (pre : List V3)
    (h:L tab (run tab X) 93 [.log true []] [.lp [1,0]] (Ae s.k (bJ s.c) s.m s.r s.s s.p (bJ s.c) ((s.c.length:Nat):Int) (IntKind.i64.wrap (i+1)) (lg (pre++NH a b s.m)))=some r) :
    L tab (run tab X) 93 [.log true []] [.lp [1,0],.lp [1,1,0,0,1,1,1,1,0]] (kL s.k (bJ s.c) s.m s.r s.s s.p (bJ s.c) ((s.c.length:Nat):Int) i (IntKind.i64.wrap (s.m+1)) 0 (lg pre) a.x a.y a.z b.x b.y b.z)=some r:=by
  refine dQ ?_
  rw[FZ,wrap_eq (x:=s.m+1) (by omega) (by omega)]
  refine bT (by omega) (aW (c94 X hX a b 0 s.m ha hb (by omega) (by omega) hm1 hm) ?_)
  simp only[List.headD_cons,iP,gu,List.getD_cons_zero,List.getD_cons_succ,toInt_int]
  rw[xU pre (btw a b 0 s.m)]
  unfold NH at h
  rw[QN]at h
  exact ai9 X hX s a b ha hb hm1 hm i r s.m.toNat 1 (pre++[btw a b 0 s.m]) (by omega) (by simpa using h)
theorem l97 (s : Sh) (hs : Lin s) : ∀ n i (pre : List V3),i + 1 + n = s.c.length →
    L tab (run tab X) 93 [.log true []] [.lp [1,0]] (Ae s.k (bJ s.c) s.m s.r s.s s.p (bJ s.c) ((s.c.length:Nat):Int) (i:Int) (lg pre))=some ([],[.log true (lg (pre++lf s n i))]):=by
  obtain⟨h1,h2,h3,h4,h5,h6⟩:=hs
  have hmod:∀ i:Nat,i+1<s.c.length→((i+1:Nat):Int).tmod ((s.c.length:Nat):Int)=((i+1:Nat):Int):=fun i hi=>by
   rw[Int.tmod_eq_emod_of_nonneg (by omega),Int.emod_eq_of_lt (by omega) (by omega)]
  have hself:((s.c.length:Nat):Int).tmod ((s.c.length:Nat):Int)=0:=Int.tmod_self
  have hne:(!(eqI ((s.c.length:Nat):Int) 0))=true:=neI (by omega)
  have hend:∀ (pre:List V3),L tab (run tab X) 93 [.log true []] [.lp [1,0]] (Ae s.k (bJ s.c) s.m s.r s.s s.p (bJ s.c) ((s.c.length:Nat):Int) ((s.c.length:Nat):Int) (lg pre))=some ([],[.log true (lg pre)]):=fun pre=>by
   refine dQ ?_
   rw[Tn];exact bM (by omega) rfl
  intro n
  induction n with
  | zero =>
   intro i pre hi
   have hi':((i+1:Nat):Int)=((s.c.length:Nat):Int):=by rw[show i+1=s.c.length by omega]
   refine dQ ?_
   rw[Tn,X6 (show i<1099511627776 by omega),aQ,hi']
   refine bT (by omega) (jV (gd (by omega)) ?_)
   rcases h3 with hk | hk
   · refine ou hk (ou rfl ?_)
     show _=some (([]:List AV),[aI.log true (lg (pre++if s.k=3 then _ else []))])
     rw[if_neg (by omega),List.append_nil]
   · refine pU (by omega) (jV hne ?_)
     rw[hself]
     refine jV (gd (k:=0) (by omega)) ?_
     simp only[tn,Int.toNat_zero,pV,pW,pX]
     refine aeh X hX s (at_ s.c i) (at_ s.c 0) (h2 _ (at_mem (by omega))) (h2 _ (at_mem (by omega))) h5 h6 i _ pre ?_
     rw[X6 (show i<1099511627776 by omega),hi',hend]
     show some (([]:List AV),[aI.log true (lg (pre++NH _ _ _))])=some (([]:List AV),[aI.log true (lg (pre++if s.k=3 then _ else []))])
     rw[if_pos hk]
  | succ n ih =>
   intro i pre hi
   refine dQ ?_
   rw[Tn,X6 (show i<1099511627776 by omega),aQ,hmod i (by omega)]
   have step:L tab (run tab X) 93 [.log true []] [.lp [1,0],.lp [1,1,0,0,1,1,1,1,0]] (kL s.k (bJ s.c) s.m s.r s.s s.p (bJ s.c) ((s.c.length:Nat):Int) i (IntKind.i64.wrap (s.m+1)) 0 (lg pre) (at_ s.c i).x (at_ s.c i).y (at_ s.c i).z (at_ s.c (i+1)).x (at_ s.c (i+1)).y (at_ s.c (i+1)).z)=some ([],[.log true (lg (pre++lf s (n+1) i))]):=by
    refine aeh X hX s (at_ s.c i) (at_ s.c (i+1)) (h2 _ (at_mem (by omega))) (h2 _ (at_mem (by omega))) h5 h6 i _ pre ?_
    rw[X6 (show i<1099511627776 by omega),ih (i+1) _ (by omega)]
    show _=some (([]:List AV),[aI.log true (lg (pre++(NH _ _ _++lf s n (i+1))))])
    rw[List.append_assoc]
   refine bT (by omega) (jV (gd (by omega)) ?_)
   rcases h3 with hk | hk
   · refine ou hk (pU (by omega) (jV hne (jV (gd (by omega)) ?_)))
     simp only[tn,pV,pW,pX]
     exact step
   · refine pU (by omega) (jV hne (jV (gd (by omega)) ?_))
     simp only[tn,pV,pW,pX]
     exact step
theorem c93 (s:Sh) (hs:Lin s):run tab X 93 [.sJ,.p (.ref [.int .i64 s.k,.list true kV (bJ s.c),.int .i64 s.m,.int .i64 s.r,.int .i64 s.s,.int .i64 s.p])] [.log true []]=some ([],[.log true (lg (TN s))]) :=
 bK (hX _ rfl) (by
  have h4:=hs.2.2.2.1
  rw[e93,aQ]
  exact l97 X hX s hs (s.c.length-1) 0 [] (by omega))
theorem l96 (l : List V3) (hl : l.length ≤ 2147483648) : ∀ n i (pre : List V3),i + n = l.length →
    L tab (run tab X) 92 [.log true []] [.lp [1,0]] (OI (bJ l) ((l.length:Nat):Int) (i:Int) (lg pre))=some ([],[.log true (lg (pre++l.drop i))]):=by
  have _ := hX
  intro n
  induction n with
  | zero =>
   intro i pre hi
   refine dQ ?_
   rw[Yi,List.drop_eq_nil_of_le (by omega),List.append_nil]
   exact bM (by omega) rfl
  | succ n ih =>
   intro i pre hi
   have hlt:i<l.length:=by omega
   refine dQ ?_
   rw[Yi]
   refine bT (by omega) (jV (by rw[aQ];exact gd hlt) ?_)
   simp only[tn,pV,pW,pX]
   rw[X6 (show i<1099511627776 by omega),xU pre (l.getD i default)]
   have:=ih (i+1) (pre++[l.getD i default]) (by omega)
   rw[drop_at hlt]
   simp only[List.append_assoc,List.singleton_append]at this
   exact this
theorem c92 (l:List V3) (hl:l.length≤2147483648):run tab X 92 [.sJ,.p (.ref [.list true kV (bJ l)])] [.log true []]=some ([],[.log true (lg l)]) :=
 bK (hX _ rfl) (by rw[e92,aQ];exact l96 X hX l hl l.length 0 [] (by omega))
end
end Go.Skm.Fig
