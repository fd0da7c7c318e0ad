/-
  Points between two others; the points of lines, by the program (which gives them one by one) and by the document; condition: points, numbers of parts that are allowed.
-/
import Derived.Test.YtipkmkmngcjdbaaGreatDoorF8
namespace Go.Skm.Fig
open Go Go.Skm
theorem tdm (a:Int) {b:Int} (hb:0<b):b*a.tdiv b+a.tmod b=a∧-b<a.tmod b∧a.tmod b<b:=by
 refine⟨Int.mul_tdiv_add_tmod a b,?_,?_⟩
 · have:=Int.lt_tmod_of_pos a hb;omega
 · exact Int.tmod_lt_of_pos a hb
theorem ediv_uniq {a b q:Int} (hb:0<b) (h1:b*q≤a) (h2:a<b*q+b):a / b=q:=by
 apply Int.le_antisymm
 · have : a / b < q + 1 := by
     rw[Int.ediv_lt_iff_lt_mul hb,Int.add_mul,Int.mul_comm q b];omega
   omega
 · rw[Int.le_ediv_iff_mul_le hb,Int.mul_comm];omega
theorem tdiv_neg_or (a:Int) {b:Int} (hb:0<b):(a.tmod b<0∧a / b=a.tdiv b-1)∨(0≤a.tmod b∧a / b=a.tdiv b):=by
 obtain⟨h1,h2,h3⟩:=tdm a hb
 by_cases h:a.tmod b<0
 · refine .inl ⟨h,ediv_uniq hb ?_ ?_⟩
   · rw[Int.mul_sub];omega
   · rw[Int.mul_sub];omega
 · refine .inr ⟨by omega,ediv_uniq hb (by omega) (by omega)⟩
theorem ediv_bd {a b A:Int} (hb:1≤b) (h1:-A≤a) (h2:a≤A):-A≤a / b∧a / b≤A:=by
 have hb':0<b:=by omega
 constructor
 · rw[Int.le_ediv_iff_mul_le hb']
   have:A*1≤A*b:=Int.mul_le_mul_of_nonneg_left (by omega) (by omega)
   rw[Int.neg_mul];omega
 · have : a / b < A + 1 := by
     rw[Int.ediv_lt_iff_lt_mul hb']
     have:(A+1)*1≤(A+1)*b:=Int.mul_le_mul_of_nonneg_left (by omega) (by omega)
     omega
   omega
theorem neI {x y:Int} (h:¬ x=y):(!(eqI x y))=true:=by unfold eqI;rw[decide_eq_false h];rfl
def rnd (n d:Int):Int:=(2*n+d) / (2*d)
def btw1 (x y k m:Int):Int:=x+rnd ((y-x)*k) m
def btw (a b:V3) (k m:Int):V3:=⟨btw1 a.x b.x k m,btw1 a.y b.y k m,btw1 a.z b.z k m⟩
theorem rnd_bd {n d:Int} (hd:1≤d) (hd2:d≤500) (h1:-1048576000≤n) (h2:n≤1048576000):-2097152500≤rnd n d∧rnd n d≤2097152500:=by
 unfold rnd
 exact ediv_bd (A:=2097152500) (by omega) (by omega) (by omega)
theorem part_bd {x y k m:Int} (hx:-1048576≤x∧x≤1048576) (hy:-1048576≤y∧y≤1048576) (hk:0≤k) (hkm:k≤m) (hm:m≤500):-1048576000≤(y-x)*k∧(y-x)*k≤1048576000:=by
 have:=mulB (a:=y-x) (b:=k) (m:=2097152) (n:=500) (by omega) (by omega)
 omega
section
variable (X:Ext) (hX:Mine X)
include hX
theorem c109 (x y k m : Int) (hx : -1048576 ≤ x ∧ x ≤ 1048576) (hy : -1048576 ≤ y ∧ y ≤ 1048576) (hk : 0 ≤ k) (hkm : k ≤ m) (hm1 : 1 ≤ m) (hm : m ≤ 500) :
    run tab X 109 [.p (.int .i64 x),.p (.int .i64 y),.p (.ref [.int .i64 k]),.p (.ref [.int .i64 m])] []=some ([.p (.int .i64 (btw1 x y k m))],[]) :=
  run_of (hX _ rfl) (by
   have hb:=part_bd hx hy hk hkm hm
   have e1:2*(y-x)*k=2*((y-x)*k):=Int.mul_assoc _ _ _
   rw[e109]
   rw[wrap_eq (x:=2*m) (by omega) (by omega),wrap_eq (x:=y-x) (by omega) (by omega),wrap_eq (x:=2*(y-x)) (by omega) (by omega),e1,wrap_eq (x:=2*((y-x)*k)) (by omega) (by omega),wrap_eq (x:=2*((y-x)*k)+m) (by omega) (by omega)]
   have hne:(!(eqI (2*m) 0))=true:=neI (by omega)
   have hr:=rnd_bd hm1 hm hb.1 hb.2
   have hd:=tdiv_neg_or (2*((y-x)*k)+m) (b:=2*m) (by omega)
   refine condT hne (condT hne ?_)
   unfold btw1
   unfold rnd at hr ⊢
   rcases hd with ⟨g1,g2⟩ | ⟨g1,g2⟩
   · refine condP g1 ?_
     rw[g2]at hr ⊢
     rw[wrap_eq (x:=(2*((y-x)*k)+m).tdiv (2*m)) (by omega) (by omega),wrap_eq (x:=(2*((y-x)*k)+m).tdiv (2*m)-1) (by omega) (by omega),wrap_eq (by omega) (by omega)]
   · refine condNP (by omega) ?_
     rw[g2]at hr ⊢
     rw[wrap_eq (x:=(2*((y-x)*k)+m).tdiv (2*m)) (by omega) (by omega),wrap_eq (by omega) (by omega)])
theorem c94 (a b : V3) (k m : Int) (ha : pnt a = true) (hb : pnt b = true) (hk : 0 ≤ k) (hkm : k ≤ m) (hm1 : 1 ≤ m) (hm : m ≤ 500) :
    run tab X 94 [.p (eV a),.p (eV b),.p (.int .i64 k),.p (.int .i64 m)] []=some ([.p (eV (btw a b k m)),.p (.int .i64 0)],[]) :=
  run_of (hX _ rfl) (by
   rw[e94]
   have ha':=pnt_iff.1 ha
   have hb':=pnt_iff.1 hb
   have h64:run tab X 85 [.p (eV a),.p (eV b),.p (.fn 109 [.ref [.int .i64 k],.ref [.int .i64 m]])] []=some ([.p (eV (btw a b k m))],[]):=run_of (hX _ rfl) (by
    rw[e85b,c109 X hX a.x b.x k m ha'.1 hb'.1 hk hkm hm1 hm,c109 X hX a.y b.y k m ha'.2.1 hb'.2.1 hk hkm hm1 hm,c109 X hX a.z b.z k m ha'.2.2 hb'.2.2 hk hkm hm1 hm];rfl)
   simp only[u63 X hX,pnt_valid ha,pnt_valid hb,Option.bind_some,List.headD_cons,pv_p,toBool_bool,Bool.not_true,cond_false]
   refine condNP (by omega) (condNP (by omega) (condNP (by omega) (condNP (by omega) ?_)))
   rw[h64];rfl)
omit hX in
theorem l110b (n d q : Int) (hd : 1 ≤ d) (hd2 : d ≤ 500) (hn : -1048576000 ≤ n ∧ n ≤ 1048576000) (_hq : -1048576002 ≤ q ∧ q ≤ 1048576002) (r : Int) (hr : q * d = n - r) (h1 : -d ≤ 2 * r) (h2 : 2 * r < d) :
    L tab (run tab X) 121 [] [.lp [1,1,1,0,0]] (S121_11100 n d q)=some ([.p (.int .i64 q)],[]):=by
  refine L_of ?_
  rw[e121_11100,hr]
  rw[wrap_eq (x:=n-r) (by omega) (by omega),wrap_eq (x:=n-(n-r)) (by omega) (by omega),wrap_eq (x:=2*(n-(n-r))) (by omega) (by omega),wrap_eq (x:=0-d) (by omega) (by omega)]
  exact condNP (by omega) rfl
omit hX in
theorem l110 (n d q : Int) (hd : 1 ≤ d) (hd2 : d ≤ 500) (hn : -1048576000 ≤ n ∧ n ≤ 1048576000) (hq : -1048576001 ≤ q ∧ q ≤ 1048576001) (r : Int) (hr : q * d = n - r) (h1 : -d < r) (h2 : 2 * r < d) :
    L tab (run tab X) 121 [] [.lp [1,1,0,0]] (S121_1100 n d q)=some ([.p (.int .i64 (rnd n d))],[]):=by
  refine L_of ?_
  rw[e121_1100,hr]
  rw[wrap_eq (x:=n-r) (by omega) (by omega),wrap_eq (x:=n-(n-r)) (by omega) (by omega),wrap_eq (x:=2*(n-(n-r))) (by omega) (by omega)]
  refine condNP (by omega) ?_
  have e2:2*d*q=2*(n-r):=by rw[Int.mul_assoc,Int.mul_comm d q,hr]
  by_cases h:2*r < -d
  · have hr':(q-1)*d=n-(r+d):=by rw[Int.sub_mul,hr];omega
    have e3:2*d*(q-1)=2*(n-r)-2*d:=by rw[Int.mul_sub,e2];omega
    refine L_of ?_
    rw[e121_11100,hr]
    rw[wrap_eq (x:=n-r) (by omega) (by omega),wrap_eq (x:=n-(n-r)) (by omega) (by omega),wrap_eq (x:=2*(n-(n-r))) (by omega) (by omega),wrap_eq (x:=0-d) (by omega) (by omega)]
    refine condP (by omega) ?_
    rw[wrap_eq (x:=q-1) (by omega) (by omega),l110b X n d (q-1) hd hd2 hn (by omega) (r+d) hr' (by omega) (by omega)]
    have:rnd n d=q-1:=ediv_uniq (by omega) (by omega) (by omega)
    rw[this]
  · rw[l110b X n d q hd hd2 hn (by omega) r hr (by omega) (by omega)]
    have:rnd n d=q:=ediv_uniq (by omega) (by omega) (by omega)
    rw[this]
theorem c121 (n d : Int) (hd : 1 ≤ d) (hd2 : d ≤ 500) (hn : -1048576000 ≤ n ∧ n ≤ 1048576000) :
    run tab X 121 [.p (.int .i64 n),.p (.int .i64 d)] []=some ([.p (.int .i64 (rnd n d))],[]) :=
  run_of (hX _ rfl) (by
   have hne:(!(eqI d 0))=true:=neI (by omega)
   obtain⟨t1,t2,t3⟩:=tdm n (b:=d) (by omega)
   have hq:-1048576001≤n.tdiv d∧n.tdiv d≤1048576001:=by
    have:=ediv_bd (a:=n) (b:=d) (A:=1048576000) hd hn.1 hn.2
    rcases tdiv_neg_or n (b:=d) (by omega) with ⟨_,g2⟩ | ⟨_,g2⟩<;>omega
   rw[e121]
   refine condT hne ?_
   rw[wrap_eq (x:=n.tdiv d) (by omega) (by omega)]
   have hr:n.tdiv d*d=n-n.tmod d:=by rw[Int.mul_comm];omega
   by_cases h:2*n.tmod d<d
   · exact l110 X n d _ hd hd2 hn hq _ hr t2 h
   · refine L_of ?_
     rw[e121_1100,hr]
     rw[wrap_eq (x:=n-n.tmod d) (by omega) (by omega),wrap_eq (x:=n-(n-n.tmod d)) (by omega) (by omega),wrap_eq (x:=2*(n-(n-n.tmod d))) (by omega) (by omega)]
     refine condP (by omega) ?_
     rw[wrap_eq (x:=n.tdiv d+1) (by omega) (by omega)]
     have hq':n.tdiv d≤1048576000:=by
      have:=ediv_bd (a:=n) (b:=d) (A:=1048576000) hd hn.1 hn.2
      rcases tdiv_neg_or n (b:=d) (by omega) with ⟨_,g2⟩ | ⟨_,g2⟩<;>omega
     exact l110 X n d _ hd hd2 hn (by omega) (n.tmod d-d) (by rw[Int.add_mul,hr];omega) (by omega) (by omega))
theorem c100 (a b : V3) (k m : Int) (ha : pnt a = true) (hb : pnt b = true) (hk : 0 ≤ k) (hkm : k ≤ m) (hm1 : 1 ≤ m) (hm : m ≤ 500) :
    run tab X 100 [.p (eV a),.p (eV b),.p (.int .i64 k),.p (.int .i64 m)] []=some ([.p (eV (btw a b k m))],[]) :=
  run_of (hX _ rfl) (by
   rw[e100]
   have ha':=pnt_iff.1 ha
   have hb':=pnt_iff.1 hb
   have b1:=part_bd ha'.1 hb'.1 hk hkm hm
   have b2:=part_bd ha'.2.1 hb'.2.1 hk hkm hm
   have b3:=part_bd ha'.2.2 hb'.2.2 hk hkm hm
   have r1:=rnd_bd hm1 hm b1.1 b1.2
   have r2:=rnd_bd hm1 hm b2.1 b2.2
   have r3:=rnd_bd hm1 hm b3.1 b3.2
   refine bindS (c27 X hX b a hb ha) ?_
   simp only[List.headD_cons,pv_p,cell_agg,List.getD_cons_zero,List.getD_cons_succ,toInt_int]
   rw[wrap_eq (x:=(b.x-a.x)*k) (by omega) (by omega),wrap_eq (x:=(b.y-a.y)*k) (by omega) (by omega),wrap_eq (x:=(b.z-a.z)*k) (by omega) (by omega)]
   rw[c121 X hX _ m hm1 hm b1,c121 X hX _ m hm1 hm b2,c121 X hX _ m hm1 hm b3]
   simp only[Option.bind_some,List.headD_cons,pv_p,toInt_int]
   refine bindS (u59 X hX a ⟨rnd ((b.x-a.x)*k) m,rnd ((b.y-a.y)*k) m,rnd ((b.z-a.z)*k) m⟩ ⟨by omega,by omega,by omega⟩ ⟨by simp only;omega,by simp only;omega,by simp only;omega⟩) ?_
   rfl)
end
def seg (a b:V3) (m:Int) (k n:Nat):List V3:=(List.range' k n).map fun j:Nat=>btw a b (j:Int) m
def lineP (a b:V3) (m:Int):List V3:=seg a b m 0 (m.toNat+1)
theorem seg_nil (a b:V3) (m:Int) (k:Nat):seg a b m k 0=[]:=rfl
theorem seg_succ (a b:V3) (m:Int) (k n:Nat):seg a b m k (n+1)=btw a b (k:Int) m::seg a b m (k+1) n:=rfl
@[simp] theorem seg_length (a b:V3) (m:Int) (k n:Nat):(seg a b m k n).length=n:=by simp[seg]
def encG (l:List V3):List PV:=l.map fun v=>.agg [eV v]
theorem encG_snoc (l:List V3) (v:V3):encG l++[PV.agg [PV.agg [.int .i64 v.x,.int .i64 v.y,.int .i64 v.z]]]=encG (l++[v]):=by simp[encG]
def lf (s:Sh):Nat→Nat→List V3
 | 0,i=>if s.k=3 then lineP (at_ s.c i) (at_ s.c 0) s.m else []
 | n+1,i=>lineP (at_ s.c i) (at_ s.c (i+1)) s.m++lf s n (i+1)
def linesP (s:Sh):List V3:=lf s (s.c.length-1) 0
def Lin (s:Sh):Prop:=s.c.length≤200∧(∀ v∈s.c,pnt v=true)∧(s.k=2∨s.k=3)∧2≤s.c.length∧1≤s.m∧s.m≤500
section
variable (X:Ext) (hX:Mine X)
include hX
theorem l90 (a b : V3) (ha : pnt a = true) (hb : pnt b = true) (m : Int) (hm1 : 1 ≤ m) (hm : m ≤ 500) : ∀ n k,k + n = m.toNat + 1 →
    L tab (run tab X) 68 [] [.lp [1,1,0,1,0]] (S68_11010 m 0 k (k:Int) a.x a.y a.z b.x b.y b.z (encL (seg a b m 0 k)))=some ([.fresh true kV (encL (lineP a b m))],[]):=by
  intro n
  induction n with
  | zero =>
   intro k hk
   refine L_of ?_
   rw[e68_11010]
   refine condNP (by omega) ?_
   rw[List.drop_zero,List.take_of_length_le (by simp),show k=m.toNat+1 by omega];rfl
  | succ n ih =>
   intro k hk
   refine L_of ?_
   rw[e68_11010]
   refine condP (by omega) (bindS (c100 X hX a b k m ha hb (by omega) (by omega) hm1 hm) (condP (p:=k+1≤2147483648) (by omega) ?_))
   rw[List.drop_zero,List.take_of_length_le (by simp),wr1 (by omega)]
   simp only[List.headD_cons,pv_p,cell_agg,List.getD_cons_zero,List.getD_cons_succ,toInt_int]
   have e:encL (seg a b m 0 k)++[PV.agg [.int .i64 (btw a b (k:Int) m).x,.int .i64 (btw a b (k:Int) m).y,.int .i64 (btw a b (k:Int) m).z]]=encL (seg a b m 0 (k+1)):=by
    rw[encV_mk,encL_one,encL_append]
    unfold seg
    rw[List.range'_concat,List.map_append];simp
   rw[e]
   exact ih (k+1) (by omega)
theorem c68 (a b:V3) (ha:pnt a=true) (hb:pnt b=true) (m:Int) (hm1:1≤m) (hm:m≤500):run tab X 68 [.p (eV a),.p (eV b),.p (.int .i64 m)] []=some ([.fresh true kV (encL (lineP a b m))],[]) :=
 run_of (hX _ rfl) (by rw[e68];exact l90 X hX a b ha hb m hm1 hm (m.toNat+1) 0 (by omega))
theorem l97i (s : Sh) (a b : V3) (ha : pnt a = true) (hb : pnt b = true) (hm1 : 1 ≤ s.m) (hm : s.m ≤ 500) (i : Int) (r : List AV × List Blk) : ∀ n k (pre : List V3),k + n = s.m.toNat + 1 →
    L tab (run tab X) 93 [.log true []] [.lp [1,0]] (S93_10 s.k (encL s.c) s.m s.r s.s s.p (encL s.c) ((s.c.length:Nat):Int) (IntKind.i64.wrap (i+1)) (encG (pre++seg a b s.m k n)))=some r →
    L tab (run tab X) 93 [.log true []] [.lp [1,0],.lp [1,1,0,0,1,1,1,1,0]] (S93_10_110011110_s1 s.k (encL s.c) s.m s.r s.s s.p a.x a.y a.z b.x b.y b.z (encL s.c) ((s.c.length:Nat):Int) i (s.m+1) (k:Int) (encG pre))=some r:=by
  intro n
  induction n with
  | zero =>
   intro k pre hk h
   refine L_of ?_
   rw[e93_10_110011110_s1]
   refine condNP (by omega) ?_
   simpa [seg_nil] using h
  | succ n ih =>
   intro k pre hk h
   refine L_of ?_
   rw[e93_10_110011110_s1]
   refine condP (by omega) (bindS (c94 X hX a b k s.m ha hb (by omega) (by omega) hm1 hm) ?_)
   simp only[List.headD_cons,pv_p,cell_agg,List.getD_cons_zero,List.getD_cons_succ,toInt_int]
   rw[wr1 (show k<1099511627776 by omega),encG_snoc pre (btw a b (k:Int) s.m)]
   rw[seg_succ]at h
   exact ih (k+1) (pre++[btw a b (k:Int) s.m]) (by omega) (by simpa using h)
theorem l97s (s : Sh) (a b : V3) (ha : pnt a = true) (hb : pnt b = true) (hm1 : 1 ≤ s.m) (hm : s.m ≤ 500) (i : Int) (r : List AV × List Blk) (pre : List V3)
    (h:L tab (run tab X) 93 [.log true []] [.lp [1,0]] (S93_10 s.k (encL s.c) s.m s.r s.s s.p (encL s.c) ((s.c.length:Nat):Int) (IntKind.i64.wrap (i+1)) (encG (pre++lineP a b s.m)))=some r) :
    L tab (run tab X) 93 [.log true []] [.lp [1,0],.lp [1,1,0,0,1,1,1,1,0]] (S93_10_110011110 s.k (encL s.c) s.m s.r s.s s.p (encL s.c) ((s.c.length:Nat):Int) i (IntKind.i64.wrap (s.m+1)) 0 (encG pre) a.x a.y a.z b.x b.y b.z)=some r:=by
  refine L_of ?_
  rw[e93_10_110011110,wrap_eq (x:=s.m+1) (by omega) (by omega)]
  refine condP (by omega) (bindS (c94 X hX a b 0 s.m ha hb (by omega) (by omega) hm1 hm) ?_)
  simp only[List.headD_cons,pv_p,cell_agg,List.getD_cons_zero,List.getD_cons_succ,toInt_int]
  rw[encG_snoc pre (btw a b 0 s.m)]
  unfold lineP at h
  rw[seg_succ]at h
  exact l97i X hX s a b ha hb hm1 hm i r s.m.toNat 1 (pre++[btw a b 0 s.m]) (by omega) (by simpa using h)
theorem l97 (s : Sh) (hs : Lin s) : ∀ n i (pre : List V3),i + 1 + n = s.c.length →
    L tab (run tab X) 93 [.log true []] [.lp [1,0]] (S93_10 s.k (encL s.c) s.m s.r s.s s.p (encL s.c) ((s.c.length:Nat):Int) (i:Int) (encG pre))=some ([],[.log true (encG (pre++lf s n i))]):=by
  obtain⟨h1,h2,h3,h4,h5,h6⟩:=hs
  have hmod:∀ i:Nat,i+1<s.c.length→((i+1:Nat):Int).tmod ((s.c.length:Nat):Int)=((i+1:Nat):Int):=fun i hi=>by
   rw[Int.tmod_eq_emod_of_nonneg (by omega),Int.emod_eq_of_lt (by omega) (by omega)]
  have hself:((s.c.length:Nat):Int).tmod ((s.c.length:Nat):Int)=0:=Int.tmod_self
  have hne:(!(eqI ((s.c.length:Nat):Int) 0))=true:=neI (by omega)
  have hend:∀ (pre:List V3),L tab (run tab X) 93 [.log true []] [.lp [1,0]] (S93_10 s.k (encL s.c) s.m s.r s.s s.p (encL s.c) ((s.c.length:Nat):Int) ((s.c.length:Nat):Int) (encG pre))=some ([],[.log true (encG pre)]):=fun pre=>by
   refine L_of ?_
   rw[e93_10];exact condNP (by omega) rfl
  intro n
  induction n with
  | zero =>
   intro i pre hi
   have hi':((i+1:Nat):Int)=((s.c.length:Nat):Int):=by rw[show i+1=s.c.length by omega]
   refine L_of ?_
   rw[e93_10,wr1 (show i<1099511627776 by omega),encL_length,hi']
   refine condP (by omega) (condT (gd (by omega)) ?_)
   rcases h3 with hk | hk
   · refine condEqs hk (condEqs rfl ?_)
     show _=some (([]:List AV),[Blk.log true (encG (pre++if s.k=3 then _ else []))])
     rw[if_neg (by omega),List.append_nil]
   · refine condNes (by omega) (condT hne ?_)
     rw[hself]
     refine condT (gd (k:=0) (by omega)) ?_
     simp only[tn,Int.toNat_zero,encL_x,encL_y,encL_z]
     refine l97s X hX s (at_ s.c i) (at_ s.c 0) (h2 _ (at_mem (by omega))) (h2 _ (at_mem (by omega))) h5 h6 i _ pre ?_
     rw[wr1 (show i<1099511627776 by omega),hi',hend]
     show some (([]:List AV),[Blk.log true (encG (pre++lineP _ _ _))])=some (([]:List AV),[Blk.log true (encG (pre++if s.k=3 then _ else []))])
     rw[if_pos hk]
  | succ n ih =>
   intro i pre hi
   refine L_of ?_
   rw[e93_10,wr1 (show i<1099511627776 by omega),encL_length,hmod i (by omega)]
   have step:L tab (run tab X) 93 [.log true []] [.lp [1,0],.lp [1,1,0,0,1,1,1,1,0]] (S93_10_110011110 s.k (encL s.c) s.m s.r s.s s.p (encL s.c) ((s.c.length:Nat):Int) i (IntKind.i64.wrap (s.m+1)) 0 (encG pre) (at_ s.c i).x (at_ s.c i).y (at_ s.c i).z (at_ s.c (i+1)).x (at_ s.c (i+1)).y (at_ s.c (i+1)).z)=some ([],[.log true (encG (pre++lf s (n+1) i))]):=by
    refine l97s X hX s (at_ s.c i) (at_ s.c (i+1)) (h2 _ (at_mem (by omega))) (h2 _ (at_mem (by omega))) h5 h6 i _ pre ?_
    rw[wr1 (show i<1099511627776 by omega),ih (i+1) _ (by omega)]
    show _=some (([]:List AV),[Blk.log true (encG (pre++(lineP _ _ _++lf s n (i+1))))])
    rw[List.append_assoc]
   refine condP (by omega) (condT (gd (by omega)) ?_)
   rcases h3 with hk | hk
   · refine condEqs hk (condNes (by omega) (condT hne (condT (gd (by omega)) ?_)))
     simp only[tn,encL_x,encL_y,encL_z]
     exact step
   · refine condNes (by omega) (condT hne (condT (gd (by omega)) ?_))
     simp only[tn,encL_x,encL_y,encL_z]
     exact step
theorem c93 (s:Sh) (hs:Lin s):run tab X 93 [.yld,.p (.ref [.int .i64 s.k,.list true kV (encL s.c),.int .i64 s.m,.int .i64 s.r,.int .i64 s.s,.int .i64 s.p])] [.log true []]=some ([],[.log true (encG (linesP s))]) :=
 run_of (hX _ rfl) (by
  have h4:=hs.2.2.2.1
  rw[e93,encL_length]
  exact l97 X hX s hs (s.c.length-1) 0 [] (by omega))
theorem l96 (l : List V3) (hl : l.length ≤ 2147483648) : ∀ n i (pre : List V3),i + n = l.length →
    L tab (run tab X) 92 [.log true []] [.lp [1,0]] (S92_10 (encL l) ((l.length:Nat):Int) (i:Int) (encG pre))=some ([],[.log true (encG (pre++l.drop i))]):=by
  have _ := hX
  intro n
  induction n with
  | zero =>
   intro i pre hi
   refine L_of ?_
   rw[e92_10,List.drop_eq_nil_of_le (by omega),List.append_nil]
   exact condNP (by omega) rfl
  | succ n ih =>
   intro i pre hi
   have hlt:i<l.length:=by omega
   refine L_of ?_
   rw[e92_10]
   refine condP (by omega) (condT (by rw[encL_length];exact gd hlt) ?_)
   simp only[tn,encL_x,encL_y,encL_z]
   rw[wr1 (show i<1099511627776 by omega),encG_snoc pre (l.getD i default)]
   have:=ih (i+1) (pre++[l.getD i default]) (by omega)
   rw[drop_at hlt]
   simp only[List.append_assoc,List.singleton_append]at this
   exact this
theorem c92 (l:List V3) (hl:l.length≤2147483648):run tab X 92 [.yld,.p (.ref [.list true kV (encL l)])] [.log true []]=some ([],[.log true (encG l)]) :=
 run_of (hX _ rfl) (by rw[e92,encL_length];exact l96 X hX l hl l.length 0 [] (by omega))
theorem l56a (s : Sh) (hs : Lin s) : ∀ n i (pre : List V3),i + 1 + n = s.c.length → pre.length + (n + 1) * 501 ≤ 2147483648 →
    L tab (run tab X) 36 [] [.lp [1,1,1,0,1,0,1,1,1,0,0,1,0]] (S36_1110101110010 0 pre.length (encL s.c) (i:Int) s.k (encL s.c) s.m s.r s.s s.p (encL pre))=some ([.p (.list true kV (encL (pre++lf s n i)))],[]):=by
  obtain⟨h1,h2,h3,h4,h5,h6⟩:=hs
  intro n
  induction n with
  | zero =>
   intro i pre hi hp
   have hi':((i+1:Nat):Int)=((s.c.length:Nat):Int):=by rw[show i+1=s.c.length by omega]
   have hw:IntKind.i64.wrap (((s.c.length:Nat):Int)-1)=(i:Int):=by rw[wrap_eq (by omega) (by omega)];omega
   refine L_of ?_
   rw[e36_1110101110010,wr1 (show i<1099511627776 by omega),encL_length,hi',hw]
   refine condNP (by omega) ?_
   by_cases hk:s.k=3
   · refine condEqs hk (condT (gd (by omega)) (condP (by omega) ?_))
     simp only[tn,encL_x,encL_y,encL_z]
     refine bindS (c68 X hX (at_ s.c i) (at_ s.c 0) (h2 _ (at_mem (by omega))) (h2 _ (at_mem (by omega))) s.m h5 h6) ?_
     simp only[List.headD_cons,freshList_fresh,List.drop_zero]
     have hlen:(lineP (at_ s.c i) (at_ s.c 0) s.m).length≤501:=by unfold lineP;rw[seg_length];omega
     refine condP (p:=pre.length+(encL (lineP (at_ s.c i) (at_ s.c 0) s.m)).length≤2147483648) (by rw[encL_length];omega) ?_
     rw[List.take_of_length_le (show (encL pre).length≤pre.length by simp),List.take_of_length_le (Nat.le_refl _),List.take_of_length_le (by simp),encL_append]
     show _=some ([AV.p (.list true kV (encL (pre++if s.k=3 then _ else [])))],[])
     rw[if_pos hk]
   · refine condNes hk ?_
     rw[List.drop_zero,List.take_of_length_le (by simp)]
     show _=some ([AV.p (.list true kV (encL (pre++if s.k=3 then _ else [])))],[])
     rw[if_neg hk,List.append_nil]
  | succ n ih =>
   intro i pre hi hp
   have hlen:(lineP (at_ s.c i) (at_ s.c (i+1)) s.m).length≤501:=by unfold lineP;rw[seg_length];omega
   refine L_of ?_
   rw[e36_1110101110010,wr1 (show i<1099511627776 by omega),encL_length]
   refine condP (by omega) (condT (gd (by omega)) (condT (gd (by omega)) ?_))
   simp only[tn,encL_x,encL_y,encL_z]
   refine bindS (c68 X hX (at_ s.c i) (at_ s.c (i+1)) (h2 _ (at_mem (by omega))) (h2 _ (at_mem (by omega))) s.m h5 h6) ?_
   simp only[List.headD_cons,freshList_fresh,List.drop_zero]
   refine condP (p:=pre.length+(encL (lineP (at_ s.c i) (at_ s.c (i+1)) s.m)).length≤2147483648) (by rw[encL_length];omega) ?_
   rw[List.take_of_length_le (show (encL pre).length≤pre.length by simp),List.take_of_length_le (Nat.le_refl _),encL_append]
   have:=ih (i+1) (pre++lineP (at_ s.c i) (at_ s.c (i+1)) s.m) (by omega) (by rw[List.length_append];omega)
   rw[List.length_append]at this
   rw[encL_length]
   refine this.trans ?_
   show some ([AV.p (.list true kV (encL (pre++lineP _ _ _++lf s n (i+1))))],[])=some ([AV.p (.list true kV (encL (pre++(lineP _ _ _++lf s n (i+1)))))],[])
   rw[List.append_assoc]
theorem c36a (s:Sh) (hs:Lin s):run tab X 36 [.p (eS s)] []=some ([.p (.list true kV (encL (linesP s)))],[]) :=
 run_of (hX _ rfl) (by
  have h:=l56a X hX s hs (s.c.length-1) 0 [] (by have:=hs.2.2.2.1;omega) (by have:=hs.1;simp;omega)
  rw[e36]
  rcases hs.2.2.1 with hk | hk
  · exact condNes (by omega) (condEqs hk (condEqs hk h))
  · exact condNes (by omega) (condNes (by omega) (condEqs hk h)))
end
end Go.Skm.Fig
