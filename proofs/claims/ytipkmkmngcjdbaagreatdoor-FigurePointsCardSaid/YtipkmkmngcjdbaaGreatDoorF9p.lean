/-
  Points between two others; the points of lines, by the program (which gives them one by one) and by the document; condition: points, numbers of parts that are allowed.
-/
import Derived.Test.YtipkmkmngcjdbaaGreatDoorF9
import Derived.Test.YtipkmkmngcjdbaaGreatDoorF2p
namespace Go.Skm.Fig
open Go Go.Skm
section
variable (X:Ext) (hX:Mine X)
include hX
omit hX in
theorem l110b (n d q : Int) (hd : 1 ≤ d) (hd2 : d ≤ 500) (hn : -1048576000 ≤ n ∧ n ≤ 1048576000) (_hq : -1048576002 ≤ q ∧ q ≤ 1048576002) (r : Int) (hr : q * d = n - r) (h1 : -d ≤ 2 * r) (h2 : 2 * r < d) :
    L tab (run tab X) 121 [] [.lp [1,1,1,0,0]] (S121_11100 n d q)=some ([.p (.int .i64 q)],[]):=by
  refine L_of ?_
  rw[e121_11100,hr]
  rw[wrap_eq (x:=n-r) (by omega) (by omega),wrap_eq (x:=n-(n-r)) (by omega) (by omega),wrap_eq (x:=2*(n-(n-r))) (by omega) (by omega),wrap_eq (x:=0-d) (by omega) (by omega)]
  exact condNP (by omega) rfl
omit hX in
theorem l110 (n d q : Int) (hd : 1 ≤ d) (hd2 : d ≤ 500) (hn : -1048576000 ≤ n ∧ n ≤ 1048576000) (hq : -1048576001 ≤ q ∧ q ≤ 1048576001) (r : Int) (hr : q * d = n - r) (h1 : -d < r) (h2 : 2 * r < d) :
    L tab (run tab X) 121 [] [.lp [1,1,0,0]] (S121_1100 n d q)=some ([.p (.int .i64 (rnd n d))],[]):=by
  refine L_of ?_
  rw[e121_1100,hr]
  rw[wrap_eq (x:=n-r) (by omega) (by omega),wrap_eq (x:=n-(n-r)) (by omega) (by omega),wrap_eq (x:=2*(n-(n-r))) (by omega) (by omega)]
  refine condNP (by omega) ?_
  have e2:2*d*q=2*(n-r):=by rw[Int.mul_assoc,Int.mul_comm d q,hr]
  by_cases h:2*r < -d
  · have hr':(q-1)*d=n-(r+d):=by rw[Int.sub_mul,hr];omega
    have e3:2*d*(q-1)=2*(n-r)-2*d:=by rw[Int.mul_sub,e2];omega
    refine L_of ?_
    rw[e121_11100,hr]
    rw[wrap_eq (x:=n-r) (by omega) (by omega),wrap_eq (x:=n-(n-r)) (by omega) (by omega),wrap_eq (x:=2*(n-(n-r))) (by omega) (by omega),wrap_eq (x:=0-d) (by omega) (by omega)]
    refine condP (by omega) ?_
    rw[wrap_eq (x:=q-1) (by omega) (by omega),l110b X n d (q-1) hd hd2 hn (by omega) (r+d) hr' (by omega) (by omega)]
    have:rnd n d=q-1:=ediv_uniq (by omega) (by omega) (by omega)
    rw[this]
  · rw[l110b X n d q hd hd2 hn (by omega) r hr (by omega) (by omega)]
    have:rnd n d=q:=ediv_uniq (by omega) (by omega) (by omega)
    rw[this]
theorem c121 (n d : Int) (hd : 1 ≤ d) (hd2 : d ≤ 500) (hn : -1048576000 ≤ n ∧ n ≤ 1048576000) :
    run tab X 121 [.p (.int .i64 n),.p (.int .i64 d)] []=some ([.p (.int .i64 (rnd n d))],[]) :=
  run_of (hX _ rfl) (by
   have hne:(!(eqI d 0))=true:=neI (by omega)
   obtain⟨t1,t2,t3⟩:=tdm n (b:=d) (by omega)
   have hq:-1048576001≤n.tdiv d∧n.tdiv d≤1048576001:=by
    have:=ediv_bd (a:=n) (b:=d) (A:=1048576000) hd hn.1 hn.2
    rcases tdiv_neg_or n (b:=d) (by omega) with ⟨_,g2⟩ | ⟨_,g2⟩<;>omega
   rw[e121]
   refine condT hne ?_
   rw[wrap_eq (x:=n.tdiv d) (by omega) (by omega)]
   have hr:n.tdiv d*d=n-n.tmod d:=by rw[Int.mul_comm];omega
   by_cases h:2*n.tmod d<d
   · exact l110 X n d _ hd hd2 hn hq _ hr t2 h
   · refine L_of ?_
     rw[e121_1100,hr]
     rw[wrap_eq (x:=n-n.tmod d) (by omega) (by omega),wrap_eq (x:=n-(n-n.tmod d)) (by omega) (by omega),wrap_eq (x:=2*(n-(n-n.tmod d))) (by omega) (by omega)]
     refine condP (by omega) ?_
     rw[wrap_eq (x:=n.tdiv d+1) (by omega) (by omega)]
     have hq':n.tdiv d≤1048576000:=by
      have:=ediv_bd (a:=n) (b:=d) (A:=1048576000) hd hn.1 hn.2
      rcases tdiv_neg_or n (b:=d) (by omega) with ⟨_,g2⟩ | ⟨_,g2⟩<;>omega
     exact l110 X n d _ hd hd2 hn (by omega) (n.tmod d-d) (by rw[Int.add_mul,hr];omega) (by omega) (by omega))
theorem c100 (a b : V3) (k m : Int) (ha : pnt a = true) (hb : pnt b = true) (hk : 0 ≤ k) (hkm : k ≤ m) (hm1 : 1 ≤ m) (hm : m ≤ 500) :
    run tab X 100 [.p (eV a),.p (eV b),.p (.int .i64 k),.p (.int .i64 m)] []=some ([.p (eV (btw a b k m))],[]) :=
  run_of (hX _ rfl) (by
   rw[e100]
   have ha':=pnt_iff.1 ha
   have hb':=pnt_iff.1 hb
   have b1:=part_bd ha'.1 hb'.1 hk hkm hm
   have b2:=part_bd ha'.2.1 hb'.2.1 hk hkm hm
   have b3:=part_bd ha'.2.2 hb'.2.2 hk hkm hm
   have r1:=rnd_bd hm1 hm b1.1 b1.2
   have r2:=rnd_bd hm1 hm b2.1 b2.2
   have r3:=rnd_bd hm1 hm b3.1 b3.2
   refine bindS (c27 X hX b a hb ha) ?_
   simp only[List.headD_cons,pv_p,cell_agg,List.getD_cons_zero,List.getD_cons_succ,toInt_int]
   rw[wrap_eq (x:=(b.x-a.x)*k) (by omega) (by omega),wrap_eq (x:=(b.y-a.y)*k) (by omega) (by omega),wrap_eq (x:=(b.z-a.z)*k) (by omega) (by omega)]
   rw[c121 X hX _ m hm1 hm b1,c121 X hX _ m hm1 hm b2,c121 X hX _ m hm1 hm b3]
   simp only[Option.bind_some,List.headD_cons,pv_p,toInt_int]
   refine bindS (u59 X hX a ⟨rnd ((b.x-a.x)*k) m,rnd ((b.y-a.y)*k) m,rnd ((b.z-a.z)*k) m⟩ ⟨by omega,by omega,by omega⟩ ⟨by simp only;omega,by simp only;omega,by simp only;omega⟩) ?_
   rfl)
end
section
variable (X:Ext) (hX:Mine X)
include hX
theorem l90 (a b : V3) (ha : pnt a = true) (hb : pnt b = true) (m : Int) (hm1 : 1 ≤ m) (hm : m ≤ 500) : ∀ n k,k + n = m.toNat + 1 →
    L tab (run tab X) 68 [] [.lp [1,1,0,1,0]] (S68_11010 m 0 k (k:Int) a.x a.y a.z b.x b.y b.z (encL (seg a b m 0 k)))=some ([.fresh true kV (encL (lineP a b m))],[]):=by
  intro n
  induction n with
  | zero =>
   intro k hk
   refine L_of ?_
   rw[e68_11010]
   refine condNP (by omega) ?_
   rw[List.drop_zero,List.take_of_length_le (by simp),show k=m.toNat+1 by omega];rfl
  | succ n ih =>
   intro k hk
   refine L_of ?_
   rw[e68_11010]
   refine condP (by omega) (bindS (c100 X hX a b k m ha hb (by omega) (by omega) hm1 hm) (condP (p:=k+1≤2147483648) (by omega) ?_))
   rw[List.drop_zero,List.take_of_length_le (by simp),wr1 (by omega)]
   simp only[List.headD_cons,pv_p,cell_agg,List.getD_cons_zero,List.getD_cons_succ,toInt_int]
   have e:encL (seg a b m 0 k)++[PV.agg [.int .i64 (btw a b (k:Int) m).x,.int .i64 (btw a b (k:Int) m).y,.int .i64 (btw a b (k:Int) m).z]]=encL (seg a b m 0 (k+1)):=by
    rw[encV_mk,encL_one,encL_append]
    unfold seg
    rw[List.range'_concat,List.map_append];simp
   rw[e]
   exact ih (k+1) (by omega)
theorem c68 (a b:V3) (ha:pnt a=true) (hb:pnt b=true) (m:Int) (hm1:1≤m) (hm:m≤500):run tab X 68 [.p (eV a),.p (eV b),.p (.int .i64 m)] []=some ([.fresh true kV (encL (lineP a b m))],[]) :=
 run_of (hX _ rfl) (by rw[e68];exact l90 X hX a b ha hb m hm1 hm (m.toNat+1) 0 (by omega))
theorem l56a (s : Sh) (hs : Lin s) : ∀ n i (pre : List V3),i + 1 + n = s.c.length → pre.length + (n + 1) * 501 ≤ 2147483648 →
    L tab (run tab X) 36 [] [.lp [1,1,1,0,1,0,1,1,1,0,0,1,0]] (S36_1110101110010 0 pre.length (encL s.c) (i:Int) s.k (encL s.c) s.m s.r s.s s.p (encL pre))=some ([.p (.list true kV (encL (pre++lf s n i)))],[]):=by
  obtain⟨h1,h2,h3,h4,h5,h6⟩:=hs
  intro n
  induction n with
  | zero =>
   intro i pre hi hp
   have hi':((i+1:Nat):Int)=((s.c.length:Nat):Int):=by rw[show i+1=s.c.length by omega]
   have hw:IntKind.i64.wrap (((s.c.length:Nat):Int)-1)=(i:Int):=by rw[wrap_eq (by omega) (by omega)];omega
   refine L_of ?_
   rw[e36_1110101110010,wr1 (show i<1099511627776 by omega),encL_length,hi',hw]
   refine condNP (by omega) ?_
   by_cases hk:s.k=3
   · refine condEqs hk (condT (gd (by omega)) (condP (by omega) ?_))
     simp only[tn,encL_x,encL_y,encL_z]
     refine bindS (c68 X hX (at_ s.c i) (at_ s.c 0) (h2 _ (at_mem (by omega))) (h2 _ (at_mem (by omega))) s.m h5 h6) ?_
     simp only[List.headD_cons,freshList_fresh,List.drop_zero]
     have hlen:(lineP (at_ s.c i) (at_ s.c 0) s.m).length≤501:=by unfold lineP;rw[seg_length];omega
     refine condP (p:=pre.length+(encL (lineP (at_ s.c i) (at_ s.c 0) s.m)).length≤2147483648) (by rw[encL_length];omega) ?_
     rw[List.take_of_length_le (show (encL pre).length≤pre.length by simp),List.take_of_length_le (Nat.le_refl _),List.take_of_length_le (by simp),encL_append]
     show _=some ([AV.p (.list true kV (encL (pre++if s.k=3 then _ else [])))],[])
     rw[if_pos hk]
   · refine condNes hk ?_
     rw[List.drop_zero,List.take_of_length_le (by simp)]
     show _=some ([AV.p (.list true kV (encL (pre++if s.k=3 then _ else [])))],[])
     rw[if_neg hk,List.append_nil]
  | succ n ih =>
   intro i pre hi hp
   have hlen:(lineP (at_ s.c i) (at_ s.c (i+1)) s.m).length≤501:=by unfold lineP;rw[seg_length];omega
   refine L_of ?_
   rw[e36_1110101110010,wr1 (show i<1099511627776 by omega),encL_length]
   refine condP (by omega) (condT (gd (by omega)) (condT (gd (by omega)) ?_))
   simp only[tn,encL_x,encL_y,encL_z]
   refine bindS (c68 X hX (at_ s.c i) (at_ s.c (i+1)) (h2 _ (at_mem (by omega))) (h2 _ (at_mem (by omega))) s.m h5 h6) ?_
   simp only[List.headD_cons,freshList_fresh,List.drop_zero]
   refine condP (p:=pre.length+(encL (lineP (at_ s.c i) (at_ s.c (i+1)) s.m)).length≤2147483648) (by rw[encL_length];omega) ?_
   rw[List.take_of_length_le (show (encL pre).length≤pre.length by simp),List.take_of_length_le (Nat.le_refl _),encL_append]
   have:=ih (i+1) (pre++lineP (at_ s.c i) (at_ s.c (i+1)) s.m) (by omega) (by rw[List.length_append];omega)
   rw[List.length_append]at this
   rw[encL_length]
   refine this.trans ?_
   show some ([AV.p (.list true kV (encL (pre++lineP _ _ _++lf s n (i+1))))],[])=some ([AV.p (.list true kV (encL (pre++(lineP _ _ _++lf s n (i+1)))))],[])
   rw[List.append_assoc]
theorem c36a (s:Sh) (hs:Lin s):run tab X 36 [.p (eS s)] []=some ([.p (.list true kV (encL (linesP s)))],[]) :=
 run_of (hX _ rfl) (by
  have h:=l56a X hX s hs (s.c.length-1) 0 [] (by have:=hs.2.2.2.1;omega) (by have:=hs.1;simp;omega)
  rw[e36]
  rcases hs.2.2.1 with hk | hk
  · exact condNes (by omega) (condEqs hk (condEqs hk h))
  · exact condNes (by omega) (condNes (by omega) (condEqs hk h)))
end
end Go.Skm.Fig

