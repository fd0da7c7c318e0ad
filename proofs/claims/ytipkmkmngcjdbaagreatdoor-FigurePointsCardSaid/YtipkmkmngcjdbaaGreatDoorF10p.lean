/-
  The points of rings and spheres, by the program (which gives them one by one, and looks one step further) and by the document; condition: shapes that are valid.
-/
import Derived.Test.YtipkmkmngcjdbaaGreatDoorF10
import Derived.Test.YtipkmkmngcjdbaaGreatDoorF9p
namespace Go.Skm.Fig
open Go Go.Skm
theorem sum2w {i j:Int} (hi:-51≤i∧i≤51) (hj:-51≤j∧j≤51):IntKind.i64.wrap ((IntKind.i64.wrap (i*i))+(IntKind.i64.wrap (j*j)))=i*i+j*j:=by
 have h1:=sqw hi
 have h2:=sqw hj
 rw[wrap_eq (x:=i*i) (by omega) (by omega),wrap_eq (x:=j*j) (by omega) (by omega),wrap_eq (by omega) (by omega)]
section
variable (X:Ext)
end
theorem kF_len (s:Sh) (i j:Int):∀ n a,(kF s i j n a).length≤n
 | 0,_=>Nat.le_refl _
 | n+1,a=>by
  have h1:(kC s i j a).length≤1:=by unfold kC;split<;>simp
  have h2:=kF_len s i j n (a+1)
  show (kC s i j a++kF s i j n (a+1)).length≤_
  rw[List.length_append];omega
theorem jF_len (s:Sh) (d i:Int):∀ n a,(jF s d i n a).length≤n*(2*d+1).toNat
 | 0,_=>by simp[jF]
 | n+1,a=>by
  have h1:=kF_len s i a (2*d+1).toNat (-d)
  have h2:=jF_len s d i n (a+1)
  show (kF s i a _ _++jF s d i n (a+1)).length≤_
  rw[List.length_append,Nat.succ_mul];omega
section
variable (X:Ext) (hX:Mine X)
include hX
theorem c69 (n r:Int) (hr:1≤r∧r≤50):run tab X 69 [.p (.int .i64 n),.p (.int .i64 r)] []=some ([.p (.bool (nearB n r))],[]) :=
 run_of (hX _ rfl) (by
  rw[e69,(lowr hr).1,(lowr hr).2]
  unfold nearB
  by_cases h:r*r-r≤n
  · exact condP h (by simp[h])
  · exact condNP h (by simp[h]))
theorem add_cell (s:Sh) (hs:Rou s) (v:V3) (hv:Bd 1099511627776 v):run tab X 26 [.p (eV (at_ s.c 0)),.p (eV v)] []=some ([.p (eV ⟨(at_ s.c 0).x+v.x,(at_ s.c 0).y+v.y,(at_ s.c 0).z+v.z⟩)],[]):=by
 have hc:=pnt_iff.1 hs.c
 exact u59 X hX _ v ⟨by omega,by omega,by omega⟩ hv
theorem l56k (s : Sh) (hs : Rou s) (h5 : s.k = 5) (i j : Int) (hi : -50 ≤ i ∧ i ≤ 50) (hj : -50 ≤ j ∧ j ≤ 50) (r : List AV × List Blk) : ∀ (n : Nat) (k : Int) (pre : List V3),k + (n : Int) = s.r + 1 → -50 ≤ k → pre.length + n ≤ 2147483648 →
    L tab (run tab X) 36 [] [.lp [1,1,1,1,1,0,1,0],.lp [1,0,0,1,0]] (S36_11111010_10010 0 (pre++kF s i j n k).length (encL s.c) s.r i (j+1) s.k (encL s.c) s.m s.r s.s s.p (encL (pre++kF s i j n k)))=some r →
    L tab (run tab X) 36 [] [.lp [1,1,1,1,1,0,1,0],.lp [1,0,0,1,0],.lp [1,0,0,1,1,0]] (S36_11111010_10010_100110 0 pre.length (encL s.c) s.r i j k s.k (encL s.c) s.m s.r s.s s.p (encL pre))=some r:=by
  have hs':=hs
  obtain⟨hlen,hc,hk,hr,hst,hp,hp5⟩:=hs
  intro n
  induction n with
  | zero =>
   intro k pre hkn _ _ h
   refine L_of ?_
   rw[e36_11111010_10010_100110]
   refine condNP (by omega) ?_
   rw[wrap_eq (x:=j+1) (by omega) (by omega)]
   simpa [kF] using h
  | succ n ih =>
   intro k pre hkn hk0 hpl h
   have hkb:-51≤k∧k≤51:=by omega
   have ek:kF s i j (n+1) k=kC s i j k++kF s i j n (k+1):=rfl
   rw[ek,← List.append_assoc]at h
   refine L_of ?_
   rw[e36_11111010_10010_100110,sumw (by omega) (by omega) hkb,wrap_eq (x:=k+1) (by omega) (by omega)]
   refine condP (by omega) (bindS (c69 X hX _ _ hr) ?_)
   simp only[List.headD_cons,pv_p,toBool_bool]
   cases hn:nearB (i*i+j*j+k*k) s.r
   · have:kC s i j k=[]:=by unfold kC;rw[hn];rfl
     rw[this,List.append_nil]at h
     exact ih (k+1) pre (by omega) (by omega) (by omega) h
   · have e:kC s i j k=[sPt s i j k]:=by unfold kC;rw[hn];rfl
     rw[e]at h
     have w1:=stw (i:=i) (s:=s.s) (by omega) hst
     have w2:=stw (i:=j) (s:=s.s) (by omega) hst
     have w3:=stw (i:=k) (s:=s.s) (by omega) hst
     simp only[cond_true,encL_length,encL_x,encL_y,encL_z]
     refine condP (by omega) ?_
     rw[w1.2.2,w2.2.2,w3.2.2]
     refine bindS (add_cell X hX s hs' ⟨i*s.s,j*s.s,k*s.s⟩ ⟨by simp only;omega,by simp only;omega,by simp only;omega⟩) (condP (p:=pre.length+1≤2147483648) (by omega) ?_)
     rw[List.drop_zero,List.take_of_length_le (by simp)]
     simp only[List.headD_cons,pv_p,cell_agg,List.getD_cons_zero,List.getD_cons_succ,toInt_int]
     have es:sPt s i j k=⟨(at_ s.c 0).x+i*s.s,(at_ s.c 0).y+j*s.s,(at_ s.c 0).z+k*s.s⟩:=by
      have:=hp5 h5
      unfold sPt;rw[if_neg (by omega),if_neg (by omega)]
     rw[encV_mk,encL_one,encL_append,← es]
     have hh:=ih (k+1) (pre++[sPt s i j k]) (by omega) (by omega) (by simp;omega) h
     simpa using hh
theorem l56j (s : Sh) (hs : Rou s) (i : Int) (hi : -50 ≤ i ∧ i ≤ 50) (r : List AV × List Blk) : ∀ (n : Nat) (j : Int) (pre : List V3),j + (n : Int) = s.r + 1 → -50 ≤ j → pre.length + n * 101 ≤ 2147483648 →
    L tab (run tab X) 36 [] [.lp [1,1,1,1,1,0,1,0]] (S36_11111010 0 (pre++jF s (dR s) i n j).length (encL s.c) s.r (i+1) s.k (encL s.c) s.m s.r s.s s.p (encL (pre++jF s (dR s) i n j)))=some r →
    L tab (run tab X) 36 [] [.lp [1,1,1,1,1,0,1,0],.lp [1,0,0,1,0]] (S36_11111010_10010 0 pre.length (encL s.c) s.r i j s.k (encL s.c) s.m s.r s.s s.p (encL pre))=some r:=by
  have hs':=hs
  obtain⟨hlen,hc,hk,hr,hst,hp,hp5⟩:=hs
  intro n
  induction n with
  | zero =>
   intro j pre hjn _ _ h
   refine L_of ?_
   rw[e36_11111010_10010,wrap_eq (x:=i+1) (by omega) (by omega)]
   refine condNP (by omega) ?_
   simpa [jF] using h
  | succ n ih =>
   intro j pre hjn hj0 hpl h
   have ej:jF s (dR s) i (n+1) j=kF s i j (2*dR s+1).toNat (-(dR s))++jF s (dR s) i n (j+1):=rfl
   rw[ej,← List.append_assoc]at h
   have hkl:=kF_len s i j (2*dR s+1).toNat (-(dR s))
   have hdr:0≤dR s∧dR s≤50:=by unfold dR;split<;>omega
   have hh:=ih (j+1) _ (by omega) (by omega) (by rw[List.length_append];omega) h
   refine L_of ?_
   rw[e36_11111010_10010]
   refine condP (by omega) ?_
   rcases hk with h4 | h5
   · refine condEqs h4 ?_
     rw[sum2w (by omega) (by omega)]
     refine bindS (c69 X hX _ _ hr) ?_
     simp only[List.headD_cons,pv_p,toBool_bool]
     have e0:kF s i j (2*dR s+1).toNat (-(dR s))=kC s i j 0:=by
      have:dR s=0:=by unfold dR;rw[if_neg (by omega)]
      rw[this];show kC s i j 0++[]=_;rw[List.append_nil]
     have ez:i*i+j*j+0*0=i*i+j*j:=by omega
     rw[e0]at hh
     cases hn:nearB (i*i+j*j) s.r
     · have:kC s i j 0=[]:=by unfold kC;rw[ez,hn];rfl
       rw[this,List.append_nil]at hh
       rw[wrap_eq (x:=j+1) (by omega) (by omega)]
       exact hh
     · have e:kC s i j 0=[sPt s i j 0]:=by unfold kC;rw[ez,hn];rfl
       rw[e]at hh
       have w1:=stw (i:=i) (s:=s.s) (by omega) hst
       have w2:=stw (i:=j) (s:=s.s) (by omega) hst
       simp only[cond_true,encL_length,encL_x,encL_y,encL_z]
       refine condT (by simp only[Bool.and_eq_true,decide_eq_true_eq];omega) (condP (by omega) ?_)
       rw[w1.2.2,w2.2.2,wrap_eq (x:=j+1) (by omega) (by omega)]
       have fin : ∀ v : V3,Bd 1099511627776 v → sPt s i j 0 = ⟨(at_ s.c 0).x + v.x,(at_ s.c 0).y + v.y,(at_ s.c 0).z + v.z⟩ →
           ((run tab X 26 [.p (eV (at_ s.c 0)),.p (eV v)] []).bind fun r2 =>
             bif leN (pre.length+1) 2147483648 then L tab (run tab X) 36 [] [.lp [1,1,1,1,1,0,1,0],.lp [1,0,0,1,0]] (S36_11111010_10010 0 (pre.length+1) (encL s.c) s.r i (j+1) s.k (encL s.c) s.m s.r s.s s.p (((encL pre).drop 0).take pre.length++[.agg [.int .i64 (((r2.1.headD .undef).pv.cell 0).toInt),.int .i64 (((r2.1.headD .undef).pv.cell 1).toInt),.int .i64 (((r2.1.headD .undef).pv.cell 2).toInt)]])) else none)=some r:=by
         intro v hv he
         refine bindS (add_cell X hX s hs' v hv) (condP (p:=pre.length+1≤2147483648) (by omega) ?_)
         rw[List.drop_zero,List.take_of_length_le (by simp)]
         simp only[List.headD_cons,pv_p,cell_agg,List.getD_cons_zero,List.getD_cons_succ,toInt_int]
         rw[encV_mk,encL_one,encL_append,← he]
         simpa using hh
       have hpc:s.p=0∨s.p=1∨s.p=2:=by omega
       rcases hpc with q | q | q
       · rw[show s.p.toNat=0 by omega]
         refine fin ⟨i*s.s,j*s.s,0⟩ ⟨by simp only;omega,by simp only;omega,by simp only;omega⟩ ?_
         unfold sPt;rw[if_neg (by omega),if_neg (by omega)];simp
       · rw[show s.p.toNat=1 by omega]
         refine fin ⟨i*s.s,0,j*s.s⟩ ⟨by simp only;omega,by simp only;omega,by simp only;omega⟩ ?_
         unfold sPt;rw[if_pos q];simp
       · rw[show s.p.toNat=2 by omega]
         refine fin ⟨0,i*s.s,j*s.s⟩ ⟨by simp only;omega,by simp only;omega,by simp only;omega⟩ ?_
         unfold sPt;rw[if_neg (by omega),if_pos q];simp
   · refine condNes (by omega) ?_
     have e0:dR s=s.r:=by unfold dR;rw[if_pos h5]
     rw[e0]at hh
     rw[wrap_eq (x:=0-s.r) (by omega) (by omega),Int.zero_sub]
     exact l56k X hX s hs' h5 i j hi (by omega) r (2*s.r+1).toNat (-s.r) pre (by omega) (by omega) (by omega) hh
theorem l56i (s : Sh) (hs : Rou s) : ∀ (n : Nat) (i : Int) (pre : List V3),i + (n : Int) = s.r + 1 → -50 ≤ i → pre.length + n * 10201 ≤ 2147483648 →
    L tab (run tab X) 36 [] [.lp [1,1,1,1,1,0,1,0]] (S36_11111010 0 pre.length (encL s.c) s.r i s.k (encL s.c) s.m s.r s.s s.p (encL pre))=some ([.p (.list true kV (encL (pre++iF s (dR s) s.r n i)))],[]):=by
  have hr:=hs.r
  intro n
  induction n with
  | zero =>
   intro i pre hin _ _
   refine L_of ?_
   rw[e36_11111010]
   refine condNP (by omega) ?_
   rw[List.drop_zero,List.take_of_length_le (by simp)]
   simp[iF]
  | succ n ih =>
   intro i pre hin hi0 hpl
   refine L_of ?_
   rw[e36_11111010,wrap_eq (x:=0-s.r) (by omega) (by omega),Int.zero_sub]
   refine condP (by omega) ?_
   have hjl:=jF_len s (dR s) i (2*s.r+1).toNat (-s.r)
   have hdr:0≤dR s∧dR s≤50:=by unfold dR;split<;>omega
   have h2:(2*s.r+1).toNat*(2*dR s+1).toNat≤101*101:=Nat.mul_le_mul (by omega) (by omega)
   refine l56j X hX s hs i (by omega) _ (2*s.r+1).toNat (-s.r) pre (by omega) (by omega) (by omega) ?_
   rw[ih (i+1) _ (by omega) (by omega) (by rw[List.length_append];omega),List.append_assoc];rfl
theorem c36b (s:Sh) (hs:Rou s):run tab X 36 [.p (eS s)] []=some ([.p (.list true kV (encL (shellP s)))],[]) :=
 run_of (hX _ rfl) (by
  have hr:=hs.r
  have hk:=hs.kd
  have h:=l56i X hX s hs (2*s.r+1).toNat (-s.r) [] (by omega) (by omega) (by simp;omega)
  rw[e36,wrap_eq (x:=0-s.r) (by omega) (by omega),Int.zero_sub]
  exact condNes (by omega) (condNes (by omega) (condNes (by omega) h)))
end
end Go.Skm.Fig

