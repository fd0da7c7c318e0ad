/-
  The law Holds; condition: the library's answers.
-/
import Derived.Test.YtipkmkmngcjdbaaGreatDoorF30
namespace Go.Skm.Fig
open Go Go.Skm
theorem gx (l:List V3) (t:Nat):(((encL l).getD (0+((t:Nat):Int).toNat) .nil).cell 0).toInt=(at_ l t).x:=by
 rw[Nat.zero_add,Int.toNat_natCast];exact encL_x l t
theorem gy (l:List V3) (t:Nat):(((encL l).getD (0+((t:Nat):Int).toNat) .nil).cell 1).toInt=(at_ l t).y:=by
 rw[Nat.zero_add,Int.toNat_natCast];exact encL_y l t
theorem gz (l:List V3) (t:Nat):(((encL l).getD (0+((t:Nat):Int).toNat) .nil).cell 2).toInt=(at_ l t).z:=by
 rw[Nat.zero_add,Int.toNat_natCast];exact encL_z l t
theorem hd_drop (l:List V3) (i:Nat) (x:V3):hd (l.drop i) x=(decide (i<l.length)&&decide (at_ l i=x)):=by
 by_cases h:i<l.length
 · rw[drop_at h];simp[hd,h]
 · rw[List.drop_eq_nil_of_le (by omega)];simp[hd,h]
theorem tl_yes {l:List V3} {i:Nat} {x:V3} (h:hd (l.drop i) x=true):tl (l.drop i) x=l.drop (i+1):=by
 unfold tl;rw[h];simp
theorem tl_no {l:List V3} {i:Nat} {x:V3} (h:hd (l.drop i) x=false):tl (l.drop i) x=l.drop i:=by
 unfold tl;rw[h];rfl
section
variable (X:Ext) (hX:Mine X)
include hX
theorem c27w (a b:V3) (ha:Bd 4294967296 a) (hb:pnt b=true):run tab X 27 [.p (encV a),.p (encV b)] []=some ([.p (encV (subV a b))],[]) :=
 run_of (hX _ rfl) (by
  rw[encV,encV,e27]
  refine bindS (c51 X hX b hb) ?_
  rw[pnt_iff]at hb
  have:=u59 X hX a ⟨-b.x,-b.y,-b.z⟩ ⟨by have:=ha.1;omega,by have:=ha.2.1;omega,by have:=ha.2.2;omega⟩ ⟨by simp only;omega,by simp only;omega,by simp only;omega⟩
  refine bindS this ?_
  simp only[subV,Int.sub_eq_add_neg]
  rfl)
theorem l8o (a : List PV) (p q : Int) (x : List V3) (o : V3) (ho : Bd 4294967296 o) (hx : ∀ v ∈ x,pnt v = true) (hl : x.length ≤ 4096) (hop : ∀ k,k < x.length → at_ x (x.length - 1 - k) = subV o (at_ x k)) {res : List AV × List Blk}
    (H:L tab (run tab X) 8 [] [.lp [1,1,1,1,1,1,1,1,1,1,1,1,0,1,0]] (S8_111111111111010 a p (IntKind.i64.wrap (q+1)))=some res):∀ (n t:Nat),t+n=x.length →
    L tab (run tab X) 8 [] [.lp [1,1,1,1,1,1,1,1,1,1,1,1,0,1,0],.lp [1,1,0,0,1,1,1,1,1,1,0]] (S8_111111111111010_11001111110 0 (encL x).length a p q (((encL x).length:Nat):Int) t (encL x) o.x o.y o.z)=some res:=by
  intro n
  induction n with
  | zero =>
   intro t ht
   refine L_of ?_
   rw[e8_111111111111010_11001111110]
   exact condNP (by rw[encL_length];omega) H
  | succ n ih =>
   intro t ht
   have hlt:t<x.length:=by omega
   have w1:IntKind.i64.wrap ((t:Int)+1)=((t+1:Nat):Int):=by rw[wrap_eq (by omega) (by omega)];omega
   have w2:IntKind.i64.wrap (IntKind.i64.wrap ((((encL x).length:Nat):Int)-1)-(t:Int))=((x.length-1-t:Nat):Int):=by
    rw[encL_length,wrap_eq (x:=((x.length:Nat):Int)-1) (by omega) (by omega),wrap_eq (by omega) (by omega)];omega
   refine L_of ?_
   rw[e8_111111111111010_11001111110,w2,w1,gx,gy,gz,gx,gy,gz]
   simp only[condA]
   refine condP (by rw[encL_length];omega) (condP (by omega) (condP (by rw[encL_length];omega) ?_))
   refine bindS (c27w X hX o (at_ x t) ho (hx _ (at_mem hlt))) ?_
   refine condP (by omega) (condP (by rw[encL_length];omega) ?_)
   refine condF ?_ (ih (t+1) (by omega))
   show (!((subV o (at_ x t)).x==_&&((subV o (at_ x t)).y==_&&((subV o (at_ x t)).z==_&&true))))=false
   rw[veq,hop t hlt]
   simp
variable (h49:Keys49 X)
include h49
theorem l8s (hN : Known X) (f : List Sh) (hp : (ptsR f).2 = 0) : ∀ (n i : Nat),i + n = f.length →
    L tab (run tab X) 8 [] [.lp [1,1,1,1,1,1,1,1,1,1,1,1,0,1,0]] (S8_111111111111010 (encF f) (((encF f).length:Nat):Int) i)=some ([.p (.bool true)],[]):=by
  obtain⟨h1,h2,h3,h4⟩:=ptsR_ok hp
  obtain⟨g1,g2⟩:=fig_shapes h1
  intro n
  induction n with
  | zero =>
   intro i hi
   refine L_of ?_
   rw[e8_111111111111010]
   exact condNP (by rw[encF_length];omega) (endK X hX hN)
  | succ n ih =>
   intro i hi
   have hlt:i<f.length:=by omega
   have w1:IntKind.i64.wrap ((i:Int)+1)=((i+1:Nat):Int):=by rw[wrap_eq (by omega) (by omega)];omega
   have hs:=g2 _ (sat_mem hlt)
   have h:=ih (i+1) (by omega)
   rw[← w1]at h
   have a1:=c13 X hX h49 [sat f i] (fits_fig (figB_one hs))
   rw[one_pts hp (sat_mem hlt)]at a1
   have kk : ((sat f i).k = 4 ∨ (sat f i).k = 5) → (bif ltI (0 : Int) (((encL (sat f i).c).length : Nat) : Int) then bif ltI (0 : Int) (((encL (sat f i).c).length : Nat) : Int) then (run tab X 26 [.p (encV (at_ (sat f i).c 0)),.p (encV (at_ (sat f i).c 0))] []).bind fun r4 =>
       L tab (run tab X) 8 [] [.lp [1,1,1,1,1,1,1,1,1,1,1,1,0,1,0],.lp [1,1,0,0,1,1,1,1,1,1,0]] (S8_111111111111010_11001111110 0 (encL (sdL (ptsS (sat f i)))).length (encF f) (((encF f).length:Nat):Int) i (((encL (sdL (ptsS (sat f i)))).length:Nat):Int) 0 (encL (sdL (ptsS (sat f i)))) (((r4.1.headD .undef).pv.cell 0).toInt) (((r4.1.headD .undef).pv.cell 1).toInt) (((r4.1.headD .undef).pv.cell 2).toInt)) else none else none)=some ([.p (.bool true)],[]):=by
     intro hk
     have hr:Rou (sat f i):=shape_rou hs (by omega) (by omega)
     have hc:=pnt_iff.1 hr.c
     have h0:(0:Int)<(((encL (sat f i).c).length:Nat):Int):=by rw[encL_length,hr.len];omega
     refine condP h0 (condP h0 ?_)
     refine bindS (c26 X hX (at_ (sat f i).c 0) (at_ (sat f i).c 0) ⟨by omega,by omega,by omega⟩ ⟨by omega,by omega,by omega⟩) ?_
     have o1:=one_pts hp (sat_mem hlt)
     obtain⟨_,p2,p3,p4⟩:=ptsR_ok (f:=[sat f i]) (by rw[o1])
     rw[ptsF_one]at p2 p4
     have hh:=l8o X hX (encF f) (((encF f).length:Nat):Int) i (sdL (ptsS (sat f i))) (addV (at_ (sat f i).c 0) (at_ (sat f i).c 0)) ⟨by simp only[addV];omega,by simp only[addV];omega,by simp only[addV];omega⟩ (fun v hv=>p2 v ((sdL_mem v _).1 hv)) p4 (fun k hk'=>one_opp hs hk hk') h (sdL (ptsS (sat f i))).length 0 (by omega)
     exact hh
   refine L_of ?_
   rw[e8_111111111111010]
   simp only[condA,Int.toNat_natCast]
   refine condP (by rw[encF_length];omega) (condP (by omega) (condP (by rw[encF_length];omega) ?_))
   rw[fcell hlt,encF_getD f hlt]
   simp only[cell_agg,List.getD_cons_zero,List.getD_cons_succ,toInt_int,toList_list,encL_x,encL_y,encL_z]
   by_cases k4:(sat f i).k=4
   · refine condEq k4 ?_
     refine bindS a1 (condEq rfl ?_)
     exact kk (.inl k4)
   · refine condNe k4 ?_
     by_cases k5:(sat f i).k=5
     · refine condEq k5 ?_
       refine bindS a1 (condEq rfl ?_)
       exact kk (.inr k5)
     · exact condNe k5 h
theorem l8m (hN : Known X) (f : List Sh) (hp : (ptsR f).2 = 0) (b : V3) (hb : Bd 100 b) : ∀ (n t : Nat),t + n = (ptsR f).1.length →
    L tab (run tab X) 8 [] [.lp [1,1,1,1,1,1,1,1,1,1,1,0,1,1,0,1,1,0,1,1,0]] (S8_111111111110110110110 (encF f) 0 (encL (ptsR f).1).length 0 (encL (mv b (ptsR f).1)).length (((encL (mv b (ptsR f).1)).length:Nat):Int) t b.x b.y b.z (encL (ptsR f).1) (encL (mv b (ptsR f).1)))=some ([.p (.bool true)],[]):=by
  obtain⟨h1,h2,h3,h4⟩:=ptsR_ok hp
  have hlen:(ptsR f).1.length≤4096:=by rw[h3];exact h4
  have hml:(mv b (ptsR f).1).length=(ptsR f).1.length:=List.length_map ..
  intro n
  induction n with
  | zero =>
   intro t ht
   refine L_of ?_
   rw[e8_111111111110110110110]
   refine condNP (by rw[encL_length,hml];omega) ?_
   exact l8s X hX h49 hN f hp f.length 0 (by omega)
  | succ n ih =>
   intro t ht
   have hlt:t<(ptsR f).1.length:=by omega
   have w1:IntKind.i64.wrap ((t:Int)+1)=((t+1:Nat):Int):=by rw[wrap_eq (by omega) (by omega)];omega
   have hv:pnt (at_ (ptsR f).1 t)=true:=h2 _ (by have:=at_mem hlt;rw[h3]at this ⊢;exact(sdL_mem _ _).1 this)
   have hv:=pnt_iff.1 hv
   refine L_of ?_
   rw[e8_111111111110110110110,w1,gx,gy,gz,gx,gy,gz]
   simp only[condA]
   refine condP (by rw[encL_length,hml];omega) (condP (by omega) (condP (by rw[encL_length,hml];omega) (condP (by omega) (condP (by rw[encL_length];omega) ?_))))
   refine bindS (c26 X hX (at_ (ptsR f).1 t) b ⟨by omega,by omega,by omega⟩ ⟨by have:=hb.1;omega,by have:=hb.2.1;omega,by have:=hb.2.2;omega⟩) ?_
   refine condF ?_ (ih (t+1) (by omega))
   show (!((at_ (mv b (ptsR f).1) t).x==(addV (at_ (ptsR f).1 t) b).x&&((at_ (mv b (ptsR f).1) t).y==(addV (at_ (ptsR f).1 t) b).y&&((at_ (mv b (ptsR f).1) t).z==(addV (at_ (ptsR f).1 t) b).z&&true))))=false
   rw[veq,at_mv b hlt]
   simp
variable (hK:Clones48 X)
include hK
theorem mov8 (hN : Known X) (f : List Sh) (hp : (ptsR f).2 = 0) (b : V3) (hb : Bd 100 b) : ((run tab X 22 [.p (.list true kSh (encF f)), .p (.agg [.int .i64 b.x, .int .i64 b.y, .int .i64 b.z])] []).bind fun r1 =>
        bif ((r1.1.tail.headD .undef).pv.toInt==(0:Int)) then
         (run tab X 13 [.p (.list true kSh ((((r1.1.headD .undef).freshList).drop 0).take ((r1.1.headD .undef).freshList.length)))] []).bind fun r2 =>
         bif ((r2.1.tail.headD .undef).pv.toInt==(0:Int)) then
          bif ((((r2.1.headD .undef).freshList.length:Nat):Int) != (((encL (ptsR f).1).length:Nat):Int)) then
           some ([.p (.bool false)],[])
          else
           L tab (run tab X) 8 [] [.lp [1,1,1,1,1,1,1,1,1,1,1,0,1,1,0,1,1,0,1,1,0]] (S8_111111111110110110110 (encF f) 0 (encL (ptsR f).1).length 0 ((r2.1.headD .undef).freshList.length) (((r2.1.headD .undef).freshList.length:Nat):Int) 0 b.x b.y b.z (encL (ptsR f).1) ((r2.1.headD .undef).freshList))
         else
          bif ((r2.1.tail.headD .undef).pv.toInt != (3:Int)) then
           some ([.p (.bool false)],[])
          else
           L tab (run tab X) 8 [] [.lp [1,1,1,1,1,1,1,1,1,1,1,1,0,1,0]] (S8_111111111111010 (encF f) (((encF f).length:Nat):Int) 0)
        else
         L tab (run tab X) 8 [] [.lp [1,1,1,1,1,1,1,1,1,1,1,1,0,1,0]] (S8_111111111111010 (encF f) (((encF f).length:Nat):Int) 0))=some ([.p (.bool true)],[]):=by
  obtain⟨h1,h2,h3,h4⟩:=ptsR_ok hp
  have hs:=l8s X hX h49 hN f hp f.length 0 (by omega)
  refine bindS (c22 X hX hK f (fits_fig h1) b) ?_
  simp only[List.headD_cons,List.tail_cons,pv_p,toInt_int]
  by_cases hm:(movR f b).2=0
  · refine condEqs hm ?_
    have a1:=c13 X hX h49 (movR f b).1 (fits_fig (movR_ok hm).2.1)
    rcases mov_pts hm hp with e | e
    · rw[e]at a1
      refine bindS (r:=([.fresh true kV (encL []),.p (.int .i64 3)],[])) ?_ ?_
      · show run tab X 13 [.p (.list true kS (((encF (movR f b).1).drop 0).take (encF (movR f b).1).length))] []=_
        rw[dt];exact a1
      · exact condF rfl (condF rfl hs)
    · rw[e]at a1
      refine bindS (r:=([.fresh true kV (encL (mv b (ptsR f).1)),.p (.int .i64 0)],[])) ?_ ?_
      · show run tab X 13 [.p (.list true kS (((encF (movR f b).1).drop 0).take (encF (movR f b).1).length))] []=_
        rw[dt];exact a1
      · refine condT rfl (condEq ?_ ?_)
        · show (((encL (mv b (ptsR f).1)).length:Nat):Int)=_
          rw[encL_length,encL_length,List.length_map]
        · exact l8m X hX h49 hN f hp b hb (ptsR f).1.length 0 (by omega)
  · exact condNes hm hs
theorem l8b (hN : Known X) (f : List Sh) (hp : (ptsR f).2 = 0) (b : V3) (hb : Bd 100 b) (m B : List V3) (hm : m.length ≤ 4096) (hB : B.length ≤ 4096) : ∀ (n t i k : Nat),t + n = B.length → i ≤ (ptsR f).1.length → k ≤ m.length → Mg (B.drop t) ((ptsR f).1.drop i) (m.drop k) →
    L tab (run tab X) 8 [] [.lp [1,1,1,1,1,1,1,1,1,1,0,1,0,1,0,1,0]] (S8_11111111110101010 (encF f) 0 (encL (ptsR f).1).length 0 (encL m).length i k 0 (encL B).length (((encL B).length:Nat):Int) t b.x b.y b.z (encL (ptsR f).1) (encL m) (encL B))=some ([.p (.bool true)],[]):=by
  have hlen:=ptsR_len X hX f
  intro n
  induction n with
  | zero =>
   intro t i k ht hi hk hg
   rw[List.drop_eq_nil_of_le (show B.length≤t by omega)]at hg
   obtain⟨g1,g2⟩:=hg.done
   have g1:=List.drop_eq_nil_iff.1 g1
   have g2:=List.drop_eq_nil_iff.1 g2
   refine L_of ?_
   rw[e8_11111111110101010]
   refine condNP (by rw[encL_length];omega) (condEq (by rw[encL_length];omega) (condEq (by rw[encL_length];omega) ?_))
   exact mov8 X hX h49 hK hN f hp b hb
  | succ n ih =>
   intro t i k ht hi hk hg
   have hlt:t<B.length:=by omega
   have w1:IntKind.i64.wrap ((t:Int)+1)=((t+1:Nat):Int):=by rw[wrap_eq (by omega) (by omega)];omega
   have w2:IntKind.i64.wrap ((i:Int)+1)=((i+1:Nat):Int):=by rw[wrap_eq (by omega) (by omega)];omega
   have w3:IntKind.i64.wrap ((k:Int)+1)=((k+1:Nat):Int):=by rw[wrap_eq (by omega) (by omega)];omega
   rw[drop_at hlt]at hg
   obtain⟨g1,g2⟩:=hg.step
   refine L_of ?_
   rw[e8_11111111110101010,w1,w2,w3,gx,gy,gz,gx,gy,gz,gx,gy,gz,veq,veq]
   simp only[condA]
   refine condP (by rw[encL_length];omega) (condP (by omega) (condP (by rw[encL_length];omega) ?_))
   have e1:=hd_drop (ptsR f).1 i (at_ B t)
   have e2:=hd_drop m k (at_ B t)
   by_cases hil:i<(ptsR f).1.length
   · refine condP (by rw[encL_length];omega) (condP (by omega) (condP (by rw[encL_length];omega) ?_))
     by_cases el:at_ (ptsR f).1 i=at_ B t
     · have e1:hd ((ptsR f).1.drop i) (at_ B t)=true:=by rw[e1];simp[hil,el]
       rw[tl_yes e1]at g2
       refine condP el ?_
       by_cases hkl:k<m.length
       · refine condP (by rw[encL_length];omega) (condP (by omega) (condP (by rw[encL_length];omega) ?_))
         by_cases em:at_ m k=at_ B t
         · have e2:hd (m.drop k) (at_ B t)=true:=by rw[e2];simp[hkl,em]
           rw[tl_yes e2]at g2
           exact condP em (ih (t+1) (i+1) (k+1) (by omega) (by omega) (by omega) g2)
         · have e2:hd (m.drop k) (at_ B t)=false:=by rw[e2];simp[em]
           rw[tl_no e2]at g2
           exact condNP em (ih (t+1) (i+1) k (by omega) (by omega) (by omega) g2)
       · have e2:hd (m.drop k) (at_ B t)=false:=by rw[e2];simp[hkl]
         rw[tl_no e2]at g2
         exact condNP (by rw[encL_length];omega) (ih (t+1) (i+1) k (by omega) (by omega) (by omega) g2)
     · have e1:hd ((ptsR f).1.drop i) (at_ B t)=false:=by rw[e1];simp[el]
       rw[tl_no e1]at g2
       rw[e1]at g1
       have e2':hd (m.drop k) (at_ B t)=true:=g1.resolve_left (by decide)
       rw[e2']at e2
       have e3:=e2.symm
       simp only[Bool.and_eq_true,decide_eq_true_eq]at e3
       rw[tl_yes e2']at g2
       refine condNP el (condP (by rw[encL_length];omega) (condP (by omega) (condP (by rw[encL_length];omega) ?_)))
       exact condP e3.2 (ih (t+1) i (k+1) (by omega) (by omega) (by omega) g2)
   · have e1:hd ((ptsR f).1.drop i) (at_ B t)=false:=by rw[e1];simp[hil]
     rw[tl_no e1]at g2
     rw[e1]at g1
     have e2':hd (m.drop k) (at_ B t)=true:=g1.resolve_left (by decide)
     rw[e2']at e2
     have e3:=e2.symm
     simp only[Bool.and_eq_true,decide_eq_true_eq]at e3
     rw[tl_yes e2']at g2
     refine condNP (by rw[encL_length];omega) (condP (by rw[encL_length];omega) (condP (by omega) (condP (by rw[encL_length];omega) ?_)))
     exact condP e3.2 (ih (t+1) i (k+1) (by omega) (by omega) (by omega) g2)
end
end Go.Skm.Fig
