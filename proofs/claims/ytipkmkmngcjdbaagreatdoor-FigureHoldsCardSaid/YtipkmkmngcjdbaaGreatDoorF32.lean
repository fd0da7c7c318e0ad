/-
  The law Holds; condition: the library's answers.
-/
import Derived.Test.YtipkmkmngcjdbaaGreatDoorF31
import Derived.Test.YtipkmkmngcjdbaaGreatDoorF27
namespace Go.Skm.Fig
open Go Go.Skm
theorem textF_len:∀ {f:List Sh},(∀ s∈f,Shape s)→(textF f).length≤5437*f.length
 | [],_=>by simp[textF]
 | s::f,h=>by
  have h1:=textS_len (h s (by simp))
  have h2:=textF_len (f:=f) fun t ht=>h t (by simp[ht])
  simp only[textF,List.length_append,List.length_cons]
  omega
section
variable (X:Ext) (hX:Mine X) (h49:Keys49 X) (hK:Clones48 X)
include hX h49 hK
theorem rest8 (hN:Known X) (f g:List Sh) (hf:figB f=true) (hg:figB g=true) (h4:f.length≤4) (h5:g.length≤4) (v:V3) (hv:Bd 100 v) :
 ((run tab X 13 [.p (.list true kSh (encF f))] []).bind fun r34 =>
                                         (run tab X 13 [.p (.list true kSh (encF g))] []).bind fun r35 =>
                                         bif ((r34.1.tail.headD .undef).pv.toInt != (0:Int)) then
                                          (run tab X 12 [] []).bind fun r36 =>
                                          some ([.p (.bool ((r36.1.headD .undef).pv.toBool))],[])
                                         else
                                          bif ((r35.1.tail.headD .undef).pv.toInt != (0:Int)) then
                                           (run tab X 12 [] []).bind fun r37 =>
                                           some ([.p (.bool ((r37.1.headD .undef).pv.toBool))],[])
                                          else
                                           bif (leN (encF f).length 2147483648) then bif (leN ((encF f).length+(encF g).length) 2147483648) then(run tab X 13 [.p (.list true kSh ((((((encF f).drop 0).take (encF f).length)++(encF g)).drop 0).take ((encF f).length+(encF g).length)))] []).bind fun r38 =>
                                           bif ((r38.1.tail.headD .undef).pv.toInt==(0:Int)) then
                                            L tab (run tab X) 8 [] [.lp [1,1,1,1,1,1,1,1,1,1,0,1,0,1,0,1,0]] (S8_11111111110101010 (encF f) 0 ((r34.1.headD .undef).freshList.length) 0 ((r35.1.headD .undef).freshList.length) 0 0 0 ((r38.1.headD .undef).freshList.length) (((r38.1.headD .undef).freshList.length:Nat):Int) 0 v.x v.y v.z ((r34.1.headD .undef).freshList) ((r35.1.headD .undef).freshList) ((r38.1.headD .undef).freshList))
                                           else
                                            bif ((r38.1.tail.headD .undef).pv.toInt != (7:Int)) then
                                             some ([.p (.bool false)],[])
                                            else
                                             bif (leI (IntKind.i64.wrap ((((r34.1.headD .undef).freshList.length:Nat):Int)+(((r35.1.headD .undef).freshList.length:Nat):Int))) (4096:Int)) then
                                              some ([.p (.bool false)],[])
                                             else
                                              (run tab X 22 [.p (.list true kSh (encF f)),.p (.agg [.int .i64 v.x,.int .i64 v.y,.int .i64 v.z])] []).bind fun r39 =>
                                              bif ((r39.1.tail.headD .undef).pv.toInt==(0:Int)) then
                                               (run tab X 13 [.p (.list true kSh ((((r39.1.headD .undef).freshList).drop 0).take ((r39.1.headD .undef).freshList.length)))] []).bind fun r40 =>
                                               bif ((r40.1.tail.headD .undef).pv.toInt==(0:Int)) then
                                                bif ((((r40.1.headD .undef).freshList.length:Nat):Int) != (((r34.1.headD .undef).freshList.length:Nat):Int)) then
                                                 some ([.p (.bool false)],[])
                                                else
                                                 L tab (run tab X) 8 [] [.lp [1,1,1,1,1,1,1,1,1,1,1,0,1,1,0,1,1,0,1,1,0]] (S8_111111111110110110110 (encF f) 0 ((r34.1.headD .undef).freshList.length) 0 ((r40.1.headD .undef).freshList.length) (((r40.1.headD .undef).freshList.length:Nat):Int) 0 v.x v.y v.z ((r34.1.headD .undef).freshList) ((r40.1.headD .undef).freshList))
                                               else
                                                bif ((r40.1.tail.headD .undef).pv.toInt != (3:Int)) then
                                                 some ([.p (.bool false)],[])
                                                else
                                                 L tab (run tab X) 8 [] [.lp [1,1,1,1,1,1,1,1,1,1,1,1,0,1,0]] (S8_111111111111010 (encF f) (((encF f).length:Nat):Int) 0)
                                              else
                                               L tab (run tab X) 8 [] [.lp [1,1,1,1,1,1,1,1,1,1,1,1,0,1,0]] (S8_111111111111010 (encF f) (((encF f).length:Nat):Int) 0) else none else none)=some ([.p (.bool true)],[]):=by
 have a1:=c13 X hX h49 f (fits_fig hf)
 have a2:=c13 X hX h49 g (fits_fig hg)
 refine bindS a1 (bindS a2 ?_)
 simp only[List.headD_cons,List.tail_cons,pv_p,toInt_int]
 by_cases e1:(ptsR f).2=0
 case neg=>exact condNe e1 (endK X hX hN)
 refine condEq e1 ?_
 by_cases e2:(ptsR g).2=0
 case neg=>exact condNe e2 (endK X hX hN)
 refine condEq e2 ?_
 obtain⟨f1,f2,f3,f4⟩:=ptsR_ok e1
 obtain⟨g1,g2,g3,g4⟩:=ptsR_ok e2
 obtain⟨i1,i2⟩:=fig_shapes hf
 obtain⟨k1,k2⟩:=fig_shapes hg
 have hfg:figB (f++g)=true:=fig_of (by rw[List.length_append];omega) fun s hs=>by
  rcases List.mem_append.1 hs with h | h
  · exact i2 s h
  · exact k2 s h
 have hp:∀ u∈ptsF (f++g),pnt u=true:=fun u hu=>by
  rw[ptsF_append]at hu
  rcases List.mem_append.1 hu with h | h
  · exact f2 u h
  · exact g2 u h
 have a3:=c13 X hX h49 (f++g) (fits_fig hfg)
 have q3:=ptsR_of hfg hp
 have hb:=both_len (ptsF f) (ptsF g)
 rw[ptsF_append]at q3
 refine condP (p:=(encF f).length≤2147483648) (by rw[encF_length];omega) (condP (p:=(encF f).length+(encF g).length≤2147483648) (by rw[encF_length,encF_length];omega) ?_)
 refine bindS (r:=([.fresh true kV (encL (ptsR (f++g)).1),.p (.int .i64 (ptsR (f++g)).2)],[])) ?_ ?_
 · have e:(encF f).length+(encF g).length=(encF f++encF g).length:=(List.length_append ..).symm
   have e':encF f++encF g=encF (f++g):=by simp[encF]
   rw[dt,e,dt,e']
   exact a3
 · simp only[List.headD_cons,List.tail_cons,pv_p,toInt_int]
   by_cases hl:(sdL (ptsF f++ptsF g)).length > 4096
   · rw[if_pos hl]at q3
     rw[q3]
     refine condF rfl (condF rfl ?_)
     have w:IntKind.i64.wrap ((((encL (ptsR f).1).length:Nat):Int)+(((encL (ptsR g).1).length:Nat):Int))=(((encL (ptsR f).1).length:Nat):Int)+(((encL (ptsR g).1).length:Nat):Int):=by
      rw[encL_length,encL_length,f3,g3];exact wrap_eq (by omega) (by omega)
     refine condNP ?_ ?_
     · show ¬ IntKind.i64.wrap ((((encL (ptsR f).1).length:Nat):Int)+(((encL (ptsR g).1).length:Nat):Int))≤4096
       rw[w,encL_length,encL_length,f3,g3];omega
     · exact mov8 X hX h49 hK hN f e1 v hv
   · rw[if_neg hl]at q3
     rw[q3]
     refine condT rfl ?_
     have:=mg_of (ptsF f) (ptsF g)
     rw[← f3,← g3]at this
     exact l8b X hX h49 hK hN f e1 v hv (ptsR g).1 (sdL (ptsF f++ptsF g)) (by rw[g3];omega) (by omega) (sdL (ptsF f++ptsF g)).length 0 0 0 (by omega) (by omega) (by omega) this
variable (hT:Texts X)
include hT
theorem law8 (hN:Known X) (f g:List Sh) (hf:f.length≤9223372036854775807) (hg:g.length≤9223372036854775807) (v:V3) (s:List UInt8):run tab X 8 [.p (.list true kS (encF f)),.p (.list true kS (encF g)),.p (encV v),.p (.str (ba s))] []=some ([.p (.bool true)],[]):=by
 have K:=endK X hX hN
 refine run_of (hX _ rfl) ?_
 rw[encV,e8]
 obtain⟨x1,u1,v1⟩:=c10 X hX f hf
 refine bindS u1 ?_
 cases x1 with
 | false=>exact condT rfl K
 | true =>
 refine condF rfl ?_
 obtain⟨x2,u2,v2⟩:=c10 X hX g hg
 refine bindS u2 ?_
 cases x2 with
 | false=>exact condT rfl K
 | true =>
 refine condF rfl ?_
 obtain⟨x3,u3⟩:=c11 X hX f (v1 rfl).1
 refine bindS u3 ?_
 cases x3 with
 | false=>exact condT rfl K
 | true =>
 refine condF rfl ?_
 obtain⟨x4,u4⟩:=c11 X hX g (v2 rfl).1
 refine bindS u4 ?_
 cases x4 with
 | false=>exact condT rfl K
 | true =>
 refine condF rfl ?_
 rw[encF_length,encF_length]
 by_cases h4:f.length≤4
 case neg=>exact condP (show (f.length:Int) > 4 by omega) K
 refine condNP (show ¬ (f.length:Int) > 4 by omega) ?_
 by_cases h5:g.length≤4
 case neg=>exact condP (show (g.length:Int) > 4 by omega) K
 refine condNP (show ¬ (g.length:Int) > 4 by omega) ?_
 have F1:=fits_small X hX (v1 rfl)
 have F2:=fits_small X hX (v2 rfl)
 refine bindS (c14 X hX f F1) ?_
 cases hb1:figB f with
 | false=>exact condT rfl K
 | true =>
 refine condF rfl (bindS (c14 X hX g F2) ?_)
 cases hb2:figB g with
 | false=>exact condT rfl K
 | true =>
 refine condF rfl ?_
 by_cases b1:v.x < -100
 · exact condP b1 K
 refine condNP b1 ?_
 by_cases b2:v.x > 100
 · exact condP b2 K
 refine condNP b2 ?_
 by_cases b3:v.y < -100
 · exact condP b3 K
 refine condNP b3 ?_
 by_cases b4:v.y > 100
 · exact condP b4 K
 refine condNP b4 ?_
 by_cases b5:v.z < -100
 · exact condP b5 K
 refine condNP b5 ?_
 by_cases b6:v.z > 100
 · exact condP b6 K
 refine condNP b6 ?_
 by_cases h6:s.length≤500
 case neg=>exact condP (show (((ba s).size:Nat):Int) > 500 by rw[ba_size];omega) K
 refine condNP (show ¬ (((ba s).size:Nat):Int) > 500 by rw[ba_size];omega) ?_
 have t1:=c17 X hX hT f F1
 rw[if_pos hb1]at t1
 have hlen:=textF_len (fig_shapes hb1).2
 have t2:=c19 X hX hT (textF f) (by omega)
 rw[pars_text hb1]at t2
 refine bindS t1 (bindS t2 (condF rfl (condF rfl (condF rfl ?_))))
 have t3:=c21 X hX f f F1
 rw[decide_eq_true rfl]at t3
 refine bindS (r:=([.p (.bool true)],[])) ?_ ?_
 · show run tab X 21 [.p (.list true kS (((encF f).drop 0).take (encF f).length)),.p (.list true kS (encF f))] []=_
   rw[dt];exact t3
 refine condF rfl (bindS (c19 X hX hT s (by omega)) ?_)
 have R:=rest8 X hX h49 hK hN f g hb1 hb2 h4 h5 v ⟨by omega,by omega,by omega⟩
 simp only[encF_length]at R
 by_cases hz:(parsP s).2.2=0
 · refine condEqs hz ?_
   obtain⟨p1,p2⟩:=parsP_ok s
   have hfp:=fig_of p1 p2
   have t4:=c17 X hX hT (parsP s).1 (fits_fig hfp)
   rw[if_pos hfp,pars_back hz]at t4
   refine bindS (r:=([.p (.str (ba s)),.p (.int .i64 0)],[])) ?_ ?_
   · show run tab X 17 [.p (.list true kS (((encF (parsP s).1).drop 0).take (encF (parsP s).1).length))] []=_
     rw[dt];exact t4
   · refine condF (by show (!((ba s).toList==(ba s).toList))=false;simp) (condF rfl ?_)
     exact R
 · exact condNes hz R
end
end Go.Skm.Fig
