/-
  The law Limits; condition: the library's answers.
-/
import Derived.Test.YtipkmkmngcjdbaaGreatDoorF28
import Derived.Test.YtipkmkmngcjdbaaGreatDoorF2l
namespace Go.Skm.Fig
open Go Go.Skm
theorem dt (z:List PV):(z.drop 0).take z.length=z:=by simp
theorem fits_fig {f:List Sh} (h:figB f=true):Fits f:=by
 obtain⟨h1,h2⟩:=fig_shapes h
 exact⟨by omega,fun s hs=>by have:=(h2 s hs).1;omega⟩
theorem lineI_eq {i:Nat} (h:i≠8):lineI i=⟨2,[⟨0,i,0⟩,⟨500,i,0⟩],500,0,0,0⟩:=by
 unfold lineI nI;rw[if_neg h];rfl
theorem range_line (i:Nat):(List.range (i+1)).map lineI=(List.range i).map lineI++[lineI i]:=by
 rw[List.range_succ,List.map_append];rfl
theorem encF_snoc (f:List Sh) (s:Sh):encF f++[eS s]=encF (f++[s]):=by simp[encF]
section
variable (X:Ext) (hX:Mine X)
include hX
theorem end7 (hN:Known X) (h49:Keys49 X):L tab (run tab X) 7 [] [.lp [1,1,1,1,1,1,1,0,1,0]] (S7_1111111010 0 9 9 (encF manyK))=some ([.p (.bool true)],[]):=by
 have w:(encF manyK).length=9:=by rw[encF_length];rfl
 have d1:((encF manyK).drop 0).take 9=encF manyK:=by rw[← w,dt]
 have s0:=sphK_shape (x:=0) (by omega)
 have s1:=sphK_shape (x:=1048527) (by omega)
 obtain⟨M,hM,hMl⟩:∃ M,ptsR manyK=(M,0)∧M.length=4096:=⟨mS,many_pts,mS_len⟩
 have a1:=c13 X hX h49 manyK (fits_fig many_fig)
 rw[hM]at a1
 have a2:=c13 X hX h49 (manyK++[dotsI]) (fits_fig more_fig)
 rw[more_pts]at a2
 have a3:=c13 X hX h49 [sphK 0] (fits_fig (figB_one s0))
 rw[sph_full]at a3
 have a4:=c13 X hX h49 [sphK 1048527] (fits_fig (figB_one s1))
 rw[sph_far]at a4
 refine L_of ?_
 rw[e7_1111111010]
 refine condNP (show ¬ (9:Int)<9 by decide) ?_
 rw[d1]
 refine bindS a1 (bindS (c25 X hX 0 9 9) (condP (p:=9+1≤2147483648) (by omega) ?_))
 refine bindS (r:=([.fresh true kV (encL []),.p (.int .i64 7)],[])) ?_ (bindS (c25 X hX 0 0 0) (bindS (r:=([.fresh true kV (encL []),.p (.int .i64 7)],[])) ?_ (bindS (c25 X hX 1048527 0 0) (bindS (r:=([.fresh true kV (encL []),.p (.int .i64 3)],[])) ?_ ?_))))
 · have e:(encF (manyK++[dotsI])).length=9+1:=by rw[encF_length];rfl
   have d2:((encF (manyK++[dotsI])).drop 0).take (9+1)=encF (manyK++[dotsI]):=by rw[← e,dt]
   show run tab X 13 [.p (.list true kS (((encF manyK++[eS dotsI]).drop 0).take (9+1)))] []=_
   rw[encF_snoc,d2]
   exact a2
 · exact a3
 · exact a4
 · have e : ((((encL M).length : Nat) : Int) == 4096) = true := by
     rw[encL_length,hMl];rfl
   refine condT e (condT rfl (condT rfl (condT rfl (condT rfl ?_))))
   exact endK X hX hN
theorem l7 (hN : Known X) (h49 : Keys49 X) : ∀ (n i : Nat),i + n = 9 →
    L tab (run tab X) 7 [] [.lp [1,1,1,1,1,1,1,0,1,0]] (S7_1111111010 0 i i (encF ((List.range i).map lineI)))=some ([.p (.bool true)],[]):=by
  intro n
  induction n with
  | zero =>
   intro i hi
   have e:i=9:=by omega
   subst e
   exact end7 X hX hN h49
  | succ n ih =>
   intro i hi
   have w1:IntKind.i64.wrap ((i:Int)+1)=((i+1:Nat):Int):=by rw[wrap_eq (by omega) (by omega)];omega
   have wl:(encF ((List.range i).map lineI)).length=i:=by rw[encF_length,List.length_map,List.length_range]
   have d1:((encF ((List.range i).map lineI)).drop 0).take i=encF ((List.range i).map lineI):=by
    rw[List.drop_zero,List.take_of_length_le (by omega)]
   have h:=ih (i+1) (by omega)
   rw[range_line,← encF_snoc]at h
   refine L_of ?_
   rw[e7_1111111010,w1,d1]
   refine condP (show (i:Int)<9 by omega) ?_
   by_cases h8:i=8
   · subst h8
     refine condT rfl (bindS (c25 X hX 0 _ 0) (bindS (c25 X hX 87 _ 0) (condP (p:=8+1≤2147483648) (by omega) ?_)))
     exact h
   · rw[lineI_eq h8]at h
     refine condF (by rw[beq_eq_false_iff_ne];omega) (bindS (c25 X hX 0 _ 0) (bindS (c25 X hX 500 _ 0) (condP (p:=i+1≤2147483648) (by omega) ?_)))
     exact h
theorem law7 (hN:Known X) (h49:Keys49 X) (radius step plane:Int):run tab X 7 [.p (.int .i64 radius),.p (.int .i64 step),.p (.int .i64 plane)] []=some ([.p (.bool true)],[]):=by
 refine run_of (hX _ rfl) ?_
 rw[e7]
 by_cases h1:radius<1
 · exact condP h1 (endK X hX hN)
 refine condNP h1 ?_
 by_cases h2:radius > 50
 · exact condP h2 (endK X hX hN)
 refine condNP h2 ?_
 by_cases h3:step<1
 · exact condP h3 (endK X hX hN)
 refine condNP h3 ?_
 by_cases h4:step > 10000
 · exact condP h4 (endK X hX hN)
 refine condNP h4 ?_
 by_cases h5:plane<0
 · exact condP h5 (endK X hX hN)
 refine condNP h5 ?_
 by_cases h6:plane > 2
 · exact condP h6 (endK X hX hN)
 refine condNP h6 ?_
 have hs:Shape ⟨4,[⟨1,2,3⟩],0,radius,step,plane⟩:=by
  refine⟨by simp,(by decide:allP [⟨1,2,3⟩]=true),?_⟩
  exact Or.inr (Or.inr (Or.inr (Or.inl ⟨rfl,rfl,by show (1:Int)≤radius;omega,by show radius≤50;omega,by show (1:Int)≤step;omega,by show step≤10000;omega,rfl,by show (0:Int)≤plane;omega,by show plane≤2;omega⟩)))
 have hr:Rou ⟨4,[⟨1,2,3⟩],0,radius,step,plane⟩:=shape_rou hs (by simp) (by simp)
 have hz:=ring_ok hs rfl (by
  intro v hv
  rw[mem_shell hr]at hv
  obtain⟨i,j,k,g1,g2,g3,g4,g5,g6,g7,rfl⟩:=hv
  simp only at g1 g2 g3 g4
  have p1:=stw (i:=i) (s:=step) (by omega) (by omega)
  have p2:=stw (i:=j) (s:=step) (by omega) (by omega)
  have hk:k=0:=by
   have:dR ⟨4,[⟨1,2,3⟩],0,radius,step,plane⟩=0:=rfl
   rw[this]at g5 g6;omega
  subst hk
  unfold sPt
  have ec:at_ ([⟨1,2,3⟩]:List V3) 0=⟨1,2,3⟩:=rfl
  simp only[ec,Int.zero_mul]
  split
  · exact pnt_iff.2 ⟨by constructor<;>simp only<;>omega,by constructor<;>simp only<;>omega,by constructor<;>simp only<;>omega⟩
  · split
    · exact pnt_iff.2 ⟨by constructor<;>simp only<;>omega,by constructor<;>simp only<;>omega,by constructor<;>simp only<;>omega⟩
    · exact pnt_iff.2 ⟨by constructor<;>simp only<;>omega,by constructor<;>simp only<;>omega,by constructor<;>simp only<;>omega⟩)
 have hf:=figB_one hs
 have a1:=c13 X hX h49 _ (fits_fig hf)
 have a2:=c15 X hX _ hf
 have hl:=ptsR_len X hX [⟨4,[⟨1,2,3⟩],0,radius,step,plane⟩]
 have a3:=c16 X hX (ptsR [⟨4,[⟨1,2,3⟩],0,radius,step,plane⟩]).1 (ptsR [⟨4,[⟨1,2,3⟩],0,radius,step,plane⟩]).1 (by omega)
 rw[decide_eq_true rfl]at a3
 rw[hz]at a1 a2
 refine bindS (c25 X hX 1 2 3) (bindS a1 (bindS a2 (bindS (r:=([.p (.bool true)],[])) ?_ ?_)))
 · show run tab X 16 [.p (.list true kV (((encL (ptsR [⟨4,[⟨1,2,3⟩],0,radius,step,plane⟩]).1).drop 0).take (encL (ptsR [⟨4,[⟨1,2,3⟩],0,radius,step,plane⟩]).1).length)),.p (.list true kV (((encL (ptsR [⟨4,[⟨1,2,3⟩],0,radius,step,plane⟩]).1).drop 0).take (encL (ptsR [⟨4,[⟨1,2,3⟩],0,radius,step,plane⟩]).1).length))] []=_
   rw[dt];exact a3
 · refine condF rfl (condF rfl ?_)
   exact l7 X hX hN h49 9 0 (by omega)
end
end Go.Skm.Fig
