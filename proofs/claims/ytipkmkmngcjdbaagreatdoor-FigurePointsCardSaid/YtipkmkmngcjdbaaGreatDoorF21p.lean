/-
  The laws Points, Texts and Valid; condition: the library's answers, arguments that fit.
-/
import Derived.Test.YtipkmkmngcjdbaaGreatDoorF21
import Derived.Test.YtipkmkmngcjdbaaGreatDoorF12p
namespace Go.Skm.Fig
open Go Go.Skm
section
variable (X:Ext) (hX:Mine X) (hT:Texts X)
include hX
theorem l11 (f:List Sh) (hf:f.length≤51):∀ (n i:Nat),i+n=f.length→∃ b,L tab (run tab X) 11 [] [.lp [1,0,1,0]] (S11_1010 (encF f) f.length i)=some ([.p (.bool b)],[]):=by
 have _:=hX
 intro n
 induction n with
 | zero =>
  intro i hi
  refine⟨true,L_of ?_⟩
  rw[e11_1010]
  exact condNP (show ¬ (i:Int)<(f.length:Int) by omega) rfl
 | succ n ih =>
  intro i hi
  have hlt:i<f.length:=by omega
  have w1:IntKind.i64.wrap ((i:Int)+1)=((i+1:Nat):Int):=by rw[wrap_eq (by omega) (by omega)];omega
  have hr:(leI (0:Int) (i:Int)&&ltI (i:Int) (((encF f).length:Nat):Int))=true:=by simp;omega
  obtain⟨b,h1⟩:=ih (i+1) (by omega)
  have go:∀ {x:Option (List AV × List Blk)},R tab (run tab X) 11 [] [.lp [1,0,1,0]] (S11_1010 (encF f) f.length i)=x→(∃ b,x=some ([.p (.bool b)],[]))→∃ b,L tab (run tab X) 11 [] [.lp [1,0,1,0]] (S11_1010 (encF f) f.length i)=some ([.p (.bool b)],[]):=fun h1 ⟨b,h2⟩=>⟨b,L_of (h1.trans h2)⟩
  refine go (e11_1010 ..) ?_
  rw[w1]
  have hc:(ltI (i:Int) (f.length:Int))=true:=by simp;omega
  rw[hc,hr,Int.toNat_natCast,encF_getD f hlt]
  simp only[cond_true,cell_agg,List.getD_cons_zero,List.getD_cons_succ,toInt_int]
  cases gtI (sat f i).m 20<;>cases leI (sat f i).m 500<;>cases gtI (sat f i).r 6<;>cases leI (sat f i).r 50<;>first | exact⟨false,rfl⟩ | exact⟨b,h1⟩
theorem c11 (f:List Sh) (hf:f.length≤51):∃ b,run tab X 11 [.p (.list true kS (encF f))] []=some ([.p (.bool b)],[]):=by
 obtain⟨b,h1⟩:=l11 X hX f hf f.length 0 (by omega)
 refine⟨b,run_of (hX _ rfl) ?_⟩
 rw[e11,encF_length]
 exact h1
theorem ptsE_len (l:List V3):(ptsE l).1.length≤4096:=by
 have _:=hX
 unfold ptsE
 split
 · split
   · simp
   · simp only;omega
 · simp
theorem ptsR_len (f:List Sh):(ptsR f).1.length≤4096:=by
 unfold ptsR
 split
 · exact ptsE_len X hX _
 · simp
theorem law3 (hN:Known X) (h49:Keys49 X) (f:List Sh) (hf:f.length≤9223372036854775807):run tab X 3 [.p (.list true kS (encF f))] []=some ([.p (.bool true)],[]):=by
 refine run_of (hX _ rfl) ?_
 rw[e3]
 obtain⟨b,h1,h2⟩:=c10 X hX f hf
 refine bindS h1 ?_
 simp only[List.headD_cons,pv_p,toBool_bool,condO]
 cases b with
 | false=>exact endK X hX hN
 | true =>
  have hs:=h2 rfl
  have hF:=fits_small X hX hs
  obtain⟨b2,g1⟩:=c11 X hX f hs.1
  simp only[cond_true]
  refine bindS g1 ?_
  simp only[List.headD_cons,pv_p,toBool_bool]
  cases b2 with
  | false=>exact endK X hX hN
  | true =>
   simp only[cond_true]
   refine bindS (c13 X hX h49 f hF) (bindS (c14 X hX f hF) ?_)
   simp only[List.headD_cons,List.tail_cons,pv_p,toBool_bool,freshList_fresh,encL_length,toInt_int]
   cases hb:figB f with
   | false =>
    have e:ptsR f=([],2):=by unfold ptsR;rw[if_neg (by rw[hb];simp)]
    rw[e]
    exact endK X hX hN
   | true =>
    simp only[cond_true]
    refine bindS (c15 X hX f hb) ?_
    simp only[List.headD_cons,List.tail_cons,pv_p,toInt_int,freshList_fresh,encL_length,List.drop_zero]
    rw[List.take_of_length_le (by simp)]
    refine bindS (c16 X hX (ptsR f).1 (ptsR f).1 (by have:=ptsR_len X hX f;omega)) ?_
    simp only[List.headD_cons,pv_p,toBool_bool,decide_true,cond_true]
    refine condEqs rfl (endK X hX hN)
include hT
end
end Go.Skm.Fig

