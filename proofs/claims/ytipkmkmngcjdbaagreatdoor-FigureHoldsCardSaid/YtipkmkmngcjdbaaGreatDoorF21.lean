/-
  The laws Points, Texts and Valid; condition: the library's answers, arguments that fit.
-/
import Derived.Test.YtipkmkmngcjdbaaGreatDoorF20
namespace Go.Skm.Fig
open Go Go.Skm
section
variable (X:Ext) (hX:Mine X) (hT:Texts X)
include hX
theorem l10 (f : List Sh) (hf : f.length ≤ 9223372036854775807) : ∀ (n i : Nat),i + n = f.length → (∀ s ∈ f.take i,s.c.length ≤ 201) →
    ∃ b,L tab (run tab X) 10 [] [.lp [1,0,1,0]] (S10_1010 (encF f) (encF f) f.length i)=some ([.p (.bool b)],[])∧(b=true→f.length≤51∧∀ s∈f,s.c.length≤201):=by
  have _:=hX
  intro n
  induction n with
  | zero =>
   intro i hi h
   rw[List.take_of_length_le (by omega)]at h
   by_cases h6:f.length≤6
   · refine⟨true,L_of ?_,fun _=>⟨by omega,h⟩⟩
     rw[e10_1010,encF_length]
     refine condNP (show ¬ (i:Int)<(f.length:Int) by omega) ?_
     exact condP (show (f.length:Int)≤6 by omega) rfl
   · refine⟨((f.length:Int)==51),L_of ?_,fun hb=>⟨by have:(f.length:Int)=51:=(by simpa using hb);omega,h⟩⟩
     rw[e10_1010,encF_length]
     refine condNP (show ¬ (i:Int)<(f.length:Int) by omega) ?_
     exact condNP (show ¬ (f.length:Int)≤6 by omega) rfl
  | succ n ih =>
   intro i hi h
   have hlt:i<f.length:=by omega
   have w1:IntKind.i64.wrap ((i:Int)+1)=((i+1:Nat):Int):=by rw[wrap_eq (by omega) (by omega)];omega
   have hr:(leI (0:Int) (i:Int)&&ltI (i:Int) (((encF f).length:Nat):Int))=true:=by simp;omega
   have step:(sat f i).c.length≤201→∀ s∈f.take (i+1),s.c.length≤201:=by
    intro h2 s hs
    rw[List.take_succ_eq_append_getElem hlt,List.mem_append,List.mem_singleton]at hs
    rcases hs with hs | rfl
    · exact h s hs
    · rw[← sat_eq hlt];exact h2
   have go:∀ {x:Option (List AV × List Blk)} {b:Bool},R tab (run tab X) 10 [] [.lp [1,0,1,0]] (S10_1010 (encF f) (encF f) f.length i)=x→x=some ([.p (.bool b)],[])→L tab (run tab X) 10 [] [.lp [1,0,1,0]] (S10_1010 (encF f) (encF f) f.length i)=some ([.p (.bool b)],[]):=fun h1 h2=>L_of (h1.trans h2)
   by_cases h8:(sat f i).c.length≤8
   · obtain⟨b,h1,h2⟩:=ih (i+1) (by omega) (step (by omega))
     refine⟨b,go (e10_1010 ..) ?_,h2⟩
     rw[w1]
     refine condP (show (i:Int)<(f.length:Int) by omega) ?_
     rw[hr,Int.toNat_natCast,encF_getD f hlt]
     simp only[cond_true,cell_agg,List.getD_cons_zero,List.getD_cons_succ,toList_list,encL_length]
     exact condNP (show ¬ ((sat f i).c.length:Int) > 8 by omega) h1
   · by_cases h0:i=0
     · by_cases h201:(sat f i).c.length≤201
       · obtain⟨b,h1,h2⟩:=ih (i+1) (by omega) (step h201)
         refine⟨b,go (e10_1010 ..) ?_,h2⟩
         rw[w1]
         refine condP (show (i:Int)<(f.length:Int) by omega) ?_
         rw[hr,Int.toNat_natCast,encF_getD f hlt]
         simp only[cond_true,cell_agg,List.getD_cons_zero,List.getD_cons_succ,toList_list,encL_length]
         refine condP (show ((sat f i).c.length:Int) > 8 by omega) (condNP (show ¬ (i:Int) > 0 by omega) ?_)
         exact condNP (show ¬ ((sat f i).c.length:Int) > 201 by omega) h1
       · refine⟨false,go (e10_1010 ..) ?_,fun h=>by cases h⟩
         rw[w1]
         refine condP (show (i:Int)<(f.length:Int) by omega) ?_
         rw[hr,Int.toNat_natCast,encF_getD f hlt]
         simp only[cond_true,cell_agg,List.getD_cons_zero,List.getD_cons_succ,toList_list,encL_length]
         refine condP (show ((sat f i).c.length:Int) > 8 by omega) (condNP (show ¬ (i:Int) > 0 by omega) ?_)
         exact condP (show ((sat f i).c.length:Int) > 201 by omega) rfl
     · refine⟨false,go (e10_1010 ..) ?_,fun h=>by cases h⟩
       rw[w1]
       refine condP (show (i:Int)<(f.length:Int) by omega) ?_
       rw[hr,Int.toNat_natCast,encF_getD f hlt]
       simp only[cond_true,cell_agg,List.getD_cons_zero,List.getD_cons_succ,toList_list,encL_length]
       refine condP (show ((sat f i).c.length:Int) > 8 by omega) ?_
       exact condP (show (i:Int) > 0 by omega) rfl
theorem c10 (f:List Sh) (hf:f.length≤9223372036854775807):∃ b,run tab X 10 [.p (.list true kS (encF f))] []=some ([.p (.bool b)],[])∧(b=true→f.length≤51∧∀ s∈f,s.c.length≤201):=by
 obtain⟨b,h1,h2⟩:=l10 X hX f hf f.length 0 (by omega) (by simp)
 refine⟨b,run_of (hX _ rfl) ?_,h2⟩
 rw[e10,encF_length]
 exact h1
theorem l11 (f:List Sh) (hf:f.length≤51):∀ (n i:Nat),i+n=f.length→∃ b,L tab (run tab X) 11 [] [.lp [1,0,1,0]] (S11_1010 (encF f) f.length i)=some ([.p (.bool b)],[]):=by
 have _:=hX
 intro n
 induction n with
 | zero =>
  intro i hi
  refine⟨true,L_of ?_⟩
  rw[e11_1010]
  exact condNP (show ¬ (i:Int)<(f.length:Int) by omega) rfl
 | succ n ih =>
  intro i hi
  have hlt:i<f.length:=by omega
  have w1:IntKind.i64.wrap ((i:Int)+1)=((i+1:Nat):Int):=by rw[wrap_eq (by omega) (by omega)];omega
  have hr:(leI (0:Int) (i:Int)&&ltI (i:Int) (((encF f).length:Nat):Int))=true:=by simp;omega
  obtain⟨b,h1⟩:=ih (i+1) (by omega)
  have go:∀ {x:Option (List AV × List Blk)},R tab (run tab X) 11 [] [.lp [1,0,1,0]] (S11_1010 (encF f) f.length i)=x→(∃ b,x=some ([.p (.bool b)],[]))→∃ b,L tab (run tab X) 11 [] [.lp [1,0,1,0]] (S11_1010 (encF f) f.length i)=some ([.p (.bool b)],[]):=fun h1 ⟨b,h2⟩=>⟨b,L_of (h1.trans h2)⟩
  refine go (e11_1010 ..) ?_
  rw[w1]
  have hc:(ltI (i:Int) (f.length:Int))=true:=by simp;omega
  rw[hc,hr,Int.toNat_natCast,encF_getD f hlt]
  simp only[cond_true,cell_agg,List.getD_cons_zero,List.getD_cons_succ,toInt_int]
  cases gtI (sat f i).m 20<;>cases leI (sat f i).m 500<;>cases gtI (sat f i).r 6<;>cases leI (sat f i).r 50<;>first | exact⟨false,rfl⟩ | exact⟨b,h1⟩
theorem c11 (f:List Sh) (hf:f.length≤51):∃ b,run tab X 11 [.p (.list true kS (encF f))] []=some ([.p (.bool b)],[]):=by
 obtain⟨b,h1⟩:=l11 X hX f hf f.length 0 (by omega)
 refine⟨b,run_of (hX _ rfl) ?_⟩
 rw[e11,encF_length]
 exact h1
theorem ptsE_len (l:List V3):(ptsE l).1.length≤4096:=by
 have _:=hX
 unfold ptsE
 split
 · split
   · simp
   · simp only;omega
 · simp
theorem ptsR_len (f:List Sh):(ptsR f).1.length≤4096:=by
 unfold ptsR
 split
 · exact ptsE_len X hX _
 · simp
theorem fits_small {f:List Sh} (h:f.length≤51∧∀ s∈f,s.c.length≤201):Fits f:=by
 have _:=hX
 exact⟨by omega,fun s hs=>by have:=h.2 s hs;omega⟩
theorem endK (hN:Known X):((run tab X 12 [] []).bind fun r2=>some ([AV.p (.bool ((r2.1.headD .undef).pv.toBool))],([]:List Blk)))=some ([.p (.bool true)],[]):=by
 have _:=hX
 rw[hN];rfl
include hT
end
end Go.Skm.Fig
