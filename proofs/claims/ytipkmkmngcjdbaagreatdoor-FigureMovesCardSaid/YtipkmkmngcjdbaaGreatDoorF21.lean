/-
  The laws acy, Texts and Valid; condition: the library's answers, arguments that fit.
-/
import Derived.Test.YtipkmkmngcjdbaaGreatDoorF20
namespace Go.Skm.Fig
open Go Go.Skm
section
variable (X:Ext) (hX:Mine X) (hT:Texts X)
include hX
theorem l10 (f : List Sh) (hf : f.length ≤ 9223372036854775807) : ∀ (n i : Nat),i + n = f.length → (∀ s ∈ f.take i,s.c.length ≤ 201) →
    ∃ b,L tab (run tab X) 10 [] [.lp [1,0,1,0]] (uM (dh f) (dh f) f.length i)=some ([.p (.bool b)],[])∧(b=true→f.length≤51∧∀ s∈f,s.c.length≤201):=by
  have _:=hX
  intro n
  induction n with
  | zero =>
   intro i hi h
   rw[List.take_of_length_le (by omega)]at h
   by_cases h6:f.length≤6
   · refine⟨true,dQ ?_,fun _=>⟨by omega,h⟩⟩
     rw[xJ,bg]
     refine bM (show ¬ (i:Int)<(f.length:Int) by omega) ?_
     exact bT (show (f.length:Int)≤6 by omega) rfl
   · refine⟨((f.length:Int)==51),dQ ?_,fun hb=>⟨by have:(f.length:Int)=51:=(by simpa using hb);omega,h⟩⟩
     rw[xJ,bg]
     refine bM (show ¬ (i:Int)<(f.length:Int) by omega) ?_
     exact bM (show ¬ (f.length:Int)≤6 by omega) rfl
  | succ n ih =>
   intro i hi h
   have hlt:i<f.length:=by omega
   have w1:IntKind.i64.wrap ((i:Int)+1)=((i+1:Nat):Int):=by rw[wrap_eq (by omega) (by omega)];omega
   have hr:(leI (0:Int) (i:Int)&&jo (i:Int) (((dh f).length:Nat):Int))=true:=by simp;omega
   have step:(sat f i).c.length≤201→∀ s∈f.take (i+1),s.c.length≤201:=by
    intro h2 s hs
    rw[List.take_succ_eq_append_getElem hlt,List.mem_append,List.mem_singleton]at hs
    rcases hs with hs | rfl
    · exact h s hs
    · rw[← wM hlt];exact h2
   have go:∀ {x:Option (List AV × List aI)} {b:Bool},R tab (run tab X) 10 [] [.lp [1,0,1,0]] (uM (dh f) (dh f) f.length i)=x→x=some ([.p (.bool b)],[])→L tab (run tab X) 10 [] [.lp [1,0,1,0]] (uM (dh f) (dh f) f.length i)=some ([.p (.bool b)],[]):=fun h1 h2=>dQ (h1.trans h2)
   by_cases h8:(sat f i).c.length≤8
   · obtain⟨b,h1,h2⟩:=ih (i+1) (by omega) (step (by omega))
     refine⟨b,go (xJ ..) ?_,h2⟩
     rw[w1]
     refine bT (show (i:Int)<(f.length:Int) by omega) ?_
     rw[hr,Int.toNat_natCast,jD f hlt]
     simp only[cond_true,gu,List.getD_cons_zero,List.getD_cons_succ,jK,aQ]
     exact bM (show ¬ ((sat f i).c.length:Int) > 8 by omega) h1
   · by_cases h0:i=0
     · by_cases ai4:(sat f i).c.length≤201
       · obtain⟨b,h1,h2⟩:=ih (i+1) (by omega) (step ai4)
         refine⟨b,go (xJ ..) ?_,h2⟩
         rw[w1]
         refine bT (show (i:Int)<(f.length:Int) by omega) ?_
         rw[hr,Int.toNat_natCast,jD f hlt]
         simp only[cond_true,gu,List.getD_cons_zero,List.getD_cons_succ,jK,aQ]
         refine bT (show ((sat f i).c.length:Int) > 8 by omega) (bM (show ¬ (i:Int) > 0 by omega) ?_)
         exact bM (show ¬ ((sat f i).c.length:Int) > 201 by omega) h1
       · refine⟨false,go (xJ ..) ?_,fun h=>by cases h⟩
         rw[w1]
         refine bT (show (i:Int)<(f.length:Int) by omega) ?_
         rw[hr,Int.toNat_natCast,jD f hlt]
         simp only[cond_true,gu,List.getD_cons_zero,List.getD_cons_succ,jK,aQ]
         refine bT (show ((sat f i).c.length:Int) > 8 by omega) (bM (show ¬ (i:Int) > 0 by omega) ?_)
         exact bT (show ((sat f i).c.length:Int) > 201 by omega) rfl
     · refine⟨false,go (xJ ..) ?_,fun h=>by cases h⟩
       rw[w1]
       refine bT (show (i:Int)<(f.length:Int) by omega) ?_
       rw[hr,Int.toNat_natCast,jD f hlt]
       simp only[cond_true,gu,List.getD_cons_zero,List.getD_cons_succ,jK,aQ]
       refine bT (show ((sat f i).c.length:Int) > 8 by omega) ?_
       exact bT (show (i:Int) > 0 by omega) rfl
theorem c10 (f:List Sh) (hf:f.length≤9223372036854775807):∃ b,run tab X 10 [.p (.list true kS (dh f))] []=some ([.p (.bool b)],[])∧(b=true→f.length≤51∧∀ s∈f,s.c.length≤201):=by
 obtain⟨b,h1,h2⟩:=l10 X hX f hf f.length 0 (by omega) (by simp)
 refine⟨b,bK (hX _ rfl) ?_,h2⟩
 rw[e10,bg]
 exact h1
include hT
end
end Go.Skm.Fig
