/-
  The texts of whole figures; condition: the library's answers, figures that fit.
-/
import Derived.Test.YtipkmkmngcjdbaaGreatDoorF15
import Derived.Test.YtipkmkmngcjdbaaGreatDoorF14t
namespace Go.Skm.Fig
open Go Go.Skm
section
variable (X:Ext) (hX:Mine X) (hT:Texts X)
include hX
theorem l18 (f : List Sh) (hf : f.length ≤ 50) (hs : ∀ s ∈ f,Shape s) : ∀ n i (acc : List UInt8),i + n = f.length → acc.length ≤ i * 6000 →
    L tab (run tab X) 18 [] [.lp [1,1,0,1,0]] (S18_11010 (encF f) (ba acc) i)=some ([.p (.str (ba (acc++textF (f.drop i))))],[]):=by
  intro n
  induction n with
  | zero =>
   intro i acc hi ha
   refine L_of ?_
   rw[e18_11010,encF_length]
   refine condNP (show ¬ (i:Int)<(f.length:Int) by omega) ?_
   rw[List.drop_eq_nil_of_le (by omega),textF,List.append_nil]
  | succ n ih =>
   intro i acc hi ha
   have hlt:i<f.length:=by omega
   have h1:=hs _ (sat_mem hlt)
   have hl:=textS_len h1
   have w1:IntKind.i64.wrap ((i:Int)+1)=((i+1:Nat):Int):=by rw[wrap_eq (by omega) (by omega)];omega
   refine L_of ?_
   rw[e18_11010,w1]
   simp only[encF_length,Int.toNat_natCast]
   refine condP (show (i:Int)<(f.length:Int) by omega) ?_
   have hr:(leI (0:Int) (i:Int)&&ltI (i:Int) ((f.length:Nat):Int))=true:=by simp;omega
   rw[hr,fcell hlt]
   simp only[cond_true]
   refine bindS (c42 X hX (sat f i) h1) ?_
   simp only[List.headD_cons,pv_p,toStr_str]
   rw[show (⟨#[10]⟩:ByteArray)=ba [10] from rfl]
   simp only[ba_append]
   have hi6:i≤50:=by omega
   refine condP (p:=_≤_) (by simp only[ba_size];omega) ?_
   refine condP (p:=_≤_) (by simp only[ba_size,List.length_append,List.length_cons,List.length_nil];omega) ?_
   have:=ih (i+1) (acc++textS (sat f i)++[10]) (by omega) (by simp only[List.length_append,List.length_cons,List.length_nil];omega)
   rw[sdrop hlt,textF]
   simp only[List.append_assoc,List.cons_append,List.nil_append]at this ⊢
   exact this
theorem c18 (f:List Sh) (hb:figB f=true):run tab X 18 [.p (.list true kS (encF f))] []=some ([.p (.str (ba (textF f)))],[]):=by
 obtain⟨hf,hs⟩:=fig_shapes hb
 refine run_of (hX _ rfl) ?_
 rw[e18]
 exact l18 X hX f hf hs f.length 0 [] (by omega) (by simp)
include hT
end
end Go.Skm.Fig

