/-
  The texts of whole figures; condition: the library's answers, figures that fit.
-/
import Derived.Test.YtipkmkmngcjdbaaGreatDoorF14
import Derived.Test.YtipkmkmngcjdbaaGreatDoorF11
namespace Go.Skm.Fig
open Go Go.Skm
section
variable (X:Ext) (hX:Mine X) (hT:Texts X)
include hX
include hT
theorem l17 (f : List Sh) (hf : f.length ≤ 50) (hs : ∀ s ∈ f,Shape s) : ∀ n i (acc : List UInt8),i + n = f.length → acc.length ≤ i * 6000 →
    L tab (run tab X) 17 [] [.lp [1,1,1,0,1,0]] (S17_111010_s1 (encF f) f.length i (bv acc))=some ([.p (.str (ba (acc++textF (f.drop i)))),.p (.int .i64 0)],[]):=by
  intro n
  induction n with
  | zero =>
   intro i acc hi ha
   refine L_of ?_
   rw[e17_111010_s1]
   refine condNP (show ¬ (i:Int)<(f.length:Int) by omega) ?_
   rw[bytesOf_bv]
   refine condP (p:=(bv acc).length≤2147483648) (by simp;omega) (condT (bv_all acc) ?_)
   rw[List.drop_eq_nil_of_le (by omega),textF,List.append_nil]
  | succ n ih =>
   intro i acc hi ha
   have hlt:i<f.length:=by omega
   have h1:=hs _ (sat_mem hlt)
   have hl:=textS_len h1
   have w1:IntKind.i64.wrap ((i:Int)+1)=((i+1:Nat):Int):=by rw[wrap_eq (by omega) (by omega)];omega
   refine L_of ?_
   rw[e17_111010_s1,w1]
   simp only[encF_length,Int.toNat_natCast]
   refine condP (show (i:Int)<(f.length:Int) by omega) ?_
   have hr:(leI (0:Int) (i:Int)&&ltI (i:Int) ((f.length:Nat):Int))=true:=by simp;omega
   rw[hr,fcell hlt]
   simp only[cond_true]
   refine bindS (c40 X hX hT (sat f i) h1) ?_
   simp only[List.headD_cons,pv_p,toStr_str]
   rw[show (⟨#[10]⟩:ByteArray)=ba [10] from rfl]
   simp only[ba_append,strPVs_ba,bv_append]
   refine condP (p:=_≤_) (by simp only[ba_size,List.length_cons,List.length_nil];omega) ?_
   refine condP (p:=_≤_) (by simp only[bv_length,ba_size,List.length_append,List.length_cons,List.length_nil];omega) ?_
   have:=ih (i+1) (acc++(textS (sat f i)++[10])) (by omega) (by simp only[List.length_append,List.length_cons,List.length_nil];omega)
   rw[sdrop hlt,textF]
   simp only[List.append_assoc,List.cons_append,List.nil_append]at this ⊢
   exact this
theorem c17 (f:List Sh) (hf:Fits f):run tab X 17 [.p (.list true kS (encF f))] []=some (if figB f=true then([.p (.str (ba (textF f))),.p (.int .i64 0)],[]) else([.p (.str ⟨#[]⟩),.p (.int .i64 2)],[])):=by
 refine run_of (hX _ rfl) ?_
 rw[e17]
 refine bindS (c28 X hX f hf) ?_
 simp only[List.headD_cons,pv_p,toBool_bool,condO]
 cases hb:figB f with
 | false=>rfl
 | true =>
  obtain⟨hl,hs⟩:=fig_shapes hb
  rw[if_pos rfl]
  simp only[cond_true,encF_length]
  match f,hl,hs with
  | [],_,_ =>
   refine L_of ?_
   rw[e17_111010]
   rfl
  | s::f,hl,hs =>
   refine L_of ?_
   rw[e17_111010]
   have h1:=hs s (by simp)
   have hle:=textS_len h1
   have w1:IntKind.i64.wrap ((0:Int)+1)=((0+1:Nat):Int):=by decide
   rw[w1]
   simp only[encF_length,show (0:Int).toNat=0 from rfl]
   refine condP (show (0:Int)<(((s::f).length:Nat):Int) by simp only[List.length_cons];omega) ?_
   have hr:(leI (0:Int) 0&&ltI (0:Int) (((s::f).length:Nat):Int))=true:=by simp
   rw[hr,fcell (f:=s::f) (i:=0) (by simp)]
   simp only[cond_true]
   refine bindS (c40 X hX hT s h1) ?_
   simp only[List.headD_cons,pv_p,toStr_str]
   rw[show (⟨#[10]⟩:ByteArray)=ba [10] from rfl]
   simp only[ba_append,strPVs_ba]
   refine condP (p:=_≤_) (by simp only[ba_size,List.length_cons,List.length_nil];omega) ?_
   refine condP (p:=_≤_) (by simp only[ba_size,List.length_append,List.length_cons,List.length_nil];omega) ?_
   have:=l17 X hX hT (s::f) hl hs f.length 1 (textS s++[10]) (by simp;omega) (by simp only[List.length_append,List.length_cons,List.length_nil];omega)
   simp only[List.drop_succ_cons,List.drop_zero,textF,List.append_assoc,List.cons_append,List.nil_append]at this ⊢
   exact this
end
end Go.Skm.Fig
