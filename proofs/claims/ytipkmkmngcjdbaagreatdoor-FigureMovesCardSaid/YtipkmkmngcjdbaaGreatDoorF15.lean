/-
  The texts of whole figures; condition: the library's answers, figures that fit.
-/
import Derived.Test.YtipkmkmngcjdbaaGreatDoorF14
import Derived.Test.YtipkmkmngcjdbaaGreatDoorF11
namespace Go.Skm.Fig
open Go Go.Skm
section
variable (X:Ext) (hX:Mine X) (hT:Texts X)
include hX
include hT
theorem l17 (f : List Sh) (hf : f.length ≤ 50) (hs : ∀ s ∈ f,Shape s) : ∀ n i (acc : List UInt8),i + n = f.length → acc.length ≤ i * 6000 →
    L tab (run tab X) 17 [] [.lp [1,1,1,0,1,0]] (qU (dh f) f.length i (bv acc))=some ([.p (.str (ba (acc++textF (f.drop i)))),.p (.int .i64 0)],[]):=by
  intro n
  induction n with
  | zero =>
   intro i acc hi ha
   refine dQ ?_
   rw[CU]
   refine bM (show ¬ (i:Int)<(f.length:Int) by omega) ?_
   rw[TQ]
   refine bT (p:=(bv acc).length≤2147483648) (by simp;omega) (jV (acr acc) ?_)
   rw[List.drop_eq_nil_of_le (by omega),textF,List.append_nil]
  | succ n ih =>
   intro i acc hi ha
   have hlt:i<f.length:=by omega
   have h1:=hs _ (qV hlt)
   have hl:=Ny h1
   have w1:IntKind.i64.wrap ((i:Int)+1)=((i+1:Nat):Int):=by rw[wrap_eq (by omega) (by omega)];omega
   refine dQ ?_
   rw[CU,w1]
   simp only[bg,Int.toNat_natCast]
   refine bT (show (i:Int)<(f.length:Int) by omega) ?_
   have hr:(leI (0:Int) (i:Int)&&jo (i:Int) ((f.length:Nat):Int))=true:=by simp;omega
   rw[hr,Nv hlt]
   simp only[cond_true]
   refine aW (c40 X hX hT (sat f i) h1) ?_
   simp only[List.headD_cons,iP,nG]
   rw[show (⟨#[10]⟩:ByteArray)=ba [10] from rfl]
   simp only[Nz,Nw,WU]
   refine bT (p:=_≤_) (by simp only[yP,List.length_cons,List.length_nil];omega) ?_
   refine bT (p:=_≤_) (by simp only[WV,yP,List.length_append,List.length_cons,List.length_nil];omega) ?_
   have:=ih (i+1) (acc++(textS (sat f i)++[10])) (by omega) (by simp only[List.length_append,List.length_cons,List.length_nil];omega)
   rw[EG hlt,textF]
   simp only[List.append_assoc,List.cons_append,List.nil_append]at this ⊢
   exact this
theorem c17 (f:List Sh) (hf:Fits f):run tab X 17 [.p (.list true kS (dh f))] []=some (if uV f=true then([.p (.str (ba (textF f))),.p (.int .i64 0)],[]) else([.p (.str ⟨#[]⟩),.p (.int .i64 2)],[])):=by
 refine bK (hX _ rfl) ?_
 rw[e17]
 refine aW (c28 X hX f hf) ?_
 simp only[List.headD_cons,iP,bF,Ah]
 cases hb:uV f with
 | false=>rfl
 | true =>
  obtain⟨hl,hs⟩:=uX hb
  rw[if_pos rfl]
  simp only[cond_true,bg]
  match f,hl,hs with
  | [],_,_ =>
   refine dQ ?_
   rw[Jm]
   rfl
  | s::f,hl,hs =>
   refine dQ ?_
   rw[Jm]
   have h1:=hs s (by simp)
   have hle:=Ny h1
   have w1:IntKind.i64.wrap ((0:Int)+1)=((0+1:Nat):Int):=by decide
   rw[w1]
   simp only[bg,show (0:Int).toNat=0 from rfl]
   refine bT (show (0:Int)<(((s::f).length:Nat):Int) by simp only[List.length_cons];omega) ?_
   have hr:(leI (0:Int) 0&&jo (0:Int) (((s::f).length:Nat):Int))=true:=by simp
   rw[hr,Nv (f:=s::f) (i:=0) (by simp)]
   simp only[cond_true]
   refine aW (c40 X hX hT s h1) ?_
   simp only[List.headD_cons,iP,nG]
   rw[show (⟨#[10]⟩:ByteArray)=ba [10] from rfl]
   simp only[Nz,Nw]
   refine bT (p:=_≤_) (by simp only[yP,List.length_cons,List.length_nil];omega) ?_
   refine bT (p:=_≤_) (by simp only[yP,List.length_append,List.length_cons,List.length_nil];omega) ?_
   have:=l17 X hX hT (s::f) hl hs f.length 1 (textS s++[10]) (by simp;omega) (by simp only[List.length_append,List.length_cons,List.length_nil];omega)
   simp only[List.drop_succ_cons,List.drop_zero,textF,List.append_assoc,List.cons_append,List.nil_append]at this ⊢
   exact this
end
end Go.Skm.Fig
