/-
  The texts of figures, by the program and by the document: they agree; condition: the library's answers, valid figures.
-/
import Derived.Test.YtipkmkmngcjdbaaGreatDoorF13
namespace Go.Skm.Fig
open Go Go.Skm
def spW:List (List UInt8)→List UInt8
 | []=>[]
 | w::r=>32::(w++spW r)
theorem joinC_sp:∀ (w:List UInt8) (r:List (List UInt8)),joinC 32 (w::r)=w++spW r
 | w,[]=>by simp[joinC,spW]
 | w,q::r=>by
  rw[joinC,joinC_sp q r,spW]
theorem dig1 (k:Nat) (hk:k<10):(⟨#[48,49,50,51,52,53,54,55,56,57]⟩:ByteArray).extract k (k+1)=ba [UInt8.ofNat (48+k)]:=by
 have h:∀ k:Fin 10,(⟨#[48,49,50,51,52,53,54,55,56,57]⟩:ByteArray).extract k.val (k.val+1)=ba [UInt8.ofNat (48+k.val)]:=by decide
 exact h ⟨k,hk⟩
theorem dec1 {u:Nat} (h:u<10):Lib.decDigits u=[UInt8.ofNat (48+u)]:=by rw[Lib.decDigits];simp[h]
section
variable (X:Ext) (hX:Mine X)
include hX
theorem c77n:∀ (k:Nat) (u:Nat),u<10 ^ (k+1)→k≤18→u≤4611686018427387904→run tab X 77 [.p (.int .i64 (u:Int))] []=some ([.p (.str (ba (Lib.decDigits u)))],[])
 | k,u,h,hk,hb=>by
  refine run_of (hX _ rfl) ?_
  rw[e77]
  refine condNP (show ¬ (u:Int)<0 by omega) ?_
  by_cases hu:u<10
  · refine condP (show (u:Int)<10 by omega) ?_
    have w1:IntKind.i64.wrap ((u:Int)+1)=(u:Int)+1:=wrap_eq (by omega) (by omega)
    rw[w1]
    simp only[condA,condD]
    rw[if_pos (by omega),if_pos (by omega),if_pos (by omega)]
    rw[show ((u:Int)).toNat=u by omega,show ((u:Int)+1).toNat=u+1 by omega,dig1 u hu,dec1 hu]
  · refine condNP (show ¬ (u:Int)<10 by omega) ?_
    match k,h,hk with
    | 0,h,_=>simp at h;omega
    | k+1,h,hk =>
     have hu10:10≤u:=by omega
     have e1:(u:Int).tdiv 10=((u / 10:Nat):Int):=by rw[Int.tdiv_eq_ediv_of_nonneg (by omega)];rfl
     have e2:(u:Int).tmod 10=((u%10:Nat):Int):=by rw[Int.tmod_eq_emod_of_nonneg (by omega)];rfl
     have w1:IntKind.i64.wrap (((u / 10:Nat):Int))=((u / 10:Nat):Int):=wrap_eq (by omega) (by omega)
     rw[e1,e2,w1]
     refine bindS (c77n k (u / 10) (by rw[Nat.pow_succ]at h;omega) (by omega) (by omega)) ?_
     refine bindS (c77n 0 (u%10) (by simp;omega) (by omega) (by omega)) ?_
     simp only[List.headD_cons,pv_p,toStr_str,ba_append]
     have hl1:=dec_len 20 (u:=u / 10) (by omega)
     have hl2:=dec_len 20 (u:=u%10) (by omega)
     refine condP (p:=_≤_) (by simp only[ba_size];omega) ?_
     rw[← decDigits_split hu10]
theorem c77 (n:Int) (h0:-1000000000≤n) (h1:n≤1000000000):run tab X 77 [.p (.int .i64 n)] []=some ([.p (.str (ba (Lib.itoa n)))],[]):=by
 by_cases hn:n<0
 · refine run_of (hX _ rfl) ?_
   rw[e77]
   refine condP hn ?_
   have w1:IntKind.i64.wrap (0-n)=((n.natAbs:Nat):Int):=by rw[wrap_eq (by omega) (by omega)];omega
   rw[w1]
   have hl:=dec_len 9 (u:=n.natAbs) (by omega)
   refine bindS (c77n X hX 9 n.natAbs (by omega) (by omega) (by omega)) ?_
   simp only[List.headD_cons,pv_p,toStr_str]
   rw[show (⟨#[45]⟩:ByteArray)=ba [45] from rfl,ba_append]
   refine condP (p:=_≤_) (by simp only[ba_size,List.length_cons,List.length_nil];omega) ?_
   unfold Lib.itoa
   rw[if_pos hn]
   rfl
 · have:=c77n X hX 9 n.toNat (by omega) (by omega) (by omega)
   rw[show ((n.toNat:Nat):Int)=n by omega]at this
   rw[this,itoa_nat (by omega)]
end
end Go.Skm.Fig
