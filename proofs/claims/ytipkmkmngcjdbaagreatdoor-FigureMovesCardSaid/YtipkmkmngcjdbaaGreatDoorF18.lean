/-
  A text is read as the figure that has it, by the program; condition: the library's answers, a text that fits.
-/
import Derived.Test.YtipkmkmngcjdbaaGreatDoorF17
namespace Go.Skm.Fig
open Go Go.Skm
theorem JJ (c:UInt8):∀ (ws:List (List UInt8)),ws≠[]→(∀ w∈ws,c ∉ w)→dF c (rU c ws)=ws
 | [],h,_=>absurd rfl h
 | [w],_,h=>by rw[rU];exact Am (h w (by simp))
 | w::q::r,_,h=>by
  rw[rU,Dy _ (h w (by simp)),JJ c (q::r) (by simp) fun x hx=>h x (by simp[hx])]
theorem nH {n:Int} {c:UInt8} (hc:c.toNat<45):c ∉ Lib.itoa n:=fun h=>by
 rcases WY c h with h | h<;>omega
theorem NC {c:UInt8} (hc:c.toNat<45):∀ {l:List V3},∀ w∈F7 l,c ∉ w
 | [],w,h=>by simp[F7]at h
 | v::l,w,h=>by
  simp only[F7,List.mem_cons]at h
  rcases h with rfl | rfl | rfl | h
  · exact nH hc
  · exact nH hc
  · exact nH hc
  · exact NC hc w h
theorem EI {k:Int} {c:UInt8} (hc:c.toNat<45):c ∉ kw k:=by
 unfold kw
 (repeat' split)<;>intro h<;>simp only[List.mem_cons,List.not_mem_nil,or_false]at h<;>(try rcases h with rfl | rfl | rfl | rfl | rfl | rfl<;>simp at hc)<;>(try rcases h with rfl | rfl | rfl | rfl<;>simp at hc)
theorem YO {p:Int} {c:UInt8} (hc:c.toNat<45):c ∉ plB p:=by
 unfold plB
 (repeat' split)<;>intro h<;>simp only[List.mem_cons,List.not_mem_nil,or_false]at h<;>rcases h with rfl | rfl<;>simp at hc
theorem QJ {s:Sh} {c:UInt8} (hc:c.toNat<45):∀ w∈qJ s,c ∉ w:=by
 intro w hw
 rcases List.mem_append.1 hw with h | h
 · unfold headW at h
   (repeat' split at h)<;>simp only[List.mem_cons,List.not_mem_nil,or_false]at h
   · subst h;exact EI hc
   · rcases h with rfl | rfl
     · exact EI hc
     · exact nH hc
   · rcases h with rfl | rfl
     · exact EI hc
     · exact nH hc
   · rcases h with rfl | rfl | rfl | rfl
     · exact EI hc
     · exact YO hc
     · exact nH hc
     · exact nH hc
   · rcases h with rfl | rfl | rfl
     · exact EI hc
     · exact nH hc
     · exact nH hc
 · exact NC hc w h
theorem YP (s:Sh):∃ w ws,headW s=w::ws:=by
 unfold headW
 (repeat' split)<;>exact⟨_,_,rfl⟩
theorem TY (s:Sh):dF 32 (textS s)=qJ s:=by
 refine JJ 32 (qJ s) ?_ (QJ (by decide))
 obtain⟨w,ws,h⟩:=YP s
 unfold qJ
 rw[h];simp
def MJ (l:List UInt8):Bool:=FP (Ak l)&&decide (textS (Ak l)=l)
theorem QK {l:List UInt8} (h:MJ l=true):Shape (Ak l)∧textS (Ak l)=l:=by
 unfold MJ at h
 simp only[Bool.and_eq_true,decide_eq_true_eq]at h
 exact⟨EF.1 h.1,h.2⟩
theorem QL (c:UInt8):∀ l,(qC c l).1.length≤l.length∧(qC c l).2.1.length≤l.length∧(l≠[]→(qC c l).2.1.length<l.length)
 | []=>by simp[qC]
 | x::l=>by
  obtain⟨h1,h2,h3⟩:=QL c l
  unfold qC
  cases h:(x==c)<;>simp only[cond_true,cond_false,List.length_cons,List.length_nil]
  · exact⟨by omega,by omega,fun _=>by omega⟩
  · exact⟨by omega,by omega,fun _=>by omega⟩
def pF:Nat→Int→List Sh→List UInt8→List Sh × Int × Int
 | 0,num,acc,l=>if l=[] then(acc,0,0) else([],num,7)
 | n+1,num,acc,l=>if l=[] then(acc,0,0) else
  (if MJ (qC 10 l).1=true∧(qC 10 l).2.2=true then pF n (num+1) (acc++[Ak (qC 10 l).1]) (qC 10 l).2.1 else([],num,6))
def CY (l:List UInt8):List Sh × Int × Int:=pF 50 1 [] l
section
variable (X:Ext) (hX:Mine X) (hT:Texts X)
include hX hT
theorem c44 (l:List UInt8) (hl:l.length≤100000000):∃ v,run tab X 44 [.p (.str (ba l))] []=some ([.p v,.p (.bool (MJ l))],[])∧(MJ l=true→v=eS (Ak l)):=by
 obtain⟨v,h1,h2⟩:=aiZ X hX hT l hl
 exact⟨v,h1,fun h=>h2 (EF.2 (QK h).1)⟩
theorem l19 : ∀ (n : Nat) (num : Int) (acc : List Sh) (l : List UInt8),num = 51 - n → acc.length + n = 50 → l.length ≤ 100000000 →
    L tab (run tab X) 19 [] [.lp [1,1,0,1,0]] (xM (ba l) 0 acc.length num (dh acc))=some ([.fresh true kS (dh (pF n num acc l).1),.p (.int .i64 (pF n num acc l).2.1),.p (.int .i64 (pF n num acc l).2.2)],[]):=by
  have done:∀ (num:Int) (acc:List Sh),L tab (run tab X) 19 [] [.lp [1,1,0,1,0]] (xM (ba []) 0 acc.length num (dh acc))=some ([.fresh true kS (dh acc),.p (.int .i64 0),.p (.int .i64 0)],[]):=by
   intro num acc
   refine dQ ?_
   rw[FT]
   refine Hl (c:=!((ba []).toList==(⟨#[]⟩:ByteArray).toList)) (by rw[show (⟨#[]⟩:ByteArray)=ba [] from rfl];simp) ?_
   rw[List.drop_zero,List.take_of_length_le (by simp)]
  have ne:∀ l:List UInt8,l≠[]→(!((ba l).toList==(⟨#[]⟩:ByteArray).toList))=true:=by
   intro l hl
   rw[show (⟨#[]⟩:ByteArray)=ba [] from rfl,TV]
   simp only[Bool.not_eq_true',decide_eq_false_iff_not,TW]
   exact hl
  intro n
  induction n with
  | zero =>
   intro num acc l hnum ha hl
   unfold pF
   by_cases he:l=[]
   · subst he;rw[if_pos rfl];exact done num acc
   · rw[if_neg he]
     refine dQ ?_
     rw[FT]
     refine jV (ne l he) ?_
     exact bT (show num > 50 by omega) rfl
  | succ n ih =>
   intro num acc l hnum ha hl
   unfold pF
   by_cases he:l=[]
   · subst he;rw[if_pos rfl];exact done num acc
   · rw[if_neg he]
     have hc:=QL 10 l
     have w1:IntKind.i64.wrap (num+1)=num+1:=wrap_eq (by omega) (by omega)
     obtain⟨v,h1,h2⟩:=c44 X hX hT (qC 10 l).1 (by omega)
     refine dQ ?_
     rw[FT,w1]
     refine jV (ne l he) ?_
     refine bM (show ¬ num > 50 by omega) ?_
     refine aW (hT.cut l hl) ?_
     refine aW h1 ?_
     simp only[List.headD_cons,List.tail_cons,iP,bF,nG]
     cases hac:MJ (qC 10 l).1 with
     | false=>rw[if_neg (by simp)];rfl
     | true =>
      have hv:=h2 hac
      cases hen:(qC 10 l).2.2 with
      | false=>rw[if_neg (by simp)];rfl
      | true =>
       rw[if_pos ⟨rfl,rfl⟩]
       refine bT (p:=acc.length+1≤2147483648) (by omega) ?_
       have:=ih (num+1) (acc++[Ak (qC 10 l).1]) (qC 10 l).2.1 (by omega) (by simp only[List.length_append,List.length_cons,List.length_nil];omega) (by omega)
       rw[← this,hv]
       rw[List.drop_zero,List.take_of_length_le (by simp)]
       simp only[List.length_append,List.length_cons,List.length_nil,Nat.zero_add]
       congr 2
       simp[dh]
theorem c19 (l:List UInt8) (hl:l.length≤100000000):run tab X 19 [.p (.str (ba l))] []=some ([.fresh true kS (dh (CY l).1),.p (.int .i64 (CY l).2.1),.p (.int .i64 (CY l).2.2)],[]):=by
 refine bK (hX _ rfl) ?_
 rw[e19]
 exact l19 X hX hT 50 1 [] l (by omega) (by simp) hl
end
end Go.Skm.Fig
