/-
  A text is read as the figure that has it, by the program; condition: the library's answers, a text that fits.
-/
import Derived.Test.YtipkmkmngcjdbaaGreatDoorF17
namespace Go.Skm.Fig
open Go Go.Skm
theorem split_join (c:UInt8):∀ (ws:List (List UInt8)),ws≠[]→(∀ w∈ws,c ∉ w)→splitC c (joinC c ws)=ws
 | [],h,_=>absurd rfl h
 | [w],_,h=>by rw[joinC];exact splitC_none (h w (by simp))
 | w::q::r,_,h=>by
  rw[joinC,splitC_app _ (h w (by simp)),split_join c (q::r) (by simp) fun x hx=>h x (by simp[hx])]
theorem itoa_nosp {n:Int} {c:UInt8} (hc:c.toNat<45):c ∉ Lib.itoa n:=fun h=>by
 rcases itoa_byte c h with h | h<;>omega
theorem corW_nosp {c:UInt8} (hc:c.toNat<45):∀ {l:List V3},∀ w∈corW l,c ∉ w
 | [],w,h=>by simp[corW]at h
 | v::l,w,h=>by
  simp only[corW,List.mem_cons]at h
  rcases h with rfl | rfl | rfl | h
  · exact itoa_nosp hc
  · exact itoa_nosp hc
  · exact itoa_nosp hc
  · exact corW_nosp hc w h
theorem kw_nosp {k:Int} {c:UInt8} (hc:c.toNat<45):c ∉ kw k:=by
 unfold kw
 (repeat' split)<;>intro h<;>simp only[List.mem_cons,List.not_mem_nil,or_false]at h<;>(try rcases h with rfl | rfl | rfl | rfl | rfl | rfl<;>simp at hc)<;>(try rcases h with rfl | rfl | rfl | rfl<;>simp at hc)
theorem plB_nosp {p:Int} {c:UInt8} (hc:c.toNat<45):c ∉ plB p:=by
 unfold plB
 (repeat' split)<;>intro h<;>simp only[List.mem_cons,List.not_mem_nil,or_false]at h<;>rcases h with rfl | rfl<;>simp at hc
theorem wordsS_nosp {s:Sh} {c:UInt8} (hc:c.toNat<45):∀ w∈wordsS s,c ∉ w:=by
 intro w hw
 rcases List.mem_append.1 hw with h | h
 · unfold headW at h
   (repeat' split at h)<;>simp only[List.mem_cons,List.not_mem_nil,or_false]at h
   · subst h;exact kw_nosp hc
   · rcases h with rfl | rfl
     · exact kw_nosp hc
     · exact itoa_nosp hc
   · rcases h with rfl | rfl
     · exact kw_nosp hc
     · exact itoa_nosp hc
   · rcases h with rfl | rfl | rfl | rfl
     · exact kw_nosp hc
     · exact plB_nosp hc
     · exact itoa_nosp hc
     · exact itoa_nosp hc
   · rcases h with rfl | rfl | rfl
     · exact kw_nosp hc
     · exact itoa_nosp hc
     · exact itoa_nosp hc
 · exact corW_nosp hc w h
theorem headW_ne (s:Sh):∃ w ws,headW s=w::ws:=by
 unfold headW
 (repeat' split)<;>exact⟨_,_,rfl⟩
theorem split_text (s:Sh):splitC 32 (textS s)=wordsS s:=by
 refine split_join 32 (wordsS s) ?_ (wordsS_nosp (by decide))
 obtain⟨w,ws,h⟩:=headW_ne s
 unfold wordsS
 rw[h];simp
def accP (l:List UInt8):Bool:=shp (prsL l)&&decide (textS (prsL l)=l)
theorem acc_some {l:List UInt8} (h:accP l=true):Shape (prsL l)∧textS (prsL l)=l:=by
 unfold accP at h
 simp only[Bool.and_eq_true,decide_eq_true_eq]at h
 exact⟨shp_iff.1 h.1,h.2⟩
theorem cutC_len (c:UInt8):∀ l,(cutC c l).1.length≤l.length∧(cutC c l).2.1.length≤l.length∧(l≠[]→(cutC c l).2.1.length<l.length)
 | []=>by simp[cutC]
 | x::l=>by
  obtain⟨h1,h2,h3⟩:=cutC_len c l
  unfold cutC
  cases h:(x==c)<;>simp only[cond_true,cond_false,List.length_cons,List.length_nil]
  · exact⟨by omega,by omega,fun _=>by omega⟩
  · exact⟨by omega,by omega,fun _=>by omega⟩
def pF:Nat→Int→List Sh→List UInt8→List Sh × Int × Int
 | 0,num,acc,l=>if l=[] then(acc,0,0) else([],num,7)
 | n+1,num,acc,l=>if l=[] then(acc,0,0) else
  (if accP (cutC 10 l).1=true∧(cutC 10 l).2.2=true then pF n (num+1) (acc++[prsL (cutC 10 l).1]) (cutC 10 l).2.1 else([],num,6))
def parsP (l:List UInt8):List Sh × Int × Int:=pF 50 1 [] l
section
variable (X:Ext) (hX:Mine X) (hT:Texts X)
include hX hT
theorem c44 (l:List UInt8) (hl:l.length≤100000000):∃ v,run tab X 44 [.p (.str (ba l))] []=some ([.p v,.p (.bool (accP l))],[])∧(accP l=true→v=eS (prsL l)):=by
 obtain⟨v,h1,h2⟩:=c44w X hX hT l hl
 exact⟨v,h1,fun h=>h2 (shp_iff.2 (acc_some h).1)⟩
theorem l19 : ∀ (n : Nat) (num : Int) (acc : List Sh) (l : List UInt8),num = 51 - n → acc.length + n = 50 → l.length ≤ 100000000 →
    L tab (run tab X) 19 [] [.lp [1,1,0,1,0]] (S19_11010 (ba l) 0 acc.length num (encF acc))=some ([.fresh true kS (encF (pF n num acc l).1),.p (.int .i64 (pF n num acc l).2.1),.p (.int .i64 (pF n num acc l).2.2)],[]):=by
  have done:∀ (num:Int) (acc:List Sh),L tab (run tab X) 19 [] [.lp [1,1,0,1,0]] (S19_11010 (ba []) 0 acc.length num (encF acc))=some ([.fresh true kS (encF acc),.p (.int .i64 0),.p (.int .i64 0)],[]):=by
   intro num acc
   refine L_of ?_
   rw[e19_11010]
   refine condF (c:=!((ba []).toList==(⟨#[]⟩:ByteArray).toList)) (by rw[show (⟨#[]⟩:ByteArray)=ba [] from rfl];simp) ?_
   rw[List.drop_zero,List.take_of_length_le (by simp)]
  have ne:∀ l:List UInt8,l≠[]→(!((ba l).toList==(⟨#[]⟩:ByteArray).toList))=true:=by
   intro l hl
   rw[show (⟨#[]⟩:ByteArray)=ba [] from rfl,ba_beq]
   simp only[Bool.not_eq_true',decide_eq_false_iff_not,ba_inj]
   exact hl
  intro n
  induction n with
  | zero =>
   intro num acc l hnum ha hl
   unfold pF
   by_cases he:l=[]
   · subst he;rw[if_pos rfl];exact done num acc
   · rw[if_neg he]
     refine L_of ?_
     rw[e19_11010]
     refine condT (ne l he) ?_
     exact condP (show num > 50 by omega) rfl
  | succ n ih =>
   intro num acc l hnum ha hl
   unfold pF
   by_cases he:l=[]
   · subst he;rw[if_pos rfl];exact done num acc
   · rw[if_neg he]
     have hc:=cutC_len 10 l
     have w1:IntKind.i64.wrap (num+1)=num+1:=wrap_eq (by omega) (by omega)
     obtain⟨v,h1,h2⟩:=c44 X hX hT (cutC 10 l).1 (by omega)
     refine L_of ?_
     rw[e19_11010,w1]
     refine condT (ne l he) ?_
     refine condNP (show ¬ num > 50 by omega) ?_
     refine bindS (hT.cut l hl) ?_
     refine bindS h1 ?_
     simp only[List.headD_cons,List.tail_cons,pv_p,toBool_bool,toStr_str]
     cases hac:accP (cutC 10 l).1 with
     | false=>rw[if_neg (by simp)];rfl
     | true =>
      have hv:=h2 hac
      cases hen:(cutC 10 l).2.2 with
      | false=>rw[if_neg (by simp)];rfl
      | true =>
       rw[if_pos ⟨rfl,rfl⟩]
       refine condP (p:=acc.length+1≤2147483648) (by omega) ?_
       have:=ih (num+1) (acc++[prsL (cutC 10 l).1]) (cutC 10 l).2.1 (by omega) (by simp only[List.length_append,List.length_cons,List.length_nil];omega) (by omega)
       rw[← this,hv]
       rw[List.drop_zero,List.take_of_length_le (by simp)]
       simp only[List.length_append,List.length_cons,List.length_nil,Nat.zero_add]
       congr 2
       simp[encF]
theorem c19 (l:List UInt8) (hl:l.length≤100000000):run tab X 19 [.p (.str (ba l))] []=some ([.fresh true kS (encF (parsP l).1),.p (.int .i64 (parsP l).2.1),.p (.int .i64 (parsP l).2.2)],[]):=by
 refine run_of (hX _ rfl) ?_
 rw[e19]
 exact l19 X hX hT 50 1 [] l (by omega) (by simp) hl
end
end Go.Skm.Fig
