/-
  The laws Points, Texts and Valid; condition: the library's answers, arguments that fit.
-/
import Derived.Test.YtipkmkmngcjdbaaGreatDoorF21
import Derived.Test.YtipkmkmngcjdbaaGreatDoorF15t
namespace Go.Skm.Fig
open Go Go.Skm
section
variable (X:Ext) (hX:Mine X) (hT:Texts X)
include hX
theorem l57e (a b : List V3) (hl : a.length ≤ 2147483648) (he : a.length = b.length) : ∀ (n i : Nat),i + n = a.length → a.take i = b.take i →
    L tab (run tab X) 57 [] [.lp [1,1,0,1,0]] (S57_11010 (encL a) (encL b) a.length i)=some ([.p (.bool (decide (a=b)))],[]):=by
  have _:=hX
  intro n
  induction n with
  | zero =>
   intro i hi ht
   refine L_of ?_
   rw[e57_11010]
   refine condNP (show ¬ (i:Int)<(a.length:Int) by omega) ?_
   rw[List.take_of_length_le (by omega),List.take_of_length_le (by omega)]at ht
   simp[ht]
  | succ n ih =>
   intro i hi ht
   have h1:i<a.length:=by omega
   have h2:i<b.length:=by omega
   have w1:IntKind.i64.wrap ((i:Int)+1)=((i+1:Nat):Int):=by rw[wrap_eq (by omega) (by omega)];omega
   have hr:(leI (0:Int) (i:Int)&&ltI (i:Int) (((encL a).length:Nat):Int))=true:=by simp;omega
   have hr2:(leI (0:Int) (i:Int)&&ltI (i:Int) (((encL b).length:Nat):Int))=true:=by simp;omega
   have g1:a.getD i default=a[i]:=by rw[List.getD_eq_getElem?_getD];simp[h1]
   have g2:b.getD i default=b[i]:=by rw[List.getD_eq_getElem?_getD];simp[h2]
   refine L_of ?_
   rw[e57_11010,w1]
   refine condP (show (i:Int)<(a.length:Int) by omega) ?_
   rw[hr,hr2,Int.toNat_natCast]
   simp only[cond_true,encL_x,encL_y,encL_z,g1,g2,Bool.and_true]
   by_cases e:a[i]=b[i]
   · rw[e]
     simp only[beq_self_eq_true,Bool.and_self,Bool.not_true,cond_false]
     refine ih (i+1) (by omega) ?_
     rw[List.take_succ_eq_append_getElem h1,List.take_succ_eq_append_getElem h2,ht,e]
   · have hn : (a[i].x == b[i].x && (a[i].y == b[i].y && a[i].z == b[i].z)) = false := by
       cases hh:(a[i].x==b[i].x&&(a[i].y==b[i].y&&a[i].z==b[i].z)) with
       | false=>rfl
       | true =>
        simp only[Bool.and_eq_true,beq_iff_eq]at hh
        exact absurd (V3.ext' hh.1 hh.2.1 hh.2.2) e
     rw[hn]
     have hab:a≠b:=by rintro rfl;exact e rfl
     simp[hab]
theorem c57e (a b:List V3) (hl:a.length≤2147483648):run tab X 57 [.p (.list true kV (encL a)),.p (.list true kV (encL b))] []=some ([.p (.bool (decide (a=b)))],[]):=by
 refine run_of (hX _ rfl) ?_
 rw[e57,encL_length,encL_length,condN]
 by_cases h:a.length=b.length
 · rw[if_pos (by omega)]
   exact l57e X hX a b hl h a.length 0 (by omega) (by simp)
 · rw[if_neg (by omega),decide_eq_false fun e=>h (by rw[e])]
theorem c56e (s t:Sh) (hl:s.c.length≤2147483648):run tab X 56 [.p (eS s),.p (eS t)] []=some ([.p (.bool (decide (s=t)))],[]):=by
 have nope:s≠t→some ([AV.p (.bool false)],([]:List Blk))=some ([.p (.bool (decide (s=t)))],[]):=fun h=>by rw[decide_eq_false h]
 refine run_of (hX _ rfl) ?_
 rw[e56]
 simp only[condE]
 refine iteK (fun e1=>?_) fun h=>nope fun e=>h (by rw[e])
 refine bindS (c57e X hX s.c t.c hl) ?_
 simp only[List.headD_cons,pv_p,toBool_bool,condD]
 refine iteK (fun e6=>?_) fun h=>nope fun e=>h (by rw[e])
 refine iteK (fun e2=>?_) fun h=>nope fun e=>h (by rw[e])
 refine iteK (fun e3=>?_) fun h=>nope fun e=>h (by rw[e])
 refine iteK (fun e4=>?_) fun h=>nope fun e=>h (by rw[e])
 by_cases e5:s.p=t.p
 · have es : s = t := by
     obtain⟨k,c,m,r,st,p⟩:=s
     obtain⟨k',c',m',r',st',p'⟩:=t
     simp only at e1 e2 e3 e4 e5 e6
     subst e1 e2 e3 e4 e5 e6;rfl
   subst es
   simp
 · have es:s≠t:=fun e=>e5 (by rw[e])
   simp[es,e5]
theorem l55 (a b : List Sh) (hf : Fits a) (hl : a.length = b.length) : ∀ (n i : Nat),i + n = a.length → a.take i = b.take i →
    L tab (run tab X) 55 [] [.lp [1,1,0,1,0]] (S55_11010 (encF b) (encF a) a.length i)=some ([.p (.bool (decide (a=b)))],[]):=by
  intro n
  induction n with
  | zero =>
   intro i hi ht
   refine L_of ?_
   rw[e55_11010]
   refine condNP (show ¬ (i:Int)<(a.length:Int) by omega) ?_
   rw[List.take_of_length_le (by omega),List.take_of_length_le (by omega)]at ht
   simp[ht]
  | succ n ih =>
   intro i hi ht
   have h1:i<a.length:=by omega
   have h2:i<b.length:=by omega
   have w1:IntKind.i64.wrap ((i:Int)+1)=((i+1:Nat):Int):=by rw[wrap_eq (by have:=hf.1;omega) (by have:=hf.1;omega)];omega
   have hr:(leI (0:Int) (i:Int)&&ltI (i:Int) (((encF a).length:Nat):Int))=true:=by simp;omega
   have hr2:(leI (0:Int) (i:Int)&&ltI (i:Int) (((encF b).length:Nat):Int))=true:=by simp;omega
   refine L_of ?_
   rw[e55_11010,w1]
   refine condP (show (i:Int)<(a.length:Int) by omega) ?_
   rw[hr,hr2,Int.toNat_natCast,fcell h1,fcell h2]
   simp only[cond_true]
   refine bindS (c56e X hX (sat a i) (sat b i) (hf.2 _ (sat_mem h1))) ?_
   simp only[List.headD_cons,pv_p,toBool_bool,condO,condD]
   refine iteK (fun es=>?_) fun h=>by rw[decide_eq_false fun e=>h (by rw[e])]
   refine ih (i+1) (by omega) ?_
   rw[List.take_succ_eq_append_getElem h1,List.take_succ_eq_append_getElem h2,ht,← sat_eq h1,← sat_eq h2,es]
theorem c29 (a b:List Sh) (hf:Fits a):run tab X 29 [.p (.list true kS (encF a)),.p (.list true kS (encF b))] []=some ([.p (.bool (decide (a=b)))],[]):=by
 refine run_of (hX _ rfl) ?_
 rw[e29]
 have:run tab X 55 [.p (.list true kS (encF a)),.p (.list true kS (encF b)),.p (.fn 56 [])] []=some ([.p (.bool (decide (a=b)))],[]):=by
  refine run_of (hX _ rfl) ?_
  rw[e55,encF_length,encF_length,condN]
  by_cases h:a.length=b.length
  · rw[if_pos (by omega)]
    exact l55 X hX a b hf h a.length 0 (by omega) (by simp)
  · rw[if_neg (by omega),decide_eq_false fun e=>h (by rw[e])]
 refine bindS this ?_
 rfl
theorem law9 (hN:Known X) (a b:List Sh) (ha:a.length≤9223372036854775807) (hb:b.length≤9223372036854775807):run tab X 9 [.p (.list true kS (encF a)),.p (.list true kS (encF b))] []=some ([.p (.bool true)],[]):=by
 refine run_of (hX _ rfl) ?_
 rw[e9]
 obtain⟨x,h1,h2⟩:=c10 X hX a ha
 obtain⟨y,g1,g2⟩:=c10 X hX b hb
 refine bindS h1 ?_
 simp only[List.headD_cons,pv_p,toBool_bool,condO]
 cases x with
 | false=>exact endK X hX hN
 | true =>
  simp only[cond_true]
  refine bindS g1 ?_
  simp only[List.headD_cons,pv_p,toBool_bool]
  cases y with
  | false=>exact endK X hX hN
  | true =>
   have hF:=fits_small X hX (h2 rfl)
   simp only[cond_true]
   refine bindS (c28 X hX a hF) (bindS (c14 X hX a hF) ?_)
   simp only[List.headD_cons,pv_p,toBool_bool,beq_self_eq_true,cond_true]
   refine bindS (c29 X hX a b hF) (bindS (c21 X hX a b hF) ?_)
   simp only[List.headD_cons,pv_p,toBool_bool,beq_self_eq_true,cond_true]
   refine bindS (c29 X hX a a hF) ?_
   simp only[List.headD_cons,pv_p,toBool_bool,decide_true,cond_true]
   exact endK X hX hN
include hT
theorem law4 (hN:Known X) (f:List Sh) (hf:f.length≤9223372036854775807):run tab X 4 [.p (.list true kS (encF f))] []=some ([.p (.bool true)],[]):=by
 refine run_of (hX _ rfl) ?_
 rw[e4]
 obtain⟨b,h1,h2⟩:=c10 X hX f hf
 refine bindS h1 ?_
 simp only[List.headD_cons,pv_p,toBool_bool,condO]
 cases b with
 | false=>exact endK X hX hN
 | true =>
  have hs:=h2 rfl
  have hF:=fits_small X hX hs
  simp only[cond_true]
  refine bindS (c17 X hX hT f hF) (bindS (c14 X hX f hF) ?_)
  simp only[List.headD_cons,pv_p,toBool_bool]
  cases hb:figB f with
  | false =>
   rw[if_neg (by simp)]
   simp only[cond_false,List.headD_cons,List.tail_cons,pv_p,toStr_str,toInt_int]
   refine condT (by simp) ?_
   exact condEqs rfl (endK X hX hN)
  | true =>
   rw[if_pos rfl]
   simp only[cond_true]
   refine bindS (c18 X hX f hb) ?_
   simp only[List.headD_cons,List.tail_cons,pv_p,toStr_str,toInt_int]
   refine condT (by simp) ?_
   exact condEqs rfl (endK X hX hN)
end
end Go.Skm.Fig

