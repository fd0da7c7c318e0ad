/-
  The document's examples; condition: the library's answers.
-/
import Derived.Test.YtipkmkmngcjdbaaGreatDoorF19
namespace Go.Skm.Fig
open Go Go.Skm
def Known (X:Ext):Prop:=run tab X 12 [] []=some ([.p (.bool true)],[])
def ring9:List V3:=[⟨-10,0,-10⟩,⟨-10,0,0⟩,⟨-10,0,10⟩,⟨0,0,-10⟩,⟨0,0,0⟩,⟨0,0,10⟩,⟨10,0,-10⟩,⟨10,0,0⟩,⟨10,0,10⟩]
def dotsK:List Sh:=[⟨1,[⟨3,0,0⟩,⟨1,0,0⟩,⟨3,0,0⟩],0,0,0,0⟩]
def lineK:List Sh:=[⟨2,[⟨0,0,0⟩,⟨3,0,0⟩],2,0,0,0⟩]
def ringK:List Sh:=[⟨4,[⟨0,0,0⟩],0,1,10,1⟩]
theorem q1:ptsR dotsK=([⟨1,0,0⟩,⟨3,0,0⟩],0):=by decide +kernel
theorem q2:ptsR lineK=([⟨0,0,0⟩,⟨2,0,0⟩,⟨3,0,0⟩],0):=by decide +kernel
theorem q3:ptsR ringK=(ring9,0):=by decide +kernel
theorem q5:movR [⟨1,[⟨1,2,3⟩],0,0,0,0⟩] ⟨1,-1,0⟩=([⟨1,[⟨2,1,3⟩],0,0,0,0⟩],0):=by decide +kernel
theorem q6:ptsR [⟨1,[⟨2,1,3⟩],0,0,0,0⟩]=([⟨2,1,3⟩],0):=by decide +kernel
theorem i0:Lib.itoa 0=[48]:=by rw[itoa_nat (by decide),dec1 (by decide)];rfl
theorem i1:Lib.itoa 1=[49]:=by rw[itoa_nat (by decide),dec1 (by decide)];rfl
theorem i10:Lib.itoa 10=[49,48]:=by
 rw[itoa_nat (by decide),decDigits_split (by decide),dec1 (by decide),dec1 (by decide)];rfl
theorem q4:textF ringK=[114,105,110,103,32,120,122,32,49,32,49,48,32,48,32,48,32,48,10]:=by
 have:textS ⟨4,[⟨0,0,0⟩],0,1,10,1⟩=[114,105,110,103,32,120,122,32,49,32,49,48,32,48,32,48,32,48]:=by
  show joinC 32 ([kw 4,plB 1,Lib.itoa 1,Lib.itoa 10]++[Lib.itoa 0,Lib.itoa 0,Lib.itoa 0])=_
  rw[i0,i1,i10]
  decide
 unfold ringK
 rw[textF,this]
 rfl
def t1:List UInt8:=[100,111,116,115,32,49,32,50,32,51]
def t2:List UInt8:=[100,111,116,115,32,49,32,50,10]
def t4:List UInt8:=[108,111,111,112,32,50,32,48,32,48,32,48,32,49,32,48,32,48,10]
theorem acc_no {l:List UInt8} (h:∀ s,Shape s→(kdW ((splitC 32 l).headD [])=s.k∨s.k=0)→(splitC 32 l).length≠(headW s).length+3*s.c.length):accP l=false:=by
 cases ha:accP l with
 | false=>rfl
 | true =>
  obtain⟨h1,h2⟩:=acc_some ha
  have e:splitC 32 l=wordsS (prsL l):=by rw[← split_text,h2]
  refine absurd ?_ (h (prsL l) h1 (.inl ?_))
  · rw[e];unfold wordsS;rw[List.length_append,corW_len]
  · unfold prsL
    cases hs:splitC 32 l with
    | nil=>exact absurd hs (splitC_ne 32 l)
    | cons w ws=>rfl
theorem r1:parsP t1=([],1,6):=by
 have hc:(cutC 10 t1).2.2=false:=by decide
 unfold parsP pF
 rw[if_neg (by decide),if_neg (by rw[hc];simp)]
theorem r2:parsP t2=([],1,6):=by
 have hc:(cutC 10 t2).1=[100,111,116,115,32,49,32,50]:=by decide
 have ha:accP (cutC 10 t2).1=false:=by
  rw[hc]
  refine acc_no fun s hs hk=>?_
  have e1:kdW ((splitC 32 [100,111,116,115,32,49,32,50]).headD [])=1:=by decide
  have e2:(splitC 32 [100,111,116,115,32,49,32,50]).length=3:=by decide
  rw[e1]at hk
  rw[e2]
  obtain⟨_,_,hh⟩:=hs
  have hk:s.k=1:=by omega
  simp only[headW,hk,if_true,List.length_cons,List.length_nil]
  omega
 unfold parsP pF
 rw[if_neg (by decide),if_neg (by rw[ha];simp)]
theorem r3:parsP []=([],0,0):=rfl
theorem r4:parsP t4=([],1,6):=by
 have hc:(cutC 10 t4).1=[108,111,111,112,32,50,32,48,32,48,32,48,32,49,32,48,32,48]:=by decide
 have ha:accP (cutC 10 t4).1=false:=by
  rw[hc]
  refine acc_no fun s hs hk=>?_
  have e1:kdW ((splitC 32 [108,111,111,112,32,50,32,48,32,48,32,48,32,49,32,48,32,48]).headD [])=3:=by decide
  have e2:(splitC 32 [108,111,111,112,32,50,32,48,32,48,32,48,32,49,32,48,32,48]).length=8:=by decide
  rw[e1]at hk
  rw[e2]
  obtain⟨_,_,hh⟩:=hs
  have hk:s.k=3:=by omega
  have e3:(headW s).length=2:=by simp[headW,hk]
  rw[e3]
  omega
 unfold parsP pF
 rw[if_neg (by decide),if_neg (by rw[ha];simp)]
section
variable (X:Ext) (hX:Mine X) (hT:Texts X)
include hX hT
theorem known (hK:Clones48 X) (h49:Keys49 X):Known X:=by
 have one:∀ s:Sh,s.c.length≤2147483648→Fits [s]:=fun s h=>⟨by simp,by intro t ht;simp at ht;subst ht;exact h⟩
 have g1:=c13 X hX h49 dotsK (one _ (by decide))
 have g2:=c13 X hX h49 lineK (one _ (by decide))
 have g3:=c13 X hX h49 ringK (one _ (by decide))
 have g4:=c17 X hX hT ringK (one _ (by decide))
 have g5:=c22 X hX hK [⟨1,[⟨1,2,3⟩],0,0,0,0⟩] (one _ (by decide)) ⟨1,-1,0⟩
 have g6:=c13 X hX h49 [⟨1,[⟨2,1,3⟩],0,0,0,0⟩] (one _ (by decide))
 have p1:=c19 X hX hT t1 (by decide)
 have p2:=c19 X hX hT t2 (by decide)
 have p3:=c19 X hX hT [] (by decide)
 have p4:=c19 X hX hT t4 (by decide)
 rw[q1]at g1
 rw[q2]at g2
 rw[q3]at g3
 rw[if_pos (by decide +kernel),q4]at g4
 rw[q5]at g5
 rw[q6]at g6
 rw[r1]at p1
 rw[r2]at p2
 rw[r3]at p3
 rw[r4]at p4
 have v:=fun x y z=>c25 X hX x y z
 have tail:L tab (run tab X) 12 [] [.lp [1,1,1,1,1,1,1,1,0,1,0]] (S12_11111111010 0 1 0 9 ((9:Nat):Int) (encF ringK) (encL ring9))=some ([.p (.bool true)],[]):=by
  refine L_of ?_
  rw[e12_11111111010]
  refine condNP (show ¬ ((9:Nat):Int)<9 by decide) ?_
  refine bindS g4 ?_
  simp only[List.headD_cons,List.tail_cons,pv_p,toStr_str,toInt_int]
  refine condF (c:=!(_==_)) (by rw[show (⟨#[114,105,110,103,32,120,122,32,49,32,49,48,32,48,32,48,32,48,10]⟩:ByteArray)=ba [114,105,110,103,32,120,122,32,49,32,49,48,32,48,32,48,32,48,10] from rfl];simp) ?_
  refine condEq rfl ?_
  refine bindS p1 (bindS p2 (bindS p3 (bindS p4 ?_)))
  simp only[List.headD_cons,List.tail_cons,pv_p,toInt_int]
  refine condEq rfl (condEq rfl (condEq rfl (condEq rfl (condEq rfl (condEq rfl (condEq rfl (condEq rfl (condEq rfl ?_))))))))
  refine bindS (v 1 2 3) (bindS (v 1 (-1) 0) ?_)
  refine bindS g5 ?_
  refine bindS g6 ?_
  simp only[List.headD_cons,List.tail_cons,pv_p,toInt_int]
  refine condT (c:=((0:Int)==0)) rfl (condT (c:=((0:Int)==0)) rfl ?_)
  refine bindS (v 2 1 3) ?_
  refine bindS (c21 X hX [⟨1,[⟨2,1,3⟩],0,0,0,0⟩] [⟨1,[⟨2,1,3⟩],0,0,0,0⟩] (one _ (by decide))) ?_
  simp only[List.headD_cons,pv_p,toBool_bool,decide_true,cond_true]
  refine bindS (v 2 1 3) ?_
  refine bindS (c16 X hX [⟨2,1,3⟩] [⟨2,1,3⟩] (by decide)) ?_
  simp only[List.headD_cons,pv_p,toBool_bool,decide_true]
 have rnd : ∀ (i : Nat),i < 9 → L tab (run tab X) 12 [] [.lp [1,1,1,1,1,1,1,1,0,1,0]] (S12_11111111010 0 1 0 9 ((i + 1 : Nat) : Int) (encF ringK) (encL ring9)) = some ([.p (.bool true)],[]) →
     L tab (run tab X) 12 [] [.lp [1,1,1,1,1,1,1,1,0,1,0]] (S12_11111111010 0 1 0 9 (i:Int) (encF ringK) (encL ring9))=some ([.p (.bool true)],[]):=by
   intro i hi h
   refine L_of ?_
   have w1:IntKind.i64.wrap ((i:Int)+1)=((i+1:Nat):Int):=by rw[wrap_eq (by omega) (by omega)];omega
   rw[e12_11111111010,w1]
   refine condP (show (i:Int)<9 by omega) ?_
   have hr:(leI (0:Int) (i:Int)&&ltI (i:Int) ((9:Nat):Int))=true:=by simp;omega
   rw[hr,Int.toNat_natCast]
   simp only[cond_true,Nat.zero_add]
   refine bindS (v _ _ _) ?_
   refine condF ?_ h
   rw[encL_x,encL_y,encL_z]
   have hall:∀ i:Fin 9,(!(((ring9.getD i.val default).x==((encV ⟨IntKind.i64.wrap (IntKind.i64.wrap (10*IntKind.i64.wrap ((i.val:Int).tdiv 3))-10),0,IntKind.i64.wrap (IntKind.i64.wrap (10*((i.val:Int).tmod 3))-10)⟩).cell 0).toInt)&&(((ring9.getD i.val default).y==((encV ⟨IntKind.i64.wrap (IntKind.i64.wrap (10*IntKind.i64.wrap ((i.val:Int).tdiv 3))-10),0,IntKind.i64.wrap (IntKind.i64.wrap (10*((i.val:Int).tmod 3))-10)⟩).cell 1).toInt)&&(((ring9.getD i.val default).z==((encV ⟨IntKind.i64.wrap (IntKind.i64.wrap (10*IntKind.i64.wrap ((i.val:Int).tdiv 3))-10),0,IntKind.i64.wrap (IntKind.i64.wrap (10*((i.val:Int).tmod 3))-10)⟩).cell 2).toInt)&&true))))=false:=by decide +kernel
   exact hall ⟨i,hi⟩
 refine run_of (hX _ rfl) ?_
 rw[e12]
 refine bindS (v 3 0 0) (bindS (v 1 0 0) (bindS (v 3 0 0) (bindS (v 0 0 0) (bindS (v 3 0 0) (bindS (v 0 0 0) ?_)))))
 refine bindS g1 (bindS g2 (bindS g3 ?_))
 refine bindS (v 1 0 0) (bindS (v 3 0 0) ?_)
 refine bindS (c16 X hX [⟨1,0,0⟩,⟨3,0,0⟩] [⟨1,0,0⟩,⟨3,0,0⟩] (by decide)) ?_
 simp only[List.headD_cons,List.tail_cons,pv_p,toBool_bool,toInt_int,decide_true,Bool.not_true,cond_false]
 refine condEq rfl ?_
 refine bindS (v 0 0 0) (bindS (v 2 0 0) (bindS (v 3 0 0) ?_))
 refine bindS (c16 X hX [⟨0,0,0⟩,⟨2,0,0⟩,⟨3,0,0⟩] [⟨0,0,0⟩,⟨2,0,0⟩,⟨3,0,0⟩] (by decide)) ?_
 simp only[List.headD_cons,pv_p,toBool_bool,decide_true,Bool.not_true,cond_false,freshList_fresh,encL_length]
 refine condEq rfl (condEq rfl (condEq rfl ?_))
 exact rnd 0 (by decide) (rnd 1 (by decide) (rnd 2 (by decide) (rnd 3 (by decide) (rnd 4 (by decide) (rnd 5 (by decide) (rnd 6 (by decide) (rnd 7 (by decide) (rnd 8 (by decide) tail))))))))
end
end Go.Skm.Fig
