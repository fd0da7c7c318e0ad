/-
  The document's examples; condition: the library's answers.
-/
import Derived.Test.YtipkmkmngcjdbaaGreatDoorF19
namespace Go.Skm.Fig
open Go Go.Skm
def Known (X:Ext):Prop:=run tab X 12 [] []=some ([.p (.bool true)],[])
def JK:List V3:=[⟨-10,0,-10⟩,⟨-10,0,0⟩,⟨-10,0,10⟩,⟨0,0,-10⟩,⟨0,0,0⟩,⟨0,0,10⟩,⟨10,0,-10⟩,⟨10,0,0⟩,⟨10,0,10⟩]
def abu:List Sh:=[⟨1,[⟨3,0,0⟩,⟨1,0,0⟩,⟨3,0,0⟩],0,0,0,0⟩]
def abv:List Sh:=[⟨2,[⟨0,0,0⟩,⟨3,0,0⟩],2,0,0,0⟩]
def Hu:List Sh:=[⟨4,[⟨0,0,0⟩],0,1,10,1⟩]
theorem q1:TP abu=([⟨1,0,0⟩,⟨3,0,0⟩],0):=by decide +kernel
theorem q2:TP abv=([⟨0,0,0⟩,⟨2,0,0⟩,⟨3,0,0⟩],0):=by decide +kernel
theorem q3:TP Hu=(JK,0):=by decide +kernel
theorem q5:qK [⟨1,[⟨1,2,3⟩],0,0,0,0⟩] ⟨1,-1,0⟩=([⟨1,[⟨2,1,3⟩],0,0,0,0⟩],0):=by decide +kernel
theorem q6:TP [⟨1,[⟨2,1,3⟩],0,0,0,0⟩]=([⟨2,1,3⟩],0):=by decide +kernel
theorem i0:Lib.itoa 0=[48]:=by rw[JL (by decide),aaH (by decide)];rfl
theorem i1:Lib.itoa 1=[49]:=by rw[JL (by decide),aaH (by decide)];rfl
theorem i10:Lib.itoa 10=[49,48]:=by
 rw[JL (by decide),zC (by decide),aaH (by decide),aaH (by decide)];rfl
theorem q4:textF Hu=[114,105,110,103,32,120,122,32,49,32,49,48,32,48,32,48,32,48,10]:=by
 have:textS ⟨4,[⟨0,0,0⟩],0,1,10,1⟩=[114,105,110,103,32,120,122,32,49,32,49,48,32,48,32,48,32,48]:=by
  show rU 32 ([kw 4,plB 1,Lib.itoa 1,Lib.itoa 10]++[Lib.itoa 0,Lib.itoa 0,Lib.itoa 0])=_
  rw[i0,i1,i10]
  decide
 unfold Hu
 rw[textF,this]
 rfl
def t1:List UInt8:=[100,111,116,115,32,49,32,50,32,51]
def t2:List UInt8:=[100,111,116,115,32,49,32,50,10]
def t4:List UInt8:=[108,111,111,112,32,50,32,48,32,48,32,48,32,49,32,48,32,48,10]
theorem YS {l:List UInt8} (h:∀ s,Shape s→(WW ((dF 32 l).headD [])=s.k∨s.k=0)→(dF 32 l).length≠(headW s).length+3*s.c.length):MJ l=false:=by
 cases ha:MJ l with
 | false=>rfl
 | true =>
  obtain⟨h1,h2⟩:=QK ha
  have e:dF 32 l=qJ (Ak l):=by rw[← TY,h2]
  refine absurd ?_ (h (Ak l) h1 (.inl ?_))
  · rw[e];unfold qJ;rw[List.length_append,JG]
  · unfold Ak
    cases hs:dF 32 l with
    | nil=>exact absurd hs (F9 32 l)
    | cons w ws=>rfl
theorem r1:CY t1=([],1,6):=by
 have hc:(qC 10 t1).2.2=false:=by decide
 unfold CY pF
 rw[if_neg (by decide),if_neg (by rw[hc];simp)]
theorem r2:CY t2=([],1,6):=by
 have hc:(qC 10 t2).1=[100,111,116,115,32,49,32,50]:=by decide
 have ha:MJ (qC 10 t2).1=false:=by
  rw[hc]
  refine YS fun s hs hk=>?_
  have e1:WW ((dF 32 [100,111,116,115,32,49,32,50]).headD [])=1:=by decide
  have e2:(dF 32 [100,111,116,115,32,49,32,50]).length=3:=by decide
  rw[e1]at hk
  rw[e2]
  obtain⟨_,_,hh⟩:=hs
  have hk:s.k=1:=by omega
  simp only[headW,hk,if_true,List.length_cons,List.length_nil]
  omega
 unfold CY pF
 rw[if_neg (by decide),if_neg (by rw[ha];simp)]
theorem r3:CY []=([],0,0):=rfl
theorem r4:CY t4=([],1,6):=by
 have hc:(qC 10 t4).1=[108,111,111,112,32,50,32,48,32,48,32,48,32,49,32,48,32,48]:=by decide
 have ha:MJ (qC 10 t4).1=false:=by
  rw[hc]
  refine YS fun s hs hk=>?_
  have e1:WW ((dF 32 [108,111,111,112,32,50,32,48,32,48,32,48,32,49,32,48,32,48]).headD [])=3:=by decide
  have e2:(dF 32 [108,111,111,112,32,50,32,48,32,48,32,48,32,49,32,48,32,48]).length=8:=by decide
  rw[e1]at hk
  rw[e2]
  obtain⟨_,_,hh⟩:=hs
  have hk:s.k=3:=by omega
  have e3:(headW s).length=2:=by simp[headW,hk]
  rw[e3]
  omega
 unfold CY pF
 rw[if_neg (by decide),if_neg (by rw[ha];simp)]
section
variable (X:Ext) (hX:Mine X) (hT:Texts X)
include hX hT
theorem known (hK:EC X) (h49:OQ X):Known X:=by
 have one:∀ s:Sh,s.c.length≤2147483648→Fits [s]:=fun s h=>⟨by simp,by intro t ht;simp at ht;subst ht;exact h⟩
 have g1:=c13 X hX h49 abu (one _ (by decide))
 have g2:=c13 X hX h49 abv (one _ (by decide))
 have g3:=c13 X hX h49 Hu (one _ (by decide))
 have g4:=c17 X hX hT Hu (one _ (by decide))
 have g5:=c22 X hX hK [⟨1,[⟨1,2,3⟩],0,0,0,0⟩] (one _ (by decide)) ⟨1,-1,0⟩
 have g6:=c13 X hX h49 [⟨1,[⟨2,1,3⟩],0,0,0,0⟩] (one _ (by decide))
 have p1:=c19 X hX hT t1 (by decide)
 have p2:=c19 X hX hT t2 (by decide)
 have p3:=c19 X hX hT [] (by decide)
 have p4:=c19 X hX hT t4 (by decide)
 rw[q1]at g1
 rw[q2]at g2
 rw[q3]at g3
 rw[if_pos (by decide +kernel),q4]at g4
 rw[q5]at g5
 rw[q6]at g6
 rw[r1]at p1
 rw[r2]at p2
 rw[r3]at p3
 rw[r4]at p4
 have v:=fun x y z=>c25 X hX x y z
 have tail:L tab (run tab X) 12 [] [.lp [1,1,1,1,1,1,1,1,0,1,0]] (jC 0 1 0 9 ((9:Nat):Int) (dh Hu) (bJ JK))=some ([.p (.bool true)],[]):=by
  refine dQ ?_
  rw[zu]
  refine bM (show ¬ ((9:Nat):Int)<9 by decide) ?_
  refine aW g4 ?_
  simp only[List.headD_cons,List.tail_cons,iP,nG,toInt_int]
  refine Hl (c:=!(_==_)) (by rw[show (⟨#[114,105,110,103,32,120,122,32,49,32,49,48,32,48,32,48,32,48,10]⟩:ByteArray)=ba [114,105,110,103,32,120,122,32,49,32,49,48,32,48,32,48,32,48,10] from rfl];simp) ?_
  refine oI rfl ?_
  refine aW p1 (aW p2 (aW p3 (aW p4 ?_)))
  simp only[List.headD_cons,List.tail_cons,iP,toInt_int]
  refine oI rfl (oI rfl (oI rfl (oI rfl (oI rfl (oI rfl (oI rfl (oI rfl (oI rfl ?_))))))))
  refine aW (v 1 2 3) (aW (v 1 (-1) 0) ?_)
  refine aW g5 ?_
  refine aW g6 ?_
  simp only[List.headD_cons,List.tail_cons,iP,toInt_int]
  refine jV (c:=((0:Int)==0)) rfl (jV (c:=((0:Int)==0)) rfl ?_)
  refine aW (v 2 1 3) ?_
  refine aW (c21 X hX [⟨1,[⟨2,1,3⟩],0,0,0,0⟩] [⟨1,[⟨2,1,3⟩],0,0,0,0⟩] (one _ (by decide))) ?_
  simp only[List.headD_cons,iP,bF,decide_true,cond_true]
  refine aW (v 2 1 3) ?_
  refine aW (c16 X hX [⟨2,1,3⟩] [⟨2,1,3⟩] (by decide)) ?_
  simp only[List.headD_cons,iP,bF,decide_true]
 have Ua : ∀ (i : Nat),i < 9 → L tab (run tab X) 12 [] [.lp [1,1,1,1,1,1,1,1,0,1,0]] (jC 0 1 0 9 ((i + 1 : Nat) : Int) (dh Hu) (bJ JK)) = some ([.p (.bool true)],[]) →
     L tab (run tab X) 12 [] [.lp [1,1,1,1,1,1,1,1,0,1,0]] (jC 0 1 0 9 (i:Int) (dh Hu) (bJ JK))=some ([.p (.bool true)],[]):=by
   intro i hi h
   refine dQ ?_
   have w1:IntKind.i64.wrap ((i:Int)+1)=((i+1:Nat):Int):=by rw[wrap_eq (by omega) (by omega)];omega
   rw[zu,w1]
   refine bT (show (i:Int)<9 by omega) ?_
   have hr:(leI (0:Int) (i:Int)&&jo (i:Int) ((9:Nat):Int))=true:=by simp;omega
   rw[hr,Int.toNat_natCast]
   simp only[cond_true,Nat.zero_add]
   refine aW (v _ _ _) ?_
   refine Hl ?_ h
   rw[pV,pW,pX]
   have hall:∀ i:Fin 9,(!(((JK.getD i.val default).x==((fB ⟨IntKind.i64.wrap (IntKind.i64.wrap (10*IntKind.i64.wrap ((i.val:Int).tdiv 3))-10),0,IntKind.i64.wrap (IntKind.i64.wrap (10*((i.val:Int).tmod 3))-10)⟩).cell 0).toInt)&&(((JK.getD i.val default).y==((fB ⟨IntKind.i64.wrap (IntKind.i64.wrap (10*IntKind.i64.wrap ((i.val:Int).tdiv 3))-10),0,IntKind.i64.wrap (IntKind.i64.wrap (10*((i.val:Int).tmod 3))-10)⟩).cell 1).toInt)&&(((JK.getD i.val default).z==((fB ⟨IntKind.i64.wrap (IntKind.i64.wrap (10*IntKind.i64.wrap ((i.val:Int).tdiv 3))-10),0,IntKind.i64.wrap (IntKind.i64.wrap (10*((i.val:Int).tmod 3))-10)⟩).cell 2).toInt)&&true))))=false:=by decide +kernel
   exact hall ⟨i,hi⟩
 refine bK (hX _ rfl) ?_
 rw[e12]
 refine aW (v 3 0 0) (aW (v 1 0 0) (aW (v 3 0 0) (aW (v 0 0 0) (aW (v 3 0 0) (aW (v 0 0 0) ?_)))))
 refine aW g1 (aW g2 (aW g3 ?_))
 refine aW (v 1 0 0) (aW (v 3 0 0) ?_)
 refine aW (c16 X hX [⟨1,0,0⟩,⟨3,0,0⟩] [⟨1,0,0⟩,⟨3,0,0⟩] (by decide)) ?_
 simp only[List.headD_cons,List.tail_cons,iP,bF,toInt_int,decide_true,Bool.not_true,cond_false]
 refine oI rfl ?_
 refine aW (v 0 0 0) (aW (v 2 0 0) (aW (v 3 0 0) ?_))
 refine aW (c16 X hX [⟨0,0,0⟩,⟨2,0,0⟩,⟨3,0,0⟩] [⟨0,0,0⟩,⟨2,0,0⟩,⟨3,0,0⟩] (by decide)) ?_
 simp only[List.headD_cons,iP,bF,decide_true,Bool.not_true,cond_false,sN,aQ]
 refine oI rfl (oI rfl (oI rfl ?_))
 exact Ua 0 (by decide) (Ua 1 (by decide) (Ua 2 (by decide) (Ua 3 (by decide) (Ua 4 (by decide) (Ua 5 (by decide) (Ua 6 (by decide) (Ua 7 (by decide) (Ua 8 (by decide) tail))))))))
end
end Go.Skm.Fig
