/-
  ai5 and figures: which are valid, by the program and by the document; condition: lists that fit.
-/
import Derived.Test.YtipkmkmngcjdbaaGreatDoorF3
namespace Go.Skm.Fig
open Go Go.Skm
structure Sh where
 k:Int
 c:List V3
 m:Int
 r:Int
 s:Int
 p:Int
 deriving DecidableEq,Inhabited
abbrev kS:List Kd:=[.int .i64,.slice true kV,.int .i64,.int .i64,.int .i64,.int .i64]
abbrev eS (s:Sh):PV:=.agg [.int .i64 s.k,.list true kV (bJ s.c),.int .i64 s.m,.int .i64 s.r,.int .i64 s.s,.int .i64 s.p]
def dh (f:List Sh):List PV:=f.map fun s=>eS s
@[simp] theorem bg (f:List Sh):(dh f).length=f.length:=by simp[dh]
def sat (f:List Sh) (i:Nat):Sh:=f.getD i default
theorem wM {l:List Sh} {i:Nat} (h:i<l.length):sat l i=l[i]:=by unfold sat;rw[List.getD_eq_getElem?_getD];simp[h]
theorem qV {l:List Sh} {i:Nat} (h:i<l.length):sat l i∈l:=by rw[wM h];exact List.getElem_mem h
theorem EG {l:List Sh} {i:Nat} (h:i<l.length):l.drop i=sat l i::l.drop (i+1):=by rw[List.drop_eq_getElem_cons h,wM h]
theorem jD (f:List Sh) {i:Nat} (h:i<f.length):(dh f).getD i .nil=eS (sat f i):=by
 rw[List.getD_eq_getElem?_getD,wM h];simp[dh,h]
def Shape (s:Sh):Prop:=s.c.length≤200∧zU s.c=true ∧
 ((s.k=1∧1≤s.c.length∧s.r=0∧s.s=0∧s.p=0∧s.m=0) ∨
  (s.k=2∧2≤s.c.length∧s.r=0∧s.s=0∧s.p=0∧1≤s.m∧s.m≤500) ∨
  (s.k=3∧3≤s.c.length∧s.r=0∧s.s=0∧s.p=0∧1≤s.m∧s.m≤500) ∨
  (s.k=4∧s.c.length=1∧1≤s.r∧s.r≤50∧1≤s.s∧s.s≤10000∧s.m=0∧0≤s.p∧s.p≤2) ∨
  (s.k=5∧s.c.length=1∧1≤s.r∧s.r≤50∧1≤s.s∧s.s≤10000∧s.m=0∧s.p=0))
instance (s:Sh):Decidable (Shape s):=by unfold Shape;exact inferInstance
def FP (s:Sh):Bool:=decide (Shape s)
def uV (f:List Sh):Bool:=decide (f.length≤50)&&f.all FP
theorem IU {α:Type} {p:Prop} {i:Decidable p} {a b x:α} (h1:p→a=x) (h2:¬ p→b=x):@ite α p i a b=x:=by
 by_cases h:p
 · rw[if_pos h];exact h1 h
 · rw[if_neg h];exact h2 h
theorem okT {s:Sh} {b:Bool} (h:b=decide (Shape s)):some ([AV.p (.bool b)],([]:List aI))=some ([.p (.bool (FP s))],[]):=by rw[h];rfl
theorem YV {s:Sh} (h:¬ Shape s):some ([AV.p (.bool false)],([]:List aI))=some ([.p (.bool (FP s))],[]):=okT (by simp[h])
section
variable (X:Ext) (hX:Mine X)
include hX
theorem c67 (n a b:Int):run tab X 67 [.p (.int .i64 n),.p (.int .i64 a),.p (.int .i64 b)] []=some ([.p (.bool (decide (a≤n)&&decide (n≤b)))],[]) :=
 bK (hX _ rfl) (by
  rw[e67]
  by_cases h:a≤n
  · exact bT h (by simp[h])
  · exact bM h (by simp[h]))
theorem a35 (s : Sh) (hl : s.c.length ≤ 2147483648) : bn tab (run tab X) 35 [.p (eS s)] [] = some ([.p (.bool (FP s))],[]) := (by
    rw[e35,aQ]
    by_cases h0:s.c.length > 200
    · exact bT (by omega) (YV fun h=>by have:=h.1;omega)
    refine bM (by omega) ?_
    rw[c37 X hX s.c hl]
    simp only[Option.bind_some,List.headD_cons,iP,bF]
    by_cases hp:zU s.c=true
    case neg =>
     have hp':zU s.c=false:=by simpa using hp
     rw[hp']
     exact YV fun h=>hp h.2.1
    rw[hp]
    simp only[Bool.not_true,cond_false,c67 X hX,Option.bind_some,List.headD_cons,iP,bF]
    have key:∀ b:Bool,(b=true↔Shape s)→some ([AV.p (.bool b)],([]:List aI))=some ([.p (.bool (FP s))],[]):=fun b h=>okT (by
     rw[Bool.eq_iff_iff,decide_eq_true_eq];exact h)
    have sh:Shape s↔((s.k=1∧1≤s.c.length∧s.r=0∧s.s=0∧s.p=0∧s.m=0) ∨
   (s.k=2∧2≤s.c.length∧s.r=0∧s.s=0∧s.p=0∧1≤s.m∧s.m≤500) ∨
   (s.k=3∧3≤s.c.length∧s.r=0∧s.s=0∧s.p=0∧1≤s.m∧s.m≤500) ∨
   (s.k=4∧s.c.length=1∧1≤s.r∧s.r≤50∧1≤s.s∧s.s≤10000∧s.m=0∧0≤s.p∧s.p≤2) ∨
   (s.k = 5 ∧ s.c.length = 1 ∧ 1 ≤ s.r ∧ s.r ≤ 50 ∧ 1 ≤ s.s ∧ s.s ≤ 10000 ∧ s.m = 0 ∧ s.p = 0)) :=
      ⟨fun h=>h.2.2,fun h=>⟨by omega,hp,h⟩⟩
    simp only[wo,l7,Hf]
    repeat' (refine IU (fun _=>?_) (fun _=>?_))
    all_goals (refine key _ ?_;rw[sh];simp only[Bool.and_eq_true,decide_eq_true_eq,beq_iff_eq,Bool.false_eq_true,false_iff];omega))
theorem c35 (s:Sh) (hl:s.c.length≤2147483648):run tab X 35 [.p (eS s)] []=some ([.p (.bool (FP s))],[]):=bK (hX _ rfl) (a35 X hX s hl)
theorem c89 (b:Bool) (n m:Int):run tab X 89 [.p (.bool b),.p (.int .i64 n),.p (.int .i64 m)] []=some ([.p (.bool (if b then decide (1≤n)&&decide (n≤m) else n==0))],[]) :=
 bK (hX _ rfl) (by
  rw[e89]
  cases b
  · rfl
  · by_cases h:n ≥ 1
    · exact bT h (by simp[h])
    · exact bM h (by have:¬ 1≤n:=h;simp[this]))
theorem c91 (v:V3):run tab X 91 [.p (eV v)] []=some ([.p (.bool (!vU v))],[]) :=
 bK (hX _ rfl) (by rw[e91,u45 X hX];rfl)
theorem ai7 (l : List V3) (hl : l.length ≤ 2147483648) : ∀ m i,i + m = l.length → ∃ r : Int,L tab (run tab X) 108 [] [.lp [1,0,1,0]] (yN (bJ l) ((l.length : Nat) : Int) (i : Int)) = some ([.p (.int .i64 r)],[]) ∧
    decide (r ≥ 0)=!oz (fun j=>vU (at_ l j)) i l.length:=by
  intro m
  induction m with
  | zero =>
   intro i hi
   refine⟨-1,dQ ?_,?_⟩
   · rw[Dw];exact bM (by omega) rfl
   · rw[Ap (by omega)];rfl
  | succ m ih =>
   intro i hi
   have hlt:i<l.length:=by omega
   obtain⟨r,h1,h2⟩:=ih (i+1) (by omega)
   by_cases hp:vU (at_ l i)=true
   · refine⟨r,dQ ?_,?_⟩
     · rw[Dw]
       refine bT (by omega) (jV (by rw[aQ];exact gd hlt) ?_)
       simp only[tn,pV,pW,pX,c91 X hX,Option.bind_some,List.headD_cons,iP,bF,X6 (show i<1099511627776 by omega)]
       change vU (l.getD i default)=true at hp
       rw[hp]
       exact h1
     · rw[h2,tX hlt,hp];simp
   · refine⟨i,dQ ?_,?_⟩
     · rw[Dw]
       refine bT (by omega) (jV (by rw[aQ];exact gd hlt) ?_)
       simp only[tn,pV,pW,pX,c91 X hX,Option.bind_some,List.headD_cons,iP,bF]
       have hp':vU (l.getD i default)=false:=by simpa [at_] using hp
       rw[hp']
       rfl
     · rw[tX hlt]
       have hp':vU (at_ l i)=false:=by simpa using hp
       rw[hp'];simp
theorem ai8 (l:List V3) (hl:l.length≤2147483648):run tab X 90 [.p (.list true kV (bJ l)),.p (.fn 91 [])] []=some ([.p (.bool (!zU l))],[]) :=
 bK (hX _ rfl) (by
  obtain⟨r,h1,h2⟩:=ai7 X hX l hl l.length 0 (by omega)
  have h67:run tab X 108 [.p (.list true kV (bJ l)),.p (.fn 91 [])] []=some ([.p (.int .i64 r)],[]):=bK (hX _ rfl) (by rw[ad3,aQ];exact h1)
  rw[aiO,h67]
  simp only[Option.bind_some,List.headD_cons,iP,toInt_int]
  rw[show wJ r 0=_ from h2];rfl)
structure Rul where
 w:ByteArray
 lo:Int
 hi:Int
 many:Bool
 round:Bool
 xI:Bool
 ok:Bool
def bU (k:Int):Rul :=
 if k=1 then⟨⟨#[100,111,116,115]⟩,1,200,false,false,false,true⟩
 else if k=2 then⟨⟨#[108,105,110,101]⟩,2,200,true,false,false,true⟩
 else if k=3 then⟨⟨#[108,111,111,112]⟩,3,200,true,false,false,true⟩
 else if k=4 then⟨⟨#[114,105,110,103]⟩,1,1,false,true,true,true⟩
 else if k=5 then⟨⟨#[115,112,104,101,114,101]⟩,1,1,false,true,false,true⟩
 else⟨⟨#[]⟩,0,0,false,false,false,false⟩
theorem c73 (k:Int):run tab X 73 [.p (.int .i64 k)] []=some ([.p (.agg [.str (bU k).w,.int .i64 (bU k).lo,.int .i64 (bU k).hi,.bool (bU k).many,.bool (bU k).round,.bool (bU k).xI]),.p (.bool (bU k).ok)],[]) :=
 bK (hX _ rfl) (by
  rw[e73]
  simp only[Hf]
  unfold bU
  repeat' split
  all_goals rfl)
theorem c54 (s:Sh) (hl:s.c.length≤2147483648):run tab X 54 [.p (eS s)] []=some ([.p (.bool (FP s))],[]) :=
 bK (hX _ rfl) (by
  rw[e54,aQ,c73 X hX]
  have key:∀ b:Bool,(b=true↔Shape s)→some ([AV.p (.bool b)],([]:List aI))=some ([.p (.bool (FP s))],[]):=fun b h=>okT (by
   rw[Bool.eq_iff_iff,decide_eq_true_eq];exact h)
  simp only[c89 X hX,ai8 X hX s.c hl,Option.bind_some,List.headD_cons,List.tail_cons,iP,bF,gu,List.getD_cons_zero,List.getD_cons_succ,toInt_int,Bool.not_not]
  by_cases k1:s.k=1
  · have e:bU s.k=⟨⟨#[100,111,116,115]⟩,1,200,false,false,false,true⟩:=by rw[k1];rfl
    rw[e]
    simp only[l7,Hf,CW,Ah,cond_true,cond_false,Bool.false_eq_true,if_false]
    repeat' (refine IU (fun _=>?_) (fun _=>?_))
    all_goals (refine key _ ?_;unfold Shape;cases zU s.c<;>simp only[Bool.false_eq_true,false_iff,true_and,false_and,and_false,true_iff]<;>omega)
  by_cases k2:s.k=2
  · have e:bU s.k=⟨⟨#[108,105,110,101]⟩,2,200,true,false,false,true⟩:=by rw[k2];rfl
    rw[e]
    simp only[wo,l7,Hf,CW,Ah,cond_true,cond_false,Bool.false_eq_true,if_false,if_true]
    repeat' (refine IU (fun _=>?_) (fun _=>?_))
    all_goals (refine key _ ?_;unfold Shape;cases zU s.c<;>simp only[Bool.false_eq_true,false_iff,true_and,false_and,and_false,true_iff]<;>omega)
  by_cases k3:s.k=3
  · have e:bU s.k=⟨⟨#[108,111,111,112]⟩,3,200,true,false,false,true⟩:=by rw[k3];rfl
    rw[e]
    simp only[wo,l7,Hf,CW,Ah,cond_true,cond_false,Bool.false_eq_true,if_false,if_true]
    repeat' (refine IU (fun _=>?_) (fun _=>?_))
    all_goals (refine key _ ?_;unfold Shape;cases zU s.c<;>simp only[Bool.false_eq_true,false_iff,true_and,false_and,and_false,true_iff]<;>omega)
  by_cases k4:s.k=4
  · have e:bU s.k=⟨⟨#[114,105,110,103]⟩,1,1,false,true,true,true⟩:=by rw[k4];rfl
    rw[e]
    simp only[wo,l7,Hf,CW,Ah,cond_true,Bool.false_eq_true,if_false,if_true]
    repeat' (refine IU (fun _=>?_) (fun _=>?_))
    all_goals (refine key _ ?_;unfold Shape;cases zU s.c<;>simp only[Bool.false_eq_true,false_iff,true_and,false_and,and_false,true_iff]<;>omega)
  by_cases k5:s.k=5
  · have e:bU s.k=⟨⟨#[115,112,104,101,114,101]⟩,1,1,false,true,false,true⟩:=by rw[k5];rfl
    rw[e]
    simp only[wo,l7,Hf,CW,Ah,cond_true,cond_false,Bool.false_eq_true,if_false,if_true]
    repeat' (refine IU (fun _=>?_) (fun _=>?_))
    all_goals (refine key _ ?_;unfold Shape;cases zU s.c<;>simp only[Bool.false_eq_true,false_iff,true_and,false_and,and_false,true_iff]<;>omega)
  have e:bU s.k=⟨⟨#[]⟩,0,0,false,false,false,false⟩:=by simp[bU,k1,k2,k3,k4,k5]
  rw[e]
  refine key _ ?_
  simp only[Bool.false_eq_true,false_iff];unfold Shape;omega)
theorem c53 (s:Sh) (hl:s.c.length≤2147483648):run tab X 53 [.p (eS s)] []=some ([.p (.bool (!FP s))],[]) :=
 bK (hX _ rfl) (by rw[e53,c54 X hX s hl];rfl)
def Fits (f:List Sh):Prop:=f.length≤2147483648∧∀ s∈f,s.c.length≤2147483648
omit hX in
theorem Nv {f:List Sh} {i:Nat} (h:i<f.length):PV.agg [.int .i64 (((dh f).getD i .nil).cell 0).toInt,.list true kV (((dh f).getD i .nil).cell 1).toList,.int .i64 (((dh f).getD i .nil).cell 2).toInt,.int .i64 (((dh f).getD i .nil).cell 3).toInt,.int .i64 (((dh f).getD i .nil).cell 4).toInt,.int .i64 (((dh f).getD i .nil).cell 5).toInt]=eS (sat f i):=by
 rw[jD f h];rfl
theorem l92 (f : List Sh) (hf : Fits f) : ∀ m i,i + m = f.length → ∃ r : Int,L tab (run tab X) 88 [] [.lp [1,0,1,0]] (Ey (dh f) ((f.length : Nat) : Int) (i : Int)) = some ([.p (.int .i64 r)],[]) ∧
    decide (r ≥ 0)=!(f.drop i).all FP:=by
  intro m
  induction m with
  | zero =>
   intro i hi
   refine⟨-1,dQ ?_,?_⟩
   · rw[Ju];exact bM (by omega) rfl
   · rw[List.drop_eq_nil_of_le (by omega)];rfl
  | succ m ih =>
   intro i hi
   have hlt:i<f.length:=by omega
   have hb:=hf.1
   obtain⟨r,h1,h2⟩:=ih (i+1) (by omega)
   have c:=c53 X hX (sat f i) (hf.2 _ (qV hlt))
   by_cases hp:FP (sat f i)=true
   · refine⟨r,dQ ?_,?_⟩
     · rw[Ju]
       refine bT (by omega) (jV (by rw[bg];exact gd hlt) ?_)
       rw[tn,Nv hlt]
       refine aW c ?_
       rw[X6 (show i<1099511627776 by omega),hp]
       exact h1
     · rw[h2,EG hlt,List.all_cons,hp];simp
   · have hp':FP (sat f i)=false:=by simpa using hp
     refine⟨i,dQ ?_,?_⟩
     · rw[Ju]
       refine bT (by omega) (jV (by rw[bg];exact gd hlt) ?_)
       rw[tn,Nv hlt]
       refine aW c ?_
       rw[hp'];rfl
     · rw[EG hlt,List.all_cons,hp'];simp
theorem c28 (f:List Sh) (hf:Fits f):run tab X 28 [.p (.list true kS (dh f))] []=some ([.p (.bool (uV f))],[]) :=
 bK (hX _ rfl) (by
  obtain⟨r,h1,h2⟩:=l92 X hX f hf f.length 0 (by omega)
  have h92:run tab X 88 [.p (.list true kS (dh f)),.p (.fn 53 [])] []=some ([.p (.int .i64 r)],[]):=bK (hX _ rfl) (by rw[e88,bg];exact h1)
  have h70:run tab X 52 [.p (.list true kS (dh f)),.p (.fn 53 [])] []=some ([.p (.bool (!f.all FP))],[]):=bK (hX _ rfl) (by
   rw[e52,h92]
   simp only[Option.bind_some,List.headD_cons,iP,toInt_int]
   rw[show wJ r 0=_ from h2];rfl)
  rw[e28]
  unfold uV
  by_cases h:f.length≤50
  · refine bT (by rw[bg];omega) ?_
    rw[h70];simp[h]
  · exact bM (by rw[bg];omega) (by simp[h]))
theorem l36 (f:List Sh) (hf:Fits f):∀ m i,i+m=f.length→L tab (run tab X) 14 [] [.lp [1,0,1,0]] (Eo (dh f) (i:Int))=some ([.p (.bool ((f.drop i).all FP&&decide (f.length≤50)))],[]):=by
 intro m
 induction m with
 | zero =>
  intro i hi
  refine dQ ?_
  rw[Qs,List.drop_eq_nil_of_le (by omega)]
  refine bM (by rw[bg];omega) ?_
  rw[bg,List.all_nil,Bool.true_and]
  have:leI (f.length:Int) 50=decide (f.length≤50):=decide_eq_decide.2 (by omega)
  rw[this]
 | succ m ih =>
  intro i hi
  have hlt:i<f.length:=by omega
  have hb:=hf.1
  have c:=c35 X hX (sat f i) (hf.2 _ (qV hlt))
  refine dQ ?_
  rw[Qs]
  refine bT (by rw[bg];omega) (jV (by rw[bg];exact gd hlt) ?_)
  rw[tn,Nv hlt]
  refine aW c ?_
  rw[X6 (show i<1099511627776 by omega),EG hlt,List.all_cons]
  by_cases hp:FP (sat f i)=true
  · rw[hp,ih (i+1) (by omega)];simp
  · have hp':FP (sat f i)=false:=by simpa using hp
    rw[hp'];simp
theorem c14 (f:List Sh) (hf:Fits f):run tab X 14 [.p (.list true kS (dh f))] []=some ([.p (.bool (uV f))],[]) :=
 bK (hX _ rfl) (by
  have h:=l36 X hX f hf f.length 0 (by omega)
  rw[List.drop_zero,Bool.and_comm]at h
  rw[e14];exact h)
end
end Go.Skm.Fig
