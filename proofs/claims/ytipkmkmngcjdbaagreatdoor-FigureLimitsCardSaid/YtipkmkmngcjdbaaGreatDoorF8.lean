/-
  Shapes and figures: which are valid, by the program and by the document; condition: lists that fit.
-/
import Derived.Test.YtipkmkmngcjdbaaGreatDoorF3
namespace Go.Skm.Fig
open Go Go.Skm
structure Sh where
 k:Int
 c:List V3
 m:Int
 r:Int
 s:Int
 p:Int
 deriving DecidableEq,Inhabited
abbrev kS:List Kd:=[.int .i64,.slice true kV,.int .i64,.int .i64,.int .i64,.int .i64]
abbrev eS (s:Sh):PV:=.agg [.int .i64 s.k,.list true kV (encL s.c),.int .i64 s.m,.int .i64 s.r,.int .i64 s.s,.int .i64 s.p]
def encF (f:List Sh):List PV:=f.map fun s=>eS s
@[simp] theorem encF_length (f:List Sh):(encF f).length=f.length:=by simp[encF]
def sat (f:List Sh) (i:Nat):Sh:=f.getD i default
theorem sat_eq {l:List Sh} {i:Nat} (h:i<l.length):sat l i=l[i]:=by unfold sat;rw[List.getD_eq_getElem?_getD];simp[h]
theorem sat_mem {l:List Sh} {i:Nat} (h:i<l.length):sat l i∈l:=by rw[sat_eq h];exact List.getElem_mem h
theorem sdrop {l:List Sh} {i:Nat} (h:i<l.length):l.drop i=sat l i::l.drop (i+1):=by rw[List.drop_eq_getElem_cons h,sat_eq h]
theorem encF_getD (f:List Sh) {i:Nat} (h:i<f.length):(encF f).getD i .nil=eS (sat f i):=by
 rw[List.getD_eq_getElem?_getD,sat_eq h];simp[encF,h]
def Shape (s:Sh):Prop:=s.c.length≤200∧allP s.c=true ∧
 ((s.k=1∧1≤s.c.length∧s.r=0∧s.s=0∧s.p=0∧s.m=0) ∨
  (s.k=2∧2≤s.c.length∧s.r=0∧s.s=0∧s.p=0∧1≤s.m∧s.m≤500) ∨
  (s.k=3∧3≤s.c.length∧s.r=0∧s.s=0∧s.p=0∧1≤s.m∧s.m≤500) ∨
  (s.k=4∧s.c.length=1∧1≤s.r∧s.r≤50∧1≤s.s∧s.s≤10000∧s.m=0∧0≤s.p∧s.p≤2) ∨
  (s.k=5∧s.c.length=1∧1≤s.r∧s.r≤50∧1≤s.s∧s.s≤10000∧s.m=0∧s.p=0))
instance (s:Sh):Decidable (Shape s):=by unfold Shape;exact inferInstance
def shp (s:Sh):Bool:=decide (Shape s)
def figB (f:List Sh):Bool:=decide (f.length≤50)&&f.all shp
theorem iteK {α:Type} {p:Prop} {i:Decidable p} {a b x:α} (h1:p→a=x) (h2:¬ p→b=x):@ite α p i a b=x:=by
 by_cases h:p
 · rw[if_pos h];exact h1 h
 · rw[if_neg h];exact h2 h
theorem okT {s:Sh} {b:Bool} (h:b=decide (Shape s)):some ([AV.p (.bool b)],([]:List Blk))=some ([.p (.bool (shp s))],[]):=by rw[h];rfl
section
variable (X:Ext) (hX:Mine X)
include hX
theorem c89 (b:Bool) (n m:Int):run tab X 89 [.p (.bool b),.p (.int .i64 n),.p (.int .i64 m)] []=some ([.p (.bool (if b then decide (1≤n)&&decide (n≤m) else n==0))],[]) :=
 run_of (hX _ rfl) (by
  rw[e89]
  cases b
  · rfl
  · by_cases h:n ≥ 1
    · exact condP h (by simp[h])
    · exact condNP h (by have:¬ 1≤n:=h;simp[this]))
theorem c91 (v:V3):run tab X 91 [.p (eV v)] []=some ([.p (.bool (!pnt v))],[]) :=
 run_of (hX _ rfl) (by rw[e91,u45 X hX];rfl)
theorem l67v (l : List V3) (hl : l.length ≤ 2147483648) : ∀ m i,i + m = l.length → ∃ r : Int,L tab (run tab X) 108 [] [.lp [1,0,1,0]] (S108_1010v (encL l) ((l.length : Nat) : Int) (i : Int)) = some ([.p (.int .i64 r)],[]) ∧
    decide (r ≥ 0)=!allFrom (fun j=>pnt (at_ l j)) i l.length:=by
  intro m
  induction m with
  | zero =>
   intro i hi
   refine⟨-1,L_of ?_,?_⟩
   · rw[e108_1010v];exact condNP (by omega) rfl
   · rw[allFrom_nil (by omega)];rfl
  | succ m ih =>
   intro i hi
   have hlt:i<l.length:=by omega
   obtain⟨r,h1,h2⟩:=ih (i+1) (by omega)
   by_cases hp:pnt (at_ l i)=true
   · refine⟨r,L_of ?_,?_⟩
     · rw[e108_1010v]
       refine condP (by omega) (condT (by rw[encL_length];exact gd hlt) ?_)
       simp only[tn,encL_x,encL_y,encL_z,c91 X hX,Option.bind_some,List.headD_cons,pv_p,toBool_bool,wr1 (show i<1099511627776 by omega)]
       change pnt (l.getD i default)=true at hp
       rw[hp]
       exact h1
     · rw[h2,allFrom_cons hlt,hp];simp
   · refine⟨i,L_of ?_,?_⟩
     · rw[e108_1010v]
       refine condP (by omega) (condT (by rw[encL_length];exact gd hlt) ?_)
       simp only[tn,encL_x,encL_y,encL_z,c91 X hX,Option.bind_some,List.headD_cons,pv_p,toBool_bool]
       have hp':pnt (l.getD i default)=false:=by simpa [at_] using hp
       rw[hp']
       rfl
     · rw[allFrom_cons hlt]
       have hp':pnt (at_ l i)=false:=by simpa using hp
       rw[hp'];simp
theorem c90v (l:List V3) (hl:l.length≤2147483648):run tab X 90 [.p (.list true kV (encL l)),.p (.fn 91 [])] []=some ([.p (.bool (!allP l))],[]) :=
 run_of (hX _ rfl) (by
  obtain⟨r,h1,h2⟩:=l67v X hX l hl l.length 0 (by omega)
  have h67:run tab X 108 [.p (.list true kV (encL l)),.p (.fn 91 [])] []=some ([.p (.int .i64 r)],[]):=run_of (hX _ rfl) (by rw[e108v,encL_length];exact h1)
  rw[e90v,h67]
  simp only[Option.bind_some,List.headD_cons,pv_p,toInt_int]
  rw[show geI r 0=_ from h2];rfl)
structure Rul where
 w:ByteArray
 lo:Int
 hi:Int
 many:Bool
 round:Bool
 plane:Bool
 ok:Bool
def ruleOf (k:Int):Rul :=
 if k=1 then⟨⟨#[100,111,116,115]⟩,1,200,false,false,false,true⟩
 else if k=2 then⟨⟨#[108,105,110,101]⟩,2,200,true,false,false,true⟩
 else if k=3 then⟨⟨#[108,111,111,112]⟩,3,200,true,false,false,true⟩
 else if k=4 then⟨⟨#[114,105,110,103]⟩,1,1,false,true,true,true⟩
 else if k=5 then⟨⟨#[115,112,104,101,114,101]⟩,1,1,false,true,false,true⟩
 else⟨⟨#[]⟩,0,0,false,false,false,false⟩
theorem c73 (k:Int):run tab X 73 [.p (.int .i64 k)] []=some ([.p (.agg [.str (ruleOf k).w,.int .i64 (ruleOf k).lo,.int .i64 (ruleOf k).hi,.bool (ruleOf k).many,.bool (ruleOf k).round,.bool (ruleOf k).plane]),.p (.bool (ruleOf k).ok)],[]) :=
 run_of (hX _ rfl) (by
  rw[e73]
  simp only[condE]
  unfold ruleOf
  repeat' split
  all_goals rfl)
theorem c54 (s:Sh) (hl:s.c.length≤2147483648):run tab X 54 [.p (eS s)] []=some ([.p (.bool (shp s))],[]) :=
 run_of (hX _ rfl) (by
  rw[e54,encL_length,c73 X hX]
  have key:∀ b:Bool,(b=true↔Shape s)→some ([AV.p (.bool b)],([]:List Blk))=some ([.p (.bool (shp s))],[]):=fun b h=>okT (by
   rw[Bool.eq_iff_iff,decide_eq_true_eq];exact h)
  simp only[c89 X hX,c90v X hX s.c hl,Option.bind_some,List.headD_cons,List.tail_cons,pv_p,toBool_bool,cell_agg,List.getD_cons_zero,List.getD_cons_succ,toInt_int,Bool.not_not]
  by_cases k1:s.k=1
  · have e:ruleOf s.k=⟨⟨#[100,111,116,115]⟩,1,200,false,false,false,true⟩:=by rw[k1];rfl
    rw[e]
    simp only[condD,condE,condN,condO,cond_true,cond_false,Bool.false_eq_true,if_false]
    repeat' (refine iteK (fun _=>?_) (fun _=>?_))
    all_goals (refine key _ ?_;unfold Shape;cases allP s.c<;>simp only[Bool.false_eq_true,false_iff,true_and,false_and,and_false,true_iff]<;>omega)
  by_cases k2:s.k=2
  · have e:ruleOf s.k=⟨⟨#[108,105,110,101]⟩,2,200,true,false,false,true⟩:=by rw[k2];rfl
    rw[e]
    simp only[condA,condD,condE,condN,condO,cond_true,cond_false,Bool.false_eq_true,if_false,if_true]
    repeat' (refine iteK (fun _=>?_) (fun _=>?_))
    all_goals (refine key _ ?_;unfold Shape;cases allP s.c<;>simp only[Bool.false_eq_true,false_iff,true_and,false_and,and_false,true_iff]<;>omega)
  by_cases k3:s.k=3
  · have e:ruleOf s.k=⟨⟨#[108,111,111,112]⟩,3,200,true,false,false,true⟩:=by rw[k3];rfl
    rw[e]
    simp only[condA,condD,condE,condN,condO,cond_true,cond_false,Bool.false_eq_true,if_false,if_true]
    repeat' (refine iteK (fun _=>?_) (fun _=>?_))
    all_goals (refine key _ ?_;unfold Shape;cases allP s.c<;>simp only[Bool.false_eq_true,false_iff,true_and,false_and,and_false,true_iff]<;>omega)
  by_cases k4:s.k=4
  · have e:ruleOf s.k=⟨⟨#[114,105,110,103]⟩,1,1,false,true,true,true⟩:=by rw[k4];rfl
    rw[e]
    simp only[condA,condD,condE,condN,condO,cond_true,Bool.false_eq_true,if_false,if_true]
    repeat' (refine iteK (fun _=>?_) (fun _=>?_))
    all_goals (refine key _ ?_;unfold Shape;cases allP s.c<;>simp only[Bool.false_eq_true,false_iff,true_and,false_and,and_false,true_iff]<;>omega)
  by_cases k5:s.k=5
  · have e:ruleOf s.k=⟨⟨#[115,112,104,101,114,101]⟩,1,1,false,true,false,true⟩:=by rw[k5];rfl
    rw[e]
    simp only[condA,condD,condE,condN,condO,cond_true,cond_false,Bool.false_eq_true,if_false,if_true]
    repeat' (refine iteK (fun _=>?_) (fun _=>?_))
    all_goals (refine key _ ?_;unfold Shape;cases allP s.c<;>simp only[Bool.false_eq_true,false_iff,true_and,false_and,and_false,true_iff]<;>omega)
  have e:ruleOf s.k=⟨⟨#[]⟩,0,0,false,false,false,false⟩:=by simp[ruleOf,k1,k2,k3,k4,k5]
  rw[e]
  refine key _ ?_
  simp only[Bool.false_eq_true,false_iff];unfold Shape;omega)
theorem c53 (s:Sh) (hl:s.c.length≤2147483648):run tab X 53 [.p (eS s)] []=some ([.p (.bool (!shp s))],[]) :=
 run_of (hX _ rfl) (by rw[e53,c54 X hX s hl];rfl)
def Fits (f:List Sh):Prop:=f.length≤2147483648∧∀ s∈f,s.c.length≤2147483648
omit hX in
theorem fcell {f:List Sh} {i:Nat} (h:i<f.length):PV.agg [.int .i64 (((encF f).getD i .nil).cell 0).toInt,.list true kV (((encF f).getD i .nil).cell 1).toList,.int .i64 (((encF f).getD i .nil).cell 2).toInt,.int .i64 (((encF f).getD i .nil).cell 3).toInt,.int .i64 (((encF f).getD i .nil).cell 4).toInt,.int .i64 (((encF f).getD i .nil).cell 5).toInt]=eS (sat f i):=by
 rw[encF_getD f h];rfl
theorem l92 (f : List Sh) (hf : Fits f) : ∀ m i,i + m = f.length → ∃ r : Int,L tab (run tab X) 88 [] [.lp [1,0,1,0]] (S88_1010 (encF f) ((f.length : Nat) : Int) (i : Int)) = some ([.p (.int .i64 r)],[]) ∧
    decide (r ≥ 0)=!(f.drop i).all shp:=by
  intro m
  induction m with
  | zero =>
   intro i hi
   refine⟨-1,L_of ?_,?_⟩
   · rw[e88_1010];exact condNP (by omega) rfl
   · rw[List.drop_eq_nil_of_le (by omega)];rfl
  | succ m ih =>
   intro i hi
   have hlt:i<f.length:=by omega
   have hb:=hf.1
   obtain⟨r,h1,h2⟩:=ih (i+1) (by omega)
   have c:=c53 X hX (sat f i) (hf.2 _ (sat_mem hlt))
   by_cases hp:shp (sat f i)=true
   · refine⟨r,L_of ?_,?_⟩
     · rw[e88_1010]
       refine condP (by omega) (condT (by rw[encF_length];exact gd hlt) ?_)
       rw[tn,fcell hlt]
       refine bindS c ?_
       rw[wr1 (show i<1099511627776 by omega),hp]
       exact h1
     · rw[h2,sdrop hlt,List.all_cons,hp];simp
   · have hp':shp (sat f i)=false:=by simpa using hp
     refine⟨i,L_of ?_,?_⟩
     · rw[e88_1010]
       refine condP (by omega) (condT (by rw[encF_length];exact gd hlt) ?_)
       rw[tn,fcell hlt]
       refine bindS c ?_
       rw[hp'];rfl
     · rw[sdrop hlt,List.all_cons,hp'];simp
theorem c28 (f:List Sh) (hf:Fits f):run tab X 28 [.p (.list true kS (encF f))] []=some ([.p (.bool (figB f))],[]) :=
 run_of (hX _ rfl) (by
  obtain⟨r,h1,h2⟩:=l92 X hX f hf f.length 0 (by omega)
  have h92:run tab X 88 [.p (.list true kS (encF f)),.p (.fn 53 [])] []=some ([.p (.int .i64 r)],[]):=run_of (hX _ rfl) (by rw[e88,encF_length];exact h1)
  have h70:run tab X 52 [.p (.list true kS (encF f)),.p (.fn 53 [])] []=some ([.p (.bool (!f.all shp))],[]):=run_of (hX _ rfl) (by
   rw[e52,h92]
   simp only[Option.bind_some,List.headD_cons,pv_p,toInt_int]
   rw[show geI r 0=_ from h2];rfl)
  rw[e28]
  unfold figB
  by_cases h:f.length≤50
  · refine condP (by rw[encF_length];omega) ?_
    rw[h70];simp[h]
  · exact condNP (by rw[encF_length];omega) (by simp[h]))
end
end Go.Skm.Fig
