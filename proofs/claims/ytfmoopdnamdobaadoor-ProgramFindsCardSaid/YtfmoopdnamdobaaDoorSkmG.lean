/-
  A machine that runs this program's functions on pure values, and the proof that what it returns is true of the program; no condition beside the hypotheses of each.
-/
import Derived.Test.YtfmoopdnamdobaaDoorSkmF
import Derived.Lib.SplitLaws
import Derived.Lib.AtoiAll
import Derived.Lib.ItoaMem
import Derived.Lib.IndexBytes
import Derived.Laws.Strings
import Derived.Test.YtfmoopdnamdobaaDoorSkmA
namespace Go.Skm
open Go.ChangeShapes Go.WideShapes
section
variable (P:Program)
def fieldsS (g:TypeId→Bool):Nat→List Field→Bool
 | _,[]=>true
 | o,f::r=>f.offset==o&&(g f.type&&fieldsS g (o+P.cellsOf f.type) r)
def sumS:List Field→Nat
 | []=>0
 | f::r=>P.cellsOf f.type+sumS r
def argS:Nat→TypeId→Bool
 | 0,_=>false
 | n+1,t =>
  match P.underlying t with
  | some (.int _)=>Nat.beq (P.cellsOf t) 1
  | some .bool=>Nat.beq (P.cellsOf t) 1
  | some .string=>Nat.beq (P.cellsOf t) 1
  | some (.slice e)=>argS n e&&(Nat.blt 0 (P.cellsOf e)&&Nat.beq (P.cellsOf t) 1)
  | some (.struct fs)=>fieldsS P (argS n) 0 fs.toList&&Nat.beq (P.cellsOf t) (sumS P fs.toList)
  | some (.array m e)=>argS n e&&Nat.beq (P.cellsOf t) (m*P.cellsOf e)
  | _=>false
theorem sumS_eq:∀ l:List Field,sumS P l=argT.sum P l
 | []=>by simp[sumS,argT.sum]
 | f::r=>by simp[sumS,argT.sum,sumS_eq r]
theorem argS_argT:∀ (n:Nat) (t:TypeId),argS P n t=true→argT P n t=true
 | 0,t,h=>by simp[argS]at h
 | n+1,t,h=>by
  unfold argS at h
  unfold argT
  split at h
  · rename_i k hu;rw[hu];exact h
  · rename_i hu;rw[hu];exact h
  · rename_i hu;rw[hu];exact h
  · rename_i e hu
    rw[hu]
    simp only[Bool.and_eq_true]at h ⊢
    exact⟨argS_argT n e h.1,h.2⟩
  · rename_i fs hu
    rw[hu]
    simp only[Bool.and_eq_true]at h ⊢
    rw[← sumS_eq]
    refine⟨?_,h.2⟩
    have key:∀ (l:List Field) (o:Nat),fieldsS P (argS P n) o l=true→argT.go P n o l=true:=by
     intro l
     induction l with
     | nil=>intro o _;simp[argT.go]
     | cons f r ih =>
      intro o hf
      simp only[fieldsS,Bool.and_eq_true]at hf
      simp only[argT.go,Bool.and_eq_true]
      exact⟨hf.1,argS_argT n _ hf.2.1,ih _ hf.2.2⟩
    exact key _ _ h.1
  · rename_i m e hu
    rw[hu]
    simp only[Bool.and_eq_true]at h ⊢
    exact⟨argS_argT n e h.1,h.2⟩
  · cases h
end
section
variable {H:Type} {enc:TypeId × Value→H} {P:Program}
theorem law_of {T : Tab} (ok : TabOk P T) {X : Ext} {gl : Option (List (Nat × Obj))} (hX : ExtOk P T gl X) {f : Nat} {fi : FI} (hf : tlook T.funcs f = some fi) {fn : Func} (hfn : fi.fn = fn) {tb : TypeId} (hres : fn.resultTypes = #[tb]) (hrets : fi.cfg.rets = [])
    (hub:P.underlying tb=some .bool) {s:ChangeSpec} (hvars:s.vars=[]) {W:World} {args:Array Value} {ds gs:List (DataW H)} {before:List MemPlace} {b0:Nat}
    (hval:∀ (j:Nat) t v,fn.params[j]?=some t→args[j]?=some v→Value.okWide P W .any b0 t v) (hW:DataW.Whole enc P fn.params.toList s.vars false W args.toList ds gs before)
    (hpar:fn.params.toList.all (argS P 8)=true) (hs:s.fn H ds={ results:=[.lit (.bool true)],args:=ds })
    (hgl:∀ p∈gl.getD [],p.1<W.heap.size∧W.heap[p.1]?=some p.2) (hrun:∀ xs,ArgsR P W (fun b=>b<W.heap.size) fn.params.toList args.toList xs→run T X f (xs.map .p) []=some ([.p (.bool true)],[])) :
    Calls P f args W fun e W'=>∃ v,e=.returned v∧s.post enc P fn false true false false W args v W' :=
  law_calls ok hX hf hfn hres hrets hub hvars hval hW (List.all_eq_true.2 fun t ht=>argS_argT P 8 t (List.all_eq_true.1 hpar t ht)) hs hgl hrun
end
end Go.Skm
namespace Go.Skm
theorem decDigits_split {u:Nat} (h:10≤u):Lib.decDigits u=Lib.decDigits (u / 10)++Lib.decDigits (u%10):=by
 conv=>lhs;rw[Lib.decDigits]
 rw[dif_neg (by omega)]
 congr 1
 rw[Lib.decDigits,dif_pos (by omega)]
theorem itoa_nat {n:Int} (h:0≤n):Lib.itoa n=Lib.decDigits n.toNat:=by
 unfold Lib.itoa
 rw[if_neg (by omega)]
theorem ba_eq {a b:ByteArray}:a=b↔a.data.toList=b.data.toList:=by
 constructor
 · rintro rfl;rfl
 · intro h
   cases a with | mk a=>cases b with | mk b =>
    simp only at h
    rw[show a=b from by rw[← Array.toArray_toList (xs:=a),h,Array.toArray_toList]]
theorem ba_beq (a b:ByteArray):(a.toList==b.toList)=decide (a=b):=by
 rw[ByteArray.toList_eq,ByteArray.toList_eq]
 by_cases h:a=b
 · subst h;simp
 · have:a.data.toList≠b.data.toList:=fun e=>h (ba_eq.2 e)
   rw[show (a.data.toList==b.data.toList)=false from by simpa using this,show decide (a=b)=false from by simpa using h]
def ba (l:List UInt8):ByteArray:=⟨l.toArray⟩
@[simp] theorem ba_data (l:List UInt8):(ba l).data.toList=l:=rfl
theorem ba_size (l:List UInt8):(ba l).size=l.length:=rfl
theorem ba_append (x y:List UInt8):ba x++ba y=ba (x++y):=by
 rw[ba_eq]
 simp[ba]
theorem ba_inj {x y:List UInt8}:ba x=ba y↔x=y:=by rw[ba_eq];simp
section
variable {α β γ:Type}
theorem bindS {o:Option β} {r:β} {f:β→Option γ} {x:Option γ} (h:o=some r) (h2:f r=x):o.bind f=x:=by rw[h];exact h2
theorem condT {c:Bool} {a b x:α} (h:c=true) (h2:a=x):cond c a b=x:=by rw[h];exact h2
theorem condF {c:Bool} {a b x:α} (h:c=false) (h2:b=x):cond c a b=x:=by rw[h];exact h2
theorem condP {p:Prop} {i:Decidable p} {a b x:α} (h:p) (h2:a=x):cond (@decide p i) a b=x:=by rw[decide_eq_true h];exact h2
theorem iteP {p:Prop} {i:Decidable p} {a b x:α} (h:p) (h2:a=x):@ite α p i a b=x:=by rw[if_pos h];exact h2
theorem condNP {p:Prop} {i:Decidable p} {a b x:α} (h:¬ p) (h2:b=x):cond (@decide p i) a b=x:=by rw[decide_eq_false h];exact h2
end
end Go.Skm
