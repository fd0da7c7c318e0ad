import Derived.Test.YtoheflpoanjihaaGreatSkmE
set_option linter.all false
namespace Go.Skm
open Go.ChangeShapes Go.WideShapes
section
variable (P:Program)
def fieldsS(g:TypeId->Bool):Nat->List Field->Bool
 | _,[]=>true
 | o,f::r=>f.offset==o&&(g f.type&&fieldsS g (o+P.cellsOf f.type) r)
def sumS:List Field->Nat
 |[]=>0
 | f::r=>P.cellsOf f.type+sumS r
def argS:Nat->TypeId->Bool
 | 0,_=>false
 | n+1,t =>
  match P.underlying t with
  | some (.int _)=>Nat.beq (P.cellsOf t) 1
  | some .bool=>Nat.beq (P.cellsOf t) 1
  | some .string=>Nat.beq (P.cellsOf t) 1
  | some (.slice e)=>argS n e&&(Nat.blt 0 (P.cellsOf e)&&Nat.beq (P.cellsOf t) 1)
  | some (.struct fs)=>fieldsS P (argS n) 0 fs.toList&&Nat.beq (P.cellsOf t) (sumS P fs.toList)
  | some (.array m e)=>argS n e&&Nat.beq (P.cellsOf t) (m*P.cellsOf e)
  | _=>false
theorem sumS_eq:∀ l:List Field,sumS P l=argT.sum P l
 |[]=>by simp[sumS,argT.sum]
 | f::r=>by simp[sumS,argT.sum,sumS_eq r]
theorem argS_argT:∀(n:Nat) (t:TypeId),argS P n t=true->argT P n t=true
 | 0,t,h=>by simp[argS]at h
 | n+1,t,h=>by
  unfold argS at h;unfold argT;split at h
  . rename_i k a;rw[a];exact h
  . rename_i a;rw[a];exact h
  . rename_i a;rw[a];exact h
  . rename_i e a;rw[a];simp only[qBa]at h ⊢;exact⟨argS_argT n e h.1,h.2⟩
  . rename_i g a;rw[a];simp only[qBa]at h ⊢;rw[<- sumS_eq];refine⟨?_,h.2⟩;have c:∀(l:List Field) (o:Nat),fieldsS P (argS P n) o l=true->argT.go P n o l=true:=by
     intro l;induction l with
     | nil=>intro o _;simp[argT.go]
     | cons f r d =>intro o b;simp only[fieldsS,qBa]at b;simp only[argT.go,qBa];exact⟨b.1,argS_argT n _ b.2.1,d _ b.2.2⟩
    exact c _ _ h.1
  . rename_i m e a;rw[a];simp only[qBa]at h ⊢;exact⟨argS_argT n e h.1,h.2⟩
  . cases h
end
section
variable {H:Type} {enc:TypeId × Value->H} {P:Program}
theorem law_of{T:Tab}(ok:TabOk P T){X:Ext}{gl:Option (List (Nat × Obj))}(o:ExtOk P T gl X){f:Nat}{fi:FI}(n:tlook T.funcs f=some fi){fn:Func}(k:fi.fn=fn){tb:TypeId}(d:fn.resultTypes=#[tb])(hrets:fi.cfg.rets=[])
    (h:P.underlying tb=some .bool){s:ChangeSpec}(hvars:s.vars=[]){W:World}{args:Array Value}{ds r:List (DataW H)}{before:List MemPlace}{b0:Nat}
    (a:∀(j:Nat) t v,fn.params[j]?=some t->args[j]?=some v->Value.okWide P W .any b0 t v)(q:DataW.Whole enc P fn.params.toList s.vars false W args.toList ds r before)
    (g:fn.params.toList.all (argS P 8)=true)(m:s.fn H ds={results:=[.lit (.bool true)],args:=ds})
    (i:∀ p∈gl.getD [],p.1<W.heap.size/\W.heap[p.1]?=some p.2)(c:∀ xs,ArgsR P W (λb=>b<W.heap.size) fn.params.toList args.toList xs->run T X f (xs.map .p) []=some ([.p (.bool true)],[])) :
    Calls P f args W λe W'=>∃ v,e=.returned v/\s.post enc P fn false true false false W args v W':=
  law_calls ok o n k d hrets h hvars a q (List.all_eq_true.2 λt l=>argS_argT P 8 t (List.all_eq_true.1 g t l)) m i c
end
end Go.Skm
