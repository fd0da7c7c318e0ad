import Derived.Test.YtoheflpoanjihaaGreatSkmD
set_option linter.all false
namespace Go.Skm
open Go.ChangeShapes Go.WideShapes
section
variable (P:Program)
def UF(g:TypeId->Bool):Nat->List Field->Bool
 | _,[]=>true
 | o,f::r=>f.offset==o&&(g f.type&&UF g (o+P.cellsOf f.type) r)
def akA:List Field->Nat
 |[]=>0
 | f::r=>P.cellsOf f.type+akA r
def adv:Nat->TypeId->Bool
 | 0,_=>false
 | n+1,t =>
  match P.underlying t with
  | some (.int _)=>Nat.beq (P.cellsOf t) 1
  | some .bool=>Nat.beq (P.cellsOf t) 1
  | some .string=>Nat.beq (P.cellsOf t) 1
  | some (.slice e)=>adv n e&&(Nat.blt 0 (P.cellsOf e)&&Nat.beq (P.cellsOf t) 1)
  | some (.struct fs)=>UF P (adv n) 0 fs.toList&&Nat.beq (P.cellsOf t) (akA P fs.toList)
  | some (.array m e)=>adv n e&&Nat.beq (P.cellsOf t) (m*P.cellsOf e)
  | _=>false
theorem ags:∀ l:List Field,akA P l=pJ.sum P l
 |[]=>by simp[akA,pJ.sum]
 | f::r=>by simp[akA,pJ.sum,ags r]
theorem Md:∀(n:Nat) (t:TypeId),adv P n t=true->pJ P n t=true
 | 0,t,h=>by simp[adv]at h
 | n+1,t,h=>by
  unfold adv at h;unfold pJ;split at h
  . rename_i k a;rw[a];exact h
  . rename_i a;rw[a];exact h
  . rename_i a;rw[a];exact h
  . rename_i e a;rw[a];simp only[qBa]at h ⊢;exact⟨Md n e h.1,h.2⟩
  . rename_i g a;rw[a];simp only[qBa]at h ⊢;rw[<- ags];refine⟨?_,h.2⟩;have c:∀(l:List Field) (o:Nat),UF P (adv P n) o l=true->pJ.go P n o l=true:=by
     intro l;induction l with
     | nil=>intro o _;simp[pJ.go]
     | cons f r d =>intro o b;simp only[UF,qBa]at b;simp only[pJ.go,qBa];exact⟨b.1,Md n _ b.2.1,d _ b.2.2⟩
    exact c _ _ h.1
  . rename_i m e a;rw[a];simp only[qBa]at h ⊢;exact⟨Md n e h.1,h.2⟩
  . cases h
end
section
variable {H:Type} {enc:TypeId × Value->H} {P:Program}
theorem ank{T:Tab}(ok:fB P T){X:Ext}{gl:Option (List (Nat × Obj))}(q:vF P T gl X){f:Nat}{fi:FI}(o:dZ T.funcs f=some fi){fn:Func}(k:fi.fn=fn){tb:TypeId}(d:fn.resultTypes=#[tb])(l:fi.cfg.rets=[])
    (h:P.underlying tb=some .bool){s:ChangeSpec}(hvars:s.vars=[]){W:World}{args:Array Value}{ds u:List (DataW H)}{before:List MemPlace}{b0:Nat}
    (a:∀(j:Nat) t v,fn.params[j]?=some t->args[j]?=some v->Value.okWide P W .any b0 t v)(r:DataW.Whole enc P fn.params.toList s.vars false W args.toList ds u before)
    (g:fn.params.toList.all (adv P 8)=true)(n:s.fn H ds={results:=[.lit (.bool true)],args:=ds})
    (i:∀ p∈gl.getD [],p.1<W.heap.size/\W.heap[p.1]?=some p.2)(c:∀ xs,Ep P W (λb=>b<W.heap.size) fn.params.toList args.toList xs->run T X f (xs.map .p) []=some ([.p (.bool true)],[])) :
    Calls P f args W λe W'=>∃ v,e=.returned v/\s.post enc P fn false true false false W args v W':=
  ah4 ok q o k d l h hvars a r (List.all_eq_true.2 λt m=>Md P 8 t (List.all_eq_true.1 g t m)) n i c
end
end Go.Skm
