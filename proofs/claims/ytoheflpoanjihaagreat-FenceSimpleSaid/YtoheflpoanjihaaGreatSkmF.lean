import Derived.Test.YtoheflpoanjihaaGreatSkmE
namespace Go.Skm
open Go.ChangeShapes Go.WideShapes
section
variable (P:Program)
def O4 (g:TypeId→Bool):Nat→List Field→Bool
 | _,[]=>true
 | o,f::r=>f.offset==o&&(g f.type&&O4 g (o+P.cellsOf f.type) r)
def ae1:List Field→Nat
 | []=>0
 | f::r=>P.cellsOf f.type+ae1 r
def YL:Nat→TypeId→Bool
 | 0,_=>false
 | n+1,t =>
  match P.underlying t with
  | some (.int _)=>Nat.beq (P.cellsOf t) 1
  | some .bool=>Nat.beq (P.cellsOf t) 1
  | some .string=>Nat.beq (P.cellsOf t) 1
  | some (.slice e)=>YL n e&&(Nat.blt 0 (P.cellsOf e)&&Nat.beq (P.cellsOf t) 1)
  | some (.struct fs)=>O4 P (YL n) 0 fs.toList&&Nat.beq (P.cellsOf t) (ae1 P fs.toList)
  | some (.array m e)=>YL n e&&Nat.beq (P.cellsOf t) (m*P.cellsOf e)
  | _=>false
theorem abq:∀ l:List Field,ae1 P l=nN.sum P l
 | []=>by simp[ae1,nN.sum]
 | f::r=>by simp[ae1,nN.sum,abq r]
theorem IE:∀ (n:Nat) (t:TypeId),YL P n t=true→nN P n t=true
 | 0,t,h=>by simp[YL]at h
 | n+1,t,h=>by
  unfold YL at h;unfold nN;split at h
  · rename_i k hu;rw[hu];exact h
  · rename_i hu;rw[hu];exact h
  · rename_i hu;rw[hu];exact h
  · rename_i e hu;rw[hu];simp only[qBa]at h ⊢;exact⟨IE n e h.1,h.2⟩
  · rename_i fs hu;rw[hu];simp only[qBa]at h ⊢;rw[← abq];refine⟨?_,h.2⟩;have key:∀ (l:List Field) (o:Nat),O4 P (YL P n) o l=true→nN.go P n o l=true:=by
     intro l;induction l with
     | nil=>intro o _;simp[nN.go]
     | cons f r ih =>intro o hf;simp only[O4,qBa]at hf;simp only[nN.go,qBa];exact⟨hf.1,IE n _ hf.2.1,ih _ hf.2.2⟩
    exact key _ _ h.1
  · rename_i m e hu;rw[hu];simp only[qBa]at h ⊢;exact⟨IE n e h.1,h.2⟩
  · cases h
end
section
variable {H:Type} {enc:TypeId × Value→H} {P:Program}
theorem ahl {T : Tab} (ok : dZ P T) {X : Ext} {gl : Option (List (Nat × Obj))} (hX : sF P T gl X) {f : Nat} {fi : FI} (hf : dN T.funcs f = some fi) {fn : Func} (hfn : fi.fn = fn) {tb : TypeId} (hres : fn.resultTypes = #[tb]) (aeY : fi.cfg.rets = [])
    (hub:P.underlying tb=some .bool) {s:ChangeSpec} (hvars:s.vars=[]) {W:World} {args:Array Value} {ds gs:List (DataW H)} {before:List MemPlace} {b0:Nat}
    (hval:∀ (j:Nat) t v,fn.params[j]?=some t→args[j]?=some v→Value.okWide P W .any b0 t v) (hW:DataW.Whole enc P fn.params.toList s.vars false W args.toList ds gs before)
    (hpar:fn.params.toList.all (YL P 8)=true) (hs:s.fn H ds={ results:=[.lit (.bool true)],args:=ds })
    (hgl:∀ p∈gl.getD [],p.1<W.heap.size∧W.heap[p.1]?=some p.2) (hrun:∀ xs,AQ P W (fun b=>b<W.heap.size) fn.params.toList args.toList xs→run T X f (xs.map .p) []=some ([.p (.bool true)],[])) :
    Calls P f args W fun e W'=>∃ v,e=.returned v∧s.post enc P fn false true false false W args v W' :=
  ac5 ok hX hf hfn hres aeY hub hvars hval hW (List.all_eq_true.2 fun t ht=>IE P 8 t (List.all_eq_true.1 hpar t ht)) hs hgl hrun
end
end Go.Skm
