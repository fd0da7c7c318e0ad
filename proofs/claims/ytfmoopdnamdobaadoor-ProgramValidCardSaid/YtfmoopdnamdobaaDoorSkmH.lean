import Derived.Test.YtfmoopdnamdobaaDoorSkmF
import Derived.Below
import Derived.Test.YtfmoopdnamdobaaDoorSkmG
import Derived.Handed
import Derived.Lib.LaidTab
import Derived.Stop.LaidErr
namespace Go.Skm
open Go.RowKit
abbrev J4:=List AV→List aJ→Option (List AV × List aJ)
def PS (P:Program) (T:Tab) (gl:Option (List (Nat × Obj))) (f:Nat) (s:J4):Prop :=
 ∀ fi args bl rs pG,bI T.funcs f=some fi→s args bl=some (rs,pG)→(∃ c,fi.fn.body=some c)∧(∀ b∈bl,dS b=true) ∧
  ∀ (w:World) (M:Nat→Prop) (β:Nat→Option (Nat × Nat)) (aF:Array Value),(∀ p∈gl.getD [],M p.1∧w.heap[p.1]?=some p.2)→tX w M β args bl aF →
   Calls P f aF w fun e w'=>∃ cs ps M',e=.returned (wV cs)∧zi gl T fi w M β bl rs pG w' M' cs ps
def RI (l:List (Nat × J4)):Ext:=fun f=>bI l f
theorem Xj {P:Program} {T:Tab} {gl:Option (List (Nat × Obj))} (h:∀ w:World,(∀ p∈gl.getD [],w.heap[p.1]?=some p.2)→T.glob gl.isSome w):Ae P T gl (RI []):=⟨h,fun f fi s args bl rs pG _ h=>by cases h⟩
theorem uZ {P:Program} {T:Tab} {gl:Option (List (Nat × Obj))} {f:Nat} {s:J4} {l:List (Nat × J4)} (h1:PS P T gl f s) (h2:Ae P T gl (RI l)):Ae P T gl (RI ((f,s)::l)):=by
 refine⟨h2.1,?_⟩
 intro g fi s' args bl rs pG hf hX h
 unfold RI at hX
 rw[bI]at hX
 by_cases e:f=g
 · subst e
   rw[beq_self_eq_true,cond_true]at hX
   cases hX
   exact h1 fi args bl rs pG hf h
 · rw[show (f==g)=false from by simpa using e,cond_false]at hX
   exact h2.2 g fi s' args bl rs pG hf hX h
section
variable {P:Program} {T:Tab} {gl:Option (List (Nat × Obj))} {fi:FI} {w w':World} {M:Nat→Prop} {β:Nat→Option (Nat × Nat)} {aF:Array Value}
theorem G6 {x:PV} (h:tX w M β [.p x] [] aF):∃ v,aF=#[v]∧VR w M x v:=by
 have h0:=h.args 0 _ rfl
 have hs:aF.size=1:=h.num
 refine⟨aF[0],?_,?_⟩
 · apply Array.ext
   · simpa using hs
   · intro i h1 h2
     have:i=0:=by omega
     subst this;rfl
 · have e:aF.getD 0 undef=aF[0]:=by simp[Array.getD,hs]
   rw[e]at h0
   cases h0 with
   | p _ _ hv=>exact hv
theorem Jy {k:IntKind} {n:Int} {c:Value} (h:VR w M (.int k n) c):c=.int k n:=by cases h;rfl
theorem VL {s:ByteArray} {c:Value} (h:VR w M (.str s) c):c=.string s:=by cases h;rfl
end
end Go.Skm
namespace Go
variable {H:Type} {enc:TypeId × Value→H}
theorem Bh {a : Assume} {C : Checked} {os : Os} {f : FuncId} {fn : Func} {s : ChangeSpec} {conds : List PathCond} {apart fresh handsOn again : Bool} {X : World → Array Value → Prop}
    (hX:∀ (w w':World) (args:Array Value),w.heap=w'.heap→X w args→X w' args)
    (own:ownKnob C.prog.godebug=none) (started:os.Started) (noInit:C.prog.inits.idxOf? f=none) (hfn:C.prog.funcs[f]?=some fn)
    (witness:∃ (w:World) (tape:Tape) (i:Input),w.os=os∧(w.forCall tape i).Shaped C.prog∧i.vars=[]∧Input.okWide C.prog (w.forCall tape i) .any w.heap.size f i ∧
      ((s.pre enc C.prog fn conds apart (w.forCall tape i).memory i.args∧X (w.forCall tape i).memory i.args)∧sizedMet enc C.prog fn (OpenSpec.ofChange s) apart (w.forCall tape i).memory i.args)∧a.holds C.prog (lone (Frame.enter C.prog f i.args .normal) [] (w.forCall tape i)))
    (contract:∀ (W:World) (base:Nat) (args:Array Value) (ds gs:List (DataW H)) (before:List MemPlace),
      (∀ (j:Nat) t v,fn.params[j]?=some t→args[j]?=some v→Value.okWide C.prog W .any base t v) →
      DataW.Whole enc C.prog fn.params.toList s.vars apart W args.toList ds gs before→X W args→W.ShapedOpen C.prog →
      Calls C.prog f args W fun e W'=>∃ v,e=.returned v∧s.post enc C.prog fn apart fresh handsOn again W args v W') :
    ReturnsInHanded a C os f .any (fun w args=>(s.pre enc C.prog fn conds apart w args∧X w args)∧sizedMet enc C.prog fn (OpenSpec.ofChange s) apart w args) (s.post enc C.prog fn apart fresh handsOn again):=by
  refine returnsInHanded_of_calls own started noInit witness ?_
  intro w tape i _ hsh _ hok hpre _
  obtain⟨_,_,_,fn',hfn',_,_,_,_,hval⟩:=hok
  have e:fn'=fn:=Option.some.inj (hfn'.symm.trans hfn)
  subst e
  obtain⟨⟨⟨ds,gs,before,hw,_⟩,hx⟩,_⟩:=hpre
  have hw':=DataW.Whole.of_heap (w':=w.forCall tape i) (by rfl) hw
  refine(contract (w.forCall tape i) w.heap.size i.args ds gs before hval hw' (hX _ _ _ (by rfl) hx) hsh).mono fun e W' ⟨v,he,hp⟩=>?_
  subst he
  exact ChangeSpec.post_blind hp
end Go
namespace Go.Skm
open Go.ChangeShapes Go.WideShapes
def RJ (W:World) (gs:List Nat):List (Nat × Obj):=gs.filterMap fun g=>(W.heap[g]?).map fun o=>(g,o)
theorem aa8 {W:World} {gs:List Nat}:∀ p∈RJ W gs,p.1<W.heap.size∧W.heap[p.1]?=some p.2:=by
 intro p hp
 obtain⟨g,_,hg⟩:=List.mem_filterMap.1 hp
 obtain⟨o,ho,rfl⟩:=Option.map_eq_some_iff.1 hg
 exact⟨(qAa.1 ho).1,ho⟩
theorem Yh {W w:World} {gs:List Nat} (h:∀ p∈RJ W gs,w.heap[p.1]?=some p.2) {g:Nat} (hg:g∈gs) {o:Obj} (ho:W.heap[g]?=some o):w.heap[g]?=W.heap[g]?:=by
 rw[ho]
 exact h (g,o) (List.mem_filterMap.2 ⟨g,hg,by rw[ho];rfl⟩)
theorem Y3 {P:Program} {W w:World} {gs:List Nat} (h:∀ p∈RJ W gs,w.heap[p.1]?=some p.2) {g:Nat} (hg:g∈gs) {name:String} (hn:P.globalNamed name=some g) {cs:Array Value} (hv:W.var? P name=some cs):w.var? P name=some cs:=by
 unfold World.var? at hv ⊢
 rw[hn,Option.bind_some]at hv ⊢
 cases ho:W.heap[g]? with
 | none=>simp[ho]at hv
 | some o =>
  rw[Yh h hg ho]
  exact hv
section
variable {P:Program} {w:World} {M:Nat→Prop}
theorem aak {vs:List Value} {xs:List PV} (h:vZ P w M [] vs xs):xs=[]:=by cases h;rfl
theorem Px {t : TypeId} {ts : List TypeId} {vs : List Value} {xs : List PV} (h : vZ P w M (t::ts) vs xs) :
    ∃ x xs' v vs',xs=x::xs'∧VR w M x v∧au (bg P 8 t).1 (bg P 8 t).2 x=true∧x.wf∧vZ P w M ts vs' xs':=by
  cases h with
  | cons _ _ v vs' x xs' h1 h2 h3 h4=>exact⟨x,xs',v,vs',rfl,h1,h2,h3,h4⟩
end
section
variable {H:Type} {enc:TypeId × Value→H} {P:Program}
theorem Jm {w:World} {base:Nat} {sp:Nat→Bool} {held:Bool}:∀ {ts:List TypeId} {vs:List Value} {ds:List (DataW H)} {ps:List MemPlace},DataW.TrodAll enc P w base sp held ts vs ds ps→ds.length=ts.length
 | [],_,_,_,h=>by obtain⟨_,rfl,_⟩:=trodAll_nil h;rfl
 | t::ts,_,_,_,h=>by
  obtain⟨v,vs',d,ds',p,q,_,rfl,_,_,h2⟩:=trodAll_cons h
  rw[List.length_cons,List.length_cons,Jm h2]
theorem Xo {ts:List TypeId} {vars:List String} {ap:Bool} {W:World} {vs:List Value} {ds gs:List (DataW H)} {before:List MemPlace} (h:DataW.Whole enc P ts vars ap W vs ds gs before):ds.length=ts.length:=by
 obtain⟨p,q,hA,_⟩:=h
 exact Jm hA
end
end Go.Skm
namespace Go.Skm
theorem OA {P:Program} {W:World}:∀ (k:Nat) {l:List (String × DataW Unit)},laidMet P l W→laidMet P (l.drop k) W
 | 0,_,h=>h
 | _k+1,[],h=>h
 | k+1,_x::_l,h=>OA k (laidMet.tail h)
end Go.Skm
