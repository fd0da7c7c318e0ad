/-
  A machine that runs this program's functions on pure values, and the proof that what it returns is true of the program; no condition beside the hypotheses of each.
-/
import Derived.Test.YtipkmkmngcjdbaaGreatDoorSkmE
import Derived.Below
import Derived.Test.YtipkmkmngcjdbaaGreatDoorSkmG
import Derived.Handed
import Derived.Lib.LaidTab
import Derived.Stop.LaidErr
namespace Go.Skm
open Go.RowKit
abbrev zB:=List AV→List aI→Option (List AV × List aI)
def yO (P:Program) (T:Tab) (gl:Option (List (Nat × Obj))) (f:Nat) (s:zB):Prop :=
 ∀ fi args bl rs iU,bG T.funcs f=some fi→s args bl=some (rs,iU)→(∃ c,fi.fn.body=some c)∧(∀ b∈bl,dn b=true) ∧
  ∀ (w:World) (M:Nat→Prop) (β:Nat→Option (Nat × Nat)) (aG:Array Value),(∀ p∈gl.getD [],M p.1∧w.heap[p.1]?=some p.2)→oH w M β args bl aG →
   Calls P f aG w fun e w'=>∃ cs ps M',e=.returned (rP cs)∧rQ gl T fi w M β bl rs iU w' M' cs ps
def WG (l:List (Nat × zB)):Ext:=fun f=>bG l f
theorem WL {P:Program} {T:Tab} {gl:Option (List (Nat × Obj))}:zA P T gl (WG []):=fun f fi s args bl rs iU _ h=>by cases h
theorem mJ {P:Program} {T:Tab} {gl:Option (List (Nat × Obj))} {f:Nat} {s:zB} {l:List (Nat × zB)} (h1:yO P T gl f s) (h2:zA P T gl (WG l)):zA P T gl (WG ((f,s)::l)):=by
 intro g fi s' args bl rs iU hf hX h
 unfold WG at hX
 rw[bG]at hX
 by_cases e:f=g
 · subst e
   rw[beq_self_eq_true,cond_true]at hX
   cases hX
   exact h1 fi args bl rs iU hf h
 · rw[show (f==g)=false from by simpa using e,cond_false]at hX
   exact h2 g fi s' args bl rs iU hf hX h
section
variable {P:Program} {T:Tab} {gl:Option (List (Nat × Obj))} {fi:FI} {w w':World} {M:Nat→Prop} {β:Nat→Option (Nat × Nat)} {aG:Array Value}
theorem F5 {x:PV} (h:oH w M β [.p x] [] aG):∃ v,aG=#[v]∧VR w M x v:=by
 have h0:=h.args 0 _ rfl
 have hs:aG.size=1:=h.num
 refine⟨aG[0],?_,?_⟩
 · apply Array.ext
   · simpa using hs
   · intro i h1 h2
     have:i=0:=by omega
     subst this;rfl
 · have e:aG.getD 0 undef=aG[0]:=by simp[Array.getD,hs]
   rw[e]at h0
   cases h0 with
   | p _ _ hv=>exact hv
theorem xQ {x y:PV} (h:oH w M β [.p x,.p y] [] aG):∃ v u,aG=#[v,u]∧VR w M x v∧VR w M y u:=by
 have h0:=h.args 0 _ rfl
 have h1:=h.args 1 _ rfl
 have hs:aG.size=2:=h.num
 have e0:aG.getD 0 undef=aG[0]:=by simp[Array.getD,hs]
 have e1:aG.getD 1 undef=aG[1]:=by simp[Array.getD,hs]
 rw[e0]at h0
 rw[e1]at h1
 refine⟨aG[0],aG[1],?_,?_,?_⟩
 · apply Array.ext
   · simpa using hs
   · intro i h2 h3
     have:i=0∨i=1:=by omega
     rcases this with rfl | rfl<;>rfl
 · cases h0 with
   | p _ _ hv=>exact hv
 · cases h1 with
   | p _ _ hv=>exact hv
theorem fZ {k:IntKind} {n:Int} {c:Value} (h:VR w M (.int k n) c):c=.int k n:=by cases h;rfl
theorem uq {s:ByteArray} {c:Value} (h:VR w M (.str s) c):c=.string s:=by cases h;rfl
theorem nC {args : List AV} (hpre : oH w M β args [] aG) (hb : Below w.heap.size w w') (hdr : gZ gl w.drawn w'.drawn) {rs : List AV} {cs : List Value} {ps : List (Option (Nat × Nat))}
    (hres:∀ M:Nat→Prop,qA T w' M β (look (dN 0 [])) fi.cfg.rets fi.fn.resultTypes.toList rs cs ps) (hown:∀ b o,some (b,o)∈ps→b<w'.heap.size∧w.heap.size≤b):rQ gl T fi w M β [] rs [] w' M cs ps:=by
  refine⟨hres M,fun b o h=>⟨fun hM=>?_,hown b o h⟩,fun _ _=>⟨fun _=>False,fun b h=>h.elim,hres _⟩,fun b h=>h,fun b h=>.inl h,fun b h=>Nat.lt_of_lt_of_le (hpre.fJ b h) hb.size,fun b h _=>hb.block b h,?_,hb.size,hb.os,hb.tape,hb.output,hdr,rfl,?_⟩
  · have:=hpre.fJ b hM
    have:=(hown b o h).2
    omega
  · intro b n h hr
    obtain⟨C,e,fr,h1,h2,h3⟩:=hr
    exact⟨C,e,fr,by rw[hb.block b h];exact h1,h2,h3⟩
  · intro i b0 b1 h;simp at h
theorem SV {w:World} (o:Obj):Below w.heap.size w (w.alloc o):=(Below.refl _ _).alloc (Nat.le_refl _) o
theorem Me {t : TypeId} {v : PV} {c : Value} {h : Nat → Option aI} (hr : fi.cfg.rets = []) (ht : fi.fn.resultTypes = #[t]) (hs : aA (aB T t).1 (aB T t).2 v = true) (hv : VR w' M v c) :
    qA T w' M β h fi.cfg.rets fi.fn.resultTypes.toList [.p v] [c] [none]:=by
  rw[hr,ht]
  exact .cons _ _ _ _ _ _ _ _ _ (.deep _ _ _ hs hv) (.nil _) (fun b o o' h=>by cases h)
theorem MB {t u : TypeId} {v x : PV} {c d : Value} {h : Nat → Option aI} (hr : fi.cfg.rets = []) (ht : fi.fn.resultTypes = #[t,u]) (hs : aA (aB T t).1 (aB T t).2 v = true) (hv : VR w' M v c)
    (hs':aA (aB T u).1 (aB T u).2 x=true) (hv':VR w' M x d):qA T w' M β h fi.cfg.rets fi.fn.resultTypes.toList [.p v,.p x] [c,d] [none,none]:=by
  rw[hr,ht]
  exact .cons _ _ _ _ _ _ _ _ _ (.deep _ _ _ hs hv) (.cons _ _ _ _ _ _ _ _ _ (.deep _ _ _ hs' hv') (.nil _) (fun b o o' h=>by cases h)) (fun b o o' h=>by cases h)
end
end Go.Skm
namespace Go
variable {H:Type} {enc:TypeId × Value→H}
theorem Aq {a : Assume} {C : Checked} {os : Os} {f : FuncId} {fn : Func} {s : ChangeSpec} {conds : List PathCond} {apart fresh handsOn again : Bool} {X : World → Array Value → Prop}
    (hX:∀ (w w':World) (args:Array Value),w.heap=w'.heap→X w args→X w' args)
    (own:ownKnob C.prog.godebug=none) (started:os.Started) (noInit:C.prog.inits.idxOf? f=none) (hfn:C.prog.funcs[f]?=some fn)
    (witness:∃ (w:World) (tape:Tape) (i:Input),w.os=os∧(w.forCall tape i).Shaped C.prog∧i.vars=[]∧Input.okWide C.prog (w.forCall tape i) .any w.heap.size f i ∧
      ((s.pre enc C.prog fn conds apart (w.forCall tape i).memory i.args∧X (w.forCall tape i).memory i.args)∧sizedMet enc C.prog fn (OpenSpec.ofChange s) apart (w.forCall tape i).memory i.args)∧a.holds C.prog (lone (Frame.enter C.prog f i.args .normal) [] (w.forCall tape i)))
    (contract:∀ (W:World) (base:Nat) (args:Array Value) (ds gs:List (DataW H)) (before:List MemPlace),
      (∀ (j:Nat) t v,fn.params[j]?=some t→args[j]?=some v→Value.okWide C.prog W .any base t v) →
      DataW.Whole enc C.prog fn.params.toList s.vars apart W args.toList ds gs before→X W args→W.ShapedOpen C.prog →
      Calls C.prog f args W fun e W'=>∃ v,e=.returned v∧s.post enc C.prog fn apart fresh handsOn again W args v W') :
    ReturnsInHanded a C os f .any (fun w args=>(s.pre enc C.prog fn conds apart w args∧X w args)∧sizedMet enc C.prog fn (OpenSpec.ofChange s) apart w args) (s.post enc C.prog fn apart fresh handsOn again):=by
  refine returnsInHanded_of_calls own started noInit witness ?_
  intro w tape i _ hsh _ hok hpre _
  obtain⟨_,_,_,fn',hfn',_,_,_,_,hval⟩:=hok
  have e:fn'=fn:=Option.some.inj (hfn'.symm.trans hfn)
  subst e
  obtain⟨⟨⟨ds,gs,before,hw,_⟩,hx⟩,_⟩:=hpre
  have hw':=DataW.Whole.of_heap (w':=w.forCall tape i) (by rfl) hw
  refine(contract (w.forCall tape i) w.heap.size i.args ds gs before hval hw' (hX _ _ _ (by rfl) hx) hsh).mono fun e W' ⟨v,he,hp⟩=>?_
  subst he
  exact ChangeSpec.post_blind hp
end Go
namespace Go.Skm
open Go.ChangeShapes Go.WideShapes
def TF (W:World) (gs:List Nat):List (Nat × Obj):=gs.filterMap fun g=>(W.heap[g]?).map fun o=>(g,o)
theorem aaL {W:World} {gs:List Nat}:∀ p∈TF W gs,p.1<W.heap.size∧W.heap[p.1]?=some p.2:=by
 intro p hp
 obtain⟨g,_,hg⟩:=List.mem_filterMap.1 hp
 obtain⟨o,ho,rfl⟩:=Option.map_eq_some_iff.1 hg
 exact⟨(Array.getElem?_eq_some_iff.1 ho).1,ho⟩
theorem OC {W w:World} {gs:List Nat} (h:∀ p∈TF W gs,w.heap[p.1]?=some p.2) {g:Nat} (hg:g∈gs) {o:Obj} (ho:W.heap[g]?=some o):w.heap[g]?=W.heap[g]?:=by
 rw[ho]
 exact h (g,o) (List.mem_filterMap.2 ⟨g,hg,by rw[ho];rfl⟩)
theorem F6 {W w:World} {gs:List Nat} (h:∀ p∈TF W gs,w.heap[p.1]?=some p.2) {g i:Nat} (hg:g∈gs) {v:Value} (hv:W.cell? ⟨g,i,none⟩=some v):w.cell? ⟨g,i,none⟩=some v:=by
 cases ho:W.heap[g]? with
 | none=>simp[World.cell?,ho]at hv
 | some o =>
  have e:=OC h hg ho
  rw[← hv]
  simp only[World.cell?,e]
theorem YG {P:Program} {W w:World} {gs:List Nat} (h:∀ p∈TF W gs,w.heap[p.1]?=some p.2) {g:Nat} (hg:g∈gs) {name:String} (hn:P.globalNamed name=some g) {cs:Array Value} (hv:W.var? P name=some cs):w.var? P name=some cs:=by
 unfold World.var? at hv ⊢
 rw[hn,Option.bind_some]at hv ⊢
 cases ho:W.heap[g]? with
 | none=>simp[ho]at hv
 | some o =>
  rw[OC h hg ho]
  exact hv
theorem SX {P:Program} {W:World} {g:Nat} {name:String} (hn:P.globalNamed name=some g) {v:Value} (hv:W.var? P name=some #[v]):W.cell? ⟨g,0,none⟩=some v:=by
 simpa using World.var?_cell hn hv 0
section
variable {P:Program} {w:World} {M:Nat→Prop}
theorem Za {vs:List Value} {xs:List PV} (h:uZ P w M [] vs xs):xs=[]:=by cases h;rfl
theorem NP {t : TypeId} {ts : List TypeId} {vs : List Value} {xs : List PV} (h : uZ P w M (t::ts) vs xs) :
    ∃ x xs' v vs',xs=x::xs'∧VR w M x v∧aA (aX P 8 t).1 (aX P 8 t).2 x=true∧x.wf∧uZ P w M ts vs' xs':=by
  cases h with
  | cons _ _ v vs' x xs' h1 h2 h3 h4=>exact⟨x,xs',v,vs',rfl,h1,h2,h3,h4⟩
end
section
variable {H:Type} {enc:TypeId × Value→H} {P:Program}
theorem IK {w:World} {base:Nat} {sp:Nat→Bool} {held:Bool}:∀ {ts:List TypeId} {vs:List Value} {ds:List (DataW H)} {ps:List MemPlace},DataW.TrodAll enc P w base sp held ts vs ds ps→ds.length=ts.length
 | [],_,_,_,h=>by obtain⟨_,rfl,_⟩:=trodAll_nil h;rfl
 | t::ts,_,_,_,h=>by
  obtain⟨v,vs',d,ds',p,q,_,rfl,_,_,h2⟩:=trodAll_cons h
  rw[List.length_cons,List.length_cons,IK h2]
theorem W9 {ts:List TypeId} {vars:List String} {ap:Bool} {W:World} {vs:List Value} {ds gs:List (DataW H)} {before:List MemPlace} (h:DataW.Whole enc P ts vars ap W vs ds gs before):ds.length=ts.length:=by
 obtain⟨p,q,hA,_⟩:=h
 exact IK hA
end
end Go.Skm
namespace Go.Skm
theorem BG {P:Program} {W:World}:∀ (k:Nat) {l:List (String × DataW Unit)},laidMet P l W→laidMet P (l.drop k) W
 | 0,_,h=>h
 | _k+1,[],h=>h
 | k+1,_x::_l,h=>BG k (laidMet.tail h)
theorem JC {P : Program} {W : World} {n nm : String} {d : DataW Unit} {r : List (String × DataW Unit)} (h : laidMet P ((n,.iface nm d)::r) W) {g : Nat} {ti : TypeId} {ms : Array (String × TypeId)}
    (hg:P.globalNamed n=some g) (ht:(P.globals[g]?).map (·.type)=some ti) (hi:P.underlying ti=some (.interface ms)):∃ u v,W.cell? ⟨g,0,none⟩=some (.iface u v):=by
  obtain⟨ps,⟨g',t',cs,fuel,p,q,hg',ht',hvar,hd,_,_⟩,_⟩:=h
  obtain rfl:=Option.some.inj (hg.symm.trans hg')
  obtain rfl:=Option.some.inj (ht.symm.trans ht')
  obtain⟨_,u,v,hcs,_,_⟩:=iface_of_trod hi hd
  refine⟨u,v,?_⟩
  have e:cs=#[.iface u v]:=by
   rw[← Array.toArray_toList (xs:=cs),hcs]
  rw[e]at hvar
  exact SX hg hvar
end Go.Skm
