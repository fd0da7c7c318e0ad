import Derived.Test.YtfmoopdnamdobaaDoorV6
namespace Go.Skm.Prg
open Go Go.Skm Go.Proofs Go.RowKit Go.Shelf
def DI (w:World) (B E:Nat) (v:Value) (len:Nat) (ty:TypeId) (sz:Nat) (φ:Nat→Nat→Value→Prop):Prop :=
 (v=.slice none 0 0∧len=0)∨∃ g cap cur,v=.slice (some ⟨g,0,none⟩) len cap∧B≤g∧g<E∧w.heap[g]?=some (.cells cur ty (0,0))∧len*sz≤cur.size∧∀ i j,i<len→j<sz→φ i j (cur.getD (i*sz+j) undef)
theorem lF.adW {w:World} {B:Nat} {v:Value} {len:Nat} {ty:TypeId} {sz:Nat} {φ φ':Nat→Nat→Value→Prop} (h:lF w B v len ty sz φ) (hφ:∀ i j u,i<len→φ i j u→φ' i j u):DI w B w.heap.size v len ty sz φ':=by
 rcases h with h | ⟨g,cap,cur,h1,h2,h3,h4,h5,h6⟩
 · exact .inl h
 · exact .inr ⟨g,cap,cur,h1,h2,(qAa.1 h4).1,h4,h5,fun i j hi hj=>hφ _ _ _ hi (h6 i j hi hj)⟩
theorem DI.mono {w w':World} {B E:Nat} {v:Value} {len:Nat} {ty:TypeId} {sz:Nat} {φ φ':Nat→Nat→Value→Prop} (h:DI w B E v len ty sz φ) (hw:∀ b,b<E→w'.heap[b]?=w.heap[b]?) (hφ:∀ i j u,φ i j u→φ' i j u):DI w' B E v len ty sz φ':=by
 rcases h with h | ⟨g,cap,cur,h1,h2,h3,h4,h5,h6⟩
 · exact .inl h
 · exact .inr ⟨g,cap,cur,h1,h2,h3,(hw g h3).trans h4,h5,fun i j hi hj=>hφ _ _ _ (h6 i j hi hj)⟩
theorem DI.store {w:World} {B E g k:Nat} {v u:Value} {len:Nat} {ty ty':TypeId} {sz:Nat} {φ φ':Nat→Nat→Value→Prop} {cur:Array Value} (h:DI w B E v len ty sz φ) (hg:w.heap[g]?=some (.cells cur ty' (0,0))) (hu:ty=ty'→∀ i j,j<sz→i*sz+j=k→φ' i j u) (hφ:∀ i j u,φ i j u→φ' i j u):DI (w.setCell ⟨g,k,none⟩ u) B E v len ty sz φ':=by
 rcases h with h | ⟨g',cap,c,h1,h2,h3,h4,h5,h6⟩
 · exact .inl h
 · by_cases e:g'=g
   · subst e
     rw[h4]at hg
     have e1:=Obj.cells.inj (Option.some.inj hg)
     have hty:=e1.2.1
     have hlt:=(qAa.1 h4).1
     refine .inr ⟨g',cap,c.setIfInBounds k u,h1,h2,h3,?_,by simpa using h5,fun i j hi hj=>?_⟩
     · rw[setCell_eq h4]
       simp[eH,hlt]
     · by_cases ek:i*sz+j=k
       · have hq : i * sz + j < c.size := by
           have:(i+1)*sz≤len*sz:=Nat.mul_le_mul_right _ hi
           rw[Nat.succ_mul]at this;omega
         have:(c.setIfInBounds k u).getD (i*sz+j) undef=u:=by
          subst ek
          simp[hq]
         rw[this]
         exact hu hty i j hj ek
       · have : (c.setIfInBounds k u).getD (i * sz + j) undef = c.getD (i * sz + j) undef := by
           simp[qAe (Ne.symm ek)]
         rw[this]
         exact hφ _ _ _ (h6 i j hi hj)
   · exact .inr ⟨g',cap,c,h1,h2,h3,(Below.heap_setCell _ _ _ _ e).trans h4,h5,fun i j hi hj=>hφ _ _ _ (h6 i j hi hj)⟩
theorem DI.slice {w:World} {B E:Nat} {v:Value} {len:Nat} {ty:TypeId} {sz:Nat} {φ:Nat→Nat→Value→Prop} (h:DI w B E v len ty sz φ):∃ ao cap,v=.slice ao len cap:=by
 rcases h with ⟨rfl,rfl⟩ | ⟨g,cap,cur,rfl,_⟩<;>exact⟨_,_,rfl⟩
structure CT (B E:Nat) (W0:World) (x0 x1 x2:Value) (n0 n1 n2:Nat) (mv:Nat→Value) (ml:Nat→Nat) (kn:Nat) (w:World):Prop where
 keep:∀ b,(b<B∨E≤b)→w.heap[b]?=W0.heap[b]?
 size:w.heap.size=W0.heap.size
 os:w.os=W0.os
 tape:w.tape=W0.tape
 output:w.output=W0.output
 tn:DI w B E x0 n0 9 1 fun i _ c=>∃ s,c=.string s∧(kn≤i→s.size≤100000)
 th:DI w B E x1 n1 31 3 fun _ j c=>j=0→∃ z,c=.int .i64 z
 ta:DI w B E x2 n2 37 3 fun i j c=>(j=1→∃ z,c=.int .i64 z)∧(j=2→c=mv i)
 tm:∀ i,i<n2→DI w B E (mv i) (ml i) 34 6 fun _ j c=>j=3→∃ z,c=.int .i64 z
theorem CT.store {B E : Nat} {W0 w : World} {x0 x1 x2 : Value} {n0 n1 n2 g k kn : Nat} {mv : Nat → Value} {ml : Nat → Nat} {u : Value} {ty : TypeId} {cur : Array Value} (h : CT B E W0 x0 x1 x2 n0 n1 n2 mv ml kn w) (hB : B ≤ g) (hE : g < E) (hg : w.heap[g]? = some (.cells cur ty (0,0)))
    (h9:9≠ty) (h37:ty=37→k%3=1) {z:Int} (hu:u=.int .i64 z):CT B E W0 x0 x1 x2 n0 n1 n2 mv ml kn (w.setCell ⟨g,k,none⟩ u):=by
  refine⟨fun b hb=>(Below.heap_setCell _ _ _ _ (by show b≠g;omega)).trans (h.keep b hb),?_,h.os,h.tape,h.output,h.tn.store hg (fun e=>absurd e h9) fun _ _ _ h=>h,h.th.store hg (fun _ _ _ _ _ _=>⟨z,hu⟩) fun _ _ _ h=>h,h.ta.store hg (fun e i j hj hk=>?_) fun _ _ _ h=>h,fun i hi=>(h.tm i hi).store hg (fun _ _ _ _ _ _=>⟨z,hu⟩) fun _ _ _ h=>h⟩
  · rw[← h.size];simp[World.setCell]
  · have h1:=h37 e.symm
    exact⟨fun _=>⟨z,hu⟩,fun e=>by omega⟩
theorem CT.name {B E:Nat} {W0 w:World} {x0 x1 x2:Value} {n0 n1 n2 g kn:Nat} {mv:Nat→Value} {ml:Nat→Nat} {s:ByteArray} {cur:Array Value} (h:CT B E W0 x0 x1 x2 n0 n1 n2 mv ml kn w) (hB:B≤g) (hE:g<E) (hg:w.heap[g]?=some (.cells cur 9 (0,0))):CT B E W0 x0 x1 x2 n0 n1 n2 mv ml (kn+1) (w.setCell ⟨g,kn,none⟩ (.string s)):=by
 refine⟨fun b hb=>(Below.heap_setCell _ _ _ _ (by show b≠g;omega)).trans (h.keep b hb),?_,h.os,h.tape,h.output,h.tn.store hg (fun _ i j hj hk=>⟨s,rfl,fun hi=>by omega⟩) fun i _ _ ⟨s,h1,h2⟩=>⟨s,h1,fun h=>h2 (by omega)⟩,h.th.store hg (fun e=>absurd e (by decide)) fun _ _ _ h=>h,h.ta.store hg (fun e=>absurd e (by decide)) fun _ _ _ h=>h,fun i hi=>(h.tm i hi).store hg (fun e=>absurd e (by decide)) fun _ _ _ h=>h⟩
 rw[← h.size];simp[World.setCell]
theorem CT.drew {B E:Nat} {W0 w:World} {x0 x1 x2:Value} {n0 n1 n2 kn:Nat} {mv:Nat→Value} {ml:Nat→Nat} (h:CT B E W0 x0 x1 x2 n0 n1 n2 mv ml kn w):CT B E W0 x0 x1 x2 n0 n1 n2 mv ml kn w.drew :=
 ⟨h.keep,h.size,h.os,h.tape,h.output,h.tn,h.th,h.ta,h.tm⟩
theorem abP {w w' : World} {M : Nat → Prop} {p : Pg} (hp : Small p) {x0 x1 x2 : Value} (r0 : lF w' w.heap.size x0 (eN p.names).length 9 1 (GX w M (eN p.names))) (r1 : lF w' w.heap.size x1 (bF p.homes).length 31 3 (GX w M (bF p.homes))) (r2 : lF w' w.heap.size x2 (fM p.acts).length 37 3 (VK w M w.heap.size p w' (fM p.acts).length)) :
    ∃ mv ml,CT w.heap.size w'.heap.size w' x0 x1 x2 (eN p.names).length (bF p.homes).length (fM p.acts).length mv ml 0 w'∧∀ i,i<(fM p.acts).length→ml i≤100:=by
  have t0:=r0.adW (φ':=fun i _ c=>∃ s,c=.string s∧(0≤i→s.size≤100000)) fun i j u hi hc=>by
   obtain⟨x,pc,h1,h2,h3⟩:=hc
   obtain⟨g,hgm,rfl⟩:=List.mem_map.1 (qLe h1)
   match j,h2 with
   | 0,h2=>cases h2;exact⟨_,VL h3,fun _=>by have:=hp.name g hgm;rw[oh];omega⟩
  have t1:=r1.adW (φ':=fun _ j c=>j=0→∃ z,c=.int .i64 z) fun i j u hi hc e=>by
   subst e
   obtain⟨x,pc,h1,h2,h3⟩:=hc
   obtain⟨g,_,rfl⟩:=List.mem_map.1 (qLe h1)
   cases h2;exact⟨_,Jy h3⟩
  obtain⟨mv,hmv⟩:∃ mv:Nat→Value,∀ i,i<(fM p.acts).length→DI w' w.heap.size w'.heap.size (mv i) (qw ((p.acts.getD i default).iw)).length 34 6 (fun _ j c=>j=3→∃ z,c=.int .i64 z)∧∀ g cap cur,x2=.slice (some ⟨g,0,none⟩) (fM p.acts).length cap→w'.heap[g]?=some (.cells cur 37 (0,0))→cur.getD (i*3+2) undef=mv i:=by
   rcases r2 with ⟨h1,h2⟩ | ⟨g,cap,cur,h1,h2,h3,h4,h5,h6⟩
   · exact⟨fun _=>undef,fun i hi=>by omega⟩
   · refine⟨fun i=>cur.getD (i*3+2) undef,fun i hi=>⟨?_,fun g' cap' cur' e1 e2=>?_⟩⟩
     · obtain⟨a,ha,hr⟩:=((h6 i 2 hi (by omega)).2 rfl).2 hi
       have e:p.acts.getD i default=a:=by rw[qLb,ha];rfl
       rw[e]
       refine hr.adW fun i j u hi hc e=>?_
       subst e
       obtain⟨x,pc,h1,h2,h3⟩:=hc
       obtain⟨g,_,rfl⟩:=List.mem_map.1 (qLe h1)
       cases h2;exact⟨_,Jy h3⟩
     · rw[h1]at e1
       cases e1
       rw[h4]at e2
       cases e2
       rfl
  refine⟨mv,fun i=>(qw ((p.acts.getD i default).iw)).length,⟨fun _ _=>rfl,rfl,rfl,rfl,rfl,t0,t1,?_,fun i hi=>(hmv i hi).1⟩,fun i hi=>?_⟩
  rotate_left
  · rw[aW]at hi
    show (qw ((p.acts.getD i default).iw)).length≤100
    rw[cu,oJ p hi]
    exact(hp.act _ (List.getElem_mem hi)).1
  rcases r2 with h | ⟨g,cap,cur,h1,h2,h3,h4,h5,h6⟩
  · exact .inl h
  · refine .inr ⟨g,cap,cur,h1,h2,(qAa.1 h4).1,h4,h5,fun i j hi hj=>⟨fun e=>?_,fun e=>?_⟩⟩
    · subst e
      obtain⟨x,pc,h1,h2,h3⟩:=(h6 i 1 hi hj).1 (by omega)
      obtain⟨g,_,rfl⟩:=List.mem_map.1 (qLe h1)
      cases h2;exact⟨_,Jy h3⟩
    · subst e
      exact(hmv i hi).2 g cap cur h1 h4
end Go.Skm.Prg
