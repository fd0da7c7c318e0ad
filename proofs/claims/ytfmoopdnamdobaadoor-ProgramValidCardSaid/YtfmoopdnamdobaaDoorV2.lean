import Derived.Test.YtfmoopdnamdobaaDoorV1
import Derived.Test.YtfmoopdnamdobaaDoorExt
namespace Go.Skm.Prg
open Go Go.Skm Go.Proofs Go.RowKit Go.Shelf
def lF (w:World) (B:Nat) (v:Value) (len:Nat) (ty:TypeId) (sz:Nat) (φ:Nat→Nat→Value→Prop):Prop :=
 (v=.slice none 0 0∧len=0)∨∃ g cap cur,v=.slice (some ⟨g,0,none⟩) len cap∧B≤g∧len≤cap∧w.heap[g]?=some (.cells cur ty (0,0))∧len*sz≤cur.size∧∀ i j,i<len→j<sz→φ i j (cur.getD (i*sz+j) undef)
theorem lF.mono {w w':World} {B B':Nat} {v:Value} {len:Nat} {ty:TypeId} {sz:Nat} {φ φ':Nat→Nat→Value→Prop} (h:lF w B v len ty sz φ) (hB:B'≤B) (hw:∀ b,B≤b→b<w.heap.size→w'.heap[b]?=w.heap[b]?) (hφ:∀ i j u,φ i j u→φ' i j u):lF w' B' v len ty sz φ':=by
 rcases h with h | ⟨g,cap,cur,h1,h2,h3,h4,h5,h6⟩
 · exact .inl h
 · exact .inr ⟨g,cap,cur,h1,by omega,h3,(hw g h2 (qAa.1 h4).1).trans h4,h5,fun i j hi hj=>hφ _ _ _ (h6 i j hi hj)⟩
theorem lF.one {w:World} {B:Nat} {v:Value} {len:Nat} {ty:TypeId} {sz:Nat} {φ:Nat→Nat→Value→Prop} (h:lF w B v len ty sz φ):v.cells=#[v]∧v.oneCell'=true:=by
 rcases h with ⟨rfl,_⟩ | ⟨g,cap,cur,rfl,_⟩<;>exact⟨rfl,rfl⟩
def GX (wS:World) (M:Nat→Prop) (xs:List PV) (i j:Nat) (c:Value):Prop:=∃ x pc,xs[i]?=some x∧x.cells[j]?=some pc∧VR wS M pc c
theorem qM {w w':World} {M:Nat→Prop} {a:Bool} {ks:List Kd} {xs:List PV} {e:TypeId} {v':Value} (h:qK w w' M a ks xs e v'):lF w' w.heap.size v' xs.length e ks.length (GX w M xs):=by
 have own:∀ (n:Nat) (l:List Value),w'.ownsRow w.heap.size e ks.length v' n l→n=xs.length→(∀ i j,i<n→j<ks.length→∀ u,l[i*ks.length+j]?=some u→GX w M xs i j u)→lF w' w.heap.size v' xs.length e ks.length (GX w M xs):=by
  intro n l ho hn hl
  subst hn
  rcases ho.2 with ⟨h1,h2⟩ | ⟨g,cap,cur,h1,h2,h3,h4,h5,h6,h7⟩
  · exact .inl ⟨h1,h2⟩
  · have hle:xs.length*ks.length≤cur.size:=by rw[h6];exact Nat.mul_le_mul_right _ h4
    refine .inr ⟨g,cap,cur,h1,h2,h4,h3,hle,fun i j hi hj=>hl i j hi hj _ ?_⟩
    have hq:i*ks.length+j<xs.length*ks.length:=by
     have:(i+1)*ks.length≤xs.length*ks.length:=Nat.mul_le_mul_right _ hi
     rw[Nat.succ_mul]at this;omega
    rw[← h7,List.getElem?_take,if_pos hq,Array.getElem?_toList,qAb,qAd (by omega)]
    rfl
 rcases h.row with ⟨h1,h2⟩ | ⟨f,hf,hs,ho⟩
 · subst h1
   exact own 0 [] h2 rfl fun i j hi=>by omega
 · refine own _ _ ho rfl fun i j hi hj u hu=>?_
   rw[yx hi hj]at hu
   cases hu
   have hx:xs[i]?=some xs[i]:=qLd hi
   have hl:xs[i].cells.length=ks.length:=bM (hs _ (List.getElem_mem hi))
   have hc:xs[i].cells[j]?=some (xs[i].cells[j]'(by omega)):=qLd (by omega)
   exact⟨_,_,hx,hc,hf i _ j _ hx hc⟩
theorem GX.mono {w w':World} {M M':Nat→Prop} {xs:List PV} {i j:Nat} {c:Value} (h:GX w M xs i j c) (hb:∀ b,M b→M' b∧w'.heap[b]?=w.heap[b]?):GX w' M' xs i j c:=by
 obtain⟨x,pc,h1,h2,h3⟩:=h
 exact⟨x,pc,h1,h2,h3.mono hb⟩
theorem store_one {t : TypeId} {w : World} {g k : Nat} {ty : TypeId} {cur : Array Value} {v : Value} (hi : (Tryd.prog.info? t).map (·.size) = some 1) (hb : w.heap[g]? = some (.cells cur ty (0,0))) (hk : k < cur.size) (hv : v.cells = #[v] ∧ v.oneCell' = true) :
    (Instr.storeAt t (.pointer (some ⟨g,k,none⟩)) v).run Tryd.prog w=.ok () (w.setCell ⟨g,k,none⟩ v)∧(w.setCell ⟨g,k,none⟩ v).heap[g]?=some (.cells (cur.setIfInBounds k v) ty (0,0)):=by
  obtain⟨i0,h1,h2⟩:=Option.map_eq_some_iff.1 hi
  have:=sV (P:=Tryd.prog) (t:=t) (b:=g) (o:=k) (c:=v) h1 (by rw[hv.1,h2];rfl) hb (.inl rfl) (by rw[hv.1];simp;omega) (fun u hu=>by rw[hv.1]at hu;simp at hu;rw[hu];exact hv.2)
  have e:dK cur k [v]=cur.setIfInBounds k v:=by
   have:=JW cur.toList k v (by simpa using hk)
   simpa using this
  have hl:v.cells.toList=[v]:=by rw[hv.1]
  have e2:=setCell_eq (i:=k) (v:=v) hb
  rw[hl,e]at this
  refine⟨by rw[this,e2],?_⟩
  have h3:=(qAa.1 hb).1
  rw[e2]
  simp[eH,h3]
theorem abR {w:World} {M:Nat→Prop} {xs:List PV} {c:Value} (hv:VR w M (.list false [.str] xs) c) (hn:xs.length≤100000):Calls Tryd.prog 54 #[c] w fun e w'=>∃ v',e=.returned v'∧qK w w' M false [.str] xs 9 v':=by
 obtain⟨i0,z,k1,k2,k3,k4,k5⟩:=YT.info
 exact pF YT.L k1 k2 k3 k4 k5 YT.hsz YT.z23 hv hn
theorem abS {w:World} {M:Nat→Prop} {xs:List PV} {c:Value} (hv:VR w M (.list true bZ xs) c) (hn:xs.length≤100000):Calls Tryd.prog 55 #[c] w fun e w'=>∃ v',e=.returned v'∧qK w w' M true bZ xs 31 v':=by
 obtain⟨i0,z,k1,k2,k3,k4,k5⟩:=YV.info
 exact pF YV.L k1 k2 k3 k4 k5 YV.hsz YV.z23 hv hn
theorem abT {w:World} {M:Nat→Prop} {xs:List PV} {c:Value} (hv:VR w M (.list true dD xs) c) (hn:xs.length≤100000):Calls Tryd.prog 56 #[c] w fun e w'=>∃ v',e=.returned v'∧qK w w' M true dD xs 37 v':=by
 obtain⟨i0,z,k1,k2,k3,k4,k5⟩:=YX.info
 exact pF YX.L k1 k2 k3 k4 k5 YX.hsz YX.z23 hv hn
theorem abU {w:World} {M:Nat→Prop} {xs:List PV} {c:Value} (hv:VR w M (.list true kR xs) c) (hn:xs.length≤100000):Calls Tryd.prog 45 #[c] w fun e w'=>∃ v',e=.returned v'∧qK w w' M true kR xs 34 v':=by
 obtain⟨i0,z,k1,k2,k3,k4,k5⟩:=YR.info
 exact pF YR.L k1 k2 k3 k4 k5 YR.hsz YR.z23 hv hn
def aas:Array Oper:=#[
 ⟨some 4, .fieldAddr 27 (.tmp 1) 0, 0, "program.go:93", #[], none⟩,
 ⟨some 5, .load 23 (.tmp 4), 23, "program.go:93", #[⟨0, .data⟩], none⟩,
 ⟨some 6, .call { callee := .value (.func 54), args := #[.tmp 5], argTypes := #[23] }, 23, "program.go:93", #[⟨1, .data⟩], none⟩,
 ⟨some 7, .fieldAddr 27 (.tmp 1) 1, 0, "program.go:93", #[], none⟩,
 ⟨some 8, .load 24 (.tmp 7), 24, "program.go:93", #[⟨3, .data⟩], none⟩,
 ⟨some 9, .call { callee := .value (.func 55), args := #[.tmp 8], argTypes := #[24] }, 24, "program.go:93", #[⟨4, .data⟩, ⟨2, .chain⟩], none⟩,
 ⟨some 10, .fieldAddr 27 (.tmp 1) 2, 0, "program.go:93", #[], none⟩,
 ⟨some 11, .load 25 (.tmp 10), 25, "program.go:93", #[⟨6, .data⟩], none⟩,
 ⟨some 12, .call { callee := .value (.func 56), args := #[.tmp 11], argTypes := #[25] }, 25, "program.go:93", #[⟨7, .data⟩, ⟨5, .chain⟩], none⟩,
 ⟨some 13, .fieldAddr 27 (.tmp 1) 0, 0, "program.go:93", #[⟨0, .phase⟩, ⟨1, .phase⟩, ⟨2, .phase⟩, ⟨3, .phase⟩, ⟨4, .phase⟩, ⟨5, .textOnly .lateStoresUnsure⟩, ⟨6, .phase⟩, ⟨7, .phase⟩, ⟨8, .textOnly .lateStoresUnsure⟩], none⟩,
 ⟨none, .store 23 (.tmp 13) (.tmp 6), 0, "program.go:93", #[⟨9, .data⟩, ⟨2, .data⟩, ⟨8, .chain⟩, ⟨0, .phase⟩, ⟨1, .phase⟩, ⟨2, .phase⟩, ⟨3, .phase⟩, ⟨4, .phase⟩, ⟨5, .textOnly .lateStoresUnsure⟩, ⟨6, .phase⟩, ⟨7, .phase⟩, ⟨8, .textOnly .lateStoresUnsure⟩], none⟩,
 ⟨some 14, .fieldAddr 27 (.tmp 1) 1, 0, "program.go:93", #[⟨0, .phase⟩, ⟨1, .phase⟩, ⟨2, .phase⟩, ⟨3, .phase⟩, ⟨4, .phase⟩, ⟨5, .phase⟩, ⟨6, .phase⟩, ⟨7, .phase⟩, ⟨8, .textOnly .lateStoresUnsure⟩, ⟨9, .phase⟩, ⟨10, .phase⟩], none⟩,
 ⟨none, .store 24 (.tmp 14) (.tmp 9), 0, "program.go:93", #[⟨11, .data⟩, ⟨5, .data⟩, ⟨10, .chain⟩, ⟨0, .phase⟩, ⟨1, .phase⟩, ⟨2, .phase⟩, ⟨3, .phase⟩, ⟨4, .phase⟩, ⟨5, .phase⟩, ⟨6, .phase⟩, ⟨7, .phase⟩, ⟨8, .textOnly .lateStoresUnsure⟩, ⟨9, .phase⟩, ⟨10, .phase⟩], none⟩,
 ⟨some 15, .fieldAddr 27 (.tmp 1) 2, 0, "program.go:93", #[⟨0, .phase⟩, ⟨1, .phase⟩, ⟨2, .phase⟩, ⟨3, .phase⟩, ⟨4, .phase⟩, ⟨5, .phase⟩, ⟨6, .phase⟩, ⟨7, .phase⟩, ⟨8, .phase⟩, ⟨9, .phase⟩, ⟨10, .phase⟩, ⟨11, .phase⟩, ⟨12, .phase⟩], none⟩,
 ⟨none, .store 25 (.tmp 15) (.tmp 12), 0, "program.go:93", #[⟨13, .data⟩, ⟨8, .data⟩, ⟨12, .chain⟩, ⟨0, .phase⟩, ⟨1, .phase⟩, ⟨2, .phase⟩, ⟨3, .phase⟩, ⟨4, .phase⟩, ⟨5, .phase⟩, ⟨6, .phase⟩, ⟨7, .phase⟩, ⟨8, .phase⟩, ⟨9, .phase⟩, ⟨10, .phase⟩, ⟨11, .phase⟩, ⟨12, .phase⟩], none⟩]
def aat:Array Oper:=#[
 ⟨some 22, .fieldAddr 27 (.tmp 1) 2, 0, "program.go:95", #[], none⟩,
 ⟨some 23, .load 25 (.tmp 22), 25, "program.go:95", #[⟨0, .data⟩], none⟩,
 ⟨some 24, .move (.tmp 3), 3, "program.go:95", #[], none⟩,
 ⟨some 25, .fieldAddr 27 (.tmp 1) 2, 0, "program.go:95", #[], none⟩,
 ⟨some 26, .load 25 (.tmp 25), 25, "program.go:95", #[⟨3, .data⟩], none⟩,
 ⟨some 27, .move (.tmp 3), 3, "program.go:95", #[], none⟩,
 ⟨some 28, .indexAddr 25 (.tmp 26) (.tmp 27), 0, "program.go:95", #[⟨4, .data⟩, ⟨5, .data⟩], none⟩,
 ⟨some 29, .fieldAddr 37 (.tmp 28) 2, 0, "program.go:95", #[⟨6, .data⟩], none⟩,
 ⟨some 30, .load 28 (.tmp 29), 28, "program.go:95", #[⟨7, .data⟩], none⟩,
 ⟨some 31, .call { callee := .value (.func 45), args := #[.tmp 30], argTypes := #[28] }, 28, "program.go:95", #[⟨8, .data⟩], none⟩,
 ⟨some 32, .indexAddr 25 (.tmp 23) (.tmp 24), 0, "program.go:95", #[⟨1, .data⟩, ⟨2, .data⟩, ⟨0, .phase⟩, ⟨1, .phase⟩, ⟨2, .phase⟩, ⟨3, .phase⟩, ⟨4, .phase⟩, ⟨5, .phase⟩, ⟨6, .phase⟩, ⟨7, .phase⟩, ⟨8, .phase⟩, ⟨9, .phase⟩], none⟩,
 ⟨some 33, .fieldAddr 37 (.tmp 32) 2, 0, "program.go:95", #[⟨10, .data⟩, ⟨0, .phase⟩, ⟨1, .phase⟩, ⟨2, .phase⟩, ⟨3, .phase⟩, ⟨4, .phase⟩, ⟨5, .phase⟩, ⟨6, .phase⟩, ⟨7, .phase⟩, ⟨8, .phase⟩, ⟨9, .phase⟩], none⟩,
 ⟨none, .store 28 (.tmp 33) (.tmp 31), 0, "program.go:95", #[⟨11, .data⟩, ⟨9, .data⟩, ⟨9, .chain⟩, ⟨0, .phase⟩, ⟨1, .phase⟩, ⟨2, .phase⟩, ⟨3, .phase⟩, ⟨4, .phase⟩, ⟨5, .phase⟩, ⟨6, .phase⟩, ⟨7, .phase⟩, ⟨8, .phase⟩, ⟨9, .phase⟩], none⟩]
end Go.Skm.Prg
