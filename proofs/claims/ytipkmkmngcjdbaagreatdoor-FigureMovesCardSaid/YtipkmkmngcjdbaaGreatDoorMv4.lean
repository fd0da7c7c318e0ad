/-
  The law's own list of shapes, and the rows it writes to; condition: as said at each.
-/
import Derived.Test.YtipkmkmngcjdbaaGreatDoorMv3
namespace Go.Skm.Fig
open Go Go.Skm Go.Proofs Go.RowKit Go.Shelf Go.Sort
attribute [local go_sem] Oper.semAt_some BH
theorem aaO:(Tryz.prog.info? 43).map (fun i=>(i.zero,i.size,i.bytes))=some (some (.agg #[.int .i64 0,.int .i64 0,.int .i64 0]),3,24):=by kernel_rfl
theorem Y5 {W : World} {M : Nat → Prop} {l : List V3} {c : Value} {ty : TypeId} {B : Nat} (hv : VR W M (.list true kV (bJ l)) c) (hn : l.length ≤ 100000) (hB : B ≤ W.heap.size) :
    ∃ v' W',(Builtin.append_ #[26,26] ty #[.slice none 0 0,c]).run Tryz.prog W=.ok v' W'∧W'.ownsRow B 43 3 v' l.length (cells l)∧W.grownBy W' none:=by
  obtain⟨i0,hi,hz0,hz1,hz2⟩:=info_parts aaO
  generalize hys:bJ l=ys at hv
  cases hv with
  | list _ _ _ b o cap g hM hcap hcc TA hsh =>
   subst hys
   rw[aQ]at hcap ⊢
   have hnews:∀ j u,(cells l)[j]?=some u→W.cell? ((⟨b,o,none⟩:Addr).add j)=some u:=fun j u hj=>by
    have hjl:j<l.length*3:=by rw[← kM];exact(List.getElem?_eq_some_iff.1 hj).1
    have hi:j / 3<l.length:=by omega
    have hm:j%3<3:=by omega
    have h1:=x9 l (j / 3) (j%3) hm hi
    rw[show j / 3*3+j%3=j by omega]at h1
    rw[h1]at hj
    have hx:(bJ l)[j / 3]?=some (eV l[j / 3]):=by rw[nT,List.getElem?_eq_getElem hi];rfl
    have hr:j%3=0∨j%3=1∨j%3=2:=by omega
    have hpos:∀ r,j%3=r→o+j / 3*kV.length+r=o+j:=fun r hr=>by show o+j / 3*3+r=_;omega
    rw[Addr.add_lit]
    rcases hr with hr | hr | hr<;>rw[hr]at hj
    · have a1:=hcc _ _ 0 _ hx rfl
      have a2:=fZ (TA _ _ 0 _ hx rfl)
      rw[hpos 0 hr,a2]at a1
      rw[a1];exact hj
    · have a1:=hcc _ _ 1 _ hx rfl
      have a2:=fZ (TA _ _ 1 _ hx rfl)
      rw[hpos 1 hr,a2]at a1
      rw[a1];exact hj
    · have a1:=hcc _ _ 2 _ hx rfl
      have a2:=fZ (TA _ _ 2 _ hx rfl)
      rw[hpos 2 hr,a2]at a1
      rw[a1];exact hj
   obtain⟨v',W',k1,k2,k3,_,_⟩:=run_append_own_at (P:=Tryz.prog) (w:=W) B 26 ty 43 i0 _ 3 24 Tryz.underlying26 hi hz0 hz1 hz2 rfl (by decide) (.slice none 0 0) 0 [] (World.ownsRow_nil _ _ _ _) ⟨b,o,none⟩ l.length cap (cells l) (kM l) hnews
    (fun u hu=>by
      obtain⟨x,_,hx⟩:=List.mem_flatMap.1 hu
      simp only[cVal,List.mem_cons,List.not_mem_nil,or_false]at hx
      rcases hx with rfl | rfl | rfl <;> rfl) (by have : maxLen = 9223372036854775807 := by decide
                                                  omega) (by omega) hB
   rw[Nat.zero_add,List.nil_append]at k2
   exact⟨v',W',k1,k2,k3⟩
  | kD _ _ base cap =>
   have hl0:l=[]:=by cases l with | nil=>rfl | cons _ _=>cases hys
   subst hl0
   refine⟨.slice none 0 0,W,?_,World.ownsRow_nil _ _ _ _,⟨rfl,rfl,rfl,Nat.le_refl _,fun _ _ _=>rfl⟩⟩
   cases base<;>simp[Builtin.append_,run_underlying Tryz.underlying26,sizeOf,typeInfo,hi,Builtin.lenOf,Builtin.firstCells,loadCells,loadCellsFrom]
theorem QU {F : Fence} {n : Nat} {P : Program} {w w' : World} {ops : Array Oper} {rest : List Oper} {o : Oper} {a : Act} {Q : Exit → Act → World → Prop} (hg : o.guard = none) (s x : Operand) (t : TypeId) (hop : o.op = Op.call { callee := Callee.builtin Builtin.append,args := #[s,x],argTypes := #[t,t] })
    (v u v':Value) (hs:a.eval s=v) (hx:a.eval x=u) (hrun:(Builtin.append_ #[t,t] o.type #[v,u]).run P w=.ok v' w') (hK:wpListIn F n P ops Q rest (a.put o.dst v') w'):wpListIn F n P ops Q (o::rest) a w:=by
  refine wpListIn_plain hg fun K hK'=>?_
  unfold Oper.wpIn
  refine⟨?_,?_⟩
  · simp[Oper.about,hop,resolve,Target.leads,Sem.run_pure]
  · rw[Oper.semAt_plain F _ _ (by rw[hop];intro c hc';cases hc')]
    simp[execOp,hop,resolve,invoke,builtin,hs,hx,hrun,Result.andThen]
    exact hK' _ _ hK
def DF (w:World) (B:Nat) (u:Value) (n:Nat):Prop:=∃ xs,w.ownsRow B 43 3 u n xs∧∀ x∈xs,∃ z,x=.int .i64 z
theorem DF.of {w:World} {B:Nat} {u:Value} {l:List V3} (h:w.ownsRow B 43 3 u l.length (cells l)):DF w B u l.length :=
 ⟨_,h,fun x hx=>by
   obtain⟨y,_,hy⟩:=List.mem_flatMap.1 hx
   simp only[cVal,List.mem_cons,List.not_mem_nil,or_false]at hy
   rcases hy with rfl | rfl | rfl<;>exact⟨_,rfl⟩⟩
theorem DF.store {w:World} {B n g k:Nat} {u:Value} {z:Int} (h:DF w B u n):DF (w.setCell ⟨g,k,none⟩ (.int .i64 z)) B u n:=by
 obtain⟨xs,h1,h2⟩:=h
 rcases id h1.2 with ⟨rfl,h3⟩ | ⟨q,cap,cur,rfl,h3⟩
 · exact⟨xs,h1.kept (grown_setCell _ _ _ _) (.inl rfl),h2⟩
 · by_cases e:q=g
   · subst e
     refine⟨_,(h1.stored k (.int .i64 z)).1,fun x hx=>?_⟩
     rcases List.mem_or_eq_of_mem_set hx with hx | rfl
     · exact h2 x hx
     · exact⟨z,rfl⟩
   · exact⟨xs,h1.kept (grown_setCell _ _ _ _) (.inr fun h=>e (by cases h;rfl)),h2⟩
structure WrI (B:Nat) (W0:World) (v:Value) (g:List Sh) (vs:List Value) (w:World):Prop where
 below:Below B W0 w
 row:w.ownsRow B 47 6 v g.length (VB g vs)
 len:vs.length=g.length
 cor:∀ (i:Nat) s u,g[i]?=some s→vs[i]?=some u→DF w B u s.c.length
theorem WrI.store {B:Nat} {W0:World} {v:Value} {g:List Sh} {vs:List Value} {w:World} {q k:Nat} {cur:Array Value} {z:Int} (h:WrI B W0 v g vs w) (hq:w.heap[q]?=some (.cells cur 43 (0,0))) (hB:B≤q):WrI B W0 v g vs (w.setCell ⟨q,k,none⟩ (.int .i64 z)) :=
 ⟨h.below.setCell hB _,h.row.kept (grown_setCell _ _ _ _) (ownsRow_ne_a h.row hq (fun cur e=>by have:=(Obj.cells.inj e).2.1;exact absurd this (by decide))),h.len,fun i s u h1 h2=>(h.cor i s u h1 h2).store⟩
end Go.Skm.Fig
