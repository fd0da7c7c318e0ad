import Derived.Test.YtfmoopdnamdobaaDoorV5
namespace Go.Skm.Prg
open Go Go.Skm Go.Proofs Go.RowKit Go.Shelf
theorem JQ {w:World} {M:Nat→Prop} {B:Nat} {v:Value} {a:Bool} {ks:List Kd} {xs:List PV} {n:Nat} {ty:TypeId} (h:lF w B v n ty ks.length (GX w M xs)) (hn:n=xs.length) (hM:∀ b,B≤b→b<w.heap.size→M b) (hs:∀ x∈xs,au a ks x=true):VR w M (.list a ks xs) v:=by
 subst hn
 rcases h with ⟨rfl,h0⟩ | ⟨g,cap,cur,rfl,h1,h2,h3,h4,h5⟩
 · rw[List.length_eq_zero_iff.1 h0];exact .kZ _ _ _ _
 · refine .list a ks xs g 0 cap (fun i j=>cur.getD (i*ks.length+j) undef) (hM g h1 (qAa.1 h3).1) h2 (fun i x j c hx hc=>?_) (fun i x j c hx hc=>?_) hs
   all_goals (have hi : i < xs.length := (qLa.1 hx).1
              have hxm:xs[i]=x:=(qLa.1 hx).2
              have hj:j<ks.length:=by
               rw[← bM (hs x (hxm▸List.getElem_mem hi))];exact(qLa.1 hc).1
              have hq:i*ks.length+j<xs.length*ks.length:=by
               have:(i+1)*ks.length≤xs.length*ks.length:=Nat.mul_le_mul_right _ hi
               rw[Nat.succ_mul]at this;omega)
   · have:i*ks.length+j<cur.size:=by omega
     rw[Nat.zero_add]
     simp[World.cell?,h3,this]
   · obtain⟨x',pc,e1,e2,e3⟩:=h5 i j hi hj
     rw[hx]at e1
     cases e1
     rw[hc]at e2
     cases e2
     exact e3
theorem abQ {w w' : World} {M : Nat → Prop} {p : Pg} {x0 x1 x2 : Value} (hM : ∀ b,M b → b < w.heap.size) (hb : Below w.heap.size w w') (r0 : lF w' w.heap.size x0 (eN p.names).length 9 1 (GX w M (eN p.names))) (r1 : lF w' w.heap.size x1 (bF p.homes).length 31 3 (GX w M (bF p.homes))) (r2 : lF w' w.heap.size x2 (fM p.acts).length 37 3 (VK w M w.heap.size p w' (fM p.acts).length)) :
    VR w' (fun b=>M b∨(w.heap.size≤b∧b<w'.heap.size)) (eG p) (.agg #[x0,x1,x2]):=by
  have hup:∀ b,M b→(M b∨(w.heap.size≤b∧b<w'.heap.size))∧w'.heap[b]?=w.heap[b]?:=fun b h=>⟨.inl h,hb.block b (hM b h)⟩
  have hnew:∀ b,w.heap.size≤b→b<w'.heap.size→(M b∨(w.heap.size≤b∧b<w'.heap.size)):=fun b h1 h2=>.inr ⟨h1,h2⟩
  have v0:=JQ (a:=false) (ks:=[.str]) (r0.mono (Nat.le_refl _) (fun _ _ _=>rfl) fun _ _ _ h=>h.mono hup) rfl hnew (fun x hx=>by
   obtain⟨g,_,rfl⟩:=List.mem_map.1 hx;rfl)
  have v1:=JQ (a:=true) (ks:=bZ) (r1.mono (Nat.le_refl _) (fun _ _ _=>rfl) fun _ _ _ h=>h.mono hup) rfl hnew (fun x hx=>by
   obtain⟨g,_,rfl⟩:=List.mem_map.1 hx;rfl)
  have hact:lF w' w.heap.size x2 (fM p.acts).length 37 3 (GX w' (fun b=>M b∨(w.heap.size≤b∧b<w'.heap.size)) (fM p.acts)):=by
   rcases r2 with h | ⟨g,cap,cur,h1,h2,h3,h4,h5,h6⟩
   · exact .inl h
   · refine .inr ⟨g,cap,cur,h1,h2,h3,h4,h5,fun i j hi hj=>?_⟩
     have hc:=h6 i j hi hj
     by_cases e:j=2
     · subst e
       obtain⟨a,ha,hr⟩:=(hc.2 rfl).2 hi
       refine⟨eA a,.list true kR (qw a.iw),by rw[fM,List.getElem?_map,ha];rfl,rfl,?_⟩
       exact JQ (ks:=kR) (hr.mono (Nat.le_refl _) (fun _ _ _=>rfl) fun _ _ _ h=>h.mono hup) rfl hnew (fun x hx=>by
        obtain⟨g,_,rfl⟩:=List.mem_map.1 hx;rfl)
     · exact(hc.1 (by omega)).mono hup
  have v2:=JQ (a:=true) (ks:=dD) hact rfl hnew (fun x hx=>by
   obtain⟨g,_,rfl⟩:=List.mem_map.1 hx
   simp[eA,au,dD,bC,kindOk,Kd.jy])
  refine .agg _ _ rfl (fun c hc=>?_) fun j c hc=>?_
  · simp only[List.mem_cons,List.mem_nil_iff,or_false]at hc
    rcases hc with rfl | rfl | rfl<;>rfl
  · match j,hc with
    | 0,hc=>cases hc;exact v0
    | 1,hc=>cases hc;exact v1
    | 2,hc=>cases hc;exact v2
    | j+3,hc=>simp at hc
end Go.Skm.Prg
