import Derived.Test.YtfmoopdnamdobaaDoorV4
import Derived.Deep.OwnRows
import Derived.RangeFuncLeaves
namespace Go.Skm.Prg
open Go Go.Skm Go.Proofs Go.RowKit Go.Shelf Go.Sort
theorem PE (rd:Option Nat):(FW rd).round=rd:=rfl
attribute [local go_sem] Oper.semAt_some PE
theorem aar (t:Array Value) {n:Nat} (h:t.size=n):t=((List.range n).map fun i=>t.getD i undef).toArray:=by
 subst h
 apply Array.ext
 · simp
 · intro i h1 h2
   simp[Array.getD,h1]
theorem xk (a:Act) {n:Nat} (h:a.tmps.size=n) (hd:a.defers=[]):∃ u:Nat→Value,(∀ i,a.tmps.getD i undef=u i)∧a={ tmps:=((List.range n).map u).toArray,defers:=[] }:=by
 refine⟨fun i=>a.tmps.getD i undef,fun _=>rfl,?_⟩
 have:=aar a.tmps h
 cases a with
 | mk t d =>
  simp only at hd this
  subst hd
  rw[Act.mk.injEq]
  exact⟨this,rfl⟩
theorem aiE:List.range 36=[0,1,2,3,4,5,6,7,8,9,10,11,12,13,14,15,16,17,18,19,20,21,22,23,24,25,26,27,28,29,30,31,32,33,34,35]:=rfl
theorem lF.slice {w:World} {B:Nat} {v:Value} {len:Nat} {ty:TypeId} {sz:Nat} {φ:Nat→Nat→Value→Prop} (h:lF w B v len ty sz φ):∃ ao cap,v=.slice ao len cap:=by
 rcases h with ⟨rfl,rfl⟩ | ⟨g,cap,cur,rfl,_⟩<;>exact⟨_,_,rfl⟩
theorem lF.keep {w w':World} {B g:Nat} {v:Value} {len:Nat} {ty ty':TypeId} {sz:Nat} {φ φ':Nat→Nat→Value→Prop} {cur:Array Value} {fr:Nat × Nat} (h:lF w B v len ty sz φ) (hw:∀ b,b<w.heap.size→b≠g→w'.heap[b]?=w.heap[b]?) (hg:w.heap[g]?=some (.cells cur ty' fr)) (hne:ty≠ty') (hφ:∀ i j u,φ i j u→φ' i j u):lF w' B v len ty sz φ':=by
 rcases h with h | ⟨g',cap,c,h1,h2,h3,h4,h5,h6⟩
 · exact .inl h
 · refine .inr ⟨g',cap,c,h1,h2,h3,(hw g' (qAa.1 h4).1 fun e=>?_).trans h4,h5,fun i j hi hj=>hφ _ _ _ (h6 i j hi hj)⟩
   subst e
   rw[h4]at hg
   exact hne (Obj.cells.inj (Option.some.inj hg)).2.1
theorem qL {w : World} {b k : Nat} {cs : Array Value} {t : TypeId} {v : Value} (hb : w.heap[b]? = some (.cells cs t (0,0))) (hk : k < cs.size) (hv : v.oneCell' = true) :
    (store ⟨b,k,none⟩ v).run Tryd.prog w=.ok () (w.setCell ⟨b,k,none⟩ v)∧(w.setCell ⟨b,k,none⟩ v).heap[b]?=some (.cells (cs.setIfInBounds k v) t (0,0))∧w.cell? ⟨b,k,none⟩=some (cs.getD k undef)∧w.frozen? ⟨b,k,none⟩=false:=by
  have hc:w.cell? ⟨b,k,none⟩=some (cs.getD k undef):=by simp[World.cell?,hb,hk]
  have hf:w.frozen? ⟨b,k,none⟩=false:=by simp[World.frozen?,hb]
  refine⟨?_,?_,hc,hf⟩
  · simp only[run_store Tryd.prog w _ v .plain hv,hc,hf,Bool.false_eq_true,if_false]
  · have h3:=(qAa.1 hb).1
    rw[setCell_eq hb]
    simp[eH,h3]
def VK (w:World) (M:Nat→Prop) (B:Nat) (p:Pg) (wr:World) (k:Nat) (i j:Nat) (c:Value):Prop :=
 (j<2→GX w M (fM p.acts) i j c)∧(j=2→(k≤i→GX w M (fM p.acts) i 2 c)∧(i<k→∃ x,p.acts[i]?=some x∧lF wr B c (qw x.iw).length 34 6 (GX w M (qw x.iw))))
theorem adV {p:Pg} {k:Nat} {x pc:PV} (h1:(fM p.acts)[k]?=some x) (h2:x.cells[2]?=some pc):∃ a,p.acts[k]?=some a∧pc=.list true kR (qw a.iw):=by
 rw[fM,List.getElem?_map,Option.map_eq_some_iff]at h1
 obtain⟨a,h3,rfl⟩:=h1
 exact⟨a,h3,(Option.some.inj h2).symm⟩
structure CF (w:World) (M:Nat→Prop) (p:Pg) (x0 x1 x2:Value) (n k:Nat) (wr:World):Prop where
 below:Below w.heap.size w wr
 sz:w.heap.size+2≤wr.heap.size
 hB:wr.heap[w.heap.size]?=some (.cells #[x0,x1,x2] 27 (0,0))
 hR:wr.heap[w.heap.size+1]?=some (.cells #[.slice none 0 0,.slice none 0 0,.slice none 0 0] 27 (0,0))
 r0:lF wr (w.heap.size+2) x0 (eN p.names).length 9 1 (GX w M (eN p.names))
 r1:lF wr (w.heap.size+2) x1 (bF p.homes).length 31 3 (GX w M (bF p.homes))
 r2:lF wr (w.heap.size+2) x2 n 37 3 (VK w M (w.heap.size+2) p wr k)
theorem CF.next {w : World} {M : Nat → Prop} {p : Pg} {x0 x1 : Value} {n k g cap : Nat} {wr w2 : World} {cur : Array Value} {v' : Value} {a : Ac} (h : CF w M p x0 x1 (.slice (some ⟨g,0,none⟩) n cap) n k wr) (hM : ∀ b,M b → b < w.heap.size) (hk : k < n) (hgB : w.heap.size + 2 ≤ g) (hle : n ≤ cap) (hg : wr.heap[g]? = some (.cells cur 37 (0,0))) (hsz : n * 3 ≤ cur.size)
    (hcur:∀ i j,i<n→j<3→VK w M (w.heap.size+2) p wr k i j (cur.getD (i*3+j) undef)) (ha:p.acts[k]?=some a) (hcp:qK wr.drew w2 M true kR (qw a.iw) 34 v') :
    CF w M p x0 x1 (.slice (some ⟨g,0,none⟩) n cap) n (k+1) (w2.setCell ⟨g,k*3+2,none⟩ v'):=by
  have adU:=(qAa.1 hg).1
  have hb2:Below wr.heap.size wr w2:=⟨hcp.below.os,hcp.below.tape,hcp.below.output,hcp.below.size,hcp.below.block⟩
  obtain⟨-,hWg⟩:=store_one (t:=28) (k:=k*3+2) (v:=v') aav ((hb2.block g adU).trans hg) (by omega) (qM hcp).one
  have hkp:∀ b,b<wr.heap.size→b≠g→(w2.setCell ⟨g,k*3+2,none⟩ v').heap[b]?=wr.heap[b]?:=fun b hb hne=>(Below.heap_setCell _ _ _ _ hne).trans (hb2.block b hb)
  have hs:=h.sz
  refine⟨h.below.trans ((hb2.mono h.below.size).setCell (by show _≤g;omega) _),?_,(hkp _ (by omega) (by omega)).trans h.hB,(hkp _ (by omega) (by omega)).trans h.hR,h.r0.keep hkp hg (by decide) fun _ _ _ h=>h,h.r1.keep hkp hg (by decide) fun _ _ _ h=>h,?_⟩
  · have:=hb2.size
    simp only[World.setCell,Array.size_modify]
    omega
  · refine .inr ⟨g,cap,_,rfl,hgB,hle,hWg,by simpa using hsz,fun i j hi hj=>?_⟩
    have hold:=hcur i j hi hj
    by_cases e:i=k∧j=2
    · obtain⟨rfl,rfl⟩:=e
      have hv:(cur.setIfInBounds (i*3+2) v').getD (i*3+2) undef=v':=by
       have:i*3+2<cur.size:=by omega
       simp[this]
      rw[hv]
      refine⟨fun h=>by omega,fun _=>⟨fun h=>by omega,fun _=>⟨a,ha,(qM hcp).mono (by show _≤wr.heap.size;omega) (fun b hb hlt=>Below.heap_setCell _ _ _ _ ?_) fun _ _ _ hc=>hc.mono fun b hb=>⟨hb,?_⟩⟩⟩⟩
      · have hb:wr.heap.size≤b:=hb
        show b≠g
        omega
      · exact(h.below.block b (hM b hb)).symm
    · have hv : (cur.setIfInBounds (k * 3 + 2) v').getD (i * 3 + j) undef = cur.getD (i * 3 + j) undef := by
        have:k*3+2≠i*3+j:=by omega
        simp[qAe this]
      rw[hv]
      refine⟨hold.1,fun ej=>⟨fun hi=>(hold.2 ej).1 (by omega),fun hi=>?_⟩⟩
      obtain⟨x,hx,hr⟩:=(hold.2 ej).2 (by omega)
      exact⟨x,hx,hr.keep hkp hg (by decide) fun _ _ _ h=>h⟩
set_option maxRecDepth 100000 in
set_option maxHeartbeats 4000000 in
theorem Yn (p : Pg) (hp : Small p) (w : World) (M : Nat → Prop) (hM : ∀ b,M b → b < w.heap.size) (s0 s1 s2 : Value) (Nq : VR w M (eG p) (.agg #[s0,s1,s2])) (R : Ending → World → Prop)
    (hR:∀ (x0 x1 x2:Value) (w':World),Below w.heap.size w w'→lF w' w.heap.size x0 (eN p.names).length 9 1 (GX w M (eN p.names))→lF w' w.heap.size x1 (bF p.homes).length 31 3 (GX w M (bF p.homes))→lF w' w.heap.size x2 (fM p.acts).length 37 3 (VK w M w.heap.size p w' (fM p.acts).length)→R (.returned (.agg #[x0,x1,x2])) w') :
    Calls Tryd.prog 32 #[.agg #[s0,s1,s2]] w R:=by
  obtain⟨h0,h1,h2⟩:VR w M (.list false [.str] (eN p.names)) s0∧VR w M (.list true bZ (bF p.homes)) s1∧VR w M (.list true dD (fM p.acts)) s2:=by
   cases Nq with
   | agg _ _ hn hl hc=>exact⟨hc 0 _ rfl,hc 1 _ rfl,hc 2 _ rfl⟩
  have HP:Hid (Small p):=hp
  clear hp Nq
  refine lX (rd:=none) (n:=0) (callsIn_of_wp_marks Tryd.func32 rfl trivial ?_)
  simp only[Tryd.ntmps32,List.size_toArray,List.length_cons,List.length_nil,Nat.reduceAdd,Nat.reduceSub,Array.replicate_succ,Array.replicate_zero,List.push_toArray,List.append_toArray,List.nil_append,List.cons_append]
  gi_wp2
  rename_i K hK
  refine aaw (B:=w.heap.size) (wS:=w) (M:=M) HP.out (by rfl) (by rfl) (((Below.refl _ w).alloc (Nat.le_refl _) _).alloc (by simp) _) (by simp) hM ?_ h0 h1 h2 ?_
  · rw[Below.heap_alloc _ _ _ (by simp)]
    exact World.alloc_heap_new w _
  intro a w1 x0 x1 x2 ha hd hkeep hb hsz hB hR r0 r1 r2
  have hR1:w1.heap[w.heap.size+1]?=some (.cells #[.slice none 0 0,.slice none 0 0,.slice none 0 0] 27 (0,0)):=by
   rw[hR]
   have:=World.alloc_heap_new (w.alloc (Obj.cells #[s0,s1,s2] 27)) (Obj.cells #[Value.slice none 0 0,Value.slice none 0 0,Value.slice none 0 0] 27)
   rw[World.size_alloc]at this
   exact this
  have t1:a.tmps.getD 1 undef=.pointer (some ⟨w.heap.size,0,none⟩):=hkeep 1 (by omega)
  have t2:a.tmps.getD 2 undef=.pointer (some ⟨w.heap.size+1,0,none⟩):=hkeep 2 (by omega)
  obtain⟨u,hu,rfl⟩:=xk a ha hd
  rw[hu]at t1 t2
  obtain⟨ao,cap,rfl⟩:=r2.slice
  have q0:w1.cell? ⟨w.heap.size,0,none⟩=some x0:=by simp[World.cell?,hB]
  have q1:w1.cell? ⟨w.heap.size,1,none⟩=some x1:=by simp[World.cell?,hB]
  have q2:w1.cell? ⟨w.heap.size,2,none⟩=some (.slice ao (fM p.acts).length cap):=by simp[World.cell?,hB]
  have HH:Hid (Below w.heap.size w w1∧lF w1 (w.heap.size+2) x0 (eN p.names).length 9 1 (GX w M (eN p.names))∧lF w1 (w.heap.size+2) x1 (bF p.homes).length 31 3 (GX w M (bF p.homes))∧lF w1 (w.heap.size+2) (.slice ao (fM p.acts).length cap) (fM p.acts).length 37 3 (GX w M (fM p.acts))):=⟨hb,r0,r1,r2⟩
  clear hb r0 r1 r2 ha hd hkeep hR
  obtain⟨n,hn⟩:∃ n,(fM p.acts).length=n:=⟨_,rfl⟩
  rw[hn]at q2 HH
  refine hK _ _ ?_
  rw[aiE]
  simp only[List.map_cons,List.map_nil,t1,t2]
  clear t1 t2 hu
  gi_wp2
  have H0:Hid (CF w M p x0 x1 (.slice ao n cap) n 0 w1):=by
   obtain⟨hb,r0,r1,r2⟩:=HH.out
   rw[hn]at hB
   refine⟨hb,hsz,hB,hR1,r0,r1,r2.mono (Nat.le_refl _) (fun _ _ _=>rfl) fun i j c hc=>⟨fun _=>hc,fun e=>⟨fun _=>e▸hc,fun h=>by omega⟩⟩⟩
  have HN:Hid ((fM p.acts).length=n):=hn
  clear HH hn hsz hB hR1 q0 q1 q2
  refine wpIn_loop (fun a wr=>∃ (k:Nat) (u:Nat→Value),k≤n∧a={ tmps:=#[u 0,.pointer (some ⟨w.heap.size,0,none⟩),.pointer (some ⟨w.heap.size+1,0,none⟩),u 3,u 4,u 5,u 6,u 7,u 8,u 9,u 10,u 11,u 12,u 13,u 14,u 15,.pointer (some ⟨w.heap.size,2,none⟩),.slice ao n cap,.int .i64 n,.int .i64 k,u 20,u 21,u 22,u 23,u 24,u 25,u 26,u 27,u 28,u 29,u 30,u 31,u 32,u 33,u 34,u 35],defers:=[] }∧CF w M p x0 x1 (.slice ao n cap) n k wr)
   (fun a _=>n-(intOf (a.tmps.getD 19 undef)).toNat) ?_ ?_
  · exact⟨0,u,Nat.zero_le _,rfl,H0.out⟩
  clear H0
  rintro a wr ⟨k,u,hk,rfl,hcf⟩
  have HC:Hid (CF w M p x0 x1 (.slice ao n cap) n k wr):=hcf
  clear hcf
  by_cases hkn:k<n
  · obtain ⟨g,cur,rfl,hgB,hle,hg,hsz,hcur⟩ : ∃ g cur,ao = some ⟨g,0,none⟩ ∧ w.heap.size + 2 ≤ g ∧ n ≤ cap ∧ wr.heap[g]? = some (.cells cur 37 (0,0)) ∧ n * 3 ≤ cur.size ∧ ∀ i j,i < n → j < 3 → VK w M (w.heap.size + 2) p wr k i j (cur.getD (i * 3 + j) undef) := by
      rcases HC.out.r2 with ⟨_,h⟩ | ⟨g,cap',cur,h1,h2,h3,h4,h5,h6⟩
      · omega
      · cases h1;exact⟨g,cur,rfl,h2,h3,h4,h5,h6⟩
    obtain⟨x,pc,y1,y2,y3⟩:=((hcur k 2 hkn (by omega)).2 rfl).1 (Nat.le_refl _)
    obtain⟨a,y4,rfl⟩:=adV y1 y2
    have HG:Hid ((w.heap.size+2≤g∧n≤cap∧wr.heap[g]?=some (.cells cur 37 (0,0))∧n*3≤cur.size∧∀ i j,i<n→j<3→VK w M (w.heap.size+2) p wr k i j (cur.getD (i*3+j) undef))∧p.acts[k]?=some a∧VR w M (.list true kR (qw a.iw)) (cur.getD (k*3+2) undef)):=⟨⟨hgB,hle,hg,hsz,hcur⟩,y4,y3⟩
    have hmv:(qw a.iw).length≤100000:=by
     have:=(HP.out.act a (qLe y4)).1
     rw[cu];omega
    clear hgB hle hg hsz hcur y1 y2 y3 y4
    gi_wp2
    rename_i K5 hK5
    obtain⟨⟨hgB,hle,hg,hsz,hcur⟩,y4,y3⟩:=HG.out
    refine aax (B:=w.heap.size) (g:=g) (k:=k) (n:=n) (cap:=cap) (x0:=x0) (x1:=x1) (M:=M) (xs:=qw a.iw) (by rfl) (by rfl) (by rfl) hkn (by omega) HC.out.hB hg hsz rfl (y3.mono fun b hb=>⟨hb,HC.out.below.block b (hM b hb)⟩) hmv ?_
    intro b W w2 v' hb hd hkeep hcp hW
    have hnext:=HC.out.next hM hkn hgB hle hg hsz hcur y4 hcp
    rw[← hW]at hnext
    have t1:b.tmps.getD 1 undef=.pointer (some ⟨w.heap.size,0,none⟩):=hkeep 1 (by omega)
    have t2:b.tmps.getD 2 undef=.pointer (some ⟨w.heap.size+1,0,none⟩):=hkeep 2 (by omega)
    have t16:b.tmps.getD 16 undef=.pointer (some ⟨w.heap.size,2,none⟩):=hkeep 16 (by omega)
    have t17:b.tmps.getD 17 undef=.slice (some ⟨g,0,none⟩) n cap:=hkeep 17 (by omega)
    have t18:b.tmps.getD 18 undef=.int .i64 n:=hkeep 18 (by omega)
    have t19:b.tmps.getD 19 undef=.int .i64 k:=hkeep 19 (by omega)
    obtain⟨u',hu,rfl⟩:=xk b hb hd
    rw[hu]at t1 t2 t16 t17 t18 t19
    have HX:Hid (CF w M p x0 x1 (.slice (some ⟨g,0,none⟩) n cap) n (k+1) W):=hnext
    have aoc:n≤100000:=by
     have:=HP.out.acts
     have h2:=HN.out
     rw[aW]at h2
     omega
    have aaD:IntKind.i64.wrap ((k:Int)+1)=((k+1:Nat):Int):=bW k (by omega)
    clear hnext hgB hle hg hsz hcur y4 y3 hb hd hkeep hcp hW
    refine hK5 _ _ ?_
    rw[aiE]
    simp only[List.map_cons,List.map_nil,t1,t2,t16,t17,t18,t19]
    clear t1 t2 t16 t17 t18 t19 hu
    gi_wp2
    refine⟨⟨k+1,fun | 34=>.int .i64 ((k+1:Nat):Int) | i=>u' i,by omega,rfl,HX.out⟩,?_⟩
    show n-((k:Int)+1).toNat<n-(k:Int).toNat
    omega
  · have hkn':k=n:=by omega
    subst hkn'
    have hB:=HC.out.hB
    have hRr:=HC.out.hR
    have q0:wr.cell? ⟨w.heap.size,0,none⟩=some x0:=by simp[World.cell?,hB]
    have q1:wr.cell? ⟨w.heap.size,1,none⟩=some x1:=by simp[World.cell?,hB]
    have q2:wr.cell? ⟨w.heap.size,2,none⟩=some (.slice ao k cap):=by simp[World.cell?,hB]
    gi_wp2
    obtain⟨e0,g0,-⟩:=qL hRr (k:=0) (by simp) HC.out.r0.one.2
    obtain⟨e1,g1,-⟩:=qL g0 (k:=1) (by simp) HC.out.r1.one.2
    obtain⟨e2,g2,c2,f2⟩:=qL g1 (k:=2) (v:=.slice ao k cap) (by simp) rfl
    rename_i K6 hK6
    simp only[e0,e1,qRa,c2,f2,Bool.false_eq_true,if_false,Oper.uponIn_skip]
    obtain⟨W3,hW3⟩:∃ W3,((wr.setCell ⟨w.heap.size+1,0,none⟩ x0).setCell ⟨w.heap.size+1,1,none⟩ x1).setCell ⟨w.heap.size+1,2,none⟩ (.slice ao k cap)=W3:=⟨_,rfl⟩
    rw[hW3]at g2 ⊢
    have hkp:∀ b,b≠w.heap.size+1→W3.heap[b]?=wr.heap[b]?:=fun b hb=>by
     rw[← hW3]
     exact(Below.heap_setCell _ _ _ _ hb).trans ((Below.heap_setCell _ _ _ _ hb).trans (Below.heap_setCell _ _ _ _ hb))
    have hb3:Below w.heap.size w W3:=by
     rw[← hW3]
     exact((HC.out.below.setCell (Nat.le_succ _) _).setCell (Nat.le_succ _) _).setCell (Nat.le_succ _) _
    have p0:W3.cell? ⟨w.heap.size+1,0,none⟩=some x0:=by simp[World.cell?,g2]
    have p1:W3.cell? ⟨w.heap.size+1,1,none⟩=some x1:=by simp[World.cell?,g2]
    have p2:W3.cell? ⟨w.heap.size+1,2,none⟩=some (.slice ao k cap):=by simp[World.cell?,g2]
    have HF:Hid (R (.returned (.agg #[x0,x1,.slice ao k cap])) W3):=by
     obtain⟨z1,z2,z3,z4,z5,z6,z7⟩:=HC.out
     have hk':∀ b,w.heap.size+2≤b→b<wr.heap.size→W3.heap[b]?=wr.heap[b]?:=fun b hb _=>hkp b (by omega)
     have hn:=HN.out
     refine hR _ _ _ _ hb3 (z5.mono (by omega) hk' fun _ _ _ h=>h) (z6.mono (by omega) hk' fun _ _ _ h=>h) ?_
     rw[hn]
     refine z7.mono (by omega) hk' fun i j c hc=>⟨hc.1,fun e=>⟨(hc.2 e).1,fun hi=>?_⟩⟩
     obtain⟨x,hx,hr⟩:=(hc.2 e).2 hi
     exact⟨x,hx,hr.mono (by omega) hk' fun _ _ _ h=>h⟩
    clear hR hRr hW3 g0 g1 g2 e0 e1 e2 c2 f2 hkp hb3 q0 q1 q2 hB
    refine hK6 _ _ ?_
    gi_wp2
    show LeavesInM (FW none) 0 Tryd.prog Tryd.f32 _ R [] .returning W3
    refine⟨.agg #[x0,x1,.slice ao k cap],?_,HF.out⟩
    have hres:Tryd.f32.results=#[.cell 2 27]:=rfl
    simp[results,Act.put,go_sem,p0,p1,p2]
end Go.Skm.Prg
