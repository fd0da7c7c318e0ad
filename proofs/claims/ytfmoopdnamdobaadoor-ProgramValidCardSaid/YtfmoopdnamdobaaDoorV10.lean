import Derived.Test.YtfmoopdnamdobaaDoorV9
namespace Go.Skm.Prg
open Go Go.Skm Go.Proofs Go.RowKit Go.Shelf Go.Sort
attribute [local go_sem] Oper.semAt_some PE
theorem PG:List.range 133=[0,1,2,3,4,5,6,7,8,9,10,11,12,13,14,15,16,17,18,19,20,21,22,23,24,25,26,27,28,29,30,31,32,33,34,35,36,37,38,39,40,41,42,43,44,45,46,47,48,49,50,51,52,53,54,55,56,57,58,59,60,61,62,63,64,65,66,67,68,69,70,71,72,73,74,75,76,77,78,79,80,81,82,83,84,85,86,87,88,89,90,91,92,93,94,95,96,97,98,99,100,101,102,103,104,105,106,107,108,109,110,111,112,113,114,115,116,117,118,119,120,121,122,123,124,125,126,127,128,129,130,131,132]:=rfl
def wo (w:World) (f:Nat) (args:Array Value) (b:Bool):Prop:=∀ W,Below w.heap.size w W→Calls Tryd.prog f args W fun e W'=>e=.returned (.bool b)∧Below W.heap.size W W'
theorem aiv (W : World) (p q : Array Value) {W1 : World} (hb : Below ((W.alloc (Obj.cells p 27)).alloc (Obj.cells q 27)).heap.size ((W.alloc (Obj.cells p 27)).alloc (Obj.cells q 27)) W1) :
    W1.heap[W.heap.size]?=some (.cells p 27 (0,0))∧W1.heap[W.heap.size+1]?=some (.cells q 27 (0,0))∧Below W.heap.size W W1:=by
  have hs:((W.alloc (Obj.cells p 27)).alloc (Obj.cells q 27)).heap.size=W.heap.size+2:=by simp
  refine⟨(hb.block _ (by omega)).trans ?_,(hb.block _ (by omega)).trans ?_,(((Below.refl _ W).alloc (Nat.le_refl _) _).alloc (by simp) _).trans (hb.mono (by omega))⟩
  · rw[Below.heap_alloc _ _ _ (by simp)]
    exact World.alloc_heap_new W _
  · have:=World.alloc_heap_new (W.alloc (Obj.cells p 27)) (Obj.cells q 27)
    rw[World.size_alloc]at this
    exact this
theorem cells3 {W:World} {b:Nat} {x y z:Value} {t:TypeId} (h:W.heap[b]?=some (.cells #[x,y,z] t (0,0))):W.cell? ⟨b,0,none⟩=some x∧W.cell? ⟨b,1,none⟩=some y∧W.cell? ⟨b,2,none⟩=some z:=by
 refine⟨?_,?_,?_⟩<;>simp[World.cell?,h]
set_option maxRecDepth 100000 in
set_option maxHeartbeats 4000000 in
theorem aao {w : World} {p0 p1 p2 q0 q1 q2 : Value} {bp bq : Bool} (hb : bp = false ∨ bq = false) (adQ : wo w 11 #[.agg #[p0,p1,p2],.int .i64 8,.int .i64 6] bp) (adR : wo w 11 #[.agg #[q0,q1,q2],.int .i64 8,.int .i64 6] bq) (k8 : wo w 8 #[] true) :
    wo w 7 #[.agg #[p0,p1,p2],.agg #[q0,q1,q2]] true:=by
  intro W hW
  have h11:(FW none).fn 11:=trivial
  have h8:(FW none).fn 8:=trivial
  refine lX (rd:=none) (n:=0) (callsIn_of_wp_marks Tryd.func7 rfl trivial ?_)
  simp only[Tryd.ntmps7,List.size_toArray,List.length_cons,List.length_nil,Nat.reduceAdd,Nat.reduceSub,Array.replicate_succ,Array.replicate_zero,List.push_toArray,List.append_toArray,List.nil_append,List.cons_append]
  gi_wp2
  refine⟨rfl,(dJ none (adQ _ (hW.trans ((((Below.refl _ W).alloc (Nat.le_refl _) _).alloc (by simp) _).mono hW.size)))).mono ?_⟩
  rintro e W1 ⟨rfl,hb1⟩
  obtain⟨hP,hQ,hB1⟩:=aiv W _ _ hb1
  have hw1:=hW.trans (hB1.mono hW.size)
  obtain⟨y0,y1,y2⟩:=cells3 hQ
  clear hb1 hP hQ
  dsimp only
  cases bp with
  | false =>
   gi_wp2
   refine⟨rfl,(dJ none (k8 _ hw1)).mono ?_⟩
   rintro e W2 ⟨rfl,hb2⟩
   dsimp only
   gi_wp2
   show LeavesInM (FW none) 0 Tryd.prog Tryd.f7 _ _ [] .returning W2
   exact⟨_,results_tmp rfl _ _ _,rfl,hB1.trans (hb2.mono hB1.size)⟩
  | true =>
   have hbq:bq=false:=by simpa using hb
   subst hbq
   gi_wp2
   refine⟨rfl,(dJ none (adR _ hw1)).mono ?_⟩
   rintro e W2 ⟨rfl,hb2⟩
   dsimp only
   gi_wp2
   refine⟨rfl,(dJ none (k8 _ (hw1.trans (hb2.mono hw1.size)))).mono ?_⟩
   rintro e W3 ⟨rfl,hb3⟩
   dsimp only
   gi_wp2
   show LeavesInM (FW none) 0 Tryd.prog Tryd.f7 _ _ [] .returning W3
   exact⟨_,results_tmp rfl _ _ _,rfl,(hB1.trans (hb2.mono hB1.size)).trans (hb3.mono (Nat.le_trans hB1.size hb2.size))⟩
def WV (w:World) (p:Pg) (v:Value):Prop:=∀ W,Below w.heap.size w W→Calls Tryd.prog 32 #[v] W fun e W'=>∃ x0 x1 x2 mv ml,e=.returned (.agg #[x0,x1,x2])∧Below W.heap.size W W'∧VR W' (fun b=>b<w.heap.size∨(W.heap.size≤b∧b<W'.heap.size)) (eG p) (.agg #[x0,x1,x2]) ∧
 CT W.heap.size W'.heap.size W' x0 x1 x2 (eN p.names).length (bF p.homes).length (fM p.acts).length mv ml 0 W'∧∀ i,i<(fM p.acts).length→ml i≤100
def aap (w:World) (p:Pg) (v:Value):Prop:=∀ (W:World) (M:Nat→Prop) (c:Value),Below w.heap.size w W→(∀ b,b<w.heap.size→M b)→(∀ b,M b→b<W.heap.size)→VR W M (eG p) c→Calls Tryd.prog 21 #[c,v] W fun e W'=>e=.returned (.bool true)∧Below W.heap.size W W'
theorem WW (W : World) {x0 x1 x2 : Value} (o0 : x0.oneCell' = true) (o1 : x1.oneCell' = true) (o2 : x2.oneCell' = true) :
    ∃ A B D:World,(store ⟨W.heap.size,0,none⟩ x0).run Tryd.prog (W.alloc (Obj.cells #[.slice none 0 0,.slice none 0 0,.slice none 0 0] 27))=.ok () A∧(store ⟨W.heap.size,1,none⟩ x1).run Tryd.prog A=.ok () B∧(store ⟨W.heap.size,2,none⟩ x2).run Tryd.prog B=.ok () D ∧
     D.heap[W.heap.size]?=some (.cells #[x0,x1,x2] 27 (0,0))∧Below W.heap.size W D∧D.heap.size=W.heap.size+1:=by
  have hn:=World.alloc_heap_new W (Obj.cells #[Value.slice none 0 0,Value.slice none 0 0,Value.slice none 0 0] 27)
  obtain⟨e0,g0,-⟩:=qL hn (k:=0) (by simp) o0
  obtain⟨e1,g1,-⟩:=qL g0 (k:=1) (by simp) o1
  obtain⟨e2,g2,-⟩:=qL g1 (k:=2) (by simp) o2
  refine⟨_,_,_,e0,e1,e2,by simpa using g2,(((((Below.refl _ W).alloc (Nat.le_refl _) _).setCell (Nat.le_refl _) _).setCell (Nat.le_refl _) _).setCell (Nat.le_refl _) _),by simp[World.setCell]⟩
theorem CT.base {B E:Nat} {W0 W:World} {x0 x1 x2:Value} {n0 n1 n2 kn:Nat} {mv:Nat→Value} {ml:Nat→Nat} (h:CT B E W0 x0 x1 x2 n0 n1 n2 mv ml kn W0) (hk:∀ b,b<E→W.heap[b]?=W0.heap[b]?):CT B E W x0 x1 x2 n0 n1 n2 mv ml kn W :=
 ⟨fun _ _=>rfl,rfl,rfl,rfl,rfl,h.tn.mono hk fun _ _ _ h=>h,h.th.mono hk fun _ _ _ h=>h,h.ta.mono hk fun _ _ _ h=>h,fun i hi=>(h.tm i hi).mono hk fun _ _ _ h=>h⟩
theorem CT.below {B E S:Nat} {W0 w:World} {x0 x1 x2:Value} {n0 n1 n2 kn:Nat} {mv:Nat→Value} {ml:Nat→Nat} (h:CT B E W0 x0 x1 x2 n0 n1 n2 mv ml kn w) (hS:S≤B):Below S W0 w :=
 ⟨h.os,h.tape,h.output,by rw[h.size];exact Nat.le_refl _,fun b hb=>h.keep b (.inl (by omega))⟩
structure At7 (w W4 W6:World) (a:Act):Prop where
 size:a.tmps.size=133
 defers:a.defers=[]
 t2:a.tmps.getD 2 undef=.pointer (some ⟨w.heap.size,0,none⟩)
 t3:a.tmps.getD 3 undef=.pointer (some ⟨w.heap.size+1,0,none⟩)
 t5:a.tmps.getD 5 undef=.pointer (some ⟨W4.heap.size,0,none⟩)
 t6:a.tmps.getD 6 undef=.pointer (some ⟨W6.heap.size,0,none⟩)
def x9 (w W4 W6:World) (slot n:Nat) (Φ:Nat→World→Prop) (a:Act) (wr:World):Prop:=∃ k:Nat,At7 w W4 W6 a∧a.tmps.getD slot undef=.int .i64 k∧k≤n∧Φ k wr
def ak9 (w W4 W6:World) (k n:Nat) (Φ:World→Prop) (a:Act) (wr:World):Prop:=∃ j:Nat,At7 w W4 W6 a∧a.tmps.getD 9 undef=.int .i64 k∧a.tmps.getD 10 undef=.int .i64 j∧j≤n∧Φ wr
theorem DI.at {w:World} {B E:Nat} {ao:Option Addr} {len cap:Nat} {ty:TypeId} {sz:Nat} {φ:Nat→Nat→Value→Prop} (h:DI w B E (.slice ao len cap) len ty sz φ) {k:Nat} (hk:k<len):∃ g cur,ao=some ⟨g,0,none⟩∧B≤g∧g<E∧w.heap[g]?=some (.cells cur ty (0,0))∧len*sz≤cur.size∧∀ j,j<sz→φ k j (cur.getD (k*sz+j) undef)∧w.cell? ⟨g,k*sz+j,none⟩=some (cur.getD (k*sz+j) undef)∧w.frozen? ⟨g,k*sz+j,none⟩=false:=by
 rcases h with ⟨_,h⟩ | ⟨g,cap',cur,h1,h2,h3,h4,h5,h6⟩
 · omega
 · cases h1
   refine⟨g,cur,rfl,h2,h3,h4,h5,fun j hj=>⟨h6 k j hk hj,?_,?_⟩⟩
   · have hq : k * sz + j < cur.size := by
       have:(k+1)*sz≤len*sz:=Nat.mul_le_mul_right _ hk
       rw[Nat.succ_mul]at this;omega
     simp[World.cell?,h4,hq]
   · simp[World.frozen?,h4]
set_option maxRecDepth 100000 in
set_option maxHeartbeats 8000000 in
theorem Yj {w : World} {p : Pg} (hp : Small p) {p0 p1 p2 q0 q1 q2 : Value} {b b' : Bool} (adQ : wo w 11 #[.agg #[p0,p1,p2],.int .i64 8,.int .i64 6] true) (adR : wo w 11 #[.agg #[q0,q1,q2],.int .i64 8,.int .i64 6] true) (k8 : wo w 8 #[] true)
    (k10:wo w 10 #[.agg #[p0,p1,p2]] b) (k15:wo w 15 #[.agg #[p0,p1,p2]] b) (k31:wo w 31 #[.agg #[p0,p1,p2],.agg #[q0,q1,q2]] b') (k21:wo w 21 #[.agg #[p0,p1,p2],.agg #[q0,q1,q2]] b') (ala:wo w 31 #[.agg #[p0,p1,p2],.agg #[p0,p1,p2]] true)
    (kC:WV w p (.agg #[p0,p1,p2])) (kS:aap w p (.agg #[p0,p1,p2])) (R:Ending→World→Prop) (hR:∀ W,Below w.heap.size w W→R (.returned (.bool true)) W) :
    Calls Tryd.prog 7 #[.agg #[p0,p1,p2],.agg #[q0,q1,q2]] w R:=by
  have h11:(FW none).fn 11:=trivial
  have h8:(FW none).fn 8:=trivial
  have h32:(FW none).fn 32:=trivial
  have h21:(FW none).fn 21:=trivial
  refine lX (rd:=none) (n:=0) (callsIn_of_wp_marks Tryd.func7 rfl trivial ?_)
  simp only[Tryd.ntmps7,List.size_toArray,List.length_cons,List.length_nil,Nat.reduceAdd,Nat.reduceSub,Array.replicate_succ,Array.replicate_zero,List.push_toArray,List.append_toArray,List.nil_append,List.cons_append]
  gi_wp2
  refine⟨rfl,(dJ none (adQ _ (((Below.refl _ w).alloc (Nat.le_refl _) _).alloc (by simp) _))).mono ?_⟩
  rintro e W1 ⟨rfl,hb1⟩
  obtain⟨hP1,hQ1,hB1⟩:=aiv w _ _ hb1
  obtain⟨y0,y1,y2⟩:=cells3 hQ1
  have hs1:w.heap.size+2≤W1.heap.size:=by have:=hb1.size;simp at this;exact this
  clear hb1
  dsimp only
  gi_wp2
  refine⟨rfl,(dJ none (adR _ hB1)).mono ?_⟩
  rintro e W2 ⟨rfl,hb2⟩
  have hB2:=hB1.trans (hb2.mono hB1.size)
  have hs2:w.heap.size+2≤W2.heap.size:=Nat.le_trans hs1 hb2.size
  have hP2:=(hb2.block w.heap.size (by omega)).trans hP1
  have hQ2:=(hb2.block (w.heap.size+1) (by omega)).trans hQ1
  clear hB1 hP1 hQ1 y0 y1 y2 hs1 hb2
  dsimp only
  gi_wp2
  rename_i K3 hK3
  have up2:∀ {W:World},Below W2.heap.size W2 W→Below w.heap.size w W:=fun h=>hB2.trans (h.mono hB2.size)
  refine Yk (by rfl) (by rfl) (by rfl) hP2 hQ2 (fun W h=>k10 W (up2 h)) (fun W h=>k15 W (up2 h)) (fun W h=>k31 W (up2 h)) (fun W h=>k21 W (up2 h)) (fun W h=>ala W (up2 h)) ?_
  intro a W3 ha hd hkeep h39 hb3
  have t2:a.tmps.getD 2 undef=.pointer (some ⟨w.heap.size,0,none⟩):=hkeep 2 (by omega)
  have t3:a.tmps.getD 3 undef=.pointer (some ⟨w.heap.size+1,0,none⟩):=hkeep 3 (by omega)
  obtain⟨u,hu,rfl⟩:=xk a ha hd
  rw[hu]at t2 t3 h39
  have hB3:=up2 hb3
  have hs3:w.heap.size+2≤W3.heap.size:=Nat.le_trans hs2 hb3.size
  have hP3:=(hb3.block w.heap.size (by omega)).trans hP2
  have hQ3:=(hb3.block (w.heap.size+1) (by omega)).trans hQ2
  obtain⟨y0,y1,y2⟩:=cells3 hP3
  clear up2 ha hd hkeep hb3 hP2 hQ2 hs2 hB2
  refine hK3 _ _ ?_
  rw[PG]
  simp only[List.map_cons,List.map_nil,t2,t3,h39]
  clear t2 t3 h39 hu
  gi_wp2
  refine⟨rfl,(dJ none (kC _ hB3)).mono ?_⟩
  rintro e W4 ⟨x0,x1,x2,mv,ml,rfl,hb4,D7,hct,hml⟩
  obtain⟨A,B,W5,e0,e1,e2,hC5,hb5,hs5⟩:=WW W4 (x0:=x0) (x1:=x1) (x2:=x2) (by obtain⟨_,_,rfl⟩:=hct.tn.slice;rfl) (by obtain⟨_,_,rfl⟩:=hct.th.slice;rfl) (by obtain⟨_,_,rfl⟩:=hct.ta.slice;rfl)
  have HE:Hid (CT W3.heap.size W4.heap.size W4 x0 x1 x2 (eN p.names).length (bF p.homes).length (fM p.acts).length mv ml 0 W4∧(∀ i,i<(fM p.acts).length→ml i≤100)∧VR W4 (fun b=>b<w.heap.size∨W3.heap.size≤b∧b<W4.heap.size) (eG p) (.agg #[x0,x1,x2])):=⟨hct,hml,D7⟩
  clear hct hml D7 y0 y1 y2
  have hB5:=(hB3.trans (hb4.mono hB3.size)).trans (hb5.mono (Nat.le_trans hB3.size hb4.size))
  have hs4:=hb4.size
  have hP5:=(hb5.block w.heap.size (by omega)).trans ((hb4.block w.heap.size (by omega)).trans hP3)
  obtain⟨y0,y1,y2⟩:=cells3 hP5
  dsimp only
  gi_wp2
  refine⟨rfl,(dJ none (kC _ hB5)).mono ?_⟩
  rintro e W6 ⟨d0,d1,d2,mv',ml',rfl,hb6,hvd,abN,-⟩
  clear e0 e1 e2
  obtain⟨A',B',W7,e0,e1,e2,hD7,hb7,hs7⟩:=WW W6 (x0:=d0) (x1:=d1) (x2:=d2) (by obtain⟨_,_,rfl⟩:=abN.tn.slice;rfl) (by obtain⟨_,_,rfl⟩:=abN.th.slice;rfl) (by obtain⟨_,_,rfl⟩:=abN.ta.slice;rfl)
  have HD:Hid (VR W6 (fun b=>b<w.heap.size∨W5.heap.size≤b∧b<W6.heap.size) (eG p) (.agg #[d0,d1,d2])):=hvd
  clear abN hvd y0 y1 y2
  have hs6:=hb6.size
  have hB7:=(hB5.trans (hb6.mono hB5.size)).trans (hb7.mono (Nat.le_trans hB5.size hb6.size))
  have hP7:=(hb7.block w.heap.size (by omega)).trans ((hb6.block w.heap.size (by omega)).trans hP5)
  have hC7:=(hb7.block W4.heap.size (by omega)).trans ((hb6.block W4.heap.size (by omega)).trans hC5)
  obtain⟨y0,y1,y2⟩:=cells3 hP7
  obtain⟨z0,z1,z2⟩:=cells3 hC7
  obtain⟨v0,v1,v2⟩:=cells3 hD7
  dsimp only
  gi_wp2
  obtain⟨hct,hml,D7⟩:=HE.out
  have aix:VR W7 (fun b=>b<w.heap.size∨W3.heap.size≤b∧b<W4.heap.size) (eG p) (.agg #[x0,x1,x2]):=D7.mono fun b hb=>⟨hb,(hb7.block b (by omega)).trans ((hb6.block b (by omega)).trans (hb5.block b (by omega)))⟩
  have aiy:VR W7 (fun b=>b<w.heap.size∨W5.heap.size≤b∧b<W6.heap.size) (eG p) (.agg #[d0,d1,d2]):=HD.out.mono fun b hb=>⟨hb,hb7.block b (by omega)⟩
  refine⟨rfl,(dJ none (kS W7 _ _ hB7 (fun b hb=>.inl hb) (fun b hb=>by omega) aix)).mono ?_⟩
  rintro e W8 ⟨rfl,hb8⟩
  have hs8:=hb8.size
  have hB8:=hB7.trans (hb8.mono hB7.size)
  have hP8:=(hb8.block w.heap.size (by omega)).trans hP7
  have hD8:=(hb8.block W6.heap.size (by omega)).trans hD7
  have hC8:=(hb8.block W4.heap.size (by omega)).trans hC7
  have adT:VR W8 (fun b=>b<w.heap.size∨W5.heap.size≤b∧b<W6.heap.size) (eG p) (.agg #[d0,d1,d2]):=aiy.mono fun b hb=>⟨hb,hb8.block b (by omega)⟩
  have aiz:=hct.base (W:=W8) fun b hb=>(hb8.block b (by omega)).trans ((hb7.block b (by omega)).trans ((hb6.block b (by omega)).trans (hb5.block b (by omega))))
  clear y0 y1 y2 z0 z1 z2 v0 v1 v2 aix aiy HE HD hct D7 hC7 hP7 hD7
  obtain⟨y0,y1,y2⟩:=cells3 hP8
  obtain⟨v0,v1,v2⟩:=cells3 hD8
  dsimp only
  gi_wp2
  refine⟨rfl,(dJ none (kS W8 _ _ hB8 (fun b hb=>.inl hb) (fun b hb=>by omega) adT)).mono ?_⟩
  rintro e W9 ⟨rfl,hb9⟩
  have hs9:=hb9.size
  have hB9:=hB8.trans (hb9.mono hB8.size)
  have hP9:=(hb9.block w.heap.size (by omega)).trans hP8
  have hD9:=(hb9.block W6.heap.size (by omega)).trans hD8
  have hC9:=(hb9.block W4.heap.size (by omega)).trans hC8
  have aiB:VR W9 (fun b=>b<w.heap.size∨W5.heap.size≤b∧b<W6.heap.size) (eG p) (.agg #[d0,d1,d2]):=adT.mono fun b hb=>⟨hb,hb9.block b (by omega)⟩
  have Yl:=aiz.base (W:=W9) fun b hb=>hb9.block b (by omega)
  clear y0 y1 y2 v0 v1 v2 aiz adT hP8 hC8 hD8
  obtain⟨a0,c0,rfl⟩:=Yl.tn.slice
  obtain⟨a1,c1,rfl⟩:=Yl.th.slice
  obtain⟨a2,c2,rfl⟩:=Yl.ta.slice
  have hl0:(eN p.names).length≤100:=by rw[cZ];exact hp.names
  have hl1:(bF p.homes).length≤100:=by rw[aY];exact hp.homes
  have hl2:(fM p.acts).length≤100:=by rw[aW];exact hp.acts
  obtain⟨n0,hn0⟩:∃ n,(eN p.names).length=n:=⟨_,rfl⟩
  obtain⟨n1,hn1⟩:∃ n,(bF p.homes).length=n:=⟨_,rfl⟩
  obtain⟨n2,hn2⟩:∃ n,(fM p.acts).length=n:=⟨_,rfl⟩
  rw[hn0,hn1,hn2]at Yl hC9
  rw[hn0]at hl0
  rw[hn1]at hl1
  rw[hn2]at hl2
  rw[hn2]at hml
  have HM:Hid (∀ i,i<n2→ml i≤100):=hml
  have HC:Hid (CT W3.heap.size W4.heap.size W9 (.slice a0 n0 c0) (.slice a1 n1 c1) (.slice a2 n2 c2) n0 n1 n2 mv ml 0 W9):=Yl
  have HV:Hid (VR W9 (fun b=>b<w.heap.size∨W5.heap.size≤b∧b<W6.heap.size) (eG p) (.agg #[d0,d1,d2])):=aiB
  have HB:Hid (Below w.heap.size w W9∧w.heap.size+2≤W3.heap.size∧W3.heap.size≤W4.heap.size∧W5.heap.size=W4.heap.size+1∧W5.heap.size≤W6.heap.size∧W7.heap.size=W6.heap.size+1∧W7.heap.size≤W9.heap.size):=⟨hB9,hs3,hs4,hs5,hs6,hs7,Nat.le_trans hs8 hs9⟩
  have HX:Hid (W9.heap[w.heap.size]?=some (.cells #[p0,p1,p2] 27 (0,0))∧W9.heap[W6.heap.size]?=some (.cells #[d0,d1,d2] 27 (0,0))∧W9.heap[W4.heap.size]?=some (.cells #[.slice a0 n0 c0,.slice a1 n1 c1,.slice a2 n2 c2] 27 (0,0))):=⟨hP9,hD9,hC9⟩
  clear Yl aiB hB9 hs4 hs5 hs6 hs7 hs8 hs9 hP9 hD9 hC9 hml hb4 hb5 hb6 hb7 hb8 hb9 hB3 hB5 hB7 hB8 hP3 hP5 hQ3 hC5 hs3
  dsimp only
  gi_wp2
  rw[hn0,hn1,hn2]
  refine wpIn_loop (x9 w W4 W6 7 n0 fun k wr=>CT W3.heap.size W4.heap.size W9 (.slice a0 n0 c0) (.slice a1 n1 c1) (.slice a2 n2 c2) n0 n1 n2 mv ml k wr) (fun a _=>n0-(intOf (a.tmps.getD 7 undef)).toNat) ?_ ?_
  · exact⟨0,⟨rfl,rfl,rfl,rfl,rfl,rfl⟩,rfl,Nat.zero_le _,HC.out⟩
  clear u
  rintro a wr ⟨k,⟨e1,e2,t2,t3,t5,t6⟩,t7,hk,hct⟩
  obtain⟨u,hu,rfl⟩:=xk a e1 e2
  rw[hu]at t2 t3 t5 t6 t7
  rw[PG]
  simp only[List.map_cons,List.map_nil,t2,t3,t5,t6,t7]
  clear e1 e2 t2 t3 t5 t6 t7 hu
  have GV:Hid (CT W3.heap.size W4.heap.size W9 (.slice a0 n0 c0) (.slice a1 n1 c1) (.slice a2 n2 c2) n0 n1 n2 mv ml k wr):=hct
  clear hct
  obtain⟨z0,z1,z2⟩:=cells3 ((GV.out.keep _ (.inr (Nat.le_refl _))).trans HX.out.2.2)
  by_cases hkn:k<n0
  · obtain⟨g,cur,rfl,hgB,hgE,hg,hsz,hcur⟩:=GV.out.tn.at hkn
    obtain⟨⟨s,hs,hsl⟩,-,-⟩:=hcur 0 (by omega)
    have HG:Hid ((W3.heap.size≤g∧g<W4.heap.size∧wr.heap[g]?=some (.cells cur 9 (0,0))∧n0*1≤cur.size)∧cur.getD (k*1+0) undef=.string s∧s.size≤100000):=⟨⟨hgB,hgE,hg,hsz⟩,hs,hsl (Nat.le_refl _)⟩
    clear hgB hgE hg hsz hcur hs hsl
    gi_wp2
    rename_i KA hKA
    obtain⟨⟨hgB,hgE,hg,hsz⟩,hs,hsl⟩:=HG.out
    refine VJ (Cb:=W4.heap.size) (g:=g) (k:=k) (n:=n0) (cap:=c0) (s:=s) (by rfl) (by rfl) (by rfl) hkn ((GV.out.keep _ (.inr (Nat.le_refl _))).trans HX.out.2.2) hg (by omega) (by simpa using hs) hsl ?_
    intro b W s' hb hd hkeep hW
    have hnext:=GV.out.drew.name (s:=s') hgB hgE (show wr.drew.heap[g]?=_ from hg)
    rw[← hW]at hnext
    have t2:b.tmps.getD 2 undef=.pointer (some ⟨w.heap.size,0,none⟩):=hkeep 2 (by omega)
    have t3:b.tmps.getD 3 undef=.pointer (some ⟨w.heap.size+1,0,none⟩):=hkeep 3 (by omega)
    have t5:b.tmps.getD 5 undef=.pointer (some ⟨W4.heap.size,0,none⟩):=hkeep 5 (by omega)
    have t6:b.tmps.getD 6 undef=.pointer (some ⟨W6.heap.size,0,none⟩):=hkeep 6 (by omega)
    have t7:b.tmps.getD 7 undef=.int .i64 k:=hkeep 7 (by omega)
    obtain⟨u',hu,rfl⟩:=xk b hb hd
    rw[hu]at t2 t3 t5 t6 t7
    have HN:Hid (CT W3.heap.size W4.heap.size W9 (.slice (some ⟨g,0,none⟩) n0 c0) (.slice a1 n1 c1) (.slice a2 n2 c2) n0 n1 n2 mv ml (k+1) W):=hnext
    have aaD:IntKind.i64.wrap ((k:Int)+1)=((k+1:Nat):Int):=bW k (by omega)
    clear hnext hgB hgE hg hsz hs hsl hb hd hkeep hW HG z0 z1 z2
    refine hKA _ _ ?_
    rw[PG]
    simp only[List.map_cons,List.map_nil,t2,t3,t5,t6,t7]
    clear t2 t3 t5 t6 t7 hu
    gi_wp2
    refine⟨⟨k+1,⟨rfl,rfl,rfl,rfl,rfl,rfl⟩,rfl,by omega,HN.out⟩,?_⟩
    show n0-((k:Int)+1).toNat<n0-(k:Int).toNat
    omega
  · have hkn':k=n0:=by omega
    have HC2:Hid (CT W3.heap.size W4.heap.size W9 (.slice a0 n0 c0) (.slice a1 n1 c1) (.slice a2 n2 c2) n0 n1 n2 mv ml n0 wr):=by
     have:=GV.out
     rw[hkn']at this
     exact this
    clear GV
    gi_wp2
    refine wpIn_loop (x9 w W4 W6 8 n1 fun _ wr=>CT W3.heap.size W4.heap.size W9 (.slice a0 n0 c0) (.slice a1 n1 c1) (.slice a2 n2 c2) n0 n1 n2 mv ml n0 wr) (fun a _=>n1-(intOf (a.tmps.getD 8 undef)).toNat) ?_ ?_
    · exact⟨0,⟨rfl,rfl,rfl,rfl,rfl,rfl⟩,rfl,Nat.zero_le _,HC2.out⟩
    clear HC2 z0 z1 z2
    rintro a wr ⟨k,⟨e1,e2,e3,e4,e5,e6⟩,e7,hk,hct⟩
    obtain⟨u,hu,rfl⟩:=xk a e1 e2
    rw[hu]at e3 e4 e5 e6 e7
    rw[PG]
    simp only[List.map_cons,List.map_nil,e3,e4,e5,e6,e7]
    have GV:Hid (CT W3.heap.size W4.heap.size W9 (.slice a0 n0 c0) (.slice a1 n1 c1) (.slice a2 n2 c2) n0 n1 n2 mv ml n0 wr):=hct
    clear hct e1 e2 e3 e4 e5 e6 e7 hu
    obtain⟨z0,z1,z2⟩:=cells3 ((GV.out.keep _ (.inr (Nat.le_refl _))).trans HX.out.2.2)
    by_cases hkn:k<n1
    · obtain⟨g,cur,rfl,hgB,hgE,hg,hsz,hcur⟩:=GV.out.th.at hkn
      obtain⟨hz,r1,r2⟩:=hcur 0 (by omega)
      obtain⟨z,hz⟩:=hz rfl
      rw[Nat.add_zero]at r1 r2 hz
      rw[hz]at r1
      have HG:Hid (W3.heap.size≤g∧g<W4.heap.size∧wr.heap[g]?=some (.cells cur 31 (0,0))):=⟨hgB,hgE,hg⟩
      clear hgB hgE hg hsz hcur hz
      have aaD:IntKind.i64.wrap ((k:Int)+1)=((k+1:Nat):Int):=bW k (by omega)
      gi_wp2
      refine⟨⟨k+1,⟨rfl,rfl,rfl,rfl,rfl,rfl⟩,rfl,by omega,GV.out.store HG.out.1 HG.out.2.1 HG.out.2.2 (by decide) (fun h=>absurd h (by decide)) rfl⟩,?_⟩
      show n1-((k:Int)+1).toNat<n1-(k:Int).toNat
      omega
    · have HC3:=GV
      clear GV
      gi_wp2
      refine wpIn_loop (x9 w W4 W6 9 n2 fun _ wr=>CT W3.heap.size W4.heap.size W9 (.slice a0 n0 c0) (.slice a1 n1 c1) (.slice a2 n2 c2) n0 n1 n2 mv ml n0 wr) (fun a _=>n2-(intOf (a.tmps.getD 9 undef)).toNat) ?_ ?_
      · exact⟨0,⟨rfl,rfl,rfl,rfl,rfl,rfl⟩,rfl,Nat.zero_le _,HC3.out⟩
      clear HC3 z0 z1 z2
      rintro a wr ⟨k,⟨e1,e2,e3,e4,e5,e6⟩,e7,hk,hct⟩
      obtain⟨u,hu,rfl⟩:=xk a e1 e2
      rw[hu]at e3 e4 e5 e6 e7
      rw[PG]
      simp only[List.map_cons,List.map_nil,e3,e4,e5,e6,e7]
      have GV:Hid (CT W3.heap.size W4.heap.size W9 (.slice a0 n0 c0) (.slice a1 n1 c1) (.slice a2 n2 c2) n0 n1 n2 mv ml n0 wr):=hct
      clear hct e1 e2 e3 e4 e5 e6 e7 hu
      obtain⟨z0,z1,z2⟩:=cells3 ((GV.out.keep _ (.inr (Nat.le_refl _))).trans HX.out.2.2)
      by_cases hkn:k<n2
      · obtain⟨g,cur,rfl,hgB,hgE,hg,hsz,hcur⟩:=GV.out.ta.at hkn
        obtain⟨⟨hz,-⟩,r1,r2⟩:=hcur 1 (by omega)
        obtain⟨z,hz⟩:=hz rfl
        rw[hz]at r1
        have HG:Hid (W3.heap.size≤g∧g<W4.heap.size∧wr.heap[g]?=some (.cells cur 37 (0,0))):=⟨hgB,hgE,hg⟩
        clear hgB hgE hg hsz hcur hz
        have aaD:IntKind.i64.wrap ((k:Int)+1)=((k+1:Nat):Int):=bW k (by omega)
        gi_wp2
        refine wpIn_loop (ak9 w W4 W6 k (ml k) fun wr=>CT W3.heap.size W4.heap.size W9 (.slice a0 n0 c0) (.slice a1 n1 c1) (.slice (some ⟨g,0,none⟩) n2 c2) n0 n1 n2 mv ml n0 wr) (fun a _=>ml k-(intOf (a.tmps.getD 10 undef)).toNat) ?_ ?_
        · exact⟨0,⟨rfl,rfl,rfl,rfl,rfl,rfl⟩,rfl,rfl,Nat.zero_le _,GV.out.store HG.out.1 HG.out.2.1 HG.out.2.2 (by decide) (fun _=>by omega) rfl⟩
        clear GV HG r1 r2 z0 z1 z2
        rintro a wr ⟨j,⟨e1,e2,e3,e4,e5,e6⟩,e7,e8,hj,hct⟩
        obtain⟨u,hu,rfl⟩:=xk a e1 e2
        rw[hu]at e3 e4 e5 e6 e7 e8
        rw[PG]
        simp only[List.map_cons,List.map_nil,e3,e4,e5,e6,e7,e8]
        have GV:Hid (CT W3.heap.size W4.heap.size W9 (.slice a0 n0 c0) (.slice a1 n1 c1) (.slice (some ⟨g,0,none⟩) n2 c2) n0 n1 n2 mv ml n0 wr):=hct
        clear hct e1 e2 e3 e4 e5 e6 e7 e8 hu
        obtain⟨z0,z1,z2⟩:=cells3 ((GV.out.keep _ (.inr (Nat.le_refl _))).trans HX.out.2.2)
        obtain⟨g',cur',eg,-,-,-,-,acz⟩:=GV.out.ta.at hkn
        cases eg
        obtain⟨⟨-,hmv⟩,s1,-⟩:=acz 2 (by omega)
        rw[hmv rfl]at s1
        obtain⟨am,cm,hm⟩:=(GV.out.tm k hkn).slice
        rw[hm]at s1
        have hmk:ml k≤100:=HM.out k hkn
        clear acz hmv
        by_cases hjn:j<ml k
        · have htm:=GV.out.tm k hkn
          rw[hm]at htm
          obtain⟨gm,ali,rfl,hgB,hgE,hg,hsz,acA⟩:=htm.at hjn
          obtain⟨hz,r1,r2⟩:=acA 3 (by omega)
          obtain⟨zz,hz⟩:=hz rfl
          rw[hz]at r1
          have HG:Hid (W3.heap.size≤gm∧gm<W4.heap.size∧wr.heap[gm]?=some (.cells ali 34 (0,0))):=⟨hgB,hgE,hg⟩
          have aoa:IntKind.i64.wrap ((j:Int)+1)=((j+1:Nat):Int):=bW j (by omega)
          clear htm hgB hgE hg hsz acA hz hm
          gi_wp2
          refine⟨⟨j+1,⟨rfl,rfl,rfl,rfl,rfl,rfl⟩,rfl,rfl,by omega,GV.out.store HG.out.1 HG.out.2.1 HG.out.2.2 (by decide) (fun h=>absurd h (by decide)) rfl⟩,?_⟩
          show ml k-((j:Int)+1).toNat<ml k-(j:Int).toNat
          omega
        · clear hm
          gi_wp2
          refine⟨⟨k+1,⟨rfl,rfl,rfl,rfl,rfl,rfl⟩,rfl,by omega,GV.out⟩,?_⟩
          show n2-((k:Int)+1).toNat<n2-(k:Int).toNat
          omega
      · obtain⟨hB9,q1,q2,q3,q4,q5,q6⟩:=HB.out
        obtain⟨y0,y1,y2⟩:=cells3 ((GV.out.keep _ (.inl (by omega))).trans HX.out.1)
        obtain⟨v0,v1,v2⟩:=cells3 ((GV.out.keep _ (.inr (by omega))).trans HX.out.2.1)
        have hbw:Below w.heap.size w wr:=hB9.trans (GV.out.below (by omega))
        have Nq:VR wr (fun b=>b<w.heap.size∨W5.heap.size≤b∧b<W6.heap.size) (eG p) (.agg #[d0,d1,d2]):=HV.out.mono fun b hb=>⟨hb,GV.out.keep b (by omega)⟩
        have hsw:wr.heap.size=W9.heap.size:=GV.out.size
        have HK:Hid (Calls Tryd.prog 21 #[.agg #[d0,d1,d2],.agg #[p0,p1,p2]] wr fun e W'=>e=.returned (.bool true)∧Below wr.heap.size wr W'):=kS wr _ _ hbw (fun b hb=>.inl hb) (fun b hb=>by omega) Nq
        clear Nq hB9 q1 q2 q3 q4 q5 q6 hsw
        gi_wp2
        refine⟨rfl,(dJ none HK.out).mono ?_⟩
        rintro e WA ⟨rfl,hbA⟩
        dsimp only
        gi_wp2
        refine⟨rfl,(dJ none (k8 _ (hbw.trans (hbA.mono hbw.size)))).mono ?_⟩
        rintro e WB ⟨rfl,hbB⟩
        dsimp only
        gi_wp2
        show LeavesInM (FW none) 0 Tryd.prog Tryd.f7 _ _ [] .returning WB
        exact⟨.bool true,results_tmp (t:=4) rfl _ _ _,hR _ ((hbw.trans (hbA.mono hbw.size)).trans (hbB.mono (Nat.le_trans hbw.size hbA.size)))⟩
end Go.Skm.Prg
