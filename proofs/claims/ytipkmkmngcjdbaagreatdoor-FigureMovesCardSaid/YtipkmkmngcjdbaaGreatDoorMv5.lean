/-
  The law, walked; condition: the calls answer as said.
-/
import Derived.Test.YtipkmkmngcjdbaaGreatDoorMv4
namespace Go.Skm.Fig
open Go Go.Skm Go.Proofs Go.RowKit Go.Shelf Go.Sort
attribute [local go_sem] Oper.semAt_some BH
theorem Y6:List.range 110=[0,1,2,3,4,5,6,7,8,9,10,11,12,13,14,15,16,17,18,19,20,21,22,23,24,25,26,27,28,29,30,31,32,33,34,35,36,37,38,39,40,41,42,43,44,45,46,47,48,49,50,51,52,53,54,55,56,57,58,59,60,61,62,63,64,65,66,67,68,69,70,71,72,73,74,75,76,77,78,79,80,81,82,83,84,85,86,87,88,89,90,91,92,93,94,95,96,97,98,99,100,101,102,103,104,105,106,107,108,109]:=rfl
abbrev LT (w:World):Nat→Prop:=fun b=>b<w.heap.size
def Y7 (w:World) (f:List Sh) (b:V3):Prop:=∀ (W:World) (u:Value),Below w.heap.size w W→VR W (LT W) (.list true kS (dh f)) u→Calls Tryz.prog 22 #[u,vV b] W fun e W'=>∃ v,e=.returned (.tuple #[v,.int .i64 (qK f b).2])∧Below W.heap.size W W'∧Y1 W' W.heap.size v (qK f b).1
def Pn (w:World) (f:List Sh):Prop:=∀ (W:World) (u v:Value),Below w.heap.size w W→VR W (LT W) (.list true kS (dh f)) u→VR W (LT W) (.list true kS (dh f)) v→Calls Tryz.prog 21 #[u,v] W fun e W'=>e=.returned (.bool true)∧Below W.heap.size W W'
def acL (w:World) (f:List Sh) (vf:Value) (b:V3):Prop:=∀ W:World,Below w.heap.size w W→Calls Tryz.prog 24 #[vf,vV b] W fun e W'=>∃ c,e=.returned (.tuple #[c,.int .i64 (qK f b).2])∧VR W' (LT W') (.list true kS (dh (qK f b).1)) c∧Below W.heap.size W W'
set_option maxRecDepth 100000 in
set_option maxHeartbeats 4000000 in
theorem Y8 {w:World} {vf:Value} {b:V3} (k10:tJ w 10 #[vf] false) (k12:tJ w 12 #[] true):tJ w 6 #[vf,vV b] true:=by
 intro W hW
 have h10:(FW none).fn 10:=trivial
 have h12:(FW none).fn 12:=trivial
 refine mM (rd:=none) (n:=0) (callsIn_of_wp_marks Tryz.func6 rfl trivial ?_)
 simp only[Tryz.ntmps6,List.size_toArray,List.length_cons,List.length_nil,Nat.reduceAdd,Nat.reduceSub,Array.replicate_succ,Array.replicate_zero,List.push_toArray,List.append_toArray,List.nil_append,List.cons_append]
 gi_wp2
 refine⟨rfl,(bW none (k10 _ (hW.trans (((Below.refl _ W).alloc (Nat.le_refl _) _).mono hW.size)))).mono ?_⟩
 rintro e W1 ⟨rfl,hb1⟩
 obtain⟨hP,hB1⟩:=box1 W _ hb1
 clear hb1
 dsimp only
 gi_wp2
 refine⟨rfl,(bW none (k12 _ (hW.trans (hB1.mono hW.size)))).mono ?_⟩
 rintro e W2 ⟨rfl,hb2⟩
 dsimp only
 gi_wp2
 show LeavesInM (FW none) 0 Tryz.prog Tryz.f6 _ _ [] .returning W2
 exact⟨_,results_tmp rfl _ _ _,rfl,hB1.trans (hb2.mono hB1.size)⟩
structure acM (w:World) (b:V3) (f:List Sh) (i:Nat) (v:Value) (wr:World):Prop where
 le:i≤f.length
 below:Below w.heap.size w wr
 hb:wr.heap[w.heap.size]?=some (.cells #[.int .i64 b.x,.int .i64 b.y,.int .i64 b.z] 43 (0,0))
 row:Y1 wr (w.heap.size+1) v (f.take i)
def aeu (w:World) (b:V3) (ao:Option Addr) (cap:Nat) (f:List Sh) (a:Act) (wr:World):Prop :=
 ∃ (i:Nat) (v:Value),(a.tmps.size=110∧a.defers=[]∧a.tmps.getD 0 undef=.slice ao f.length cap∧a.tmps.getD 3 undef=.pointer (some ⟨w.heap.size,0,none⟩)∧a.tmps.getD 5 undef=v∧a.tmps.getD 18 undef=.slice ao f.length cap∧a.tmps.getD 19 undef=.int .i64 f.length∧a.tmps.getD 20 undef=.int .i64 i)∧acM w b f i v wr
structure At6 (vf vo vm:Value) (n:Nat) (a:Act):Prop where
 size:a.tmps.size=110
 defers:a.defers=[]
 t0:a.tmps.getD 0 undef=vf
 t5:a.tmps.getD 5 undef=vo
 t8:a.tmps.getD 8 undef=vm
 t77:a.tmps.getD 77 undef=.int .i64 n
def ajj (vf vo vm:Value) (n:Nat) (Φ:World→Prop) (a:Act) (wr:World):Prop:=∃ k:Nat,At6 vf vo vm n a∧a.tmps.getD 78 undef=.int .i64 k∧k≤n∧Φ wr
def ajk (vf vo vm:Value) (n k m:Nat) (Φ:World→Prop) (a:Act) (wr:World):Prop:=∃ j:Nat,At6 vf vo vm n a∧a.tmps.getD 78 undef=.int .i64 k∧a.tmps.getD 12 undef=.int .i64 k∧a.tmps.getD 86 undef=.int .i64 m∧a.tmps.getD 87 undef=.int .i64 j∧j≤m∧Φ wr
set_option maxRecDepth 100000 in
set_option maxHeartbeats 8000000 in
theorem Xe {w : World} {f : List Sh} {ao : Option Addr} {cap : Nat} {b : V3} (hvf : VR w (LT w) (.list true kS (dh f)) (.slice ao f.length cap)) (hf : f.length ≤ 60) (hs : ∀ s ∈ f,s.c.length ≤ 1000) (hg : (qK f b).1.length ≤ 60) (hgs : ∀ s ∈ (qK f b).1,s.c.length ≤ 1000)
    (k10:tJ w 10 #[.slice ao f.length cap] true) (k12:tJ w 12 #[] true) (k14:tJ w 14 #[.slice ao f.length cap] (uV f)) (k23:tJ w 23 #[vV b] (oM 16777216 b)) (k22:Y7 w f b) (k21:Pn w f) (ajl:Pn w (qK f b).1)
    (k24:uV f=true→oM 16777216 b=true→acL w f (.slice ao f.length cap) b) (R:Ending→World→Prop) (hR:∀ W,Below w.heap.size w W→R (.returned (.bool true)) W):Calls Tryz.prog 6 #[.slice ao f.length cap,vV b] w R:=by
  have h10:(FW none).fn 10:=trivial
  have h12:(FW none).fn 12:=trivial
  have h14:(FW none).fn 14:=trivial
  have h23:(FW none).fn 23:=trivial
  have h22:(FW none).fn 22:=trivial
  have h21:(FW none).fn 21:=trivial
  have h24:(FW none).fn 24:=trivial
  refine mM (rd:=none) (n:=0) (callsIn_of_wp_marks Tryz.func6 rfl trivial ?_)
  simp only[Tryz.ntmps6,List.size_toArray,List.length_cons,List.length_nil,Nat.reduceAdd,Nat.reduceSub,Array.replicate_succ,Array.replicate_zero,List.push_toArray,List.append_toArray,List.nil_append,List.cons_append]
  gi_wp2
  refine⟨rfl,(bW none (k10 _ ((Below.refl _ w).alloc (Nat.le_refl _) _))).mono ?_⟩
  rintro e W1 ⟨rfl,hb1⟩
  obtain⟨hP,hB1⟩:=box1 w _ hb1
  have H0:Hid (acM w b f 0 (.slice none 0 0) W1):=⟨Nat.zero_le _,hB1,hP,nN.nil _ _ _⟩
  clear hb1 hP hB1
  dsimp only
  gi_wp2
  refine wpIn_loop (aeu w b ao cap f) (fun a _=>f.length-(intOf (a.tmps.getD 20 undef)).toNat) ?_ ?_
  · exact⟨0,_,⟨rfl,rfl,rfl,rfl,rfl,rfl,rfl,rfl⟩,H0.out⟩
  clear H0
  rintro a wr ⟨i,v,⟨e1,e2,e3,e4,e5,e6,e7,e8⟩,hI⟩
  have HI:Hid (acM w b f i v wr):=hI
  obtain⟨u,hu,rfl⟩:=EK a e1 e2
  rw[hu]at e3 e4 e5 e6 e7 e8
  rw[Y6]
  simp only[List.map_cons,List.map_nil,e3,e4,e5,e6,e7,e8]
  clear e1 e2 e3 e4 e5 e6 e7 e8 hu hI
  by_cases hi:i<f.length
  · obtain⟨bf,of,sv,rfl,hbf,aep,hsv,y0,y1,y2,y3,y4,y5⟩:=Hw hvf hi
    obtain⟨asv,Hy,rfl⟩:=yQ hsv
    rw[aQ]at *
    have up:∀ k x,w.cell? ⟨bf,k,none⟩=some x→wr.cell? ⟨bf,k,none⟩=some x:=fun k x h=>(HI.out.below.cell (p:=⟨bf,k,none⟩) hbf).trans h
    replace y0:=up _ _ y0
    replace y1:=up _ _ y1
    replace y2:=up _ _ y2
    replace y3:=up _ _ y3
    replace y4:=up _ _ y4
    replace y5:=up _ _ y5
    rw[Nat.add_zero]at y0
    clear up
    have hsh:=hs _ (qV hi)
    have hS:w.heap.size+1≤wr.heap.size:=(Array.getElem?_eq_some_iff.1 HI.out.hb).1
    obtain⟨cv,W2,hrun,hcv,hg2⟩:=Y5 (W:=wr.alloc (Obj.cells #[Value.int IntKind.i64 (sat f i).k,Value.slice asv (sat f i).c.length Hy,Value.int IntKind.i64 (sat f i).m,Value.int IntKind.i64 (sat f i).r,Value.int IntKind.i64 (sat f i).s,Value.int IntKind.i64 (sat f i).p] 47)) (M:=LT w) (ty:=26) (B:=wr.heap.size+1) (l:=(sat f i).c) (c:=.slice asv (sat f i).c.length Hy)
     (hsv.mono fun b hb=>⟨hb,(Below.heap_alloc _ _ _ (Nat.lt_of_lt_of_le hb HI.out.below.size)).trans (HI.out.below.block b hb)⟩) (by omega) (by simp)
    obtain⟨FQ,gK,rfl⟩:=Gg hcv
    have hS2:W2.heap[wr.heap.size]?=some (.cells #[.int .i64 (sat f i).k,.slice asv (sat f i).c.length Hy,.int .i64 (sat f i).m,.int .i64 (sat f i).r,.int .i64 (sat f i).s,.int .i64 (sat f i).p] 47 (0,0)):=(hg2.block _ (by simp) (fun e=>by cases e)).trans (World.alloc_heap_new wr _)
    have hB2:Below wr.heap.size wr W2:=((Below.refl _ wr).alloc (Nat.le_refl _) _).grown hg2 (by simp) (fun k e=>by cases e)
    have q0:W2.cell? ⟨wr.heap.size,0,none⟩=some (.int .i64 (sat f i).k):=by simp[World.cell?,hS2]
    have q1:W2.cell? ⟨wr.heap.size,1,none⟩=some (.slice asv (sat f i).c.length Hy):=by simp[World.cell?,hS2]
    have q2:W2.cell? ⟨wr.heap.size,2,none⟩=some (.int .i64 (sat f i).m):=by simp[World.cell?,hS2]
    have q3:W2.cell? ⟨wr.heap.size,3,none⟩=some (.int .i64 (sat f i).r):=by simp[World.cell?,hS2]
    have q4:W2.cell? ⟨wr.heap.size,4,none⟩=some (.int .i64 (sat f i).s):=by simp[World.cell?,hS2]
    have q5:W2.cell? ⟨wr.heap.size,5,none⟩=some (.int .i64 (sat f i).p):=by simp[World.cell?,hS2]
    have qf:W2.frozen? ⟨wr.heap.size,1,none⟩=false:=by simp[World.frozen?,hS2]
    have hg3:W2.grownBy (W2.setCell ⟨wr.heap.size,1,none⟩ (.slice FQ (sat f i).c.length gK)) (some wr.heap.size):=grown_setCell _ _ _ _
    have hB3:Below wr.heap.size wr (W2.setCell ⟨wr.heap.size,1,none⟩ (.slice FQ (sat f i).c.length gK)):=hB2.grown hg3 hB2.size (fun k e=>by cases e;exact Nat.le_refl _)
    have ajm:=hcv.kept hg3 (ownsRow_ne_a hcv hS2 (fun cur e=>by have:=(Obj.cells.inj e).2.1;exact absurd this (by decide)))
    obtain⟨vs,hrow0,hvl,hvp⟩:=HI.out.row
    have hil:(f.take i).length=i:=by simp;omega
    rw[hil]at hrow0 hvl
    have hrow:=xZ hrow0 hB3
    have aev:∀ (k:Nat) s u,(f.take i)[k]?=some s→vs[k]?=some u→(W2.setCell ⟨wr.heap.size,1,none⟩ (.slice FQ (sat f i).c.length gK)).ownsRow (w.heap.size+1) 43 3 u s.c.length (cells s.c)∧∀ k,u.ownBlock=some k→k<wr.heap.size:=fun k s u h1 h2=>⟨xZ (hvp k s u h1 h2).1 hB3,(hvp k s u h1 h2).2⟩
    have hbw:=HI.out.below.trans (hB3.mono HI.out.below.size)
    have hbb:=(hB3.block w.heap.size (by omega)).trans HI.out.hb
    have b1 : i + 1 ≤ maxLen := by have : maxLen = 9223372036854775807 := by decide
                                   omega
    have b2:(i+1)*64≤140737488355328:=by omega
    have b3:∀ o,w.heap.size+1≤((W2.setCell ⟨wr.heap.size,1,none⟩ (.slice FQ (sat f i).c.length gK)).alloc o).heap.size:=fun o=>by have:=hB3.size;simp only[World.size_alloc];omega
    obtain⟨i0,hi0,hz0,hz1,hz2⟩:=info_parts sInfo
    have hi1:IntKind.i64.wrap ((i:Int)+1)=((i+1:Nat):Int):=by rw[wrap_eq (by omega) (by omega)];omega
    have hbn:∀ j u,(Xd (sat f i) (.slice FQ (sat f i).c.length gK))[j]?=some u→((W2.setCell ⟨wr.heap.size,1,none⟩ (.slice FQ (sat f i).c.length gK)).alloc (.cells (Xd (sat f i) (.slice FQ (sat f i).c.length gK)).toArray 47)).cell? ((⟨W2.heap.size,0,none⟩:Addr).add j)=some u:=fun j u h=>by
     have h1:=VE (W2.setCell ⟨wr.heap.size,1,none⟩ (.slice FQ (sat f i).c.length gK)) _ 47 j u h
     have h2:(W2.setCell ⟨wr.heap.size,1,none⟩ (.slice FQ (sat f i).c.length gK)).heap.size=W2.heap.size:=by simp[World.setCell]
     rw[h2]at h1
     exact h1
    have HX:Hid (W2.grownBy (W2.setCell ⟨wr.heap.size,1,none⟩ (.slice FQ (sat f i).c.length gK)) (some wr.heap.size)∧Below wr.heap.size wr W2):=⟨hg3,hB2⟩
    clear hS2 hB2 hB3 hg3 hg2 hrow0 hvp hcv
    gi_wp2_with (first
     | (gi_at_builtin;refine QU rfl _ _ 26 rfl _ _ _ rfl rfl hrun ?_;go_frame)
     | (gi_at_builtin; refine wpListIn_append_own _ rfl _ _ 23 rfl (w.heap.size + 1) 47 i0 (.agg #[.int .i64 0,.slice none 0 0,.int .i64 0,.int .i64 0,.int .i64 0,.int .i64 0]) 6 64 Tryz.underlying23 hi0 hz0 hz1 hz2 rfl (by decide) _ _ _ rfl (hrow.alloc _) ⟨W2.heap.size,0,none⟩ 1 1 (Xd (sat f i) (.slice FQ (sat f i).c.length gK)) rfl rfl hbn (by simp [Value.oneCell',Xd]) b1 b2 (b3 _) ?_; intro v' w3 hown' hg3 hnil3
        go_frame))
    refine⟨⟨i+1,v',⟨rfl,rfl,rfl,rfl,rfl,rfl,rfl,rfl⟩,?_⟩,?_⟩
    · replace hg3:((W2.setCell ⟨wr.heap.size,1,none⟩ (.slice FQ (sat f i).c.length gK)).alloc (.cells (Xd (sat f i) (.slice FQ (sat f i).c.length gK)).toArray 47)).grownBy w3 v.ownBlock:=hg3
      have VF:f.take (i+1)=f.take i++[sat f i]:=by rw[List.take_succ_eq_append_getElem hi,wM hi]
      have b3':=b3 (.cells (Xd (sat f i) (.slice FQ (sat f i).c.length gK)).toArray 47)
      have hbl:w.heap.size<(W2.setCell ⟨wr.heap.size,1,none⟩ (.slice FQ (sat f i).c.length gK)).heap.size:=(Array.getElem?_eq_some_iff.1 hbb).1
      refine⟨hi,(hbw.alloc hbw.size _).grown hg3 (by omega) (fun k e=>by have:=(hrow.lt k e).1;omega),?_,?_⟩
      · exact(hg3.block _ (by simp only[World.size_alloc];omega) (fun e=>by have:=(hrow.lt _ e.symm).1;omega)).trans ((Below.heap_alloc _ _ _ hbl).trans hbb)
      · rw[VF]
        refine uY.append (vs:=vs) (u:=.slice FQ (sat f i).c.length gK) (E:=wr.heap.size) (by rw[hil];exact hrow.alloc _) (by rw[hil];exact hvl) (fun k s u h1 h2=>⟨((aev k s u h1 h2).1).alloc _,(aev k s u h1 h2).2⟩) (by rw[hil];exact hown') hg3 ?_
        exact(own_base ajm (by omega)).alloc _
    · show f.length-((i:Int)+1).toNat<f.length-(i:Int).toNat
      omega
  · have hie:i=f.length:=by have:=HI.out.le;omega
    subst hie
    have hrow:=HI.out.row
    rw[List.take_length]at hrow
    obtain⟨y0,y1,y2⟩:=cells3 HI.out.hb
    have hbw:=HI.out.below
    have hvo:VR wr (LT wr) (.list true kS (dh f)) v:=hrow.vr (fun b _ h=>h) fun s u ⟨h,_⟩=>VD h fun b _ h=>h
    gi_wp2
    refine⟨rfl,(bW none (k22 _ _ hbw hvo)).mono ?_⟩
    rintro e W3 ⟨vm,rfl,hb3,hm⟩
    have hB3:=hbw.trans (hb3.mono hbw.size)
    have hP3:=(hb3.block w.heap.size (Array.getElem?_eq_some_iff.1 HI.out.hb).1).trans HI.out.hb
    have aew:VR W3 (LT W3) (.list true kS (dh f)) v:=hvo.mono fun b hb=>⟨Nat.lt_of_lt_of_le hb hb3.size,hb3.block b hb⟩
    have aex:VR W3 (LT W3) (.list true kS (dh f)) (.slice ao f.length cap):=hvf.mono fun b hb=>⟨Nat.lt_of_lt_of_le hb hB3.size,hB3.block b hb⟩
    obtain⟨y0,y1,y2⟩:=cells3 hP3
    obtain⟨aom,QV,rfl⟩:=nN.slice hm
    obtain⟨em,hem⟩:∃ z,(qK f b).2=z:=⟨_,rfl⟩
    rw[hem]
    dsimp only
    gi_wp2
    refine⟨rfl,(bW none (k21 _ _ _ hB3 aew aex)).mono ?_⟩
    rintro e W4 ⟨rfl,hb4⟩
    have hB4:=hB3.trans (hb4.mono hB3.size)
    have hP4:=(hb4.block w.heap.size (Array.getElem?_eq_some_iff.1 hP3).1).trans hP3
    obtain⟨y0,y1,y2⟩:=cells3 hP4
    clear hP3
    dsimp only
    gi_wp2
    refine⟨rfl,(bW none (k14 _ hB4)).mono ?_⟩
    rintro e W5 ⟨rfl,hb5⟩
    have hB5:=hB4.trans (hb5.mono hB4.size)
    have hP5:=(hb5.block w.heap.size (Array.getElem?_eq_some_iff.1 hP4).1).trans hP4
    obtain⟨y0,y1,y2⟩:=cells3 hP5
    clear hP4
    dsimp only
    have bad:uV f=false∨oM 16777216 b=false→(qK f b).1.length=0∧em=2:=fun h=>by
     rw[← hem]
     unfold qK
     rw[if_neg (by rcases h with h | h<;>simp[h])]
     exact⟨rfl,rfl⟩
    cases hfb:uV f with
    | false =>
     obtain⟨hl0,rfl⟩:=bad (.inl hfb)
     rw[hl0]
     gi_wp2
     refine⟨rfl,(bW none (k12 _ hB5)).mono ?_⟩
     rintro e W6 ⟨rfl,hb6⟩
     dsimp only
     gi_wp2
     show LeavesInM (FW none) 0 Tryz.prog Tryz.f6 _ _ [] .returning W6
     exact⟨.bool true,results_tmp (t:=4) rfl _ _ _,hR _ (hB5.trans (hb6.mono hB5.size))⟩
    | true =>
     gi_wp2
     refine⟨rfl,(bW none (k23 _ hB5)).mono ?_⟩
     rintro e W6 ⟨rfl,hb6⟩
     have hB6:=hB5.trans (hb6.mono hB5.size)
     have hP6:=(hb6.block w.heap.size (Array.getElem?_eq_some_iff.1 hP5).1).trans hP5
     obtain⟨y0,y1,y2⟩:=cells3 hP6
     clear hP5
     dsimp only
     cases hbm:oM 16777216 b with
     | false =>
      obtain⟨hl0,rfl⟩:=bad (.inr hbm)
      rw[hl0]
      gi_wp2
      refine⟨rfl,(bW none (k12 _ hB6)).mono ?_⟩
      rintro e W7 ⟨rfl,hb7⟩
      dsimp only
      gi_wp2
      show LeavesInM (FW none) 0 Tryz.prog Tryz.f6 _ _ [] .returning W7
      exact⟨.bool true,results_tmp (t:=4) rfl _ _ _,hR _ (hB6.trans (hb7.mono hB6.size))⟩
     | true =>
      have ajn:=k24 hfb hbm
      clear bad
      gi_wp2
      refine⟨rfl,(bW none (ajn _ hB6)).mono ?_⟩
      rintro e W7 ⟨vx,rfl,hvx,hb7⟩
      rw[hem]
      have hB7:=hB6.trans (hb7.mono hB6.size)
      have aaP:Below W3.heap.size W3 W7:=((hb4.trans (hb5.mono hb4.size)).trans (hb6.mono (Nat.le_trans hb4.size hb5.size))).trans (hb7.mono (Nat.le_trans (Nat.le_trans hb4.size hb5.size) hb6.size))
      have hm7:=hm.kept aaP
      have aez:VR W7 (LT W7) (.list true kS (dh (qK f b).1)) (.slice aom (qK f b).1.length QV):=hm7.vr (fun b _ h=>h) fun s u ⟨h,_⟩=>VD h fun b _ h=>h
      clear y0 y1 y2 hP6
      dsimp only
      gi_wp2
      refine⟨rfl,(bW none (ajl _ _ _ hB7 aez hvx)).mono ?_⟩
      rintro e W8 ⟨rfl,hb8⟩
      have hB8:=hB7.trans (hb8.mono hB7.size)
      have acP:Below W3.heap.size W3 W8:=aaP.trans (hb8.mono aaP.size)
      have hm8:=hm7.kept hb8
      obtain⟨g,hgg⟩:∃ g,(qK f b).1=g:=⟨_,rfl⟩
      rw[hgg]at hm8 hg hgs ⊢
      obtain⟨vs,hr8,hl8,hp8⟩:=hm8
      have hsz3:wr.heap.size≤W3.heap.size:=hb3.size
      have HW:Hid (WrI wr.heap.size W8 (.slice aom g.length QV) g vs W8):=⟨Below.refl _ _,hr8,hl8,fun i s u h1 h2=>DF.of (hp8 i s u h1 h2).1⟩
      have HV:Hid (VR W8 (LT wr) (.list true kS (dh f)) v):=hvo.mono fun b hb=>⟨hb,(acP.block b (Nat.lt_of_lt_of_le hb hsz3)).trans (hb3.block b hb)⟩
      have HB:Hid (Below w.heap.size w W8∧w.heap.size≤wr.heap.size∧wr.heap.size≤W8.heap.size):=⟨hB8,hbw.size,Nat.le_trans hsz3 acP.size⟩
      clear hm7 aez aaP acP hr8 hp8 hb3 hb4 hb5 hb6 hb7 hb8 hB3 hB4 hB5 hB6 hB7 hB8 hvx hm hvo aew aex hsz3 hbw
      have amh:=hl8
      clear hl8
      dsimp only
      gi_wp2
      refine wpIn_loop (ajj (.slice ao f.length cap) v (.slice aom g.length QV) g.length (WrI wr.heap.size W8 (.slice aom g.length QV) g vs)) (fun a _=>g.length-(intOf (a.tmps.getD 78 undef)).toNat) ?_ ?_
      · exact⟨0,⟨rfl,rfl,rfl,rfl,rfl,rfl⟩,rfl,Nat.zero_le _,HW.out⟩
      clear HW
      rintro a wl ⟨k,⟨e1,e2,e3,e4,e5,e6⟩,e7,hk,hW⟩
      have HW:Hid (WrI wr.heap.size W8 (.slice aom g.length QV) g vs wl):=hW
      obtain⟨u2,hu,rfl⟩:=EK a e1 e2
      rw[hu]at e3 e4 e5 e6 e7
      rw[Y6]
      simp only[List.map_cons,List.map_nil,e3,e4,e5,e6,e7]
      clear e1 e2 e3 e4 e5 e6 e7 hu hW
      by_cases hkn:k<g.length
      · obtain⟨q,ami,cur,eq,hqB,hqc,hq,hqs⟩:=JO HW.out.row (by omega)
        cases eq
        have hvk:vs[k]?=some (vs[k]'(by omega)):=List.getElem?_eq_getElem _
        have hgk:g[k]?=some (sat g k):=by rw[List.getElem?_eq_getElem hkn,wM hkn]
        have hcell:wl.cell? ⟨q,k*6+1,none⟩=some (vs[k]'(by omega)):=by
         rw[HW.out.row.cellAt _ (by omega),Pm g vs k 1 _ _ hgk hvk (by omega)];rfl
        obtain⟨xs,hir,_⟩:=HW.out.cor k _ _ hgk hvk
        obtain⟨au,cu,hvu⟩:=Gg hir
        have hmk:=hgs _ (qV hkn)
        have HVK:Hid (vs[k]?=some (.slice au (sat g k).c.length cu)):=by rw[← hvu];exact hvk
        rw[hvu]at hcell
        have hk1:IntKind.i64.wrap ((k:Int)+1)=((k+1:Nat):Int):=by rw[wrap_eq (by omega) (by omega)];omega
        clear hqB hqs hvk hir hvu hq
        gi_wp2
        refine wpIn_loop (ajk (.slice ao f.length cap) v (.slice (some ⟨q,0,none⟩) g.length QV) g.length k (sat g k).c.length (WrI wr.heap.size W8 (.slice (some ⟨q,0,none⟩) g.length QV) g vs)) (fun a _=>(sat g k).c.length-(intOf (a.tmps.getD 87 undef)).toNat) ?_ ?_
        · exact⟨0,⟨rfl,rfl,rfl,rfl,rfl,rfl⟩,rfl,rfl,rfl,rfl,Nat.zero_le _,HW.out⟩
        clear HW hcell
        rintro a wi ⟨j,⟨e1,e2,e3,e4,e5,e6⟩,e7,e8,e9,e10,hj,hW⟩
        have HW:Hid (WrI wr.heap.size W8 (.slice (some ⟨q,0,none⟩) g.length QV) g vs wi):=hW
        obtain⟨u3,hu,rfl⟩:=EK a e1 e2
        rw[hu]at e3 e4 e5 e6 e7 e8 e9 e10
        rw[Y6]
        simp only[List.map_cons,List.map_nil,e3,e4,e5,e6,e7,e8,e9,e10]
        clear e1 e2 e3 e4 e5 e6 e7 e8 e9 e10 hu hW
        by_cases hjm:j<(sat g k).c.length
        · have hcell : wi.cell? ⟨q,k * 6 + 1,none⟩ = some (.slice au (sat g k).c.length cu) := by
            rw[HW.out.row.cellAt _ (by omega),Pm g vs k 1 _ _ hgk HVK.out (by omega)];rfl
          obtain⟨xs,hir,hint⟩:=HW.out.cor k _ _ hgk HVK.out
          obtain⟨q2,cap2,aeo,eq2,aeB,amm,hq2,ajq⟩:=JO hir (by omega)
          cases eq2
          have hxl:j*3<xs.length:=by rw[hir.1];omega
          obtain⟨z,hz⟩:=hint _ (List.getElem_mem hxl)
          have c0:wi.cell? ⟨q2,j*3,none⟩=some (.int .i64 z):=by rw[hir.cellAt _ (by omega),List.getElem?_eq_getElem hxl,hz]
          have f0:wi.frozen? ⟨q2,j*3,none⟩=false:=hir.frozenAt _
          have hj1:IntKind.i64.wrap ((j:Int)+1)=((j+1:Nat):Int):=by rw[wrap_eq (by omega) (by omega)];omega
          have HQ:Hid (wr.heap.size≤q2∧wi.heap[q2]?=some (.cells aeo 43 (0,0))):=⟨aeB,hq2⟩
          clear hir hint aeB hq2 ajq hxl hz
          gi_wp2
          refine⟨⟨j+1,⟨rfl,rfl,rfl,rfl,rfl,rfl⟩,rfl,rfl,rfl,rfl,by omega,HW.out.store HQ.out.2 HQ.out.1⟩,?_⟩
          show (sat g k).c.length-((j:Int)+1).toNat<(sat g k).c.length-(j:Int).toNat
          omega
        · have hje:j=(sat g k).c.length:=by omega
          subst hje
          gi_wp2
          refine⟨⟨k+1,⟨rfl,rfl,rfl,rfl,rfl,rfl⟩,rfl,by omega,HW.out⟩,?_⟩
          show g.length-((k:Int)+1).toNat<g.length-(k:Int).toNat
          omega
      · have hkn':k=g.length:=by omega
        subst hkn'
        obtain⟨hB8,hz1,hz2⟩:=HB.out
        have hWb:=HW.out.below
        have hBl:Below w.heap.size w wl:=hB8.trans (hWb.mono hz1)
        have hz3:=hWb.size
        have aeC:VR wl (LT wl) (.list true kS (dh f)) v:=HV.out.mono fun b hb=>⟨Nat.lt_of_lt_of_le (show b<wr.heap.size from hb) (Nat.le_trans hz2 hz3),hWb.block b hb⟩
        have aeD:VR wl (LT wl) (.list true kS (dh f)) (.slice ao f.length cap):=hvf.mono fun b hb=>⟨Nat.lt_of_lt_of_le hb hBl.size,hBl.block b hb⟩
        have HK:Hid (Calls Tryz.prog 21 #[v,.slice ao f.length cap] wl fun e W'=>e=.returned (.bool true)∧Below wl.heap.size wl W'):=k21 wl _ _ hBl aeC aeD
        clear aeC aeD hB8 hz1 hz2 hz3 hWb
        gi_wp2
        refine⟨rfl,(bW none HK.out).mono ?_⟩
        rintro e WA ⟨rfl,hbA⟩
        dsimp only
        gi_wp2
        refine⟨rfl,(bW none (k12 _ (hBl.trans (hbA.mono hBl.size)))).mono ?_⟩
        rintro e WB ⟨rfl,hbB⟩
        dsimp only
        gi_wp2
        show LeavesInM (FW none) 0 Tryz.prog Tryz.f6 _ _ [] .returning WB
        exact⟨.bool true,results_tmp (t:=4) rfl _ _ _,hR _ ((hBl.trans (hbA.mono hBl.size)).trans (hbB.mono (Nat.le_trans hBl.size hbA.size)))⟩
end Go.Skm.Fig
