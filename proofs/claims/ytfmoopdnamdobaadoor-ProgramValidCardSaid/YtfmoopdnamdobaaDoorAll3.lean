import Derived.Test.YtfmoopdnamdobaaDoorAll2
import Derived.Test.YtfmoopdnamdobaaDoorSkmE
import Derived.RangeFuncNested
namespace Go.Skm.Prg
open Go Go.Skm Go.Proofs Go.RowKit Go.Shelf
section
variable {F:Fence} {n:Nat} {P:Program} {ops:Array Oper} {rest:List Oper} {o:Oper} {a:Act} {w w':World} {Q:Exit→Act→World→Prop}
theorem zo {v : Value} (hg : o.guard = none) (hab : o.about P w a.eval = none) (hd : ∀ c,o.op ≠ .defer c)
    (hr:(execOp a.eval o).run P w=.ok (.value v) w') (hK:wpListIn F n P ops Q rest (a.put o.dst v) w'):wpListIn F n P ops Q (o::rest) a w:=by
  refine wpListIn_plain hg fun K hK'=>?_
  unfold Oper.wpIn
  refine⟨fun f h=>(by rw[hab]at h;cases h),?_⟩
  rw[Oper.semAt_plain F _ _ hd,hr]
  exact hK' _ _ hK
theorem Q9 (hg : o.guard = none) (hab : o.about P w a.eval = none) (hd : ∀ c,o.op ≠ .defer c)
    (hr:(execOp a.eval o).run P w=.ok .skip w') (hK:wpListIn F n P ops Q rest (a.put o.dst undef) w'):wpListIn F n P ops Q (o::rest) a w:=by
  refine wpListIn_plain hg fun K hK'=>?_
  unfold Oper.wpIn
  refine⟨fun f h=>(by rw[hab]at h;cases h),?_⟩
  rw[Oper.semAt_plain F _ _ hd,hr]
  exact hK' _ _ hK
end
theorem Rf {a:Act} {d:Nat} {v:Value} (h:d<a.tmps.size):(a.put (some d) v).tmps.getD d undef=v:=by
 simp[Act.put,h]
theorem Yx {a:Act} {d t:Nat} {v:Value} (h:t≠d):(a.put (some d) v).tmps.getD t undef=a.tmps.getD t undef:=by
 simp[Act.put,qAe (Ne.symm h)]
theorem Fh {a:Act} {d:Option Nat} {v:Value}:(a.put d v).tmps.size=a.tmps.size:=by
 cases d<;>simp[Act.put]
theorem NZ : uf = .region 8 #[⟨some 8, .assign (.tmp 25), 60, "program.go:118", #[], none⟩] false := by kernel_rfl
theorem Q7 : Yw = .region 10 #[⟨some 36, .load 3 (.tmp 7), 3, "program.go:120", #[], none⟩, ⟨some 37, .binOp .add 3 (.tmp 36) (.const (.int .i64 1)) 3, 3, "program.go:120", #[⟨0, .data⟩], none⟩, ⟨none, .store 3 (.tmp 7) (.tmp 37), 0, "program.go:120", #[⟨1, .data⟩, ⟨0, .phase⟩, ⟨1, .phase⟩], none⟩] false := by kernel_rfl
theorem JW (xs:List Value) (k:Nat) (v:Value) (h:k<xs.length):dK xs.toArray k [v]=xs.toArray.setIfInBounds k v:=by
 rw[List.setIfInBounds_toArray,List.set_eq_take_append_cons_drop,if_pos h]
 simp[dK,patch]
theorem Yt:(Tryd.prog.info? 60).map (fun i=>(i.zero,i.size,i.bytes))=some (some (.slice none 0 0),1,24):=by kernel_rfl
theorem aaJ {w : World} {g k : Nat} {xs : List Value} {v : Value} (hb : w.heap[g]? = some (.cells xs.toArray 60 (0,0))) (hk : k < xs.length) (hv : v.cells = #[v]) (ho : v.oneCell' = true) :
    (Instr.storeAt 60 (.pointer (some ⟨g,k,none⟩)) v).run Tryd.prog w=.ok () (w.setCell ⟨g,k,none⟩ v):=by
  obtain⟨i0,hi,hz0,hz1,hz2⟩:=info_parts Yt
  have:=sV (P:=Tryd.prog) (t:=60) (b:=g) (o:=k) (c:=v) hi (by rw[hv,hz1];rfl) hb (.inl rfl) (by rw[hv];simp;omega) (fun u hu=>by rw[hv]at hu;simp at hu;rw[hu];exact ho)
  have e:=JW xs k v hk
  have hl:v.cells.toList=[v]:=by rw[hv]
  have e2:=setCell_eq (i:=k) (v:=v) hb
  rw[hl,e]at this
  rw[this,e2]
def kK:List (List Sg)→List (List Sg)→List (List Sg)
 | q::qs,p::ps=>(q++p)::kK qs ps
 | qs,_=>qs
theorem N8 (qs:List (List Sg)):kK qs []=qs:=by cases qs<;>rfl
theorem yA:∀ qs ps:List (List Sg),(kK qs ps).length=qs.length
 | [],[]=>rfl
 | [],_::_=>rfl
 | _::_,[]=>rfl
 | q::qs,p::ps=>by simp[kK,yA qs ps]
theorem JX:∀ (qs ps:List (List Sg)) (p:List Sg),ps.length<qs.length→kK qs (ps++[p])=(kK qs ps).set ps.length ((kK qs ps).getD ps.length []++p)
 | [],_,_,h=>by simp at h
 | q::qs,[],p,_=>by simp[kK,N8]
 | q::qs,r::ps,p,h=>by
  have:=JX qs ps p (by simpa using h)
  simp only[List.cons_append,kK,this,List.length_cons,List.set_cons_succ,List.getD_cons_succ]
theorem G5:∀ (qs ps:List (List Sg)) (i:Nat),(kK qs ps).getD i []=qs.getD i []++(if i<qs.length then ps.getD i [] else [])
 | [],[],i=>by simp[kK]
 | [],_::_,i=>by simp[kK]
 | q::qs,[],i=>by simp[kK]
 | q::qs,p::ps,0=>by simp[kK]
 | q::qs,p::ps,i+1=>by
  have:=G5 qs ps i
  simp only[kK,List.getD_cons_succ,List.length_cons,Nat.add_lt_add_iff_right]
  exact this
def JU (q:List Sg):PV:=.agg [.list true iy (eP q),.int .i64 0]
def Mid (w0:World) (M0:Nat→Prop) (Bl Br Bi l:Nat) (rec:Loop) (Wr:World) (O0 MS:Nat→Prop) (qs ps:List (List Sg)) (r:List PV) (O:Nat→Prop) (W:World):Prop :=
 ∃ (i:Nat) (Mx:Nat→Prop) (vs:List Value),i≤ps.length∧r=(ps.drop i).map JU∧Held w0 M0 Bl Br Mx vs (kK qs (ps.take i)) W∧W.heap[Bi]?=some (.cells #[.int .i64 (i:Int)] 3 (0,0))∧W.heap[l]?=some (.loop rec)∧(¬ Mx Bi∧¬ Mx l) ∧
  (∀ b,O b↔(b=Bi∨b=Bl∨b=Br∨b=l∨∃ (j:Nat) (v:Value),vs[j]?=some v∧v.ownBlock=some b))∧(∀ b,O b→O0 b∨Wr.heap.size≤b)∧(∀ b,b<Wr.heap.size→¬ O0 b→W.heap[b]?=Wr.heap[b]?)∧Wr.heap.size≤W.heap.size∧∀ b,Mx b→MS b∨Wr.heap.size≤b
section
variable {w0:World} {M0:Nat→Prop} {Bl Br Bi l:Nat} {rec:Loop} {Wr:World} {O0 MS:Nat→Prop} {qs ps:List (List Sg)}
theorem Mid.lt {r:List PV} {O:Nat→Prop} {W:World} (h:Mid w0 M0 Bl Br Bi l rec Wr O0 MS qs ps r O W):∀ b,O b→b<W.heap.size:=by
 obtain⟨i,Mx,vs,h1,h2,h3,h4,h5,h6,h7,h8,h9,h10,h11⟩:=h
 intro b hb
 rcases(h7 b).1 hb with rfl | rfl | rfl | rfl | ⟨j,v,hv,hg⟩
 · exact(qAa.1 h4).1
 · exact h3.lt.1
 · exact h3.lt.2
 · exact(qAa.1 h5).1
 · obtain⟨q,_,hr⟩:=h3.at_ hv
   exact(hr.lt b hg).2
theorem Mid.grows {gl:Option (List (Nat × Obj))} {r:List PV} {O:Nat→Prop} {W W':World} (h:Mid w0 M0 Bl Br Bi l rec Wr O0 MS qs ps r O W) (g:nN gl W W'):Mid w0 M0 Bl Br Bi l rec Wr O0 MS qs ps r O W':=by
 have hlt:=h.lt
 obtain⟨i,Mx,vs,h1,h2,h3,h4,h5,h6,h7,h8,h9,h10,h11⟩:=h
 have hk:∀ b,b<W.heap.size→W'.heap[b]?=W.heap[b]?:=fun b hb=>g.keep b hb fun h=>h
 exact⟨i,Mx,vs,h1,h2,h3.grow g.size hk g.os g.tape g.output,(hk _ (hlt Bi ((h7 _).2 (.inl rfl)))).trans h4,(hk _ (hlt l ((h7 _).2 (.inr (.inr (.inr (.inl rfl))))))).trans h5,h6,h7,h8,
  fun b hb ho=>(hk b (by omega)).trans (h9 b hb ho),by have:=g.size;omega,h11⟩
set_option maxHeartbeats 1000000 in
theorem Xd {gl : Option (List (Nat × Obj))} (hne : gl ≠ none) {fn D : Nat} {tm : Array Value} (hrec : rec = { state := .ready,pending := none,fn := fn,tmps := tm,params := #[25,26],assign := uf,body := uJ,defers := D }) (htm : tm.size = 44)
    (t3:tm.getD 3 undef=.pointer (some ⟨Bl,0,none⟩)) (t7:tm.getD 7 undef=.pointer (some ⟨Bi,0,none⟩)) (hn:ps.length≤qs.length) (hq:∀ q∈ps,q≠[]) (hlen:∀ j,(qs.getD j []).length+(ps.getD j []).length≤1000000) (hn2:ps.length≤1000000)
    {MR:Nat→Prop} (hMS:∀ b,MR b→MS b) (hMR:∀ b,MR b→M0 b∨w0.heap.size≤b) (hWr:w0.heap.size≤Wr.heap.size) (hBi:w0.heap.size≤Bi) (hl0:w0.heap.size≤l) :
    ∀ (us:List PV) (r:List PV) (O:Nat→Prop) (W:World) (M:Nat→Prop) (aF:Array Value),Mid w0 M0 Bl Br Bi l rec Wr O0 MS qs ps (.agg us::r) O W→Wr.heap.size≤W.heap.size→(∀ b,M b→b<W.heap.size∧¬ O b∧(MR b∨Wr.heap.size≤b))→aF.size=us.length→(∀ (i:Nat) (c:PV),us[i]?=some c→VR W M c (aF.getD i undef)) →
     Yy Tryd.prog gl l aF W (Mid w0 M0 Bl Br Bi l rec Wr O0 MS qs ps r) (fun _=>False) O:=by
  intro us r O W M aF hmid _ hM hcs hcv
  have Ur:=hmid.lt
  obtain⟨i,Mx,vs,h1,h2,h3,h4,h5,h6,h7,h8,h9,h10,h11⟩:=hmid
  have hi:i<ps.length:=by
   rcases Nat.lt_or_ge i ps.length with h | h
   · exact h
   · rw[List.drop_eq_nil_iff.2 h]at h2;simp at h2
  rw[qLc hi,List.map_cons,List.cons.injEq]at h2
  obtain⟨h2a,h2b⟩:=h2
  have hus:us=[.list true iy (eP ps[i]),.int .i64 0]:=by
   unfold JU at h2a;injection h2a
  subst hus
  have hc0:=hcv 0 _ rfl
  have hc1:=hcv 1 _ rfl
  obtain⟨c0,c1,rfl⟩:∃ c0 c1,aF=#[c0,c1]:=by
   have hs:aF.size=2:=hcs
   refine⟨aF[0],aF[1],?_⟩
   apply Array.ext
   · simpa using hs
   · intro j q1 q2
     have:j=0∨j=1:=by omega
     rcases this with rfl | rfl<;>rfl
  have hc0:VR W M (.list true iy (eP ps[i])) c0:=hc0
  have Yz:=(h7 Bi).2 (.inl rfl)
  have acG:=(h7 Bl).2 (.inr (.inl rfl))
  have acH:=(h7 Br).2 (.inr (.inr (.inl rfl)))
  have hOl:=(h7 l).2 (.inr (.inr (.inr (.inl rfl))))
  have aeh:Bi≠Bl:=fun e=>by
   have h:=h3.lbox
   rw[← e,h4]at h
   have:=(Obj.cells.inj (Option.some.inj h)).2.1
   exact absurd this (by decide)
  have abV:Bi≠Br:=fun e=>by
   have h:=h3.row
   rw[← e,h4]at h
   have:=(Obj.cells.inj (Option.some.inj h)).2.1
   exact absurd this (by decide)
  have aei:l≠Bl:=fun e=>by
   have h:=h3.lbox
   rw[← e,h5]at h;cases h
  have acJ:l≠Br:=fun e=>by
   have h:=h3.row
   rw[← e,h5]at h;cases h
  have acK:l≠Bi:=fun e=>by
   rw[← e,h5]at h4;cases h4
  have hvl:vs.length=qs.length:=by rw[← h3.len,yA]
  have hiv:i<vs.length:=by omega
  have hL:l<W.heap.size:=Ur l hOl
  refine⟨fn,(tm.setIfInBounds 25 c0).setIfInBounds 26 c1,uf,uJ,?_,?_⟩
  · have:=run_yield (P:=Tryd.prog) (args:=#[c0,c1]) h5 (by rw[hrec];rfl)
    rw[hrec]at this
    dsimp only at this
    rw[N9]at this
    exact this
  refine roundIn_of_wpIn trivial ?_
  have ajj:(FW none).inRound l=FW (some l):=rfl
  rw[ajj,NZ]
  refine wpIn_region_list ?_
  refine zo rfl (by simp[Oper.about]) (fun c h=>by cases h) (v:=c0) (w':=W) ?_ ?_
  · have : ({ tmps := (tm.setIfInBounds 25 c0).setIfInBounds 26 c1,defers := [] } : Act).eval (.tmp 25) = c0 := by
      show ((tm.setIfInBounds 25 c0).setIfInBounds 26 c1).getD 25 undef=c0
      rw[qAb,qAe (by decide)]
      simp[htm]
    simp only[execOp,this];rfl
  refine wpListIn_nil ?_
  refine⟨_,run_beginRound (P:=Tryd.prog) h5 (by rw[hrec]),?_⟩
  obtain⟨W1,hW1⟩:∃ W1,W.putObj l (.loop { rec with state:=.busy })=W1:=⟨_,rfl⟩
  rw[hW1]
  have hg1:W.grownBy W1 (some l):=by rw[← hW1];exact grownBy_putObj_a _ _ _
  have hs1:W1.heap.size=W.heap.size:=by rw[← hW1];exact World.putObj_size
  have hk1:∀ b,b≠l→W1.heap[b]?=W.heap[b]?:=fun b hb=>by rw[← hW1];exact World.putObj_heap_other hb
  have hL1:W1.heap[l]?=some (.loop { rec with state:=.busy }):=by rw[← hW1];exact World.putObj_heap_same hL
  have H1:Held w0 M0 Bl Br Mx vs (kK qs (ps.take i)) W1:=h3.other hl0 h5 ⟨aei,acJ⟩ h6.2 (fun cur e=>by cases e) hg1
  have H1d:Held w0 M0 Bl Br Mx vs (kK qs (ps.take i)) { W1 with drawn:=W1.drawn+1 }:=H1.grow (Nat.le_refl _) (fun _ _=>rfl) rfl rfl rfl
  clear hW1
  have hMl:∀ b,M b→b≠l:=fun b hb e=>(hM b hb).2.1 (e▸hOl)
  have hc0':VR { W1 with drawn:=W1.drawn+1 } M (.list true iy (eP ps[i])) c0:=hc0.mono (w':={ W1 with drawn:=W1.drawn+1 }) fun b hb=>⟨hb,hk1 b (hMl b hb)⟩
  have hqi:(kK qs (ps.take i)).getD i []=qs.getD i []:=by
   rw[G5]
   have:(ps.take i).getD i []=[]:=by
    rw[qLb,List.getElem?_eq_none (by rw[List.length_take];exact Nat.min_le_left _ _)];rfl
   rw[this]
   split<;>simp
  have hpi:ps.getD i []=ps[i]:=by rw[qLb,qLd hi];rfl
  have hl2:=hlen i
  rw[hpi]at hl2
  obtain⟨v',wB,k1,k2,k3,k4,k5,H2,k7⟩:=H1d.append (M:=M) hiv (hq _ (List.getElem_mem hi)) (by rw[hqi];exact hl2) hc0' (fun b hb=>by
   obtain⟨m1,m2,m3⟩:=hM b hb
   refine⟨by show b<W1.heap.size;rw[hs1];exact m1,?_,fun e=>m2 (e▸acG),fun e=>m2 (e▸acH),fun j v hv e=>m2 ((h7 b).2 (.inr (.inr (.inr (.inr ⟨j,v,hv,e⟩)))))⟩
   rcases m3 with h | h
   · exact hMR b h
   · right;omega)
  rw[hqi,← hpi]at H2
  have aej:(kK qs (ps.take i)).set i (qs.getD i []++ps.getD i [])=kK qs (ps.take (i+1)):=by
   have:=JX qs (ps.take i) ps[i] (by simp;omega)
   rw[show (ps.take i).length=i by simp;omega,hqi]at this
   rw[List.take_succ_eq_append_getElem hi,this,hpi]
  rw[aej]at H2
  have hvi:vs[i]?=some vs[i]:=qLd hiv
  have hkB:∀ b,b<W.heap.size→vs[i].ownBlock≠some b→wB.heap[b]?=W1.heap[b]?:=fun b hb h=>k4.block b (by show b<W1.heap.size;omega) fun e=>h e.symm
  have hownO:∀ b,vs[i].ownBlock=some b→O b:=fun b hb=>(h7 b).2 (.inr (.inr (.inr (.inr ⟨i,_,hvi,hb⟩))))
  have n1:vs[i].ownBlock≠some Bl:=fun e=>H1.own_ne hvi e H1.lbox (fun cur e=>by have:=(Obj.cells.inj e).2.1;exact absurd this (by decide)) rfl
  have acL:W1.heap[Bi]?=some (.cells #[.int .i64 (i:Int)] 3 (0,0)):=(hk1 Bi acK.symm).trans h4
  have n2:vs[i].ownBlock≠some Bi:=fun e=>H1.own_ne hvi e acL (fun cur e=>by have:=(Obj.cells.inj e).2.1;exact absurd this (by decide)) rfl
  have n3:vs[i].ownBlock≠some l:=fun e=>H1.own_ne hvi e hL1 (fun cur e=>by cases e) rfl
  have ajk:wB.heap[Bl]?=W1.heap[Bl]?:=hkB Bl (Ur _ acG) n1
  have aek:wB.heap[Bi]?=some (.cells #[.int .i64 (i:Int)] 3 (0,0)):=(hkB Bi (Ur _ Yz) n2).trans acL
  have hLB:wB.heap[l]?=some (.loop { rec with state:=.busy }):=(hkB l hL n3).trans hL1
  have ael:wB.heap[Br]?=some (.cells vs.toArray 60 (0,0)):=k5.trans H1.row
  have hsB:W.heap.size≤wB.heap.size:=by
   have:W1.heap.size≤wB.heap.size:=k4.size
   omega
  rw[round_eq]
  refine wpIn_block (wpIn_seq ?_)
  have ams:(((tm.setIfInBounds 25 c0).setIfInBounds 26 c1).setIfInBounds 8 c0).size=44:=by simp[htm]
  have acM:∀ t,t≠25→t≠26→t≠8→(((tm.setIfInBounds 25 c0).setIfInBounds 26 c1).setIfInBounds 8 c0).getD t undef=tm.getD t undef:=fun t q1 q2 q3=>by
   rw[qAb,qAe q3.symm,qAe q2.symm,qAe q1.symm,qAb]
  refine Un (k:=i) (n:=vs.length) (Bl:=Bl) (Bi:=Bi) (Br:=Br) (pv:=c0) (vi:=vs[i]) (v':=v') (wB:=wB) (wC:=wB.setCell ⟨Br,i,none⟩ v') hiv (by show 35<Array.size _;simp[Act.put,htm]) ?_ ?_ ?_ (cell_of_box_a H1.lbox).1 (cell_of_box_a (ajk.trans H1.lbox)).1 (cell_of_box_a acL).1 (cell_of_box_a aek).1 ?_ k1 (aaJ ael hiv k2 k3) ?_
  · exact(acM 3 (by decide) (by decide) (by decide)).trans t3
  · exact(acM 7 (by decide) (by decide) (by decide)).trans t7
  · show (((tm.setIfInBounds 25 c0).setIfInBounds 26 c1).setIfInBounds 8 c0).getD 8 undef=c0
    simp[htm]
  · simp[World.cell?,H1.row,hiv]
  intro a ha1 ha2 ha3
  have ha7:a.eval (.tmp 7)=.pointer (some ⟨Bi,0,none⟩):=(ha3 7 (by omega)).trans ((acM 7 (by decide) (by decide) (by decide)).trans t7)
  have amv:a.tmps.size=44:=ha1.trans (by simp[Act.put,htm])
  obtain⟨wC,hwC⟩:∃ wC,wB.setCell ⟨Br,i,none⟩ v'=wC:=⟨_,rfl⟩
  rw[hwC]at H2 ⊢
  have hgC:wB.grownBy wC (some Br):=by rw[← hwC];exact wH _ _ _ _
  have hsC:wC.heap.size=wB.heap.size:=by
   rw[← hwC]
   show (wB.heap.modify Br _).size=_
   rw[Array.size_modify]
  have hkC:∀ b,b<W.heap.size→b≠l→vs[i].ownBlock≠some b→b≠Br→wC.heap[b]?=W.heap[b]?:=fun b hb q0 q1 q2=>(hgC.block b (by omega) (fun e=>q2 (by cases e;rfl))).trans ((hkB b hb q1).trans (hk1 b q0))
  have acN:wC.heap[Bi]?=some (.cells #[.int .i64 (i:Int)] 3 (0,0)):=(hgC.block Bi (by have:=Ur _ Yz;omega) (fun e=>abV (by cases e;rfl))).trans aek
  have hLC:wC.heap[l]?=some (.loop { rec with state:=.busy }):=(hgC.block l (by omega) (fun e=>acJ (by cases e;rfl))).trans hLB
  clear hwC
  obtain⟨cBi,fBi⟩:=cell_of_box_a acN
  show Yw.wpIn _ _ _ _ a wC
  rw[Q7]
  refine wpIn_region_list ?_
  refine zo rfl (by simp[Oper.about]) (fun c h=>by cases h) (v:=.int .i64 (i:Int)) (w':=wC) (by simp only[execOp,ha7];simp[Instr.loadAt,go_sem,cBi]) ?_
  have ajm:(a.put (some 36) (.int .i64 (i:Int))).eval (.tmp 36)=.int .i64 (i:Int):=Rf (by omega)
  refine zo rfl (by simp[Oper.about]) (fun c h=>by cases h) (v:=.int .i64 ((i+1:Nat):Int)) (w':=wC) ?_ ?_
  · have e1:IntKind.i64.wrap ((i:Int)+1)=((i+1:Nat):Int):=bW i (by omega)
    simp only[execOp,ajm]
    simp[go_sem,e1]
  have ajn:((a.put (some 36) (.int .i64 (i:Int))).put (some 37) (.int .i64 ((i+1:Nat):Int))).eval (.tmp 37)=.int .i64 ((i+1:Nat):Int):=Rf (by rw[Fh];omega)
  have ajo:((a.put (some 36) (.int .i64 (i:Int))).put (some 37) (.int .i64 ((i+1:Nat):Int))).eval (.tmp 7)=.pointer (some ⟨Bi,0,none⟩):=(Yx (by decide)).trans ((Yx (by decide)).trans ha7)
  refine Q9 rfl (by simp[Oper.about]) (fun c h=>by cases h) (w':=wC.setCell ⟨Bi,0,none⟩ (.int .i64 ((i+1:Nat):Int))) (by simp only[execOp,ajn,ajo];simp[Instr.storeAt,go_sem,cBi,fBi]) ?_
  refine wpListIn_nil ?_
  obtain⟨wD,hwD⟩:∃ wD,wC.setCell ⟨Bi,0,none⟩ (.int .i64 ((i+1:Nat):Int))=wD:=⟨_,rfl⟩
  rw[hwD]
  have hgD:wC.grownBy wD (some Bi):=by rw[← hwD];exact grownBy_setCell0_a _ _ _
  have aem:wD.heap[Bi]?=some (.cells #[.int .i64 ((i+1:Nat):Int)] 3 (0,0)):=by rw[← hwD];exact heap_setCell_box_a _ acN
  have hsD:wD.heap.size=wC.heap.size:=by
   rw[← hwD]
   show (wC.heap.modify Bi _).size=_
   rw[Array.size_modify]
  have hLD:wD.heap[l]?=some (.loop { rec with state:=.busy }):=(hgD.block l (by omega) (fun e=>acK (by cases e;rfl))).trans hLC
  have mBi:¬ (Mx Bi∨M Bi):=fun h=>h.elim h6.1 fun h=>(hM Bi h).2.1 Yz
  have ml:¬ (Mx l∨M l):=fun h=>h.elim h6.2 fun h=>(hM l h).2.1 hOl
  have H3:Held w0 M0 Bl Br (fun b=>Mx b∨M b) (vs.set i v') (kK qs (ps.take (i+1))) wD:=H2.other hBi acN ⟨aeh,abV⟩ mBi (fun cur e=>by have:=(Obj.cells.inj e).2.1;exact absurd this (by decide)) hgD
  clear hwD
  have hend:=run_endRound (P:=Tryd.prog) none hLD
  have acO:({ ({ rec with state:=.busy }:Loop) with state:=if(none:Option Code).isNone then .ready else .done,pending:=none }:Loop)=rec:=by rw[hrec];rfl
  rw[acO]at hend
  refine⟨_,_,hend,?_⟩
  obtain⟨wE,hwE⟩:∃ wE,wD.putObj l (.loop rec)=wE:=⟨_,rfl⟩
  rw[hwE]
  have hgE:wD.grownBy wE (some l):=by rw[← hwE];exact grownBy_putObj_a _ _ _
  have hsE:wE.heap.size=wD.heap.size:=by rw[← hwE];exact World.putObj_size
  have hLE:wE.heap[l]?=some (.loop rec):=by rw[← hwE];exact World.putObj_heap_same (qAa.1 hLD).1
  have ajr:wE.heap[Bi]?=some (.cells #[.int .i64 ((i+1:Nat):Int)] 3 (0,0)):=(hgE.block Bi (qAa.1 aem).1 (fun e=>acK (by cases e;rfl))).trans aem
  have H4:Held w0 M0 Bl Br (fun b=>Mx b∨M b) (vs.set i v') (kK qs (ps.take (i+1))) wE:=H3.other hl0 hLD ⟨aei,acJ⟩ ml (fun cur e=>by cases e) hgE
  have hkE:∀ b,b<W.heap.size→¬ O b→wE.heap[b]?=W.heap[b]?:=fun b hb ho=>by
   have q1:b≠l:=fun e=>ho (e▸hOl)
   have q2:b≠Bi:=fun e=>ho (e▸Yz)
   have q3:b≠Br:=fun e=>ho (e▸acH)
   have q4:vs[i].ownBlock≠some b:=fun e=>ho (hownO b e)
   exact(hgE.block b (by omega) (fun e=>q1 (by cases e;rfl))).trans ((hgD.block b (by omega) (fun e=>q2 (by cases e;rfl))).trans (hkC b hb q1 q4 q3))
  have YA:∀ b,(b=Bi∨b=Bl∨b=Br∨b=l∨∃ (j:Nat) (v:Value),(vs.set i v')[j]?=some v∧v.ownBlock=some b)→O b∨W.heap.size≤b:=by
   intro b hb
   rcases hb with rfl | rfl | rfl | rfl | ⟨j,v,hv,hg⟩
   · exact .inl Yz
   · exact .inl acG
   · exact .inl acH
   · exact .inl hOl
   · by_cases e:j=i
     · subst e
       rw[List.getElem?_set_self hiv]at hv
       cases hv
       rcases k7 b hg with e | e
       · exact .inl (hownO b e)
       · right
         have:W1.heap.size≤b:=e
         omega
     · rw[List.getElem?_set_ne (Ne.symm e)]at hv
       exact .inl ((h7 b).2 (.inr (.inr (.inr (.inr ⟨j,v,hv,hg⟩)))))
  have aeo:Turns gl O W wE:=by
   have hb4:=H4.below
   refine⟨by omega,hkE,?_,?_,?_,fun e=>absurd e hne⟩
   · exact hb4.os.trans h3.below.os.symm
   · exact hb4.tape.trans h3.below.tape.symm
   · exact hb4.output.trans h3.below.output.symm
  refine⟨aeo,.inl ⟨rfl,fun b=>b=Bi∨b=Bl∨b=Br∨b=l∨∃ (j:Nat) (v:Value),(vs.set i v')[j]?=some v∧v.ownBlock=some b,⟨i+1,fun b=>Mx b∨M b,vs.set i v',by omega,h2b,H4,ajr,hLE,⟨mBi,ml⟩,fun b=>Iff.rfl,fun b hb=>?_,fun b hb ho=>?_,by omega,fun b hb=>?_⟩,YA⟩⟩
  · rcases YA b hb with h | h
    · exact h8 b h
    · right;omega
  · have hno : ¬ O b := fun h => by
      rcases h8 b h with h | h
      · exact ho h
      · omega
    exact(hkE b (by omega) hno).trans (h9 b hb ho)
  · rcases hb with hb | hb
    · exact h11 b hb
    · exact(hM b hb).2.2.imp (hMS b) id
end
end Go.Skm.Prg
