import Derived.Test.YtfmoopdnamdobaaDoorAll3
namespace Go.Skm.Prg
open Go Go.Skm Go.Proofs Go.RowKit Go.Shelf
theorem YB (args:Array Value) (w:World):(callFunc 59 args).run Tryd.prog w=.ok (.enter 59 args) w:=enters_of Tryd.func59 rfl rfl args w
theorem Yu {w0 : World} {M0 : Nat → Prop} {Bl Br Bi : Nat} {Mx : Nat → Prop} {vs : List Value} {qs ps : List (List Sg)} {gl : Option (List (Nat × Obj))} (hne : gl ≠ none) {caps : List PV} (hit : Ui Tryd.prog gl 59 caps (ps.map JU)) {A B : Code} (hA : A = uf) (hB : B = uJ)
    {a:Act} {W:World} {Q:Exit→Act→World→Prop} (ha:a.tmps.size=44) (t3:a.tmps.getD 3 undef=.pointer (some ⟨Bl,0,none⟩)) (t7:a.tmps.getD 7 undef=.pointer (some ⟨Bi,0,none⟩)) {lb:Array Value} (t24:a.tmps.getD 24 undef=.func (.func 59) #[] lb)
    {M1:Nat→Prop} (hlb:lb.size=caps.length) (hlv:∀ (i:Nat) (c:PV),caps[i]?=some c→VR W M1 c (lb.getD i undef)) (h:Held w0 M0 Bl Br Mx vs qs W) (hBi:W.heap[Bi]?=some (.cells #[.int .i64 0] 3 (0,0))) (ajs:w0.heap.size≤Bi) (ajt:¬ Mx Bi)
    (hM1:∀ b,M1 b→b<W.heap.size∧(M0 b∨w0.heap.size≤b)∧b≠Bi∧b≠Bl∧b≠Br∧∀ (j:Nat) (v:Value),vs[j]?=some v→v.ownBlock≠some b)
    (hgl:∀ p∈gl.getD [],M1 p.1∧W.heap[p.1]?=some p.2) (hn:ps.length≤qs.length) (hq:∀ q∈ps,q≠[]) (hlen:∀ j,(qs.getD j []).length+(ps.getD j []).length≤1000000) (hn2:ps.length≤1000000)
    (post:∀ (D:Nat) (W':World) (Nu:Nat→Prop) (vs':List Value),Held w0 M0 Bl Br Nu vs' (kK qs ps) W'→W'.heap[D]?=some (.deferred (some []))→W.heap.size≤D→¬ Nu D→W.heap.size≤W'.heap.size →
      (∀ b,b<W.heap.size→b≠Bi→b≠Bl→b≠Br→(∀ (j:Nat) (v:Value),vs[j]?=some v→v.ownBlock≠some b)→W'.heap[b]?=W.heap[b]?)→(∀ b,Nu b→Mx b∨M1 b∨W.heap.size≤b)→Q .normal { a with defers:=rV D::a.defers } W') :
    (Code.rangeFunc (.tmp 24) #[25,26] A B).wpIn (FW none) 0 Tryd.prog Q a W:=by
  subst hA hB
  refine wpIn_rangeFunc fun fn _=>?_
  generalize hrec:({ state:=.ready,pending:=none,fn:=fn,tmps:=a.tmps,params:=#[25,26],assign:=uf,body:=uJ,defers:=W.heap.size }:Loop)=rec
  obtain⟨W1,hW1⟩:∃ W1,(W.alloc (.deferred (some []))).alloc (.loop rec)=W1:=⟨_,rfl⟩
  have hs1:W1.heap.size=W.heap.size+2:=by rw[← hW1];simp
  have hk1:∀ b,b<W.heap.size→W1.heap[b]?=W.heap[b]?:=fun b hb=>by
   rw[← hW1];exact(Below.heap_alloc _ _ b (by simp;omega)).trans (Below.heap_alloc _ _ b hb)
  have hD1:W1.heap[W.heap.size]?=some (.deferred (some [])):=by rw[← hW1];exact(Below.heap_alloc _ _ _ (by simp)).trans (World.alloc_heap_new W _)
  have hl1:W1.heap[W.heap.size+1]?=some (.loop rec):=by
   rw[← hW1]
   have:=World.alloc_heap_new (W.alloc (.deferred (some []))) (.loop rec)
   rwa[World.size_alloc]at this
  have hgr:nN gl W W1:=by rw[← hW1];exact(nN.alloc W _).trans (nN.alloc _ _) (fun _ _ h=>h)
  have hrun:(Instr.enterLoop fn a.tmps #[25,26] uf uJ none).run Tryd.prog W=.ok (W.heap.size+1,[{ target:=.collected W.heap.size,args:=#[] }]) W1:=by
   rw[← hW1,← hrec];exact run_enterLoop_outer _ _ _ _ _
  clear hW1
  have H1:Held w0 M0 Bl Br Mx vs qs W1:=h.grow hgr.size hk1 hgr.os hgr.tape hgr.output
  have aju:Bi<W.heap.size:=(qAa.1 hBi).1
  have hown:∀ (j:Nat) (v:Value) (g:Nat),vs[j]?=some v→v.ownBlock=some g→g<W.heap.size:=fun j v g hv hg=>by
   obtain⟨q,_,hr⟩:=h.at_ hv
   exact(hr.lt g hg).2
  let O0:Nat→Prop:=fun b=>b=Bi∨b=Bl∨b=Br∨b=W.heap.size+1∨∃ (j:Nat) (v:Value),vs[j]?=some v∧v.ownBlock=some b
  let MS:Nat→Prop:=fun b=>Mx b∨M1 b
  refine⟨W.heap.size+1,[{ target:=.collected W.heap.size,args:=#[] }],W1,{ target:=.fn (.func 59) lb,args:=#[.func (.yield (W.heap.size+1)) #[] #[]] },W1,59,#[.func (.yield (W.heap.size+1)) #[] #[]]++lb,W1,hrun,?_,fun _ _=>trivial,?_,yB none,?_⟩
  · have:a.eval (.tmp 24)=.func (.func 59) #[] lb:=t24
    simp only[resolve,this]
    simp[go_sem]
  · simp only[invoke]
    exact YB _ _
  refine dJ _ ?_
  have hJ0:Mid w0 M0 Bl Br Bi (W.heap.size+1) rec W1 O0 MS qs ps (ps.map JU) O0 W1:=by
   refine⟨0,Mx,vs,Nat.zero_le _,rfl,by rw[List.take_zero,N8];exact H1,(hk1 Bi aju).trans hBi,hl1,⟨ajt,fun hm=>?_⟩,fun b=>Iff.rfl,fun b hb=>.inl hb,fun _ _ _=>rfl,Nat.le_refl _,fun b hb=>.inl (.inl hb)⟩
   have:=(h.mlt _ hm).1
   omega
  refine Calls.mono (hit W1 M1 (W.heap.size+1) lb (Mid w0 M0 Bl Br Bi (W.heap.size+1) rec W1 O0 MS qs ps) (fun _=>False) O0 (fun p hp=>⟨(hgl p hp).1,(hk1 _ (hM1 _ (hgl p hp).1).1).trans (hgl p hp).2⟩) hlb (fun i c hc=>(hlv i c hc).mono fun b hb=>⟨hb,hk1 b (hM1 b hb).1⟩) (fun b hb=>⟨by have:=(hM1 b hb).1;omega,?_⟩)
   (fun r O X X' hm g=>hm.grows g) (fun X X' hx=>hx.elim) (fun r O X hm=>hm.lt) ?_ hJ0) ?_
  · obtain⟨q1,q2,q3,q4,q5,q6⟩:=hM1 b hb
    rintro (e | e | e | e | ⟨j,v,hv,e⟩)
    · exact q3 e
    · exact q4 e
    · exact q5 e
    · omega
    · exact q6 j v hv e
  · intro us r O X M aF hm hX hM hcs hcv
    exact Xd hne hrec.symm ha t3 t7 hn hq hlen hn2 (MR:=M1) (fun b hb=>.inr hb) (fun b hb=>(hM1 b hb).2.1) (by have:=h.below.size;omega) ajs (by have:=h.below.size;omega) us r O X M aF hm hX hM hcs hcv
  · rintro e W2 ⟨⟨v,rfl⟩,⟨O,i,Nu,vs',h1,h2,h3,h4,h5,h6,h7,h8,h9,h10,h11⟩ | hf⟩
    · have hi : ps.length ≤ i := by
        have:=congrArg List.length h2
        simp at this;omega
      have hi:i=ps.length:=by omega
      subst hi
      rw[List.take_length]at h3
      have hend:=run_endLoop (P:=Tryd.prog) h5 (by rw[← hrec];simp)
      generalize hwE:W2.putObj (W.heap.size+1) _=wE at hend
      rw[show rec.pending=none by rw[← hrec]]at hend
      refine⟨none,wE,hend,?_⟩
      have ajv:∀ b,O0 b→b≠W.heap.size:=by
       rintro b (rfl | rfl | rfl | rfl | ⟨j,v,hv,e⟩)
       · omega
       · have:=h.lt;omega
       · have:=h.lt;omega
       · omega
       · have:=hown j v b hv e;omega
      have hD2:W2.heap[W.heap.size]?=some (.deferred (some [])):=(h9 _ (by omega) fun ho=>ajv _ ho rfl).trans hD1
      have hg:W2.grownBy wE (some (W.heap.size+1)):=by rw[← hwE];exact grownBy_putObj_a _ _ _
      have hkE:∀ b,b≠W.heap.size+1→wE.heap[b]?=W2.heap[b]?:=fun b hb=>by rw[← hwE];exact World.putObj_heap_other hb
      have hl2:W2.heap.size≤wE.heap.size:=hg.size
      have nl:W.heap.size+1≠Bl∧W.heap.size+1≠Br:=by have:=h.lt;omega
      refine post W.heap.size wE Nu vs' (h3.other (by have:=h.below.size;omega) h5 nl h6.2 (fun cur e=>by cases e) hg) ((hkE _ (by omega)).trans hD2) (Nat.le_refl _) (fun hm=>?_) (by omega) (fun b hb q1 q2 q3 q4=>?_) fun b hb=>?_
      · rcases h11 _ hm with (hh | hh) | hh
        · have:=(h.mlt _ hh).1;omega
        · have:=(hM1 _ hh).1;omega
        · omega
      · rw[hkE b (by omega)]
        refine(h9 b (by omega) ?_).trans (hk1 b hb)
        rintro (e | e | e | e | ⟨j,v,hv,e⟩)
        · exact q1 e
        · exact q2 e
        · exact q3 e
        · omega
        · exact q4 j v hv e
      · rcases h11 b hb with (hh | hh) | hh
        · exact .inl hh
        · exact .inr (.inl hh)
        · right;right;omega
    · exact hf.elim
end Go.Skm.Prg
