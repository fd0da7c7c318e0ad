import Derived.Test.YtfmoopdnamdobaaDoorAll1
import Derived.Test.YtfmoopdnamdobaaDoorP10
import Derived.Test.YtfmoopdnamdobaaDoorSkmI
import Derived.Shelf.SlIter.Collect
import Derived.Maps.AppendAt
namespace Go.Skm.Prg
open Go Go.Skm Go.Proofs Go.RowKit Go.Shelf
theorem aaH:(Tryd.prog.info? 76).map (fun i=>(i.zero,i.size,i.bytes))=some (some (.agg #[.int .i64 0,.int .i64 0,.int .i64 0,.slice none 0 0,.slice none 0 0,.slice none 0 0]),6,96):=by kernel_rfl
theorem aef:Tryd.prog.underlying 60=some (.slice 76):=by kernel_rfl
def yu (q:List Sg):List PV:=q.flatMap fun s=>(eS s).cells
theorem N7 (q:List Sg):(yu q).length=q.length*6:=by
 induction q with
 | nil=>rfl
 | cons s r ih =>
  show ((eS s).cells++yu r).length=_
  rw[List.length_append,ih,List.length_cons]
  show 6+_=_
  omega
theorem PN (a b:List Sg):yu (a++b)=yu a++yu b:=by simp[yu]
theorem GY:∀ (q:List Sg) (i j:Nat),j<6→(hi:i<q.length)→(yu q)[i*6+j]?=(eS q[i]).cells[j]?
 | [],i,j,_,hi=>by simp at hi
 | s::r,0,j,hj,hi=>by
  show ((eS s).cells++yu r)[0*6+j]?=_
  rw[List.getElem?_append_left (by show 0*6+j<6;omega)]
  simp
 | s::r,i+1,j,hj,hi=>by
  show ((eS s).cells++yu r)[(i+1)*6+j]?=_
  rw[List.getElem?_append_right (by show 6≤(i+1)*6+j;omega)]
  have:(i+1)*6+j-(eS s).cells.length=i*6+j:=by show (i+1)*6+j-6=_;omega
  rw[this,GY r i j hj (by simpa using hi)]
  rfl
theorem Uo {q:List Sg} {c:PV} (h:c∈yu q):c.leaf=true:=by
 obtain⟨s,_,hs⟩:=List.mem_flatMap.1 h
 simp only[eS,PV.cells,List.mem_cons,List.not_mem_nil,or_false]at hs
 rcases hs with rfl | rfl | rfl | rfl | rfl | rfl<;>rfl
def zn (W:World) (M:Nat→Prop) (ps:List PV) (cs:List Value):Prop:=cs.length=ps.length∧∀ (t:Nat) (c:PV) (v:Value),ps[t]?=some c→cs[t]?=some v→VR W M c v
theorem zn.mono {W W':World} {M M':Nat→Prop} {ps:List PV} {cs:List Value} (h:zn W M ps cs) (hM:∀ b,M b→M' b∧W'.heap[b]?=W.heap[b]?):zn W' M' ps cs :=
 ⟨h.1,fun t c v h1 h2=>(h.2 t c v h1 h2).mono hM⟩
theorem zn.append {W:World} {M:Nat→Prop} {p1 p2:List PV} {c1 c2:List Value} (h:zn W M p1 c1) (k:zn W M p2 c2):zn W M (p1++p2) (c1++c2):=by
 refine⟨by rw[List.length_append,List.length_append,h.1,k.1],fun t c v h1 h2=>?_⟩
 by_cases ht:t<p1.length
 · rw[List.getElem?_append_left ht]at h1
   rw[List.getElem?_append_left (by rw[h.1];exact ht)]at h2
   exact h.2 t c v h1 h2
 · rw[List.getElem?_append_right (by omega)]at h1
   rw[List.getElem?_append_right (by rw[h.1];omega),h.1]at h2
   exact k.2 _ c v h1 h2
def PO (W:World) (M:Nat→Prop) (B:Nat) (v:Value) (q:List Sg):Prop:=∃ cs,W.ownsRow B 76 6 v q.length cs∧zn W M (yu q) cs
theorem PO.lt {W:World} {M:Nat→Prop} {B:Nat} {v:Value} {q:List Sg} (h:PO W M B v q):∀ g,v.ownBlock=some g→B≤g∧g<W.heap.size:=by
 obtain⟨cs,ho,_⟩:=h
 exact ho.lt
theorem PO.mono {W W':World} {M M':Nat→Prop} {B:Nat} {v:Value} {q:List Sg} (h:PO W M B v q) (hM:∀ b,M b→M' b∧W'.heap[b]?=W.heap[b]?) (hg:∀ g,v.ownBlock=some g→W'.heap[g]?=W.heap[g]?):PO W' M' B v q:=by
 obtain⟨cs,ho,hc⟩:=h
 refine⟨cs,⟨ho.1,?_⟩,hc.mono hM⟩
 rcases ho.2 with h | ⟨g,cap,c,rfl,h1,h2,h3⟩
 · exact .inl h
 · exact .inr ⟨g,cap,c,rfl,h1,(hg g rfl).trans h2,h3⟩
structure Held (w0:World) (M0:Nat→Prop) (Bl Br:Nat) (Mx:Nat→Prop) (vs:List Value) (qs:List (List Sg)) (W:World):Prop where
 lbox:W.heap[Bl]?=some (.cells #[.slice (some ⟨Br,0,none⟩) vs.length vs.length] 63 (0,0))
 row:W.heap[Br]?=some (.cells vs.toArray 60 (0,0))
 len:qs.length=vs.length
 rows:∀ (j:Nat) (v:Value) (q:List Sg),vs[j]?=some v→qs[j]?=some q→PO W Mx w0.heap.size v q
 apart:∀ (j k:Nat) (v u:Value) (g:Nat),vs[j]?=some v→vs[k]?=some u→v.ownBlock=some g→u.ownBlock=some g→j=k
 below:Below w0.heap.size w0 W
 mlt:∀ b,Mx b→b<W.heap.size∧(M0 b∨w0.heap.size≤b)
 aaI:∀ (j:Nat) (v:Value) (g:Nat),vs[j]?=some v→v.ownBlock=some g→¬ Mx g
 mB:¬ Mx Bl∧¬ Mx Br
 base:w0.heap.size≤Bl∧w0.heap.size≤Br
section
variable {w0:World} {M0:Nat→Prop} {Bl Br:Nat} {Mx:Nat→Prop} {vs:List Value} {qs:List (List Sg)} {W W':World}
theorem Held.at_ (h:Held w0 M0 Bl Br Mx vs qs W) {j:Nat} {v:Value} (hv:vs[j]?=some v):∃ q,qs[j]?=some q∧PO W Mx w0.heap.size v q:=by
 have hj:=(qLa.1 hv).1
 have hq:qs[j]?=some (qs[j]'(by rw[h.len];exact hj)):=qLd _
 exact⟨_,hq,h.rows j v _ hv hq⟩
theorem Held.own_ne (h:Held w0 M0 Bl Br Mx vs qs W) {j:Nat} {v:Value} {g:Nat} (hv:vs[j]?=some v) (hg:v.ownBlock=some g) {b:Nat} {o:Obj} (hb:W.heap[b]?=some o) (ho:∀ cur,o≠.cells cur 76 (0,0)):g≠b:=by
 obtain⟨q,_,cs,hr,_⟩:=h.at_ hv
 rcases ownsRow_ne_a hr hb ho with e | e
 · rw[hg]at e;cases e
 · rw[hg]at e;exact fun e'=>e (by rw[e'])
theorem Held.keep (h:Held w0 M0 Bl Br Mx vs qs W) (hb:Below w0.heap.size w0 W') (hs:W.heap.size≤W'.heap.size) (k1:W'.heap[Bl]?=W.heap[Bl]?) (k2:W'.heap[Br]?=W.heap[Br]?) (k3:∀ b,Mx b→W'.heap[b]?=W.heap[b]?) (k4:∀ (j:Nat) (v:Value) (g:Nat),vs[j]?=some v→v.ownBlock=some g→W'.heap[g]?=W.heap[g]?):Held w0 M0 Bl Br Mx vs qs W' :=
 ⟨k1.trans h.lbox,k2.trans h.row,h.len,fun j v q hv hq=>(h.rows j v q hv hq).mono (fun b hb=>⟨hb,k3 b hb⟩) (fun g hg=>k4 j v g hv hg),h.apart,hb,fun b hb=>⟨Nat.lt_of_lt_of_le (h.mlt b hb).1 hs,(h.mlt b hb).2⟩,h.aaI,h.mB,h.base⟩
theorem Held.lt (h:Held w0 M0 Bl Br Mx vs qs W):Bl<W.heap.size∧Br<W.heap.size:=⟨(qAa.1 h.lbox).1,(qAa.1 h.row).1⟩
theorem Held.ne (h:Held w0 M0 Bl Br Mx vs qs W):Bl≠Br:=fun e=>by
 have h1:=h.lbox
 rw[e,h.row]at h1
 have:=(Obj.cells.inj (Option.some.inj h1)).2.1
 exact absurd this (by decide)
theorem Held.grow (h:Held w0 M0 Bl Br Mx vs qs W) (hs:W.heap.size≤W'.heap.size) (hk:∀ b,b<W.heap.size→W'.heap[b]?=W.heap[b]?) (h1:W'.os=W.os) (h2:W'.tape=W.tape) (h3:W'.output=W.output):Held w0 M0 Bl Br Mx vs qs W':=by
 have hsz:=h.below.size
 refine h.keep ⟨h1.trans h.below.os,h2.trans h.below.tape,h3.trans h.below.output,Nat.le_trans hsz hs,fun b hb=>(hk b (by omega)).trans (h.below.block b hb)⟩ hs (hk _ h.lt.1) (hk _ h.lt.2) (fun b hb=>hk b (h.mlt b hb).1) fun j v g hv hg=>?_
 obtain⟨q,_,hr⟩:=h.at_ hv
 exact hk g (hr.lt g hg).2
theorem Held.other (h:Held w0 M0 Bl Br Mx vs qs W) {b:Nat} (hb0:w0.heap.size≤b) {o:Obj} (hb:W.heap[b]?=some o) (hn:b≠Bl∧b≠Br) (hm:¬ Mx b) (ho:∀ cur,o≠.cells cur 76 (0,0)) (hg:W.grownBy W' (some b)):Held w0 M0 Bl Br Mx vs qs W':=by
 have hk:∀ c,c<W.heap.size→c≠b→W'.heap[c]?=W.heap[c]?:=fun c hc hne=>hg.block c hc (fun e=>hne (by cases e;rfl))
 refine h.keep (h.below.grown hg h.below.size fun k e=>by cases e;exact hb0) hg.size (hk _ h.lt.1 hn.1.symm) (hk _ h.lt.2 hn.2.symm) (fun c hc=>hk c (h.mlt c hc).1 fun e=>hm (e▸hc)) fun j v g hv hg'=>?_
 obtain⟨q,_,hr⟩:=h.at_ hv
 exact hk g (hr.lt g hg').2 (h.own_ne hv hg' hb ho)
end
theorem setRow {w:World} {g k:Nat} {xs:List Value} {e:TypeId} (v:Value) (hb:w.heap[g]?=some (.cells xs.toArray e (0,0))):(w.setCell ⟨g,k,none⟩ v).heap[g]?=some (.cells (xs.set k v).toArray e (0,0)):=by
 obtain⟨hlt,hk⟩:=qAa.1 hb
 show (w.heap.modify g _)[g]?=_
 rw[qAd (by rw[Array.size_modify];exact hlt),Array.getElem_modify_self,hk]
 simp
theorem wH (W:World) (b k:Nat) (v:Value):W.grownBy (W.setCell ⟨b,k,none⟩ v) (some b) :=
 ⟨rfl,rfl,rfl,(KeepsWalks.setCell W _ v).size,fun j _ hk=>Below.heap_setCell _ _ _ j (fun e=>hk (by rw[e]))⟩
set_option maxHeartbeats 1000000 in
theorem Held.append {w0 : World} {M0 : Nat → Prop} {Bl Br : Nat} {Mx M : Nat → Prop} {vs : List Value} {qs : List (List Sg)} {W : World} (h : Held w0 M0 Bl Br Mx vs qs W) {k : Nat} (hk : k < vs.length) {q : List Sg} (hq : q ≠ []) (hql : (qs.getD k []).length + q.length ≤ 1000000) {pv : Value} (hv : VR W M (.list true iy (eP q)) pv)
    (hM:∀ b,M b→b<W.heap.size∧(M0 b∨w0.heap.size≤b)∧b≠Bl∧b≠Br∧∀ (j:Nat) (v:Value),vs[j]?=some v→v.ownBlock≠some b) :
    ∃ v' wB,(Builtin.append_ #[60,60] 60 #[vs[k],pv]).run Tryd.prog W=.ok v' wB∧v'.cells=#[v']∧v'.oneCell'=true∧W.grownBy wB vs[k].ownBlock∧wB.heap[Br]?=W.heap[Br]?∧Held w0 M0 Bl Br (fun b=>Mx b∨M b) (vs.set k v') (qs.set k (qs.getD k []++q)) (wB.setCell ⟨Br,k,none⟩ v') ∧
     (∀ g,v'.ownBlock=some g→vs[k].ownBlock=some g∨W.heap.size≤g):=by
  have hvk:vs[k]?=some vs[k]:=qLd hk
  have hqk:qs[k]?=some (qs.getD k []):=by rw[qLb,qLd (by rw[h.len];exact hk)];rfl
  obtain⟨cs,hown,hcv⟩:=h.rows k _ _ hvk hqk
  obtain⟨i0,hi,hz0,hz1,hz2⟩:=info_parts aaH
  obtain⟨s0,r0,hs0⟩:=List.exists_cons_of_ne_nil hq
  generalize hxs:eP q=xs at hv
  cases hv with
  | kZ _ _ base cap=>rw[hs0]at hxs;simp[eP]at hxs
  | list _ _ _ b o cap f hMb hcap hc Nq hs =>
  subst hxs
  have h6:iy.length=6:=rfl
  have hcell:∀ (t:Nat) (u:Value),(rowOf f q.length 6)[t]?=some u→W.cell? ((⟨b,o,none⟩:Addr).add t)=some u∧∃ c,(yu q)[t]?=some c∧VR W M c u:=fun t u hu=>by
   have ht:t<q.length*6:=by rw[← yw f];exact(qLa.1 hu).1
   obtain⟨h1,h2,h3⟩:=GZ ht (by decide)
   have hx:(eP q)[t / 6]?=some (eS q[t / 6]):=by rw[eP,List.getElem?_map,qLd h1];rfl
   have hj:t%6<(eS q[t / 6]).cells.length:=h2
   have hcc:=hc _ _ _ _ hx (qLd hj)
   have hvv:=Nq _ _ _ _ hx (qLd hj)
   have h4:=yx (f:=f) h1 h2
   rw[h3]at h4
   rw[h4]at hu
   cases hu
   have hf:=GY q (t / 6) (t%6) h2 h1
   rw[h3,qLd hj]at hf
   rw[h6,Nat.add_assoc,h3]at hcc
   exact⟨by rw[Addr.add_lit];exact hcc,_,hf,hvv⟩
  have hsz:=h.below.size
  have hlen:(rowOf f q.length 6).length=q.length*6:=yw _ _ _
  have hel:(eP q).length=q.length:=jw q
  obtain⟨v',wB,k1,k2,k3,_,k5⟩:=run_append_own_at (P:=Tryd.prog) (w:=W) w0.heap.size 60 60 76 i0 _ 6 96 aef hi hz0 hz1 hz2 rfl (by decide) vs[k] (qs.getD k []).length cs hown ⟨b,o,none⟩ q.length cap (rowOf f q.length 6) hlen (fun t u hu=>(hcell t u hu).1)
   (fun u hu=>by
     obtain⟨t,ht⟩:=List.mem_iff_getElem?.1 hu
     obtain⟨_,c,h1,h2⟩:=hcell t u ht
     exact h2.one (Uo (qLe h1))) (by have : maxLen = 9223372036854775807 := (by decide);omega) (by omega) hsz
  rw[hel]
  have hgb:=k3.size
  have hgrow:∀ c,c<W.heap.size→vs[k].ownBlock≠some c→wB.heap[c]?=W.heap[c]?:=fun c hc hne=>k3.block c hc (fun e=>hne e.symm)
  have hBr:wB.heap[Br]?=W.heap[Br]?:=hgrow _ h.lt.2 fun e=>h.own_ne hvk e h.row (fun cur e=>by have:=(Obj.cells.inj e).2.1;exact absurd this (by decide)) rfl
  have hBl:wB.heap[Bl]?=W.heap[Bl]?:=hgrow _ h.lt.1 fun e=>h.own_ne hvk e h.lbox (fun cur e=>by have:=(Obj.cells.inj e).2.1;exact absurd this (by decide)) rfl
  have ajg:(wB.setCell ⟨Br,k,none⟩ v').heap[Br]?=some (.cells (vs.set k v').toArray 60 (0,0)):=setRow v' (hBr.trans h.row)
  have hgs:=wH wB Br k v'
  have hfresh:∀ g,v'.ownBlock=some g→vs[k].ownBlock=some g∨W.heap.size≤g:=by
   intro g hg
   rcases k5 with e | e
   · left;rw[← e];exact hg
   · right
     rw[e]at hg
     cases hg
     exact Nat.le_refl _
  have ajh:∀ g,v'.ownBlock=some g→g≠Br∧g≠Bl:=fun g hg=>by
   rcases hfresh g hg with e | e
   · exact⟨h.own_ne hvk e h.row (fun cur e=>by have:=(Obj.cells.inj e).2.1;exact absurd this (by decide)),h.own_ne hvk e h.lbox (fun cur e=>by have:=(Obj.cells.inj e).2.1;exact absurd this (by decide))⟩
   · have:=h.lt
     exact⟨by omega,by omega⟩
  have aeg:v'.cells=#[v']∧v'.oneCell'=true:=by
   rcases k2.2 with ⟨rfl,_⟩ | ⟨g,cap,c,rfl,_⟩<;>exact⟨rfl,rfl⟩
  refine⟨v',wB,k1,aeg.1,aeg.2,k3,hBr,?_,hfresh⟩
  have hkk:∀ c,c<W.heap.size→vs[k].ownBlock≠some c→c≠Br→(wB.setCell ⟨Br,k,none⟩ v').heap[c]?=W.heap[c]?:=fun c hc h1 h2 =>
   (hgs.block c (Nat.lt_of_lt_of_le hc hgb) (fun e=>h2 (by cases e;rfl))).trans (hgrow c hc h1)
  have hMx:∀ c,Mx c∨M c→(wB.setCell ⟨Br,k,none⟩ v').heap[c]?=W.heap[c]?:=fun c hc=>by
   rcases hc with hc | hc
   · exact hkk c (h.mlt c hc).1 (fun e=>h.aaI k _ c hvk e hc) (fun e=>h.mB.2 (e▸hc))
   · obtain⟨q1,_,_,q4,q5⟩:=hM c hc
     exact hkk c q1 (q5 k _ hvk) q4
  have hsz2:wB.heap.size=(wB.setCell ⟨Br,k,none⟩ v').heap.size:=by
   show _=(wB.heap.modify Br _).size
   rw[Array.size_modify]
  have hget:∀ (j:Nat) (v:Value),(vs.set k v')[j]?=some v→(j=k∧v=v')∨(j≠k∧vs[j]?=some v):=fun j v hv=>by
   by_cases e:j=k
   · subst e
     rw[List.getElem?_set_self hk]at hv
     cases hv
     exact .inl ⟨rfl,rfl⟩
   · rw[List.getElem?_set_ne (Ne.symm e)]at hv
     exact .inr ⟨e,hv⟩
  refine⟨?_,ajg,by rw[List.length_set,List.length_set,h.len],?_,?_,?_,fun b hb=>?_,?_,?_,h.base⟩
  · rw[List.length_set]
    exact(hkk Bl h.lt.1 (fun e=>h.own_ne hvk e h.lbox (fun cur e=>by have:=(Obj.cells.inj e).2.1;exact absurd this (by decide)) rfl) h.ne).trans h.lbox
  · intro j v q' hv hq'
    rcases hget j v hv with ⟨rfl,rfl⟩ | ⟨hne,hv⟩
    · rw[List.getElem?_set_self (by rw[h.len];exact hk)]at hq'
      cases hq'
      refine⟨cs++rowOf f q.length 6,?_,?_⟩
      · rw[List.length_append]
        refine⟨k2.1,?_⟩
        rcases k2.2 with hh | ⟨g,cap',c,rfl,g1,g2,g3⟩
        · exact .inl hh
        · exact .inr ⟨g,cap',c,rfl,g1,(hgs.block g (qAa.1 g2).1 (fun e=>(ajh g rfl).1 (by cases e;rfl))).trans g2,g3⟩
      · rw[PN]
        refine zn.append (hcv.mono fun c hc=>⟨.inl hc,hMx c (.inl hc)⟩) ⟨by rw[hlen,N7],fun t c u h1 h2=>?_⟩
        obtain⟨_,c',e1,e2⟩:=hcell t u h2
        rw[e1]at h1
        cases h1
        exact e2.mono fun c hc=>⟨.inr hc,hMx c (.inr hc)⟩
    · rw[List.getElem?_set_ne (Ne.symm hne)]at hq'
      have hr:=h.rows j v q' hv hq'
      refine hr.mono (fun c hc=>⟨.inl hc,hMx c (.inl hc)⟩) fun g hg=>?_
      refine hkk g (hr.lt g hg).2 (fun e=>hne (h.apart j k v _ g hv hvk hg e)) (h.own_ne hv hg h.row (fun cur e=>by have:=(Obj.cells.inj e).2.1;exact absurd this (by decide)))
  · intro i j v u g hv hu hg1 hg2
    rcases hget i v hv with ⟨rfl,rfl⟩ | ⟨n1,hv'⟩
    · rcases hget j u hu with ⟨rfl,rfl⟩ | ⟨n2,hu'⟩
      · rfl
      · exfalso
        rcases hfresh g hg1 with e | e
        · exact n2 (h.apart j i u _ g hu' hvk hg2 e)
        · obtain⟨q2,_,hr⟩:=h.at_ hu'
          have:=(hr.lt g hg2).2
          omega
    · rcases hget j u hu with ⟨rfl,rfl⟩ | ⟨n2,hu'⟩
      · exfalso
        rcases hfresh g hg2 with e | e
        · exact n1 (h.apart i j v _ g hv' hvk hg1 e)
        · obtain⟨q2,_,hr⟩:=h.at_ hv'
          have:=(hr.lt g hg1).2
          omega
      · exact h.apart i j v u g hv' hu' hg1 hg2
  · exact(h.below.grown k3 hsz (fun c e=>(hown.lt c e).1)).grown hgs (by omega) (fun c e=>by cases e;exact h.base.2)
  · rw[← hsz2]
    rcases hb with hb | hb
    · exact⟨Nat.lt_of_lt_of_le (h.mlt b hb).1 hgb,(h.mlt b hb).2⟩
    · exact⟨Nat.lt_of_lt_of_le (hM b hb).1 hgb,(hM b hb).2.1⟩
  · intro j v g hv hg hc
    rcases hget j v hv with ⟨rfl,rfl⟩ | ⟨n1,hv'⟩
    · rcases hfresh g hg with e | e
      · rcases hc with hc | hc
        · exact h.aaI j _ g hvk e hc
        · exact(hM g hc).2.2.2.2 j _ hvk e
      · rcases hc with hc | hc
        · have:=(h.mlt g hc).1;omega
        · have:=(hM g hc).1;omega
    · rcases hc with hc | hc
      · exact h.aaI j v g hv' hg hc
      · exact(hM g hc).2.2.2.2 j v hv' hg
  · refine⟨fun hc=>?_,fun hc=>?_⟩
    · rcases hc with hc | hc
      · exact h.mB.1 hc
      · exact(hM _ hc).2.2.1 rfl
    · rcases hc with hc | hc
      · exact h.mB.2 hc
      · exact(hM _ hc).2.2.2.1 rfl
end Go.Skm.Prg
