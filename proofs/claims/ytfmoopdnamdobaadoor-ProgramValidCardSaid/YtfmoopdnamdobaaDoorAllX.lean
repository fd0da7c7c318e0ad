import Derived.Test.YtfmoopdnamdobaaDoorAll
import Derived.Test.YtfmoopdnamdobaaDoorSkmE
namespace Go.Skm.Prg
open Go Go.Skm Go.Proofs Go.RowKit Go.Shelf
theorem AQ {α β:Type} {f:α→β} (hf:∀ a b,f a=f b→a=b):∀ l l':List α,l.map f=l'.map f→l=l'
 | [],[],_=>rfl
 | a::l,b::l',h=>by
  simp only[List.map_cons,List.cons.injEq]at h
  rw[hf a b h.1,AQ hf l l' h.2]
 | [],_::_,h=>by simp at h
 | _::_,[],h=>by simp at h
theorem xq {a b:List UInt8} (h:ba a=ba b):a=b:=by
 have:=congrArg (fun x:ByteArray=>x.data.toList) h
 simpa [ba] using this
theorem acP {a b:Ac} (h:eA a=eA b):a=b:=by
 simp only[eA,PV.agg.injEq,List.cons.injEq,PV.str.injEq,PV.int.injEq,PV.list.injEq,true_and,and_true]at h
 obtain⟨g1,h2,g3⟩:=h
 have h1:=xq g1
 have h3:a.iw=b.iw:=AQ (fun x y e=>by
  simp only[eM,PV.agg.injEq,List.cons.injEq,PV.int.injEq,true_and,and_true]at e
  obtain⟨e1,e2,e3,e4,e5,e6⟩:=e
  rcases x with ⟨⟨_,_,_⟩,_,_,_⟩
  rcases y with ⟨⟨_,_,_⟩,_,_,_⟩
  simp only at e1 e2 e3 e4 e5 e6
  subst e1 e2 e3 e4 e5 e6
  rfl) _ _ g3
 clear g1 g3
 rcases a with ⟨_,_,_⟩
 rcases b with ⟨_,_,_⟩
 simp only at h1 h2 h3
 subst h1 h2 h3
 rfl
theorem acQ {p q:Pg} (h:eG p=eG q):p=q:=by
 simp only[eG,PV.agg.injEq,List.cons.injEq,PV.list.injEq,true_and,and_true]at h
 obtain⟨g1,g2,g3⟩:=h
 have h1:p.names=q.names:=AQ (fun x y e=>by
  simp only[PV.str.injEq]at e
  exact xq e) _ _ g1
 have h2:p.homes=q.homes:=AQ (fun x y e=>by
  simp only[aT,PV.agg.injEq,List.cons.injEq,PV.int.injEq,true_and,and_true]at e
  exact V3.ext' e.1 e.2.1 e.2.2) _ _ g2
 have h3:p.acts=q.acts:=AQ (fun x y e=>acP e) _ _ g3
 clear g1 g2 g3
 rcases p with ⟨_,_,_⟩
 rcases q with ⟨_,_,_⟩
 simp only at h1 h2 h3
 subst h1 h2 h3
 rfl
open Classical in
noncomputable def Xf:J4:=fun args bl=>match args,bl with
 | [.p g],[]=>if h:∃ p,Small p∧dV p=true∧eG p=g then some ([.fresh false [.slice true iy] (Ef h.choose)],[]) else none
 | _,_=>none
theorem aaL (p:Pg) (hp:Small p) (hv:dV p=true):Xf [.p (eG p)] []=some ([.fresh false [.slice true iy] (Ef p)],[]):=by
 unfold Xf
 simp only
 have h:∃ q,Small q∧dV q=true∧eG q=eG p:=⟨p,hp,hv,rfl⟩
 rw[dif_pos h,acQ h.choose_spec.2.2]
theorem run_seq {P:Program} {T:Tab} (ok:bJ P T) {X:Ext} {gl:Option (List (Nat × Obj))} (hX:Ae P T gl X):Fe P T gl (run T X):=fun g fi caps r hf hb h=>by
 obtain⟨n,hn⟩:=uK h
 exact(kT ok hX n).2 g fi caps r hf hb hn
theorem aep:bI tab.funcs 47=some Us:=by kernel_rfl
theorem acR:und tab 63=some (.slice 60):=by kernel_rfl
theorem ajw:ay tab 60=(false,[.slice true iy]):=by kernel_rfl
theorem PO.vr {W:World} {M:Nat→Prop} {B:Nat} {v:Value} {q:List Sg} (h:PO W M B v q) (hM:∀ g,v.ownBlock=some g→M g):VR W M (.list true iy (eP q)) v:=by
 obtain⟨cs,ho,hc1,hc2⟩:=h
 have hfs:=N7 q
 by_cases h0:q=[]
 · subst h0
   rcases ho.2 with ⟨rfl,_⟩ | ⟨g,cap,cur,rfl,_⟩<;>exact .kZ _ _ _ _
 · rcases id ho.2 with ⟨_,hz⟩ | ⟨g,cap,cur,rfl,hb,hg,hcap,_⟩
   · exact absurd (List.length_eq_zero_iff.1 hz) h0
   · have hel:(eP q).length=q.length:=jw q
     have key:=VR.list (w:=W) (M:=M) true iy (eP q) g 0 cap (fun i j=>cs.getD (i*6+j) undef) (hM g rfl) (by rw[hel];exact hcap) (fun i x j c hx hc=>?_) (fun i x j c hx hc=>?_) fun x hx=>?_
     · rw[hel]at key;exact key
     all_goals try (have hi : i < q.length := by rw [← hel]; exact (qLa.1 hx).1
                    have hxe:x=eS q[i]:=by
                     rw[eP,List.getElem?_map,qLd hi]at hx
                     cases hx;rfl
                    subst hxe
                    have hj:j<6:=(qLa.1 hc).1
                    have hq:i*6+j<q.length*6:=by omega)
     · have hcell:=ho.cellAt (i*6+j) hq
       rw[Nat.zero_add]
       show W.cell? ⟨g,i*6+j,none⟩=_
       rw[hcell,qLb,qLd (by omega)]
       rfl
     · have hf:=GY q i j hj hi
       rw[hc]at hf
       refine hc2 _ c _ hf ?_
       rw[qLb,qLd (by omega)]
       rfl
     · obtain⟨s,_,rfl⟩:=List.mem_map.1 hx
       rfl
theorem Ri {w:World} {M:Nat→Prop} {a:Bool} {ks:List Kd} {xs:List PV} {v:Value} (h:VR w M (.list a ks xs) v):∃ ao c,v=.slice ao xs.length c:=by
 generalize hys:xs=ys at h
 cases h with
 | list=>subst hys;exact⟨_,_,rfl⟩
 | kZ=>exact⟨_,_,rfl⟩
set_option maxHeartbeats 1000000 in
theorem YC {gl:Option (List (Nat × Obj))} (hne:gl≠none) {X:Ext} (hX:Mine X) (hC:fZ Tryd.prog tab gl (run tab X)) (hS:Fe Tryd.prog tab gl (run tab X)) (hCl:jI X):PS Tryd.prog tab gl 47 Xf:=by
 intro fi' args bl rs pG Rj h
 have:fi'=Us:=by rw[aep]at Rj;exact(Option.some.inj Rj).symm
 subst this
 unfold Xf at h
 split at h
 · next g =>
   split at h
   · next hp =>
     obtain⟨hsm,hv,hg⟩:=hp.choose_spec
     generalize hp.choose=p at h hsm hv hg
     subst hg
     cases h
     refine⟨⟨_,rfl⟩,by simp,fun w M β aF hgl hpre=>?_⟩
     obtain⟨v,rfl,Nq⟩:=G6 hpre
     obtain⟨Ns,n,c0,v1,PL,m,c2,rfl,hn,hm⟩:∃ Ns n c0 v1 PL m c2,v=.agg #[.slice Ns n c0,v1,.slice PL m c2]∧n=p.names.length∧m=p.acts.length:=by
      cases Nq with
      | agg _ vs hn hl hc =>
       obtain⟨Ns,c0,e0⟩:=Ri (hc 0 _ rfl)
       obtain⟨PL,c2,e2⟩:=Ri (hc 2 _ rfl)
       refine⟨Ns,_,c0,vs.getD 1 undef,PL,_,c2,?_,cZ _,aW _⟩
       rw[← e0,← e2]
       congr 1
       apply Array.ext
       · exact hn
       · intro i h1 h2
         have hn:vs.size=3:=hn
         have:i=0∨i=1∨i=2:=by omega
         rcases this with rfl | rfl | rfl<;>simp[Array.getD,hn]
     refine all_walk hne hX hC hS hCl p hsm hv w M hpre.fB hgl Ns n c0 v1 PL m c2 hn hm Nq _ fun Mx vs ds w1 w' H hds k1 k2 k3 k4 k5=>?_
     have hvl:vs.length=p.names.length:=by rw[← H.len,lG]
     have hbl:=H.below
     have hB:Below w.heap.size w w':=⟨k3.trans hbl.os,k4.trans hbl.tape,k5.trans hbl.output,by rw[k2];exact hbl.size,fun b hb=>(k1 b fun hd=>by have:=(hds b hd).2.1;omega).trans (hbl.block b hb)⟩
     let M':Nat→Prop:=fun b=>M b∨Mx b∨∃ (j:Nat) (v:Value),vs[j]?=some v∧v.ownBlock=some b
     have hown:∀ (j:Nat) (v:Value) (g:Nat),vs[j]?=some v→v.ownBlock=some g→w.heap.size≤g∧g<w1.heap.size:=fun j v g hv hg=>by
      obtain⟨q,_,hr⟩:=H.at_ hv
      exact hr.lt g hg
     have aer:∀ (j:Nat) (v:Value) (g:Nat),vs[j]?=some v→v.ownBlock=some g→g ∉ ds:=fun j v g hv hg hd=>H.own_ne hv hg (hds g hd).2.2 (fun cur e=>by cases e) rfl
     have ajx:w.heap.size+1 ∉ ds:=fun hd=>by have:=(hds _ hd).2.1;omega
     have hrow:w'.heap[w.heap.size+1]?=some (.cells vs.toArray 60 (0,0)):=(k1 _ ajx).trans H.row
     have ajy:¬ M' (w.heap.size+1):=by
      rintro (h | h | ⟨j,v,hv,hg⟩)
      · have:=hpre.fB _ h;omega
      · exact H.mB.2 h
      · exact H.own_ne hv hg H.row (fun cur e=>by have:=(Obj.cells.inj e).2.1;exact absurd this (by decide)) rfl
     refine⟨[.slice (some ⟨w.heap.size+1,0,none⟩) vs.length vs.length],[some (w.heap.size+1,0)],M',rfl,J5 rfl hpre hB (fun e=>absurd e hne) (fun b hb=>.inl hb) (fun b hb=>?_) (fun b hb=>?_) ?_ fun b o hb=>?_⟩
     · rcases hb with h | h | ⟨j,v,hv,hg⟩
       · exact .inl h
       · exact(H.mlt b h).2
       · exact .inr (hown j v b hv hg).1
     · rw[k2]
       rcases hb with h | h | ⟨j,v,hv,hg⟩
       · have:=hpre.fB _ h;have:=hbl.size;omega
       · exact(H.mlt b h).1
       · exact(hown j v b hv hg).2
     · have hrt:Us.cfg.rets=[.fresh]:=rfl
       have hts:Us.fn.resultTypes.toList=[63]:=by kernel_rfl
       rw[hrt,hts]
       refine .cons _ _ _ _ _ _ _ _ _ ?_ (.nil _) (fun b o o' _ h=>by cases h)
       have key:=qZ.fresh (T:=tab) (w:=w') (M:=M') (β:=β) (h:=look (dM 0 [])) 63 60 (Ef p) (.slice (some ⟨w.heap.size+1,0,none⟩) vs.length vs.length) (some (w.heap.size+1,0)) acR
       rw[ajw]at key
       have hal:(Ef p).length=vs.length:=by simp[Ef,allL,hvl]
       have hopen:Open vs.toArray (0,0):=.inl rfl
       refine key ?_ ?_
       · refine .arr false [.slice true iy] (Ef p) (w.heap.size+1) 0 vs.toArray 60 (0,0) rfl hrow (by simp[hal]) hopen (fun x hx=>?_) fun i x j c hx hc=>?_
         · simp only[Ef,allL,List.map_map,List.mem_map]at hx
           obtain⟨j,_,rfl⟩:=hx
           simp[au,kindOk,Kd.jy]
         · have hi:i<vs.length:=by rw[← hal];exact(qLa.1 hx).1
           have hxe:x=.list true iy (eP (Fj p i)):=by
            simp only[Ef,allL,List.map_map,List.getElem?_map]at hx
            rw[List.getElem?_range (by omega)]at hx
            cases hx;rfl
           subst hxe
           have hj:j=0:=by
            have:=(qLa.1 hc).1
            simpa [PV.cells] using this
           subst hj
           cases hc
           have hd:vs.toArray.getD (0+i*[Kd.slice true iy].length+0) undef=vs[i]:=by simp[Array.getD,hi]
           rw[hd]
           have hq:(lN p p.acts.length)[i]?=some (Fj p i):=by
            rw[Xe,List.getElem?_map,List.getElem?_range (by omega)];rfl
           have hvi:vs[i]?=some vs[i]:=qLd hi
           refine((H.rows i _ _ hvi hq).mono (M':=M') (fun b hb=>⟨.inr (.inl hb),k1 b fun hd=>(hds b hd).1 hb⟩) fun g hg=>k1 g (aer i _ g hvi hg)).vr fun g hg=>.inr (.inr ⟨i,_,hvi,hg⟩)
       · have key2:=AR.slice (w:=w') (M:=M') (β:=fun _=>some (w.heap.size+1,0)) (h:=fun _=>some (.arr false [Kd.slice true iy] (Ef p))) 0 0 vs.length false [.slice true iy] (Ef p) (w.heap.size+1) 0 vs.length rfl (by omega) rfl (Nat.le_refl _) (.mk hrow (by simp) hopen)
         rw[hal]
         simpa using key2
     · simp only[List.mem_singleton,qOa,Prod.mk.injEq]at hb
       obtain⟨rfl,rfl⟩:=hb
       exact⟨ajy,(qAa.1 hrow).1,by omega⟩
   · cases h
 · cases h
end Go.Skm.Prg
