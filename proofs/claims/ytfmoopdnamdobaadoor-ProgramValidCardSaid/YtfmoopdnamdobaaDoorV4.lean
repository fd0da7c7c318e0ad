import Derived.Test.YtfmoopdnamdobaaDoorV3
namespace Go.Skm.Prg
open Go Go.Skm Go.Proofs Go.RowKit Go.Shelf
def QZ (B g k n cap:Nat) (mv:Value) (i:Nat) (v:Value):Prop :=
 ((i=0∨i=3)→v=.pointer (some ⟨B,2,none⟩))∧((i=1∨i=4)→v=.slice (some ⟨g,0,none⟩) n cap)∧((i=2∨i=5)→v=.int .i64 k)∧((i=6∨i=10)→v=.pointer (some ⟨g,k*3,none⟩))∧((i=7∨i=11)→v=.pointer (some ⟨g,k*3+2,none⟩))∧(i=8→v=mv)
structure WC5 (w0:World) (M:Nat→Prop) (g k:Nat) (xs:List PV) (L:Nat→Bool) (val:Nat→Value) (w:World):Prop where
 o9:L 9=true→L 8=true
 o12:L 12=true→L 9=true
 wr:(L 9=false∧w=w0)∨(L 9=true∧∃ w1,qK w0 w1 M true kR xs 34 (val 9)∧(L 12=false∧w=w1∨L 12=true∧w=w1.setCell ⟨g,k*3+2,none⟩ (val 9)))
set_option maxRecDepth 10000 in
set_option maxHeartbeats 1000000 in
theorem aax {m : Nat} {Q : Exit → Act → World → Prop} {B g k n cap : Nat} {w0 : World} {M : Nat → Prop} {xs : List PV} {x0 x1 mv : Value} {cur : Array Value} {a0 : Act} (ha : a0.tmps.size = 36) (t1 : a0.tmps.getD 1 undef = .pointer (some ⟨B,0,none⟩)) (t3 : a0.tmps.getD 3 undef = .int .i64 k) (hk : k < n) (hgB : B ≠ g)
    (hP:w0.heap[B]?=some (.cells #[x0,x1,.slice (some ⟨g,0,none⟩) n cap] 27 (0,0))) (hg:w0.heap[g]?=some (.cells cur 37 (0,0))) (hc:n*3≤cur.size) (hmv:cur.getD (k*3+2) undef=mv) (hv:VR w0 M (.list true kR xs) mv) (hxs:xs.length≤100000)
    (post:∀ (a:Act) (w w1:World) (v':Value),a.tmps.size=36→a.defers=a0.defers→(∀ t,t<22∨33<t→a.tmps.getD t undef=a0.tmps.getD t undef)→qK w0.drew w1 M true kR xs 34 v'→w=w1.setCell ⟨g,k*3+2,none⟩ v'→Q .normal a w) :
    (Code.region 5 aat true).wpIn (FW none) m Tryd.prog Q a0 w0:=by
  refine JO (fun L val w=>(∀ j,L j=true→QZ B g k n cap mv j (val j))∧WC5 w0.drew M g k xs L val w) JV rfl (by rw[ha];rfl) ?_ ?_ ?_
  · intro L val a w i o ho hL he h hI
    obtain⟨hK,hW⟩:=hI
    have hi:i<13:=(qAa.1 ho).1
    have e1:a.eval (.tmp 1)=.pointer (some ⟨B,0,none⟩):=(h.out rfl).trans t1
    have e3:a.eval (.tmp 3)=.int .i64 k:=(h.out rfl).trans t3
    have jR:∀ {u:Value},QZ B g k n cap mv i u→∀ j,(L j||j==i)=true→QZ B g k n cap mv j (if j=i then u else val j):=fun {u} hu j hj=>by
     by_cases e:j=i
     · subst e;rw[if_pos rfl];exact hu
     · rw[if_neg e];exact hK j (by simpa [e] using hj)
    have fin:∀ (v:Value),QZ B g k n cap mv i v→(i≠9∧i≠12)→∃ u,a.put o.dst v=a.put o.dst u∧(∀ j,(L j||j==i)=true→QZ B g k n cap mv j (if j=i then u else val j))∧WC5 w0.drew M g k xs (fun j=>L j||j==i) (fun j=>if j=i then u else val j) w:=by
     rintro v hv ⟨n9,n12⟩
     have hne:∀ k,k≠i→(k==i)=false:=fun k hk=>by simpa using hk
     obtain⟨q1,q2,q3⟩:=hW
     refine⟨v,rfl,jR hv,⟨fun h=>?_,fun h=>?_,?_⟩⟩
     · rw[hne 9 n9.symm,Bool.or_false]at h;rw[q1 h,Bool.true_or]
     · rw[hne 12 n12.symm,Bool.or_false]at h;rw[q2 h,Bool.true_or]
     · rw[hne 9 n9.symm,hne 12 n12.symm,Bool.or_false,Bool.or_false,if_neg n9.symm];exact q3
    have hB:w.cell? ⟨B,2,none⟩=some (.slice (some ⟨g,0,none⟩) n cap):=by
     have hBlt:=(qAa.1 hP).1
     have:w.heap[B]?=w0.heap[B]?:=by
      rcases hW.wr with ⟨_,rfl⟩ | ⟨_,w1,hcp,⟨_,rfl⟩ | ⟨_,rfl⟩⟩
      · rfl
      · exact hcp.below.block B hBlt
      · exact(Below.heap_setCell _ _ _ _ hgB).trans (hcp.below.block B hBlt)
     simp[World.cell?,this,hP]
    rcases(show i=0∨i=1∨i=2∨i=3∨i=4∨i=5∨i=6∨i=7∨i=8∨i=9∨i=10∨i=11∨i=12 by omega) with rfl | rfl | rfl | rfl | rfl | rfl | rfl | rfl | rfl | rfl | rfl | rfl | rfl
    all_goals (have ho':=ho;simp only[aat,List.getElem?_toArray,List.getElem?_cons_zero,List.getElem?_cons_succ,qOa]at ho';subst ho')
    · refine aU ho rfl (by simp[Oper.about]) (fun c h=>by cases h) (v:=.pointer (some ⟨B,2,none⟩)) (w':=w) (by simp only[execOp,e1];simp[go_sem]) (fin _ (by simp[QZ]) (by decide))
    · have g4:=h.at 0 (d:=22) rfl (he ⟨0,.data⟩ (by simp) rfl)
      rw[(hK 0 (he ⟨0,.data⟩ (by simp) rfl)).1 (.inl rfl)]at g4
      exact aU ho rfl (by simp[Oper.about]) (fun c h=>by cases h) (v:=.slice (some ⟨g,0,none⟩) n cap) (w':=w) (by simp only[execOp,g4];simp[Instr.loadAt,go_sem,hB]) (fin _ (by simp[QZ]) (by decide))
    · exact aU ho rfl (by simp[Oper.about]) (fun c h=>by cases h) (v:=.int .i64 k) (w':=w) (by simp only[execOp,e3];rfl) (fin _ (by simp[QZ]) (by decide))
    · exact aU ho rfl (by simp[Oper.about]) (fun c h=>by cases h) (v:=.pointer (some ⟨B,2,none⟩)) (w':=w) (by simp only[execOp,e1];simp[go_sem]) (fin _ (by simp[QZ]) (by decide))
    · have g4:=h.at 3 (d:=25) rfl (he ⟨3,.data⟩ (by simp) rfl)
      rw[(hK 3 (he ⟨3,.data⟩ (by simp) rfl)).1 (.inr rfl)]at g4
      exact aU ho rfl (by simp[Oper.about]) (fun c h=>by cases h) (v:=.slice (some ⟨g,0,none⟩) n cap) (w':=w) (by simp only[execOp,g4];simp[Instr.loadAt,go_sem,hB]) (fin _ (by simp[QZ]) (by decide))
    · exact aU ho rfl (by simp[Oper.about]) (fun c h=>by cases h) (v:=.int .i64 k) (w':=w) (by simp only[execOp,e3];rfl) (fin _ (by simp[QZ]) (by decide))
    · have g1:=h.at 4 (d:=26) rfl (he ⟨4,.data⟩ (by simp) rfl)
      rw[(hK 4 (he ⟨4,.data⟩ (by simp) rfl)).2.1 (.inr rfl)]at g1
      have g2:=h.at 5 (d:=27) rfl (he ⟨5,.data⟩ (by simp) rfl)
      rw[(hK 5 (he ⟨5,.data⟩ (by simp) rfl)).2.2.1 (.inr rfl)]at g2
      exact aU ho rfl (by simp[Oper.about]) (fun c h=>by cases h) (v:=.pointer (some ⟨g,k*3,none⟩)) (w':=w) (by simp only[execOp,g1,g2];simp[Instr.indexAt,go_sem,hk]) (fin _ (by simp[QZ]) (by decide))
    · have g1:=h.at 6 (d:=28) rfl (he ⟨6,.data⟩ (by simp) rfl)
      rw[(hK 6 (he ⟨6,.data⟩ (by simp) rfl)).2.2.2.1 (.inl rfl)]at g1
      exact aU ho rfl (by simp[Oper.about]) (fun c h=>by cases h) (v:=.pointer (some ⟨g,k*3+2,none⟩)) (w':=w) (by simp only[execOp,g1];simp[go_sem]) (fin _ (by simp[QZ]) (by decide))
    · have g1:=h.at 7 (d:=29) rfl (he ⟨7,.data⟩ (by simp) rfl)
      rw[(hK 7 (he ⟨7,.data⟩ (by simp) rfl)).2.2.2.2.1 (.inl rfl)]at g1
      have z9:L 9=false:=by
       cases h9:L 9 with
       | false=>rfl
       | true=>rw[hW.o9 h9]at hL;cases hL
      have hw:w=w0.drew:=by
       rcases hW.wr with ⟨_,h⟩ | ⟨h,_⟩
       · exact h
       · rw[z9]at h;cases h
      have hcell:w.cell? ⟨g,k*3+2,none⟩=some mv:=by
       have:k*3+2<cur.size:=by omega
       rw[hw]
       show w0.cell? _=_
       rw[← hmv,qAb,qAd this]
       simp[World.cell?,hg,this]
      exact aU ho rfl (by simp[Oper.about]) (fun c h=>by cases h) (v:=mv) (w':=w) (by simp only[execOp,g1];simp[Instr.loadAt,go_sem,hcell]) (fin _ (by simp[QZ]) (by decide))
    · have g5:=h.at 8 (d:=30) rfl (he ⟨8,.data⟩ (by simp) rfl)
      rw[(hK 8 (he ⟨8,.data⟩ (by simp) rfl)).2.2.2.2.2 rfl]at g5
      have hw:w=w0.drew:=by
       rcases hW.wr with ⟨_,h⟩ | ⟨h,_⟩
       · exact h
       · rw[hL]at h;cases h
      subst hw
      have z12:L 12=false:=by
       cases h9:L 12 with
       | false=>rfl
       | true=>rw[hW.o12 h9]at hL;cases hL
      have hv':VR w0.drew M (.list true kR xs) mv:=VR.mono (w:=w0) (w':=w0.drew) (fun b hb=>⟨hb,rfl⟩) hv
      refine jH (f:=45) (args:=#[mv]) ho rfl (fun c h=>by cases h) (by simp[go_sem,sO g5]) ((abU hv' hxs).mono fun e w' ⟨v',he',hcp⟩=>⟨v',he',v',rfl,jR (by simp[QZ]),?_⟩)
      refine⟨fun _=>by rw[he ⟨8,.data⟩ (by simp) rfl,Bool.true_or],fun _=>by simp,.inr ⟨by simp,w',by simpa using hcp,.inl ⟨by simpa using z12,rfl⟩⟩⟩
    · have g1:=h.at 1 (d:=23) rfl (he ⟨1,.data⟩ (by simp) rfl)
      rw[(hK 1 (he ⟨1,.data⟩ (by simp) rfl)).2.1 (.inl rfl)]at g1
      have g2:=h.at 2 (d:=24) rfl (he ⟨2,.data⟩ (by simp) rfl)
      rw[(hK 2 (he ⟨2,.data⟩ (by simp) rfl)).2.2.1 (.inl rfl)]at g2
      exact aU ho rfl (by simp[Oper.about]) (fun c h=>by cases h) (v:=.pointer (some ⟨g,k*3,none⟩)) (w':=w) (by simp only[execOp,g1,g2];simp[Instr.indexAt,go_sem,hk]) (fin _ (by simp[QZ]) (by decide))
    · have g1:=h.at 10 (d:=32) rfl (he ⟨10,.data⟩ (by simp) rfl)
      rw[(hK 10 (he ⟨10,.data⟩ (by simp) rfl)).2.2.2.1 (.inr rfl)]at g1
      exact aU ho rfl (by simp[Oper.about]) (fun c h=>by cases h) (v:=.pointer (some ⟨g,k*3+2,none⟩)) (w':=w) (by simp only[execOp,g1];simp[go_sem]) (fin _ (by simp[QZ]) (by decide))
    · have l9:=he ⟨9,.data⟩ (by simp) rfl
      have g1:=h.at 11 (d:=33) rfl (he ⟨11,.data⟩ (by simp) rfl)
      rw[(hK 11 (he ⟨11,.data⟩ (by simp) rfl)).2.2.2.2.1 (.inr rfl)]at g1
      have g2:=h.at 9 (d:=31) rfl l9
      obtain⟨w1,hcp,hw⟩:∃ w1,qK w0.drew w1 M true kR xs 34 (val 9)∧w=w1:=by
       rcases hW.wr with ⟨h,_⟩ | ⟨_,w1,hcp,⟨_,h⟩ | ⟨h,_⟩⟩
       · rw[l9]at h;cases h
       · exact⟨w1,hcp,h⟩
       · rw[hL]at h;cases h
      subst hw
      have adU:=(qAa.1 hg).1
      obtain⟨hst,_⟩:=store_one (t:=28) (k:=k*3+2) (v:=val 9) aav ((hcp.below.block g adU).trans hg) (by omega) (qM hcp).one
      refine oI ho rfl (by simp[Oper.about]) (fun c h=>by cases h) (w':=w.setCell ⟨g,k*3+2,none⟩ (val 9)) (by simp only[execOp,g1,g2];simp[hst]) ⟨undef,rfl,jR (by simp[QZ]),?_⟩
      exact⟨fun _=>by simp[hW.o9 l9],fun _=>by simp[l9],.inr ⟨by simp[l9],w,by simpa using hcp,.inr ⟨by simp,by simp⟩⟩⟩
  · exact⟨fun j h=>(by cases h),⟨fun h=>(by cases h),fun h=>(by cases h),.inl ⟨rfl,rfl⟩⟩⟩
  · rintro L val a w hall hU ⟨hK,hW⟩
    have hall:∀ i,i<13→L i=true:=hall
    obtain⟨w1,hcp,hw⟩:∃ w1,qK w0.drew w1 M true kR xs 34 (val 9)∧w=w1.setCell ⟨g,k*3+2,none⟩ (val 9):=by
     rcases hW.wr with ⟨h,_⟩ | ⟨_,w1,hcp,⟨h,_⟩ | ⟨_,h⟩⟩
     · rw[hall 9 (by decide)]at h;cases h
     · rw[hall 12 (by decide)]at h;cases h
     · exact⟨w1,hcp,h⟩
    refine post a w w1 (val 9) (hU.size.trans ha) hU.defers (fun t ht=>hU.keep t fun i o ho e=>?_) hcp hw
    have h1:((List.range 13).all fun i=>match aat[i]?.bind (·.dst) with | some d=>Nat.ble 22 d&&Nat.ble d 33 | none=>true)=true:=rfl
    have h2:=List.all_eq_true.1 h1 i (List.mem_range.2 (qAa.1 ho).1)
    simp only[ho,Option.bind_some,e,qBa,Nat.ble_eq]at h2
    omega
end Go.Skm.Prg
