import Derived.Test.YtfmoopdnamdobaaDoorV2
namespace Go.Skm.Prg
open Go Go.Skm Go.Proofs Go.RowKit Go.Shelf
def PI (B:Nat) (s0 s1 s2:Value) (i:Nat) (v:Value):Prop :=
 ((i=0∨i=9)→v=.pointer (some ⟨B,0,none⟩))∧((i=3∨i=11)→v=.pointer (some ⟨B,1,none⟩))∧((i=6∨i=13)→v=.pointer (some ⟨B,2,none⟩))∧(i=1→v=s0)∧(i=4→v=s1)∧(i=7→v=s2)
structure WC1 (B:Nat) (wS w0:World) (M:Nat→Prop) (p:Pg) (s0 s1 s2:Value) (L:Nat→Bool) (val:Nat→Value) (w:World):Prop where
 below:Below B wS w
 sz:B+2≤w.heap.size
 rb:w.heap[B+1]?=w0.heap[B+1]?
 pb:w.heap[B]?=some (.cells #[bif L 10 then val 2 else s0,bif L 12 then val 5 else s1,bif L 14 then val 8 else s2] 27 (0,0))
 v2:L 2=true→lF w (B+2) (val 2) (eN p.names).length 9 1 (GX wS M (eN p.names))
 v5:L 5=true→lF w (B+2) (val 5) (bF p.homes).length 31 3 (GX wS M (bF p.homes))
 v8:L 8=true→lF w (B+2) (val 8) (fM p.acts).length 37 3 (GX wS M (fM p.acts))
 o10:L 10=true→L 1=true∧L 2=true∧L 4=true∧L 7=true
 o12:L 12=true→L 10=true∧L 5=true
 o14:L 14=true→L 12=true∧L 8=true
theorem WC1.same {B : Nat} {wS w0 : World} {M : Nat → Prop} {p : Pg} {s0 s1 s2 : Value} {L L' : Nat → Bool} {val val' : Nat → Value} {w : World} (h : WC1 B wS w0 M p s0 s1 s2 L val w) (hl : ∀ j,L j = true → L' j = true) (h2 : L' 2 = L 2) (h5 : L' 5 = L 5) (h8 : L' 8 = L 8) (h10 : L' 10 = L 10) (h12 : L' 12 = L 12) (h14 : L' 14 = L 14)
    (e2:val' 2=val 2) (e5:val' 5=val 5) (e8:val' 8=val 8):WC1 B wS w0 M p s0 s1 s2 L' val' w:=by
  obtain⟨q1,q2,q3,q4,q5,q6,q7,q8,q9,q10⟩:=h
  refine⟨q1,q2,q3,by rw[h10,h12,h14,e2,e5,e8];exact q4,by rw[h2,e2];exact q5,by rw[h5,e5];exact q6,by rw[h8,e8];exact q7,fun h=>?_,fun h=>?_,fun h=>?_⟩
  · rw[h10]at h;have:=q8 h;exact⟨hl _ this.1,hl _ this.2.1,hl _ this.2.2.1,hl _ this.2.2.2⟩
  · rw[h12]at h;have:=q9 h;exact⟨hl _ this.1,hl _ this.2⟩
  · rw[h14]at h;have:=q10 h;exact⟨hl _ this.1,hl _ this.2⟩
theorem WC1.call {B:Nat} {wS w0:World} {M:Nat→Prop} {p:Pg} {s0 s1 s2:Value} {L:Nat→Bool} {val:Nat→Value} {w w':World} (h:WC1 B wS w0 M p s0 s1 s2 L val w) (hb:Below w.heap.size w w'):WC1 B wS w0 M p s0 s1 s2 L val w':=by
 obtain⟨q1,q2,q3,q4,q5,q6,q7,q8,q9,q10⟩:=h
 have hk:∀ b,B+2≤b→b<w.heap.size→w'.heap[b]?=w.heap[b]?:=fun b _ h=>hb.block b h
 exact⟨q1.trans (hb.mono (by omega)),Nat.le_trans q2 hb.size,(hb.block _ (by omega)).trans q3,(hb.block _ (by omega)).trans q4,fun h=>(q5 h).mono (Nat.le_refl _) hk fun _ _ _ h=>h,fun h=>(q6 h).mono (Nat.le_refl _) hk fun _ _ _ h=>h,fun h=>(q7 h).mono (Nat.le_refl _) hk fun _ _ _ h=>h,q8,q9,q10⟩
theorem WC1.store {B : Nat} {wS w0 : World} {M : Nat → Prop} {p : Pg} {s0 s1 s2 : Value} {L : Nat → Bool} {val : Nat → Value} {w : World} (h : WC1 B wS w0 M p s0 s1 s2 L val w) {k : Nat} {v : Value} {cs : Array Value} (hc : (w.setCell ⟨B,k,none⟩ v).heap[B]? = some (.cells cs 27 (0,0))) {L' : Nat → Bool} {val' : Nat → Value} (_hl : ∀ j,L j = true → L' j = true) (h2 : L' 2 = L 2) (h5 : L' 5 = L 5) (h8 : L' 8 = L 8) (e2 : val' 2 = val 2) (e5 : val' 5 = val 5) (e8 : val' 8 = val 8)
    (hcs:cs=#[bif L' 10 then val' 2 else s0,bif L' 12 then val' 5 else s1,bif L' 14 then val' 8 else s2]) (o10:L' 10=true→L' 1=true∧L' 2=true∧L' 4=true∧L' 7=true) (o12:L' 12=true→L' 10=true∧L' 5=true) (o14:L' 14=true→L' 12=true∧L' 8=true) :
    WC1 B wS w0 M p s0 s1 s2 L' val' (w.setCell ⟨B,k,none⟩ v):=by
  obtain⟨q1,q2,q3,q4,q5,q6,q7,q8,q9,q10⟩:=h
  have hk:∀ b,b≠B→(w.setCell ⟨B,k,none⟩ v).heap[b]?=w.heap[b]?:=fun b hb=>Below.heap_setCell _ _ _ _ hb
  have hs:(w.setCell ⟨B,k,none⟩ v).heap.size=w.heap.size:=by simp[World.setCell]
  refine⟨q1.setCell (Nat.le_refl _) _,by omega,(hk _ (by omega)).trans q3,by rw[hc,hcs],by rw[h2,e2];exact fun h=>(q5 h).mono (Nat.le_refl _) (fun b hb _=>hk b (by omega)) fun _ _ _ h=>h,by rw[h5,e5];exact fun h=>(q6 h).mono (Nat.le_refl _) (fun b hb _=>hk b (by omega)) fun _ _ _ h=>h,by rw[h8,e8];exact fun h=>(q7 h).mono (Nat.le_refl _) (fun b hb _=>hk b (by omega)) fun _ _ _ h=>h,o10,o12,o14⟩
theorem info23:(Tryd.prog.info? 23).map (·.size)=some 1:=by kernel_rfl
theorem info24:(Tryd.prog.info? 24).map (·.size)=some 1:=by kernel_rfl
theorem info25:(Tryd.prog.info? 25).map (·.size)=some 1:=by kernel_rfl
theorem aav:(Tryd.prog.info? 28).map (·.size)=some 1:=by kernel_rfl
theorem sO {a:Act} {t:Nat} {v:Value} (h:a.eval (.tmp t)=v):(a.tmps[t]?).getD undef=v:=by
 rw[← qAb];exact h
set_option maxRecDepth 10000 in
set_option maxHeartbeats 1000000 in
theorem aaw {m : Nat} {Q : Exit → Act → World → Prop} {B : Nat} {wS w0 : World} {M : Nat → Prop} {p : Pg} (hp : Small p) {s0 s1 s2 : Value} {a0 : Act} (ha : a0.tmps.size = 36) (t1 : a0.tmps.getD 1 undef = .pointer (some ⟨B,0,none⟩)) (hb0 : Below B wS w0) (hsz : B + 2 ≤ w0.heap.size) (hM : ∀ b,M b → b < B)
    (hP:w0.heap[B]?=some (.cells #[s0,s1,s2] 27 (0,0))) (h0:VR wS M (.list false [.str] (eN p.names)) s0) (h1:VR wS M (.list true bZ (bF p.homes)) s1) (h2:VR wS M (.list true dD (fM p.acts)) s2)
    (post:∀ (a:Act) (w:World) (x0 x1 x2:Value),a.tmps.size=36→a.defers=a0.defers→(∀ t,t<4∨15<t→a.tmps.getD t undef=a0.tmps.getD t undef)→Below B wS w→B+2≤w.heap.size→w.heap[B]?=some (.cells #[x0,x1,x2] 27 (0,0))→w.heap[B+1]?=w0.heap[B+1]? →
      lF w (B+2) x0 (eN p.names).length 9 1 (GX wS M (eN p.names))→lF w (B+2) x1 (bF p.homes).length 31 3 (GX wS M (bF p.homes))→lF w (B+2) x2 (fM p.acts).length 37 3 (GX wS M (fM p.acts))→Q .normal a w) :
    (Code.region 1 aas true).wpIn (FW none) m Tryd.prog Q a0 w0:=by
  refine JO (fun L val w=>(∀ j,L j=true→PI B s0 s1 s2 j (val j))∧WC1 B wS w0 M p s0 s1 s2 L val w) JV rfl (by rw[ha];rfl) ?_ ?_ ?_
  · intro L val a w i o ho hL he h hI
    obtain⟨hK,hW⟩:=hI
    have hi:i<15:=(qAa.1 ho).1
    have e1:a.eval (.tmp 1)=.pointer (some ⟨B,0,none⟩):=(h.out rfl).trans t1
    have fin:∀ (v:Value),PI B s0 s1 s2 i v→(i≠2∧i≠5∧i≠8∧i≠10∧i≠12∧i≠14)→∃ u,a.put o.dst v=a.put o.dst u∧(∀ j,(L j||j==i)=true→PI B s0 s1 s2 j (if j=i then u else val j))∧WC1 B wS w0 M p s0 s1 s2 (fun j=>L j||j==i) (fun j=>if j=i then u else val j) w:=by
     rintro v hv ⟨n2,n5,n8,n10,n12,n14⟩
     refine⟨v,rfl,fun j hj=>?_,hW.same (fun j hj=>by simp[hj]) ?_ ?_ ?_ ?_ ?_ ?_ (if_neg n2.symm) (if_neg n5.symm) (if_neg n8.symm)⟩
     · by_cases e:j=i
       · subst e;rw[if_pos rfl];exact hv
       · rw[if_neg e];exact hK j (by simpa [e] using hj)
     all_goals (have hne:∀ k,k≠i→(k==i)=false:=fun k hk=>by simpa using hk)
     · simp[hne 2 n2.symm]
     · simp[hne 5 n5.symm]
     · simp[hne 8 n8.symm]
     · simp[hne 10 n10.symm]
     · simp[hne 12 n12.symm]
     · simp[hne 14 n14.symm]
    have jR:∀ {u:Value},PI B s0 s1 s2 i u→∀ j,(L j||j==i)=true→PI B s0 s1 s2 j (if j=i then u else val j):=fun {u} hu j hj=>by
     by_cases e:j=i
     · subst e;rw[if_pos rfl];exact hu
     · rw[if_neg e];exact hK j (by simpa [e] using hj)
    have n10:(L 1=false∨L 2=false∨L 4=false∨L 7=false)→L 10=false:=fun hn=>by
     cases h10:L 10 with
     | false=>rfl
     | true=>obtain⟨q1,q2,q3,q4⟩:=hW.o10 h10;rw[q1,q2,q3,q4]at hn;simp at hn
    have n12:(L 10=false∨L 5=false)→L 12=false:=fun hn=>by
     cases h12:L 12 with
     | false=>rfl
     | true=>obtain⟨q1,q2⟩:=hW.o12 h12;rw[q1,q2]at hn;simp at hn
    have n14:(L 12=false∨L 8=false)→L 14=false:=fun hn=>by
     cases h14:L 14 with
     | false=>rfl
     | true=>obtain⟨q1,q2⟩:=hW.o14 h14;rw[q1,q2]at hn;simp at hn
    rcases(show i=0∨i=1∨i=2∨i=3∨i=4∨i=5∨i=6∨i=7∨i=8∨i=9∨i=10∨i=11∨i=12∨i=13∨i=14 by omega) with rfl | rfl | rfl | rfl | rfl | rfl | rfl | rfl | rfl | rfl | rfl | rfl | rfl | rfl | rfl
    all_goals (have ho':=ho;simp only[aas,List.getElem?_toArray,List.getElem?_cons_zero,List.getElem?_cons_succ,qOa]at ho';subst ho')
    · refine aU ho rfl (by simp[Oper.about]) (fun c h=>by cases h) (v:=.pointer (some ⟨B,0,none⟩)) (w':=w) (by simp only[execOp,e1];simp[go_sem]) (fin _ ?_ (by decide))
      simp[PI]
    · -- 1
      have g4:=h.at 0 (d:=4) rfl (he ⟨0,.data⟩ (by simp) rfl)
      rw[(hK 0 (he ⟨0,.data⟩ (by simp) rfl)).1 (.inl rfl)]at g4
      have hc:w.cell? ⟨B,0,none⟩=some s0:=by simp[World.cell?,hW.pb,n10 (.inl hL)]
      refine aU ho rfl (by simp[Oper.about]) (fun c h=>by cases h) (v:=s0) (w':=w) (by simp only[execOp,g4];simp[Instr.loadAt,go_sem,hc]) (fin _ ?_ (by decide))
      simp[PI]
    · -- 2
      have g5:=h.at 1 (d:=5) rfl (he ⟨1,.data⟩ (by simp) rfl)
      rw[(hK 1 (he ⟨1,.data⟩ (by simp) rfl)).2.2.2.1 rfl]at g5
      have hv:VR w M (.list false [.str] (eN p.names)) s0:=h0.mono fun b hb=>⟨hb,hW.below.block b (hM b hb)⟩
      have:=abR hv (by rw[cZ];have:=hp.names;omega)
      refine jH (f:=54) (args:=#[s0]) ho rfl (fun c h=>by cases h) (by simp[go_sem,sO g5]) (this.mono fun e w' ⟨v',he',hcp⟩=>⟨v',he',v',rfl,jR (by simp[PI]),?_⟩)
      obtain⟨q1,q2,q3,q4,q5,q6,q7,q8,q9,q10⟩:=hW.call hcp.below
      have z10:=n10 (.inr (.inl hL))
      have z12:=n12 (.inl z10)
      have WX:=n14 (.inl z12)
      refine⟨q1,q2,q3,by simpa [z10,z12,WX] using q4,fun _=>?_,by simpa using q6,by simpa using q7,by simp[z10],by simp[z12],by simp[WX]⟩
      exact(qM hcp).mono hW.sz (fun _ _ _=>rfl) fun _ _ _ hc=>hc.mono fun b hb=>⟨hb,(hW.below.block b (hM b hb)).symm⟩
    · -- 3
      refine aU ho rfl (by simp[Oper.about]) (fun c h=>by cases h) (v:=.pointer (some ⟨B,1,none⟩)) (w':=w) (by simp only[execOp,e1];simp[go_sem]) (fin _ ?_ (by decide))
      simp[PI]
    · -- 4
      have g4:=h.at 3 (d:=7) rfl (he ⟨3,.data⟩ (by simp) rfl)
      rw[(hK 3 (he ⟨3,.data⟩ (by simp) rfl)).2.1 (.inl rfl)]at g4
      have hc:w.cell? ⟨B,1,none⟩=some s1:=by simp[World.cell?,hW.pb,n12 (.inl (n10 (.inr (.inr (.inl hL)))))]
      refine aU ho rfl (by simp[Oper.about]) (fun c h=>by cases h) (v:=s1) (w':=w) (by simp only[execOp,g4];simp[Instr.loadAt,go_sem,hc]) (fin _ ?_ (by decide))
      simp[PI]
    · -- 5
      have g5:=h.at 4 (d:=8) rfl (he ⟨4,.data⟩ (by simp) rfl)
      rw[(hK 4 (he ⟨4,.data⟩ (by simp) rfl)).2.2.2.2.1 rfl]at g5
      have hv:VR w M (.list true bZ (bF p.homes)) s1:=h1.mono fun b hb=>⟨hb,hW.below.block b (hM b hb)⟩
      have:=abS hv (by rw[aY];have:=hp.homes;omega)
      refine jH (f:=55) (args:=#[s1]) ho rfl (fun c h=>by cases h) (by simp[go_sem,sO g5]) (this.mono fun e w' ⟨v',he',hcp⟩=>⟨v',he',v',rfl,jR (by simp[PI]),?_⟩)
      obtain⟨q1,q2,q3,q4,q5,q6,q7,q8,q9,q10⟩:=hW.call hcp.below
      have z12:=n12 (.inr hL)
      have WX:=n14 (.inl z12)
      refine⟨q1,q2,q3,by simpa [z12,WX] using q4,by simpa using q5,fun _=>?_,by simpa using q7,by simpa using q8,by simp[z12],by simp[WX]⟩
      exact(qM hcp).mono hW.sz (fun _ _ _=>rfl) fun _ _ _ hc=>hc.mono fun b hb=>⟨hb,(hW.below.block b (hM b hb)).symm⟩
    · -- 6
      refine aU ho rfl (by simp[Oper.about]) (fun c h=>by cases h) (v:=.pointer (some ⟨B,2,none⟩)) (w':=w) (by simp only[execOp,e1];simp[go_sem]) (fin _ ?_ (by decide))
      simp[PI]
    · -- 7
      have g4:=h.at 6 (d:=10) rfl (he ⟨6,.data⟩ (by simp) rfl)
      rw[(hK 6 (he ⟨6,.data⟩ (by simp) rfl)).2.2.1 (.inl rfl)]at g4
      have hc:w.cell? ⟨B,2,none⟩=some s2:=by simp[World.cell?,hW.pb,n14 (.inl (n12 (.inl (n10 (.inr (.inr (.inr hL)))))))]
      refine aU ho rfl (by simp[Oper.about]) (fun c h=>by cases h) (v:=s2) (w':=w) (by simp only[execOp,g4];simp[Instr.loadAt,go_sem,hc]) (fin _ ?_ (by decide))
      simp[PI]
    · -- 8
      have g5:=h.at 7 (d:=11) rfl (he ⟨7,.data⟩ (by simp) rfl)
      rw[(hK 7 (he ⟨7,.data⟩ (by simp) rfl)).2.2.2.2.2 rfl]at g5
      have hv:VR w M (.list true dD (fM p.acts)) s2:=h2.mono fun b hb=>⟨hb,hW.below.block b (hM b hb)⟩
      have:=abT hv (by rw[aW];have:=hp.acts;omega)
      refine jH (f:=56) (args:=#[s2]) ho rfl (fun c h=>by cases h) (by simp[go_sem,sO g5]) (this.mono fun e w' ⟨v',he',hcp⟩=>⟨v',he',v',rfl,jR (by simp[PI]),?_⟩)
      obtain⟨q1,q2,q3,q4,q5,q6,q7,q8,q9,q10⟩:=hW.call hcp.below
      have WX:=n14 (.inr hL)
      refine⟨q1,q2,q3,by simpa [WX] using q4,by simpa using q5,by simpa using q6,fun _=>?_,by simpa using q8,by simpa using q9,by simp[WX]⟩
      exact(qM hcp).mono hW.sz (fun _ _ _=>rfl) fun _ _ _ hc=>hc.mono fun b hb=>⟨hb,(hW.below.block b (hM b hb)).symm⟩
    · -- 9
      refine aU ho rfl (by simp[Oper.about]) (fun c h=>by cases h) (v:=.pointer (some ⟨B,0,none⟩)) (w':=w) (by simp only[execOp,e1];simp[go_sem]) (fin _ ?_ (by decide))
      simp[PI]
    · -- 10
      have l2:=he ⟨2,.data⟩ (by simp) rfl
      have g1:=h.at 9 (d:=13) rfl (he ⟨9,.data⟩ (by simp) rfl)
      rw[(hK 9 (he ⟨9,.data⟩ (by simp) rfl)).1 (.inr rfl)]at g1
      have g2:=h.at 2 (d:=6) rfl l2
      have z12:=n12 (.inl hL)
      have WX:=n14 (.inl z12)
      obtain⟨hst,hsc⟩:=store_one (t:=23) (k:=0) info23 hW.pb (by simp) (hW.v2 l2).one
      refine oI ho rfl (by simp[Oper.about]) (fun c h=>by cases h) (w':=w.setCell ⟨B,0,none⟩ (val 2)) (by simp only[execOp,g1,g2];simp[hst]) ⟨undef,rfl,jR (by simp[PI]),?_⟩
      refine hW.store hsc (fun j hj=>by simp[hj]) (by simp) (by simp) (by simp) (by simp) (by simp) (by simp) (by simp[z12,WX]) (fun _=>?_) (by simp[z12]) (by simp[WX])
      simp[he ⟨1,.phase⟩ (by simp) rfl,l2,he ⟨4,.phase⟩ (by simp) rfl,he ⟨7,.phase⟩ (by simp) rfl]
    · -- 11
      refine aU ho rfl (by simp[Oper.about]) (fun c h=>by cases h) (v:=.pointer (some ⟨B,1,none⟩)) (w':=w) (by simp only[execOp,e1];simp[go_sem]) (fin _ ?_ (by decide))
      simp[PI]
    · -- 12
      have l5:=he ⟨5,.data⟩ (by simp) rfl
      have l10:=he ⟨10,.chain⟩ (by simp) rfl
      have g1:=h.at 11 (d:=14) rfl (he ⟨11,.data⟩ (by simp) rfl)
      rw[(hK 11 (he ⟨11,.data⟩ (by simp) rfl)).2.1 (.inr rfl)]at g1
      have g2:=h.at 5 (d:=9) rfl l5
      have WX:=n14 (.inl hL)
      obtain⟨hst,hsc⟩:=store_one (t:=24) (k:=1) info24 hW.pb (by simp) (hW.v5 l5).one
      refine oI ho rfl (by simp[Oper.about]) (fun c h=>by cases h) (w':=w.setCell ⟨B,1,none⟩ (val 5)) (by simp only[execOp,g1,g2];simp[hst]) ⟨undef,rfl,jR (by simp[PI]),?_⟩
      refine hW.store hsc (fun j hj=>by simp[hj]) (by simp) (by simp) (by simp) (by simp) (by simp) (by simp) (by simp[l10,WX]) (by simpa using hW.o10) (by simp[l10,l5]) (by simp[WX])
    · -- 13
      refine aU ho rfl (by simp[Oper.about]) (fun c h=>by cases h) (v:=.pointer (some ⟨B,2,none⟩)) (w':=w) (by simp only[execOp,e1];simp[go_sem]) (fin _ ?_ (by decide))
      simp[PI]
    · -- 14
      have l8:=he ⟨8,.data⟩ (by simp) rfl
      have l12:=he ⟨12,.chain⟩ (by simp) rfl
      have l10:=(hW.o12 l12).1
      have g1:=h.at 13 (d:=15) rfl (he ⟨13,.data⟩ (by simp) rfl)
      rw[(hK 13 (he ⟨13,.data⟩ (by simp) rfl)).2.2.1 (.inr rfl)]at g1
      have g2:=h.at 8 (d:=12) rfl l8
      obtain⟨hst,hsc⟩:=store_one (t:=25) (k:=2) info25 hW.pb (by simp) (hW.v8 l8).one
      refine oI ho rfl (by simp[Oper.about]) (fun c h=>by cases h) (w':=w.setCell ⟨B,2,none⟩ (val 8)) (by simp only[execOp,g1,g2];simp[hst]) ⟨undef,rfl,jR (by simp[PI]),?_⟩
      refine hW.store hsc (fun j hj=>by simp[hj]) (by simp) (by simp) (by simp) (by simp) (by simp) (by simp) (by simp[l10,l12]) (by simpa using hW.o10) (by simpa using hW.o12) (by simp[l12,l8])
  · refine⟨fun j h=>(by cases h),⟨hb0.drew,hsz,rfl,hP,fun h=>(by cases h),fun h=>(by cases h),fun h=>(by cases h),fun h=>(by cases h),fun h=>(by cases h),fun h=>(by cases h)⟩⟩
  · rintro L val a w hall hU ⟨hK,hW⟩
    have hall:∀ i,i<15→L i=true:=hall
    have hpb:=hW.pb
    rw[hall 10 (by decide),hall 12 (by decide),hall 14 (by decide)]at hpb
    refine post a w (val 2) (val 5) (val 8) (hU.size.trans ha) hU.defers (fun t ht=>hU.keep t fun i o ho e=>?_) hW.below hW.sz hpb hW.rb (hW.v2 (hall 2 (by decide))) (hW.v5 (hall 5 (by decide))) (hW.v8 (hall 8 (by decide)))
    have h1:((List.range 15).all fun i=>match aas[i]?.bind (·.dst) with | some d=>Nat.ble 4 d&&Nat.ble d 15 | none=>true)=true:=rfl
    have h2:=List.all_eq_true.1 h1 i (List.mem_range.2 (qAa.1 ho).1)
    simp only[ho,Option.bind_some,e,qBa,Nat.ble_eq]at h2
    omega
end Go.Skm.Prg
