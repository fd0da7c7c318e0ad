import Derived.Test.YtfmoopdnamdobaaDoorV8
namespace Go.Skm.Prg
open Go Go.Skm Go.Proofs Go.RowKit Go.Shelf
def Np (Cb g k n cap:Nat) (s:ByteArray):Nat→Value
 | 0 | 3=>.pointer (some ⟨Cb,0,none⟩)
 | 1 | 4=>.slice (some ⟨g,0,none⟩) n cap
 | 2 | 5=>.int .i64 k
 | 6 | 9=>.pointer (some ⟨g,k,none⟩)
 | 7=>.string s
 | 8=>.string (s++⟨#[120]⟩)
 | _=>undef
theorem info9:(Tryd.prog.info? 9).map (·.size)=some 1:=by kernel_rfl
set_option maxRecDepth 10000 in
set_option maxHeartbeats 2000000 in
theorem VJ {m : Nat} {Q : Exit → Act → World → Prop} {Cb g k n cap : Nat} {w0 : World} {x1 x2 : Value} {s : ByteArray} {cur : Array Value} {a0 : Act} (ha : a0.tmps.size = 133) (t5 : a0.tmps.getD 5 undef = .pointer (some ⟨Cb,0,none⟩)) (t7 : a0.tmps.getD 7 undef = .int .i64 k) (hk : k < n)
    (hC:w0.heap[Cb]?=some (.cells #[.slice (some ⟨g,0,none⟩) n cap,x1,x2] 27 (0,0))) (hg:w0.heap[g]?=some (.cells cur 9 (0,0))) (hc:n≤cur.size) (hcur:cur.getD k undef=.string s) (hs:s.size≤100000)
    (post:∀ (a:Act) (w:World) (s':ByteArray),a.tmps.size=133→a.defers=a0.defers→(∀ t,t<61∨70<t→a.tmps.getD t undef=a0.tmps.getD t undef)→w=w0.drew.setCell ⟨g,k,none⟩ (.string s')→Q .normal a w) :
    (Code.region 12 QX true).wpIn (FW none) m Tryd.prog Q a0 w0:=by
  refine JO (fun L val w=>(∀ j,L j=true→val j=Np Cb g k n cap s j)∧(L 10=true→∀ j,j<10→L j=true)∧w=bif L 10 then w0.drew.setCell ⟨g,k,none⟩ (.string (s++⟨#[120]⟩)) else w0.drew) JV rfl (by rw[ha];rfl) ?_ ?_ ?_
  · intro L val a w i o ho hL he h hI
    obtain⟨hK,hO,hW⟩:=hI
    have hi:i<11:=(qAa.1 ho).1
    have e5:a.eval (.tmp 5)=.pointer (some ⟨Cb,0,none⟩):=(h.out rfl).trans t5
    have e7:a.eval (.tmp 7)=.int .i64 k:=(h.out rfl).trans t7
    have l10:L 10=false:=by
     cases h10:L 10 with
     | false=>rfl
     | true =>
      by_cases e:i=10
      · subst e;rw[hL]at h10;cases h10
      · rw[hO h10 i (by omega)]at hL;cases hL
    rw[l10,cond_false]at hW
    have jR:∀ {u:Value},i≠10→u=Np Cb g k n cap s i→∃ v,a.put o.dst u=a.put o.dst v∧(∀ j,(L j||j==i)=true→(if j=i then v else val j)=Np Cb g k n cap s j)∧((L 10||10==i)=true→∀ j,j<10→(L j||j==i)=true)∧w=bif (L 10||10==i) then w0.drew.setCell ⟨g,k,none⟩ (.string (s++⟨#[120]⟩)) else w0.drew:=fun {u} hne hu=>by
     have hb:(10==i)=false:=by simpa using Ne.symm hne
     refine⟨u,rfl,fun j hj=>?_,fun h=>?_,?_⟩
     · by_cases e:j=i
       · subst e;rw[if_pos rfl];exact hu
       · rw[if_neg e];exact hK j (by simpa [e] using hj)
     · rw[l10,hb]at h;cases h
     · rw[l10,hb];exact hW
    subst hW
    have adX:k<cur.size:=by omega
    have y0:w0.drew.cell? ⟨Cb,0,none⟩=some (.slice (some ⟨g,0,none⟩) n cap):=by
     show w0.cell? _=_
     simp[World.cell?,hC]
    have y1:w0.drew.cell? ⟨g,k,none⟩=some (.string s):=by
     show w0.cell? _=_
     rw[← hcur,qAb,qAd adX]
     simp[World.cell?,hg,adX]
    have gg:∀ (j:Nat) {d:Nat},(QX[j]?.bind (·.dst))=some d→L j=true→a.eval (.tmp d)=Np Cb g k n cap s j:=fun j d hd hl=>(h.at j hd hl).trans (hK j hl)
    rcases(show i=0∨i=1∨i=2∨i=3∨i=4∨i=5∨i=6∨i=7∨i=8∨i=9∨i=10 by omega) with rfl | rfl | rfl | rfl | rfl | rfl | rfl | rfl | rfl | rfl | rfl
    all_goals (have ho':=ho;simp only[QX,List.getElem?_toArray,List.getElem?_cons_zero,List.getElem?_cons_succ,qOa]at ho';subst ho')
    · exact aU ho rfl (by simp[Oper.about]) (fun c h=>by cases h) (v:=.pointer (some ⟨Cb,0,none⟩)) (w':=w0.drew) (by simp only[execOp,e5];simp[go_sem]) (jR (by decide) rfl)
    · have g0:=gg 0 (d:=61) rfl (he ⟨0,.data⟩ (by simp) rfl)
      exact aU ho rfl (by simp[Oper.about]) (fun c h=>by cases h) (v:=.slice (some ⟨g,0,none⟩) n cap) (w':=w0.drew) (by simp only[execOp,g0,Np];simp[Instr.loadAt,go_sem,y0]) (jR (by decide) rfl)
    · exact aU ho rfl (by simp[Oper.about]) (fun c h=>by cases h) (v:=.int .i64 k) (w':=w0.drew) (by simp only[execOp,e7];rfl) (jR (by decide) rfl)
    · exact aU ho rfl (by simp[Oper.about]) (fun c h=>by cases h) (v:=.pointer (some ⟨Cb,0,none⟩)) (w':=w0.drew) (by simp only[execOp,e5];simp[go_sem]) (jR (by decide) rfl)
    · have g0:=gg 3 (d:=64) rfl (he ⟨3,.data⟩ (by simp) rfl)
      exact aU ho rfl (by simp[Oper.about]) (fun c h=>by cases h) (v:=.slice (some ⟨g,0,none⟩) n cap) (w':=w0.drew) (by simp only[execOp,g0,Np];simp[Instr.loadAt,go_sem,y0]) (jR (by decide) rfl)
    · exact aU ho rfl (by simp[Oper.about]) (fun c h=>by cases h) (v:=.int .i64 k) (w':=w0.drew) (by simp only[execOp,e7];rfl) (jR (by decide) rfl)
    · have g0:=gg 4 (d:=65) rfl (he ⟨4,.data⟩ (by simp) rfl)
      have g1:=gg 5 (d:=66) rfl (he ⟨5,.data⟩ (by simp) rfl)
      exact aU ho rfl (by simp[Oper.about]) (fun c h=>by cases h) (v:=.pointer (some ⟨g,k,none⟩)) (w':=w0.drew) (by simp only[execOp,g0,g1,Np];simp[Instr.indexAt,go_sem,hk]) (jR (by decide) rfl)
    · have g0:=gg 6 (d:=67) rfl (he ⟨6,.data⟩ (by simp) rfl)
      exact aU ho rfl (by simp[Oper.about]) (fun c h=>by cases h) (v:=.string s) (w':=w0.drew) (by simp only[execOp,g0,Np];simp[Instr.loadAt,go_sem,y1]) (jR (by decide) rfl)
    · have g0:=gg 7 (d:=68) rfl (he ⟨7,.data⟩ (by simp) rfl)
      exact aU ho rfl (by simp[Oper.about]) (fun c h=>by cases h) (v:=.string (s++⟨#[120]⟩)) (w':=w0.drew) (by simp only[execOp,g0,Np];simp[go_sem];omega) (jR (by decide) rfl)
    · have g0:=gg 1 (d:=62) rfl (he ⟨1,.data⟩ (by simp) rfl)
      have g1:=gg 2 (d:=63) rfl (he ⟨2,.data⟩ (by simp) rfl)
      exact aU ho rfl (by simp[Oper.about]) (fun c h=>by cases h) (v:=.pointer (some ⟨g,k,none⟩)) (w':=w0.drew) (by simp only[execOp,g0,g1,Np];simp[Instr.indexAt,go_sem,hk]) (jR (by decide) rfl)
    · have g0:=gg 9 (d:=70) rfl (he ⟨9,.data⟩ (by simp) rfl)
      have g1:=gg 8 (d:=69) rfl (he ⟨8,.data⟩ (by simp) rfl)
      obtain⟨hst,_⟩:=store_one (t:=9) (k:=k) (w:=w0.drew) (v:=.string (s++⟨#[120]⟩)) info9 hg adX ⟨rfl,rfl⟩
      have hall:∀ j,j<10→L j=true:=fun j hj=>by
       rcases(show j=0∨j=1∨j=2∨j=3∨j=4∨j=5∨j=6∨j=7∨j=8∨j=9 by omega) with rfl | rfl | rfl | rfl | rfl | rfl | rfl | rfl | rfl | rfl
       all_goals first
        | exact he ⟨9,.data⟩ (by simp) rfl
        | exact he ⟨_,.phase⟩ (by simp) rfl
      refine oI ho rfl (by simp[Oper.about]) (fun c h=>by cases h) (w':=w0.drew.setCell ⟨g,k,none⟩ (.string (s++⟨#[120]⟩))) (by simp only[execOp,g0,g1,Np];simp[hst]) ⟨undef,rfl,fun j hj=>?_,fun _ j hj=>by simp[hall j hj],by simp⟩
      by_cases e:j=10
      · subst e;rfl
      · show (if j=10 then undef else val j)=_
        rw[if_neg e];exact hK j (by simpa [e] using hj)
  · exact⟨fun j h=>(by cases h),fun h=>(by cases h),rfl⟩
  · rintro L val a w hall hU ⟨hK,hO,hW⟩
    have hall:∀ i,i<11→L i=true:=hall
    rw[hall 10 (by decide)]at hW
    refine post a w _ (hU.size.trans ha) hU.defers (fun t ht=>hU.keep t fun i o ho e=>?_) hW
    have h1:((List.range 11).all fun i=>match QX[i]?.bind (·.dst) with | some d=>Nat.ble 61 d&&Nat.ble d 70 | none=>true)=true:=rfl
    have h2:=List.all_eq_true.1 h1 i (List.mem_range.2 (qAa.1 ho).1)
    simp only[ho,Option.bind_some,e,qBa,Nat.ble_eq]at h2
    omega
end Go.Skm.Prg
