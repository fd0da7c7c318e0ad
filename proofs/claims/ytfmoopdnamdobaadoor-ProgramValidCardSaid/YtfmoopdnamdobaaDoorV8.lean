import Derived.Test.YtfmoopdnamdobaaDoorV7
namespace Go.Skm.Prg
open Go Go.Skm Go.Proofs Go.RowKit Go.Shelf
def PK:Array Oper:=#[
 ⟨some 20, .load 27 (.tmp 2), 27, "law.go:53", #[], none⟩,
 ⟨some 21, .call { callee := .value (.func 10), args := #[.tmp 20], argTypes := #[27] }, 4, "law.go:53", #[⟨0, .data⟩], none⟩,
 ⟨some 22, .load 27 (.tmp 2), 27, "law.go:53", #[], none⟩,
 ⟨some 23, .call { callee := .value (.func 15), args := #[.tmp 22], argTypes := #[27] }, 4, "law.go:53", #[⟨2, .data⟩, ⟨1, .chain⟩], none⟩,
 ⟨some 24, .binOp .neq 4 (.tmp 21) (.tmp 23) 4, 4, "law.go:53", #[⟨1, .data⟩, ⟨3, .data⟩], none⟩,
 ⟨some 25, .move (.tmp 24), 4, "law.go:53", #[⟨4, .data⟩, ⟨3, .chain⟩], none⟩,
 ⟨some 26, .load 27 (.tmp 2), 27, "law.go:53", #[⟨5, .guard⟩], some (5, false)⟩,
 ⟨some 27, .load 27 (.tmp 3), 27, "law.go:53", #[⟨5, .guard⟩], some (5, false)⟩,
 ⟨some 28, .call { callee := .value (.func 31), args := #[.tmp 26, .tmp 27], argTypes := #[27, 27] }, 4, "law.go:53", #[⟨6, .data⟩, ⟨7, .data⟩, ⟨5, .chain⟩, ⟨5, .guard⟩], some (5, false)⟩,
 ⟨some 29, .load 27 (.tmp 2), 27, "law.go:53", #[⟨5, .guard⟩], some (5, false)⟩,
 ⟨some 30, .load 27 (.tmp 3), 27, "law.go:53", #[⟨5, .guard⟩], some (5, false)⟩,
 ⟨some 31, .call { callee := .value (.func 21), args := #[.tmp 29, .tmp 30], argTypes := #[27, 27] }, 4, "law.go:53", #[⟨9, .data⟩, ⟨10, .data⟩, ⟨8, .chain⟩, ⟨5, .guard⟩], some (5, false)⟩,
 ⟨some 32, .binOp .neq 4 (.tmp 28) (.tmp 31) 4, 4, "law.go:53", #[⟨8, .data⟩, ⟨11, .data⟩, ⟨5, .guard⟩], some (5, false)⟩,
 ⟨some 33, .pick (.tmp 25) (.const (.bool true)) (.tmp 32), 4, "law.go:53", #[⟨5, .data⟩, ⟨12, .data⟩], none⟩,
 ⟨some 34, .move (.tmp 33), 4, "law.go:53", #[⟨13, .data⟩, ⟨11, .chain⟩], none⟩,
 ⟨some 35, .load 27 (.tmp 2), 27, "law.go:53", #[⟨14, .guard⟩], some (14, false)⟩,
 ⟨some 36, .load 27 (.tmp 2), 27, "law.go:53", #[⟨14, .guard⟩], some (14, false)⟩,
 ⟨some 37, .call { callee := .value (.func 31), args := #[.tmp 35, .tmp 36], argTypes := #[27, 27] }, 4, "law.go:53", #[⟨15, .data⟩, ⟨16, .data⟩, ⟨14, .chain⟩, ⟨14, .guard⟩], some (14, false)⟩,
 ⟨some 38, .unOp .not 4 (.tmp 37), 4, "law.go:53", #[⟨17, .data⟩, ⟨14, .guard⟩], some (14, false)⟩,
 ⟨some 39, .pick (.tmp 34) (.const (.bool true)) (.tmp 38), 4, "law.go:53", #[⟨14, .data⟩, ⟨18, .data⟩], none⟩]
def QX:Array Oper:=#[
 ⟨some 61, .fieldAddr 27 (.tmp 5) 0, 0, "law.go:62", #[], none⟩,
 ⟨some 62, .load 23 (.tmp 61), 23, "law.go:62", #[⟨0, .data⟩], none⟩,
 ⟨some 63, .move (.tmp 7), 3, "law.go:62", #[], none⟩,
 ⟨some 64, .fieldAddr 27 (.tmp 5) 0, 0, "law.go:62", #[], none⟩,
 ⟨some 65, .load 23 (.tmp 64), 23, "law.go:62", #[⟨3, .data⟩], none⟩,
 ⟨some 66, .move (.tmp 7), 3, "law.go:62", #[], none⟩,
 ⟨some 67, .indexAddr 23 (.tmp 65) (.tmp 66), 0, "law.go:62", #[⟨4, .data⟩, ⟨5, .data⟩], none⟩,
 ⟨some 68, .load 9 (.tmp 67), 9, "law.go:62", #[⟨6, .data⟩], none⟩,
 ⟨some 69, .binOp .add 9 (.tmp 68) (.const (.string ⟨#[120]⟩)) 9, 9, "law.go:62", #[⟨7, .data⟩], none⟩,
 ⟨some 70, .indexAddr 23 (.tmp 62) (.tmp 63), 0, "law.go:62", #[⟨1, .data⟩, ⟨2, .data⟩, ⟨0, .phase⟩, ⟨1, .phase⟩, ⟨2, .phase⟩, ⟨3, .phase⟩, ⟨4, .phase⟩, ⟨5, .phase⟩, ⟨6, .phase⟩, ⟨7, .phase⟩, ⟨8, .phase⟩], none⟩,
 ⟨none, .store 9 (.tmp 70) (.tmp 69), 0, "law.go:62", #[⟨9, .data⟩, ⟨8, .data⟩, ⟨0, .phase⟩, ⟨1, .phase⟩, ⟨2, .phase⟩, ⟨3, .phase⟩, ⟨4, .phase⟩, ⟨5, .phase⟩, ⟨6, .phase⟩, ⟨7, .phase⟩, ⟨8, .phase⟩], none⟩]
theorem Uf {ops:Array Oper} {o:Oper} {a:Act} {j d:Nat} {b:Bool} (hg:o.guard=some (j,b)) (hd:(ops[j]?.bind (·.dst))=some d) (hs:d<a.tmps.size) (he:a.eval (.tmp d)=.bool b):Region.wanted o (yielded ops a.tmps)=true:=by
 unfold Region.wanted
 rw[hg]
 have h1:a.tmps[d]?=some (.bool b):=by
  have:a.tmps.getD d undef=.bool b:=he
  rw[qAb,qAd hs,Option.getD_some]at this
  rw[qAd hs,this]
 simp only[yielded,hd,Option.bind_some,h1]
 exact beq_self_eq_true _
def Uh (vp vq:Value) (b b':Bool):Nat→Value
 | 0 | 2 | 6 | 9 | 15 | 16=>vp
 | 7 | 10=>vq
 | 1 | 3=>.bool b
 | 8 | 11=>.bool b'
 | 17=>.bool true
 | _=>.bool false
set_option maxRecDepth 10000 in
set_option maxHeartbeats 2000000 in
theorem Yk {m : Nat} {Q : Exit → Act → World → Prop} {Pb Qb : Nat} {w0 : World} {p0 p1 p2 q0 q1 q2 : Value} {b b' : Bool} {a0 : Act} (ha : a0.tmps.size = 133) (t2 : a0.tmps.getD 2 undef = .pointer (some ⟨Pb,0,none⟩)) (t3 : a0.tmps.getD 3 undef = .pointer (some ⟨Qb,0,none⟩))
    (hP:w0.heap[Pb]?=some (.cells #[p0,p1,p2] 27 (0,0))) (hQ:w0.heap[Qb]?=some (.cells #[q0,q1,q2] 27 (0,0)))
    (c10:∀ W,Below w0.heap.size w0 W→Calls Tryd.prog 10 #[.agg #[p0,p1,p2]] W fun e W'=>e=.returned (.bool b)∧Below W.heap.size W W')
    (c15:∀ W,Below w0.heap.size w0 W→Calls Tryd.prog 15 #[.agg #[p0,p1,p2]] W fun e W'=>e=.returned (.bool b)∧Below W.heap.size W W')
    (c31:∀ W,Below w0.heap.size w0 W→Calls Tryd.prog 31 #[.agg #[p0,p1,p2],.agg #[q0,q1,q2]] W fun e W'=>e=.returned (.bool b')∧Below W.heap.size W W')
    (c21:∀ W,Below w0.heap.size w0 W→Calls Tryd.prog 21 #[.agg #[p0,p1,p2],.agg #[q0,q1,q2]] W fun e W'=>e=.returned (.bool b')∧Below W.heap.size W W')
    (alp:∀ W,Below w0.heap.size w0 W→Calls Tryd.prog 31 #[.agg #[p0,p1,p2],.agg #[p0,p1,p2]] W fun e W'=>e=.returned (.bool true)∧Below W.heap.size W W')
    (post:∀ (a:Act) (w:World),a.tmps.size=133→a.defers=a0.defers→(∀ t,t<20∨39<t→a.tmps.getD t undef=a0.tmps.getD t undef)→a.tmps.getD 39 undef=.bool false→Below w0.heap.size w0 w→Q .normal a w) :
    (Code.region 3 PK true).wpIn (FW none) m Tryd.prog Q a0 w0:=by
  refine JO (fun L val w=>(∀ j,L j=true→val j=Uh (.agg #[p0,p1,p2]) (.agg #[q0,q1,q2]) b b' j)∧Below w0.heap.size w0 w) JV rfl (by rw[ha];rfl) ?_ ?_ ?_
  · intro L val a w i o ho hL he h hI
    obtain⟨hK,hW⟩:=hI
    have hi:i<20:=(qAa.1 ho).1
    have e2:a.eval (.tmp 2)=.pointer (some ⟨Pb,0,none⟩):=(h.out rfl).trans t2
    have e3:a.eval (.tmp 3)=.pointer (some ⟨Qb,0,none⟩):=(h.out rfl).trans t3
    have hsz:a.tmps.size=133:=h.size.trans ha
    have jR:∀ {u:Value} {w':World},u=Uh (.agg #[p0,p1,p2]) (.agg #[q0,q1,q2]) b b' i→Below w0.heap.size w0 w'→∃ v,a.put o.dst u=a.put o.dst v∧(∀ j,(L j||j==i)=true→(if j=i then v else val j)=Uh (.agg #[p0,p1,p2]) (.agg #[q0,q1,q2]) b b' j)∧Below w0.heap.size w0 w':=fun {u w'} hu hw=>by
     refine⟨u,rfl,fun j hj=>?_,hw⟩
     by_cases e:j=i
     · subst e;rw[if_pos rfl];exact hu
     · rw[if_neg e];exact hK j (by simpa [e] using hj)
    have cP:w.heap[Pb]?=some (.cells #[p0,p1,p2] 27 (0,0)):=(hW.block Pb (qAa.1 hP).1).trans hP
    have cQ:w.heap[Qb]?=some (.cells #[q0,q1,q2] 27 (0,0)):=(hW.block Qb (qAa.1 hQ).1).trans hQ
    have y0:w.cell? ⟨Pb,0,none⟩=some p0:=by simp[World.cell?,cP]
    have y1:w.cell? ⟨Pb,1,none⟩=some p1:=by simp[World.cell?,cP]
    have y2:w.cell? ⟨Pb,2,none⟩=some p2:=by simp[World.cell?,cP]
    have x0:w.cell? ⟨Qb,0,none⟩=some q0:=by simp[World.cell?,cQ]
    have x1:w.cell? ⟨Qb,1,none⟩=some q1:=by simp[World.cell?,cQ]
    have x2:w.cell? ⟨Qb,2,none⟩=some q2:=by simp[World.cell?,cQ]
    have nxt:∀ {W':World},Below w.heap.size w W'→Below w0.heap.size w0 W':=fun h=>hW.trans (h.mono hW.size)
    have g:∀ (j:Nat) {d:Nat},(PK[j]?.bind (·.dst))=some d→L j=true→a.eval (.tmp d)=Uh (.agg #[p0,p1,p2]) (.agg #[q0,q1,q2]) b b' j:=fun j d hd hl=>(h.at j hd hl).trans (hK j hl)
    have w5:∀ o:Oper,o.guard=some (5,false)→L 5=true→Region.wanted o (yielded PK a.tmps)=true:=fun o hg hl=>Uf hg (d:=25) rfl (by omega) (g 5 rfl hl)
    have w14:∀ o:Oper,o.guard=some (14,false)→L 14=true→Region.wanted o (yielded PK a.tmps)=true:=fun o hg hl=>Uf hg (d:=34) rfl (by omega) (g 14 rfl hl)
    rcases(show i=0∨i=1∨i=2∨i=3∨i=4∨i=5∨i=6∨i=7∨i=8∨i=9∨i=10∨i=11∨i=12∨i=13∨i=14∨i=15∨i=16∨i=17∨i=18∨i=19 by omega) with rfl | rfl | rfl | rfl | rfl | rfl | rfl | rfl | rfl | rfl | rfl | rfl | rfl | rfl | rfl | rfl | rfl | rfl | rfl | rfl
    all_goals (have ho':=ho;simp only[PK,List.getElem?_toArray,List.getElem?_cons_zero,List.getElem?_cons_succ,qOa]at ho';subst ho')
    · exact eU ho rfl (by simp[Oper.about]) (fun c h=>by cases h) (v:=.agg #[p0,p1,p2]) (w':=w) (by simp only[execOp,e2];simp[Instr.loadAt,go_sem,y0,y1,y2]) (jR rfl hW)
    · have g0:=g 0 (d:=20) rfl (he ⟨0,.data⟩ (by simp) rfl)
      exact jH (f:=10) (args:=#[.agg #[p0,p1,p2]]) ho rfl (fun c h=>by cases h) (by simp[go_sem,sO g0,Uh]) ((c10 w hW).mono fun e w' ⟨he',hb⟩=>⟨_,he',jR rfl (nxt hb)⟩)
    · exact eU ho rfl (by simp[Oper.about]) (fun c h=>by cases h) (v:=.agg #[p0,p1,p2]) (w':=w) (by simp only[execOp,e2];simp[Instr.loadAt,go_sem,y0,y1,y2]) (jR rfl hW)
    · have g0:=g 2 (d:=22) rfl (he ⟨2,.data⟩ (by simp) rfl)
      exact jH (f:=15) (args:=#[.agg #[p0,p1,p2]]) ho rfl (fun c h=>by cases h) (by simp[go_sem,sO g0,Uh]) ((c15 w hW).mono fun e w' ⟨he',hb⟩=>⟨_,he',jR rfl (nxt hb)⟩)
    · have g0:=g 1 (d:=21) rfl (he ⟨1,.data⟩ (by simp) rfl)
      have g1:=g 3 (d:=23) rfl (he ⟨3,.data⟩ (by simp) rfl)
      exact eU ho rfl (by simp[Oper.about]) (fun c h=>by cases h) (v:=.bool false) (w':=w) (by simp only[execOp,g0,g1];simp[go_sem,Uh]) (jR rfl hW)
    · have g0:=g 4 (d:=24) rfl (he ⟨4,.data⟩ (by simp) rfl)
      exact eU ho rfl (by simp[Oper.about]) (fun c h=>by cases h) (v:=.bool false) (w':=w) (by simp only[execOp,g0];simp[go_sem,Uh]) (jR rfl hW)
    · exact eU ho (w5 _ rfl (he ⟨5,.guard⟩ (by simp) rfl)) (by simp[Oper.about]) (fun c h=>by cases h) (v:=.agg #[p0,p1,p2]) (w':=w) (by simp only[execOp,e2];simp[Instr.loadAt,go_sem,y0,y1,y2]) (jR rfl hW)
    · exact eU ho (w5 _ rfl (he ⟨5,.guard⟩ (by simp) rfl)) (by simp[Oper.about]) (fun c h=>by cases h) (v:=.agg #[q0,q1,q2]) (w':=w) (by simp only[execOp,e3];simp[Instr.loadAt,go_sem,x0,x1,x2]) (jR rfl hW)
    · have g0:=g 6 (d:=26) rfl (he ⟨6,.data⟩ (by simp) rfl)
      have g1:=g 7 (d:=27) rfl (he ⟨7,.data⟩ (by simp) rfl)
      exact jH (f:=31) (args:=#[.agg #[p0,p1,p2],.agg #[q0,q1,q2]]) ho (w5 _ rfl (he ⟨5,.guard⟩ (by simp) rfl)) (fun c h=>by cases h) (by simp[go_sem,sO g0,sO g1,Uh]) ((c31 w hW).mono fun e w' ⟨he',hb⟩=>⟨_,he',jR rfl (nxt hb)⟩)
    · exact eU ho (w5 _ rfl (he ⟨5,.guard⟩ (by simp) rfl)) (by simp[Oper.about]) (fun c h=>by cases h) (v:=.agg #[p0,p1,p2]) (w':=w) (by simp only[execOp,e2];simp[Instr.loadAt,go_sem,y0,y1,y2]) (jR rfl hW)
    · exact eU ho (w5 _ rfl (he ⟨5,.guard⟩ (by simp) rfl)) (by simp[Oper.about]) (fun c h=>by cases h) (v:=.agg #[q0,q1,q2]) (w':=w) (by simp only[execOp,e3];simp[Instr.loadAt,go_sem,x0,x1,x2]) (jR rfl hW)
    · have g0:=g 9 (d:=29) rfl (he ⟨9,.data⟩ (by simp) rfl)
      have g1:=g 10 (d:=30) rfl (he ⟨10,.data⟩ (by simp) rfl)
      exact jH (f:=21) (args:=#[.agg #[p0,p1,p2],.agg #[q0,q1,q2]]) ho (w5 _ rfl (he ⟨5,.guard⟩ (by simp) rfl)) (fun c h=>by cases h) (by simp[go_sem,sO g0,sO g1,Uh]) ((c21 w hW).mono fun e w' ⟨he',hb⟩=>⟨_,he',jR rfl (nxt hb)⟩)
    · have g0:=g 8 (d:=28) rfl (he ⟨8,.data⟩ (by simp) rfl)
      have g1:=g 11 (d:=31) rfl (he ⟨11,.data⟩ (by simp) rfl)
      exact eU ho (w5 _ rfl (he ⟨5,.guard⟩ (by simp) rfl)) (by simp[Oper.about]) (fun c h=>by cases h) (v:=.bool false) (w':=w) (by simp only[execOp,g0,g1];simp[go_sem,Uh]) (jR rfl hW)
    · have g0:=g 5 (d:=25) rfl (he ⟨5,.data⟩ (by simp) rfl)
      have g1:=g 12 (d:=32) rfl (he ⟨12,.data⟩ (by simp) rfl)
      exact eU ho rfl (by simp[Oper.about]) (fun c h=>by cases h) (v:=.bool false) (w':=w) (by simp only[execOp,g0,g1];simp[go_sem,Uh]) (jR rfl hW)
    · have g0:=g 13 (d:=33) rfl (he ⟨13,.data⟩ (by simp) rfl)
      exact eU ho rfl (by simp[Oper.about]) (fun c h=>by cases h) (v:=.bool false) (w':=w) (by simp only[execOp,g0];simp[go_sem,Uh]) (jR rfl hW)
    · exact eU ho (w14 _ rfl (he ⟨14,.guard⟩ (by simp) rfl)) (by simp[Oper.about]) (fun c h=>by cases h) (v:=.agg #[p0,p1,p2]) (w':=w) (by simp only[execOp,e2];simp[Instr.loadAt,go_sem,y0,y1,y2]) (jR rfl hW)
    · exact eU ho (w14 _ rfl (he ⟨14,.guard⟩ (by simp) rfl)) (by simp[Oper.about]) (fun c h=>by cases h) (v:=.agg #[p0,p1,p2]) (w':=w) (by simp only[execOp,e2];simp[Instr.loadAt,go_sem,y0,y1,y2]) (jR rfl hW)
    · have g0:=g 15 (d:=35) rfl (he ⟨15,.data⟩ (by simp) rfl)
      have g1:=g 16 (d:=36) rfl (he ⟨16,.data⟩ (by simp) rfl)
      exact jH (f:=31) (args:=#[.agg #[p0,p1,p2],.agg #[p0,p1,p2]]) ho (w14 _ rfl (he ⟨14,.guard⟩ (by simp) rfl)) (fun c h=>by cases h) (by simp[go_sem,sO g0,sO g1,Uh]) ((alp w hW).mono fun e w' ⟨he',hb⟩=>⟨_,he',jR rfl (nxt hb)⟩)
    · have g0:=g 17 (d:=37) rfl (he ⟨17,.data⟩ (by simp) rfl)
      exact eU ho (w14 _ rfl (he ⟨14,.guard⟩ (by simp) rfl)) (by simp[Oper.about]) (fun c h=>by cases h) (v:=.bool false) (w':=w) (by simp only[execOp,g0];simp[go_sem,Uh]) (jR rfl hW)
    · have g0:=g 14 (d:=34) rfl (he ⟨14,.data⟩ (by simp) rfl)
      have g1:=g 18 (d:=38) rfl (he ⟨18,.data⟩ (by simp) rfl)
      exact eU ho rfl (by simp[Oper.about]) (fun c h=>by cases h) (v:=.bool false) (w':=w) (by simp only[execOp,g0,g1];simp[go_sem,Uh]) (jR rfl hW)
  · exact⟨fun j h=>(by cases h),(Below.refl _ w0).drew⟩
  · rintro L val a w hall hU ⟨hK,hW⟩
    have hall:∀ i,i<20→L i=true:=hall
    refine post a w (hU.size.trans ha) hU.defers (fun t ht=>hU.keep t fun i o ho e=>?_) ((hU.at 19 (d:=39) rfl (hall 19 (by decide))).trans (hK 19 (hall 19 (by decide)))) hW
    have h1:((List.range 20).all fun i=>match PK[i]?.bind (·.dst) with | some d=>Nat.ble 20 d&&Nat.ble d 39 | none=>true)=true:=rfl
    have h2:=List.all_eq_true.1 h1 i (List.mem_range.2 (qAa.1 ho).1)
    simp only[ho,Option.bind_some,e,qBa,Nat.ble_eq]at h2
    omega
end Go.Skm.Prg
