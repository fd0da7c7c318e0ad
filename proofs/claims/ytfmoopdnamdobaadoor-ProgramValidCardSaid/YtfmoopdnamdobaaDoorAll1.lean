import Derived.Test.YtfmoopdnamdobaaDoorProg
import Derived.Test.YtfmoopdnamdobaaDoorSkmE
import Derived.WalkKit
import Derived.OwnWalkIn
import Derived.OrdersIn
namespace Go.Skm.Prg
open Go Go.Skm Go.Proofs
section
variable {F:Fence} {n:Nat} {P:Program} {ops:Array Oper} {Q:Exit→Act→World→Prop} {md:Region.Mode}
def acE (n:Nat) (L:Nat→Bool):Nat:=((List.range n).filter fun i=>!L i).length
theorem filter_one {L:Nat→Bool} {i:Nat} (h:L i=false):∀ l:List Nat,l.Nodup→i∈l→(l.filter fun j=>!(L j||j==i)).length+1=(l.filter fun j=>!L j).length
 | [],_,hm=>by simp at hm
 | x::r,hn,hm=>by
  have hn':=List.nodup_cons.1 hn
  by_cases e:x=i
  · subst e
    have hr:r.filter (fun j=>!(L j||j==x))=r.filter fun j=>!L j:=List.filter_congr fun j hj=>by
     have:(j==x)=false:=by simpa using fun e:j=x=>hn'.1 (e▸hj)
     rw[this,Bool.or_false]
    have e1:((x::r).filter fun j=>!(L j||j==x))=r.filter fun j=>!L j:=by
     rw[List.filter_cons,beq_self_eq_true,Bool.or_true,Bool.not_true,if_neg (by decide),hr]
    have e2:((x::r).filter fun j=>!L j)=x::r.filter fun j=>!L j:=by
     rw[List.filter_cons,h,Bool.not_false,if_pos rfl]
    rw[e1,e2,List.length_cons]
  · have hb:(x==i)=false:=by simpa using e
    have ih:=filter_one h r hn'.2 ((List.mem_cons.1 hm).resolve_left fun h=>e h.symm)
    rw[List.filter_cons,List.filter_cons,hb,Bool.or_false]
    cases L x
    · rw[Bool.not_false,if_pos rfl,if_pos rfl,List.length_cons,List.length_cons,ih]
    · rw[Bool.not_true,if_neg (by decide),if_neg (by decide)];exact ih
theorem Q8 {n:Nat} {L:Nat→Bool} {i:Nat} (hi:i<n) (h:L i=false):acE n (fun j=>L j||j==i)+1=acE n L :=
 filter_one h _ List.nodup_range (List.mem_range.2 hi)
theorem VN (I : (Nat → Bool) → Act → World → Prop) (hb : ∀ i o,ops[i]? = some o → ∀ e ∈ o.after.toList,Region.binds md e = true → e.on < i)
    (step:∀ L a w i o,ops[i]?=some o→L i=false→(∀ e∈o.after.toList,Region.binds md e=true→L e.on=true)→I L a w→wpOpIn F n P ops Q i (I fun j=>L j||j==i) a w)
    (fin:∀ L a w,(∀ i,i<ops.size→L i=true)→I L a w→Q .normal a w) :
    ∀ (fuel:Nat) (listed:Array Bool) (a:Act) (w:World),listed.size=ops.size→acE ops.size (fun i=>listed.getD i false)≤fuel→I (fun i=>listed.getD i false) a w→wpAnyIn F n P md ops Q fuel listed a w:=by
  have acF:∀ (listed:Array Bool) i,i<listed.size→listed.getD i true=listed.getD i false:=fun l i h=>by simp[Array.getD,h]
  have hend:∀ (listed:Array Bool) (a:Act) (w:World),listed.size=ops.size→I (fun i=>listed.getD i false) a w→Region.ready md ops listed=[]→Q .normal a w:=by
   intro listed a w hs hI hr
   refine fin _ a w (fun i hi=>?_) hI
   induction i using Nat.strongRecOn with
   | ind i ih =>
   cases hc:listed.getD i false with
   | true=>rfl
   | false =>
   exfalso
   have hm:i∈Region.ready md ops listed:=by
    unfold Region.ready
    refine List.mem_filter.2 ⟨List.mem_range.2 hi,?_⟩
    rw[acF _ _ (by omega),hc,qAd hi]
    simp only[Bool.not_false,Option.map_some,Option.getD_some,Bool.true_and,← Array.all_toList]
    rw[List.all_eq_true]
    intro e he
    cases hbe:Region.binds md e with
    | false=>rfl
    | true =>
     have:=hb i ops[i] (qAd hi) e he hbe
     simpa using ih e.on this (by omega)
   rw[hr]at hm;cases hm
  intro fuel
  induction fuel with
  | zero =>
   intro listed a w hs hc hI
   have hall:∀ i,i<ops.size→listed.getD i false=true:=fun i hi=>by
    cases h:listed.getD i false with
    | true=>rfl
    | false =>
     have:=Q8 (n:=ops.size) (L:=fun i=>listed.getD i false) hi h
     omega
   have hr:Region.ready md ops listed=[]:=by
    unfold Region.ready
    refine List.filter_eq_nil_iff.2 fun i hi=>?_
    have hi:=List.mem_range.1 hi
    rw[acF _ _ (by omega),hall i hi]
    simp
   exact⟨hr,fin _ a w hall hI⟩
  | succ fuel ih =>
   intro listed a w hs hc hI
   refine⟨hend listed a w hs hI,fun i hi=>?_⟩
   unfold Region.ready at hi
   obtain⟨hi1,hi2⟩:=List.mem_filter.1 hi
   have hi1:=List.mem_range.1 hi1
   rw[acF _ _ (by omega),qAd hi1,Option.map_some,Option.getD_some,qBa,← Array.all_toList]at hi2
   obtain⟨h1,h2⟩:=hi2
   have h1:listed.getD i false=false:=by simpa using h1
   refine wpOpIn_mono (fun a' w' hI'=>?_) (step _ a w i ops[i] (qAd hi1) h1 (fun e he hbe=>?_) hI)
   · have e1 : (fun j => listed.getD j false || j == i) = fun j => (listed.setIfInBounds i true).getD j false := by
       funext j
       by_cases e:j=i
       · subst e;simp[Array.getD,hs,hi1]
       · have hb:(j==i)=false:=by simpa using e
         have:(listed.setIfInBounds i true).getD j false=listed.getD j false:=by
          simp[qAe (Ne.symm e)]
         rw[hb,Bool.or_false,this]
     have hc':=Q8 (n:=ops.size) (L:=fun i=>listed.getD i false) hi1 h1
     rw[e1]at hc' hI'
     exact ih _ a' w' (by simpa using hs) (by omega) hI'
   · have:=List.all_eq_true.1 h2 e he
     rw[hbe]at this
     simpa using this
theorem aU {i : Nat} {K : Act → World → Prop} {a : Act} {w w' : World} {o : Oper} {v : Value} (ho : ops[i]? = some o) (hg : o.guard = none) (hab : o.about P w a.eval = none) (hd : ∀ c,o.op ≠ .defer c)
    (hr:(execOp a.eval o).run P w=.ok (.value v) w') (hK:K (a.put o.dst v) w'):wpOpIn F n P ops Q i K a w:=by
  unfold wpOpIn
  rw[ho]
  have hw:Region.wanted o (yielded ops a.tmps)=true:=by simp[Region.wanted,hg]
  simp only[hw,if_true]
  unfold Oper.wpIn
  refine⟨fun f h=>(by rw[hab]at h;cases h),?_⟩
  rw[Oper.semAt_plain F _ _ hd,hr]
  exact hK
theorem oI {i : Nat} {K : Act → World → Prop} {a : Act} {w w' : World} {o : Oper} (ho : ops[i]? = some o) (hg : o.guard = none) (hab : o.about P w a.eval = none) (hd : ∀ c,o.op ≠ .defer c)
    (hr:(execOp a.eval o).run P w=.ok .skip w') (hK:K (a.put o.dst undef) w'):wpOpIn F n P ops Q i K a w:=by
  unfold wpOpIn
  rw[ho]
  have hw:Region.wanted o (yielded ops a.tmps)=true:=by simp[Region.wanted,hg]
  simp only[hw,if_true]
  unfold Oper.wpIn
  refine⟨fun f h=>(by rw[hab]at h;cases h),?_⟩
  rw[Oper.semAt_plain F _ _ hd,hr]
  exact hK
end
noncomputable def aaE:Code:=match Tryd.f47.body with
 | some (.seq _ (.seq _ (.seq _ (.seq (.seq _ (.block _ (.loop c))) _))))=>c
 | _=>.skip
noncomputable def aaF:Code:=match aaE with
 | .seq _ (.seq _ (.seq (.block _ c) _))=>c
 | _=>.skip
noncomputable def VO:Code × Code:=match aaF with
 | .seq _ (.seq _ (.seq (.seq _ (.block _ (.rangeFunc _ _ a b))) _))=>(a,b)
 | _=>(.skip,.skip)
noncomputable def uf:Code:=VO.1
noncomputable def uJ:Code:=VO.2
def ops9:Array Oper:=#[
 ⟨some 27, .load 63 (.tmp 3), 63, "program.go:119", #[], none⟩,
 ⟨some 28, .load 3 (.tmp 7), 3, "program.go:119", #[], none⟩,
 ⟨some 29, .load 63 (.tmp 3), 63, "program.go:119", #[], none⟩,
 ⟨some 30, .load 3 (.tmp 7), 3, "program.go:119", #[], none⟩,
 ⟨some 31, .indexAddr 63 (.tmp 29) (.tmp 30), 0, "program.go:119", #[⟨2, .data⟩, ⟨3, .data⟩], none⟩,
 ⟨some 32, .load 60 (.tmp 31), 60, "program.go:119", #[⟨4, .data⟩], none⟩,
 ⟨some 33, .move (.tmp 8), 60, "program.go:119", #[], none⟩,
 ⟨some 34, .call { callee := .builtin .append, args := #[.tmp 32, .tmp 33], argTypes := #[60, 60] }, 60, "program.go:119", #[⟨5, .data⟩, ⟨6, .data⟩], none⟩,
 ⟨some 35, .indexAddr 63 (.tmp 27) (.tmp 28), 0, "program.go:119", #[⟨0, .data⟩, ⟨1, .data⟩, ⟨0, .phase⟩, ⟨1, .phase⟩, ⟨2, .phase⟩, ⟨3, .phase⟩, ⟨4, .phase⟩, ⟨5, .phase⟩, ⟨6, .phase⟩, ⟨7, .phase⟩], none⟩,
 ⟨none, .store 60 (.tmp 35) (.tmp 34), 0, "program.go:119", #[⟨8, .data⟩, ⟨7, .data⟩, ⟨7, .chain⟩, ⟨0, .phase⟩, ⟨1, .phase⟩, ⟨2, .phase⟩, ⟨3, .phase⟩, ⟨4, .phase⟩, ⟨5, .phase⟩, ⟨6, .phase⟩, ⟨7, .phase⟩], none⟩]
noncomputable def Yw:Code:=match uJ with
 | .block _ (.seq _ b)=>b
 | _=>.skip
theorem round_eq:uJ=.block 3 (.seq (.region 9 ops9 true) Yw):=by kernel_rfl
theorem aed:∀ i o,ops9[i]?=some o→∀ e∈o.after.toList,Region.binds .any e=true→e.on<i:=by
 intro i o h
 have hi:i<10:=(qAa.1 h).1
 rcases(show i=0∨i=1∨i=2∨i=3∨i=4∨i=5∨i=6∨i=7∨i=8∨i=9 by omega) with rfl | rfl | rfl | rfl | rfl | rfl | rfl | rfl | rfl | rfl <;>
  (simp[ops9]at h;subst h;simp)
def aaG (sv:Value) (k:Nat) (pk vi pv v':Value):Nat→Value
 | 0=>sv
 | 1=>.int .i64 k
 | 2=>sv
 | 3=>.int .i64 k
 | 4=>pk
 | 5=>vi
 | 6=>pv
 | 7=>v'
 | _=>pk
structure S9 (val:Nat→Value) (a0:Act) (wA wB wC:World) (L:Nat→Bool) (a:Act) (w:World):Prop where
 size:a.tmps.size=a0.tmps.size
 defers:a.defers=a0.defers
 keep:∀ t,t<27∨35<t→a.tmps.getD t undef=a0.tmps.getD t undef
 got:∀ i,i<9→L i=true→a.tmps.getD (27+i) undef=val i
 hw:w=bif L 9 then wC else bif L 7 then wB else wA
 c9:L 9=true→∀ i,i<9→L i=true
 c7:L 7=true→L 5=true
theorem S9.put {val : Nat → Value} {a0 : Act} {wA wB wC : World} {L : Nat → Bool} {a : Act} {w : World} (h : S9 val a0 wA wB wC L a w) {i : Nat} (hi : i < 9) (h57 : i = 7 → L 5 = true) (h35 : 35 < a0.tmps.size) {w' : World} (hw : w' = bif L 9 then wC else bif (L 7 || 7 == i) then wB else wA) :
    S9 val a0 wA wB wC (fun j=>L j||j==i) (a.put (some (27+i)) (val i)) w' where
  size:=by simp[Act.put,h.size]
  defers:=h.defers
  keep t ht:=by
   have:t≠27+i:=by omega
   rw[← h.keep t ht]
   simp[Act.put,qAe (Ne.symm this)]
  got j hj hL:=by
   by_cases e:j=i
   · subst e
     have:27+j<a.tmps.size:=by rw[h.size];omega
     simp[Act.put,this]
   · have hb:(j==i)=false:=by simpa using e
     rw[hb,Bool.or_false]at hL
     rw[← h.got j hj hL]
     have:27+i≠27+j:=by omega
     simp[Act.put,qAe this]
  hw:=by
   have:(9==i)=false:=by simp;omega
   rw[this,Bool.or_false];exact hw
  c9 h9:=by
   have:(9==i)=false:=by simp;omega
   rw[this,Bool.or_false]at h9
   intro j hj
   rw[h.c9 h9 j hj,Bool.true_or]
  c7 h7:=by
   by_cases e:i=7
   · rw[h57 e,Bool.true_or]
   · have:(7==i)=false:=by simpa using fun h:7=i=>e h.symm
     rw[this,Bool.or_false]at h7
     rw[h.c7 h7,Bool.true_or]
set_option maxRecDepth 10000 in
theorem aee {F : Fence} {m : Nat} {Q : Exit → Act → World → Prop} {Bl Bi Br n k : Nat} {pv vi v' : Value} {a0 : Act} {wA wB wC : World} (hk : k < n) (h35 : 35 < a0.tmps.size)
    (t3:a0.tmps.getD 3 undef=.pointer (some ⟨Bl,0,none⟩)) (t7:a0.tmps.getD 7 undef=.pointer (some ⟨Bi,0,none⟩)) (t8:a0.tmps.getD 8 undef=pv)
    (l1:wA.cell? ⟨Bl,0,none⟩=some (.slice (some ⟨Br,0,none⟩) n n)) (l2:wB.cell? ⟨Bl,0,none⟩=some (.slice (some ⟨Br,0,none⟩) n n))
    (i1:wA.cell? ⟨Bi,0,none⟩=some (.int .i64 k)) (i2:wB.cell? ⟨Bi,0,none⟩=some (.int .i64 k))
    (r1:wA.cell? ⟨Br,k,none⟩=some vi)
    (hap:(Builtin.append_ #[60,60] 60 #[vi,pv]).run Tryd.prog wA=.ok v' wB)
    (hst:(Instr.storeAt 60 (.pointer (some ⟨Br,k,none⟩)) v').run Tryd.prog wB=.ok () wC) :
    ∀ L a w i o,ops9[i]?=some o→L i=false→(∀ e∈o.after.toList,Region.binds .any e=true→L e.on=true) →
     S9 (aaG (.slice (some ⟨Br,0,none⟩) n n) k (.pointer (some ⟨Br,k,none⟩)) vi pv v') a0 wA wB wC L a w →
     wpOpIn F m Tryd.prog ops9 Q i (S9 (aaG (.slice (some ⟨Br,0,none⟩) n n) k (.pointer (some ⟨Br,k,none⟩)) vi pv v') a0 wA wB wC fun j=>L j||j==i) a w:=by
  intro L a w i o ho hL he h
  have hi:i<10:=(qAa.1 ho).1
  have e3:a.eval (.tmp 3)=.pointer (some ⟨Bl,0,none⟩):=(h.keep 3 (by omega)).trans t3
  have e7:a.eval (.tmp 7)=.pointer (some ⟨Bi,0,none⟩):=(h.keep 7 (by omega)).trans t7
  have e8:a.eval (.tmp 8)=pv:=(h.keep 8 (by omega)).trans t8
  have g:∀ j,j<9→L j=true→a.eval (.tmp (27+j))=aaG (.slice (some ⟨Br,0,none⟩) n n) k (.pointer (some ⟨Br,k,none⟩)) vi pv v' j:=fun j hj hl=>h.got j hj hl
  have hAB:∀ (x:Nat) (c:Value),wA.cell? ⟨x,0,none⟩=some c→wB.cell? ⟨x,0,none⟩=some c→L 9=false→w.cell? ⟨x,0,none⟩=some c:=fun x c q1 q2 h9=>by
   rw[h.hw,h9]
   cases L 7
   · exact q1
   · exact q2
  have n9:∀ j,j<9→L j=false→L 9=false:=fun j hj hl=>by
   cases h9:L 9 with
   | false=>rfl
   | true =>
    have:=h.c9 h9 j hj
    rw[hl]at this;cases this
  rcases(show i=0∨i=1∨i=2∨i=3∨i=4∨i=5∨i=6∨i=7∨i=8∨i=9 by omega) with rfl | rfl | rfl | rfl | rfl | rfl | rfl | rfl | rfl | rfl
  all_goals (have ho':=ho;simp only[ops9,List.getElem?_toArray,List.getElem?_cons_zero,List.getElem?_cons_succ,qOa]at ho';subst ho')
  · have hc:=hAB Bl _ l1 l2 (n9 0 (by decide) hL)
    refine aU ho rfl (by simp[Oper.about]) (fun c h=>by cases h) (v:=.slice (some ⟨Br,0,none⟩) n n) (w':=w) (by simp only[execOp,e3];simp[Instr.loadAt,go_sem,hc]) ?_
    exact h.put (by decide) (fun e=>by cases e) h35 (by rw[h.hw];simp)
  · have hc:=hAB Bi _ i1 i2 (n9 1 (by decide) hL)
    refine aU ho rfl (by simp[Oper.about]) (fun c h=>by cases h) (v:=.int .i64 k) (w':=w) (by simp only[execOp,e7];simp[Instr.loadAt,go_sem,hc]) ?_
    exact h.put (by decide) (fun e=>by cases e) h35 (by rw[h.hw];simp)
  · have hc:=hAB Bl _ l1 l2 (n9 2 (by decide) hL)
    refine aU ho rfl (by simp[Oper.about]) (fun c h=>by cases h) (v:=.slice (some ⟨Br,0,none⟩) n n) (w':=w) (by simp only[execOp,e3];simp[Instr.loadAt,go_sem,hc]) ?_
    exact h.put (by decide) (fun e=>by cases e) h35 (by rw[h.hw];simp)
  · have hc:=hAB Bi _ i1 i2 (n9 3 (by decide) hL)
    refine aU ho rfl (by simp[Oper.about]) (fun c h=>by cases h) (v:=.int .i64 k) (w':=w) (by simp only[execOp,e7];simp[Instr.loadAt,go_sem,hc]) ?_
    exact h.put (by decide) (fun e=>by cases e) h35 (by rw[h.hw];simp)
  · have g2:a.eval (.tmp 29)=.slice (some ⟨Br,0,none⟩) n n:=g 2 (by decide) (he ⟨2,.data⟩ (by simp) rfl)
    have g3:a.eval (.tmp 30)=.int .i64 k:=g 3 (by decide) (he ⟨3,.data⟩ (by simp) rfl)
    refine aU ho rfl (by simp[Oper.about]) (fun c h=>by cases h) (v:=.pointer (some ⟨Br,k,none⟩)) (w':=w) (by simp only[execOp,g2,g3];simp[Instr.indexAt,go_sem,hk]) ?_
    exact h.put (by decide) (fun e=>by cases e) h35 (by rw[h.hw];simp)
  · have g4:a.eval (.tmp 31)=.pointer (some ⟨Br,k,none⟩):=g 4 (by decide) (he ⟨4,.data⟩ (by simp) rfl)
    have h7:L 7=false:=by
     cases h7:L 7 with
     | false=>rfl
     | true =>
      have:=h.c7 h7
      rw[hL]at this;cases this
    have hw:w=wA:=by rw[h.hw,n9 5 (by decide) hL,h7];rfl
    subst hw
    refine aU ho rfl (by simp[Oper.about]) (fun c h=>by cases h) (v:=vi) (w':=w) (by simp only[execOp,g4];simp[Instr.loadAt,go_sem,r1]) ?_
    exact h.put (by decide) (fun e=>by cases e) h35 (by rw[n9 5 (by decide) hL,h7];rfl)
  · refine aU ho rfl (by simp[Oper.about]) (fun c h=>by cases h) (v:=pv) (w':=w) (by simp only[execOp,e8];rfl) ?_
    exact h.put (by decide) (fun e=>by cases e) h35 (by rw[h.hw];simp)
  · have g5:a.eval (.tmp 32)=vi:=g 5 (by decide) (he ⟨5,.data⟩ (by simp) rfl)
    have g6:a.eval (.tmp 33)=pv:=g 6 (by decide) (he ⟨6,.data⟩ (by simp) rfl)
    have hw:w=wA:=by rw[h.hw,n9 7 (by decide) hL,hL];rfl
    subst hw
    refine aU ho rfl (by simp[Oper.about,resolve,Target.leads]) (fun c h=>by cases h) (v:=v') (w':=wB) (by simp only[execOp,resolve,invoke,builtin,Sem.run_bind,Sem.run_pure,qRa,List.map_toArray,List.map_cons,List.map_nil,g5,g6,hap]) ?_
    exact h.put (by decide) (fun _=>he ⟨5,.data⟩ (by simp) rfl) h35 (by rw[n9 7 (by decide) hL];simp)
  · have g0:a.eval (.tmp 27)=.slice (some ⟨Br,0,none⟩) n n:=g 0 (by decide) (he ⟨0,.data⟩ (by simp) rfl)
    have g1:a.eval (.tmp 28)=.int .i64 k:=g 1 (by decide) (he ⟨1,.data⟩ (by simp) rfl)
    refine aU ho rfl (by simp[Oper.about]) (fun c h=>by cases h) (v:=.pointer (some ⟨Br,k,none⟩)) (w':=w) (by simp only[execOp,g0,g1];simp[Instr.indexAt,go_sem,hk]) ?_
    exact h.put (by decide) (fun e=>by cases e) h35 (by rw[h.hw];simp)
  · have g7:a.eval (.tmp 34)=v':=g 7 (by decide) (he ⟨7,.data⟩ (by simp) rfl)
    have g8:a.eval (.tmp 35)=.pointer (some ⟨Br,k,none⟩):=g 8 (by decide) (he ⟨8,.data⟩ (by simp) rfl)
    have h7:=he ⟨7,.data⟩ (by simp) rfl
    have hw:w=wB:=by rw[h.hw,hL,h7];rfl
    subst hw
    refine oI ho rfl (by simp[Oper.about]) (fun c h=>by cases h) (w':=wC) (by simp only[execOp,g7,g8];simp[hst]) ?_
    have hall:∀ j,j<9→L j=true:=fun j hj=>by
     rcases(show j=0∨j=1∨j=2∨j=3∨j=4∨j=5∨j=6∨j=7∨j=8 by omega) with rfl | rfl | rfl | rfl | rfl | rfl | rfl | rfl | rfl
     all_goals first
      | exact he ⟨8,.data⟩ (by simp) rfl
      | exact he ⟨_,.phase⟩ (by simp) rfl
    exact⟨h.size,h.defers,h.keep,fun j hj _=>h.got j hj (hall j hj),by simp,fun _ j hj=>by rw[hall j hj,Bool.true_or],fun _=>by rw[hall 5 (by decide),Bool.true_or]⟩
theorem JV:Tryd.prog.follows .mixedOrders=true:=by kernel_rfl
theorem Un {F : Fence} {m : Nat} {Q : Exit → Act → World → Prop} {Bl Bi Br n k : Nat} {pv vi v' : Value} {a0 : Act} {w wB wC : World} (hk : k < n) (h35 : 35 < a0.tmps.size)
    (t3:a0.tmps.getD 3 undef=.pointer (some ⟨Bl,0,none⟩)) (t7:a0.tmps.getD 7 undef=.pointer (some ⟨Bi,0,none⟩)) (t8:a0.tmps.getD 8 undef=pv)
    (l1:w.cell? ⟨Bl,0,none⟩=some (.slice (some ⟨Br,0,none⟩) n n)) (l2:wB.cell? ⟨Bl,0,none⟩=some (.slice (some ⟨Br,0,none⟩) n n))
    (i1:w.cell? ⟨Bi,0,none⟩=some (.int .i64 k)) (i2:wB.cell? ⟨Bi,0,none⟩=some (.int .i64 k))
    (r1:w.cell? ⟨Br,k,none⟩=some vi)
    (hap:(Builtin.append_ #[60,60] 60 #[vi,pv]).run Tryd.prog { w with drawn:=w.drawn+1 }=.ok v' wB)
    (hst:(Instr.storeAt 60 (.pointer (some ⟨Br,k,none⟩)) v').run Tryd.prog wB=.ok () wC)
    (post:∀ a:Act,a.tmps.size=a0.tmps.size→a.defers=a0.defers→(∀ t,t<27∨35<t→a.tmps.getD t undef=a0.tmps.getD t undef)→Q .normal a wC) :
    (Code.region 9 ops9 true).wpIn F m Tryd.prog Q a0 w:=by
  refine wpIn_region_any JV ?_
  refine VN (S9 (aaG (.slice (some ⟨Br,0,none⟩) n n) k (.pointer (some ⟨Br,k,none⟩)) vi pv v') a0 { w with drawn:=w.drawn+1 } wB wC) aed
   (aee hk h35 t3 t7 t8 l1 l2 i1 i2 r1 hap hst) (fun L a w' hall h=>?_) _ _ _ _ (by simp) ?_ ?_
  · have h9:L 9=true:=hall 9 (by decide)
    have e:=h.hw
    rw[h9]at e
    rw[show w'=wC from e]
    exact post a h.size h.defers h.keep
  · refine Nat.le_trans (List.length_filter_le _ _) ?_
    simp
  · have hf : (fun i => (Array.replicate ops9.size false).getD i false) = fun _ => false := by
      funext i
      rw[qAb,Array.getElem?_replicate]
      split<;>rfl
    rw[hf]
    exact⟨rfl,rfl,fun _ _=>rfl,fun i _ h=>(by cases h),rfl,fun h=>(by cases h),fun h=>(by cases h)⟩
end Go.Skm.Prg
