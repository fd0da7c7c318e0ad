import Derived.Test.YtoheflpoanjihaaGreatG19
import Derived.Test.YtoheflpoanjihaaGreatTabOk
import Derived.Test.YtoheflpoanjihaaGreatSkmE
import Derived.Test.YtoheflpoanjihaaGreatSkmH
import Derived.RangeFuncNested
import Derived.WalkKit
import Derived.OwnWalkIn
set_option maxRecDepth 100000
namespace Go.Skm.Fen
open Go Go.Skm Go.Proofs Go.RowKit
section
variable {F:Fence} {n:Nat} {P:Program} {ops:Array Oper} {rest:List Oper} {o:Oper} {a:Act} {w w':World} {Q:Exit→Act→World→Prop}
theorem oW {v : Value} (hg : o.guard = none) (hab : o.about P w a.eval = none) (hd : ∀ c,o.op ≠ .defer c)
    (hr:(execOp a.eval o).run P w=.ok (.value v) w') (hK:wpListIn F n P ops Q rest (a.put o.dst v) w'):wpListIn F n P ops Q (o::rest) a w:=by
  refine wpListIn_plain hg fun K hK'=>?_;unfold Oper.wpIn;refine⟨fun f h=>(by rw[hab]at h;cases h),?_⟩;rw[Oper.semAt_plain F _ _ hd,hr];exact hK' _ _ hK
theorem Xm (hg : o.guard = none) (hab : o.about P w a.eval = none) (hd : ∀ c,o.op ≠ .defer c)
    (hr:(execOp a.eval o).run P w=.ok .skip w') (hK:wpListIn F n P ops Q rest (a.put o.dst undef) w'):wpListIn F n P ops Q (o::rest) a w:=by
  refine wpListIn_plain hg fun K hK'=>?_;unfold Oper.wpIn;refine⟨fun f h=>(by rw[hab]at h;cases h),?_⟩;rw[Oper.semAt_plain F _ _ hd,hr];exact hK' _ _ hK
end
theorem vw {a:Act} {d:Nat} {v:Value} (h:d<a.tmps.size):(a.put (some d) v).tmps.getD d undef=v:=by simp[Act.put,qAb,h]
theorem yK {a:Act} {d t:Nat} {v:Value} (h:t≠d):(a.put (some d) v).tmps.getD t undef=a.tmps.getD t undef:=by simp[Act.put,qAb,qAe (Ne.symm h)]
theorem og {a:Act} {d:Option Nat} {v:Value}:(a.put d v).tmps.size=a.tmps.size:=by cases d<;>simp[Act.put]
def vV (v:V3):Value:=.agg #[.int .i64 v.x,.int .i64 v.y,.int .i64 v.z]
theorem adG {w:World} {M:Nat→Prop} {v:V3} {c:Value} (h:VR w M (dn v) c):c=vV v:=by
 unfold dn at h;cases h with
 | agg _ vs hn _ hc =>
  have h0:=Ht (p:=.int .i64 v.x) rfl (hc 0 _ rfl);have h1:=Ht (p:=.int .i64 v.y) rfl (hc 1 _ rfl);have h2:=Ht (p:=.int .i64 v.z) rfl (hc 2 _ rfl);have hs:vs.size=3:=hn;show Value.agg vs=Value.agg _;congr 1;apply Array.ext
  · exact hs
  · intro k k1 k2;have hk:∀ j (hj:j<vs.size),vs[j]=vs.getD j undef:=fun j hj=>by simp[Array.getD,hj]
    rw[hk k k1]
    match k,hs▸k1 with
    | 0,_=>rw[h0];rfl
    | 1,_=>rw[h1];rfl
    | 2,_=>rw[h2];rfl
theorem aaH (w:World) (M:Nat→Prop) (v:V3):VR w M (dn v) (vV v):=by
 refine .agg _ _ rfl (fun c hc=>?_) fun i c hi=>?_
 · simp only[List.mem_cons,List.not_mem_nil,or_false]at hc;rcases hc with rfl | rfl | rfl<;>rfl
 · match i,hi with
   | 0,hi=>cases hi;exact .int _ _
   | 1,hi=>cases hi;exact .int _ _
   | 2,hi=>cases hi;exact .int _ _
theorem info26:(Tryz.prog.info? 26).map (fun i=>(i.zero,i.size))=some (some (vV ⟨0,0,0⟩),3):=by kernel_rfl
theorem aiR:∀ w,(isAgg 26).run Tryz.prog w=.ok true w:=fun w=>Tryz.isAgg26 w
noncomputable def eRF:Code:=match Tryz.f87.body with
 | some (.seq _ (.seq _ (.seq _ (.block _ (.loop (.seq _ (.seq _ (.seq (.block _ (.seq _ (.seq _ (.seq _ (.block _ c))))) _))))))))=>c
 | _=>.skip
def eA1 : Array Oper := #[⟨some 5, .alloc 26, 0, "fence.go:336", #[], none⟩, ⟨none, .store 26 (.tmp 5) (.tmp 35), 0, "fence.go:336", #[⟨0, .data⟩, ⟨0, .phase⟩], none⟩]
def eA2 : Array Oper := #[⟨some 6, .alloc 26, 0, "fence.go:336", #[], none⟩, ⟨none, .store 26 (.tmp 6) (.tmp 36), 0, "fence.go:336", #[⟨0, .data⟩, ⟨0, .phase⟩], none⟩]
def eB1 : Array Oper := #[⟨some 37, .load 122 (.tmp 2), 122, "fence.go:337", #[], none⟩, ⟨some 38, .load 26 (.tmp 5), 26, "fence.go:337", #[], none⟩, ⟨some 39, .load 26 (.tmp 6), 26, "fence.go:337", #[], none⟩,
 ⟨some 40, .call { callee := .value (.tmp 37), args := #[.tmp 38, .tmp 39], argTypes := #[26, 26] }, 4, "fence.go:337", #[⟨0, .data⟩, ⟨1, .data⟩, ⟨2, .data⟩], none⟩, ⟨some 41, .unOp .not 4 (.tmp 40), 4, "fence.go:337", #[⟨3, .data⟩], none⟩]
def eA:Code:=.seq (.region 9 eA1 false) (.region 10 eA2 false)
def eB:Code:=.block 3 (.seq (.region 11 eB1 false) (.cond (.tmp 41) .ret .skip))
theorem aiT:eRF=.rangeFunc (.tmp 34) #[35,36] eA eB:=by kernel_rfl
theorem aft (w:World) {ρ:Operand→Value} {dst:Option Tmp} {ty:TypeId} {pos:String} {after:Array Edge} {guard:Option (Nat × Bool)}:(execOp ρ ⟨dst,.alloc 26,ty,pos,after,guard⟩).run Tryz.prog w=.ok (.value (.pointer (some ⟨w.heap.size,0,none⟩))) (w.alloc (.cells (vV ⟨0,0,0⟩).cells 26 (0,0))):=by
 obtain⟨i0,hi,hz⟩:∃ i0,Tryz.prog.info? 26=some i0∧i0.zero=some (vV ⟨0,0,0⟩):=by
  have h:=info26;cases hi:Tryz.prog.info? 26 with
  | none=>rw[hi]at h;cases h
  | some i0 =>rw[hi]at h;simp only[Option.map_some,qOa,Prod.mk.injEq]at h;exact⟨i0,rfl,h.1⟩
 simp[execOp,Instr.alloc,sS hi hz,newVar,newRow,vV]
theorem afu {w:World} {b:Nat} {C:Array Value} (hC:C.size=3) (hb:w.heap[b]?=some (.cells C 26 (0,0))) (v:V3):(Instr.storeAt 26 (.pointer (some ⟨b,0,none⟩)) (vV v)).run Tryz.prog w=.ok () (iU w b (vV v).cells 26 (0,0)):=by
 obtain⟨i0,hi,hz⟩:∃ i0,Tryz.prog.info? 26=some i0∧i0.size=3:=by
  have h:=info26;cases hi:Tryz.prog.info? 26 with
  | none=>rw[hi]at h;cases h
  | some i0 =>rw[hi]at h;simp only[Option.map_some,qOa,Prod.mk.injEq]at h;exact⟨i0,rfl,h.2⟩
 have:=zq (P:=Tryz.prog) (t:=26) (b:=b) (o:=0) (c:=vV v) hi (by rw[hz];rfl) hb (.inl rfl) (by rw[hC];exact Nat.le_refl 3) (fun u hu=>by simp only[vV,Value.cells]at hu;simp at hu;rcases hu with rfl | rfl | rfl<;>rfl);rw[this];have e:jk C 0 (vV v).cells.toList=(vV v).cells:=by simp only[vV,Value.cells,jk,patch];apply Array.ext';simp[hC]
 rw[e]
theorem adH {w:World} {b:Nat} (v:V3) (hb:w.heap[b]?=some (.cells (vV v).cells 26 (0,0))):(Instr.loadAt 26 (.pointer (some ⟨b,0,none⟩))).run Tryz.prog w=.ok (vV v) w:=by
 obtain⟨i0,hi,hz⟩:∃ i0,Tryz.prog.info? 26=some i0∧i0.size=3:=by
  have h:=info26;cases hi:Tryz.prog.info? 26 with
  | none=>rw[hi]at h;cases h
  | some i0 =>rw[hi]at h;simp only[Option.map_some,qOa,Prod.mk.injEq]at h;exact⟨i0,rfl,h.2⟩
 have hc:∀ j,j<3→w.cell? ⟨b,0+j,none⟩=some ((vV v).cells.getD j undef):=fun j hj=>by
  simp only[World.cell?,hb,Nat.zero_add]
  match j,hj with
  | 0,_=>rfl
  | 1,_=>rfl
  | 2,_=>rfl
 have:=vC (P:=Tryz.prog) (w:=w) (b:=b) (o:=0) (n:=3) (f:=fun j=>(vV v).cells.getD j undef) hc;simp only[Instr.loadAt,Instr.sureAddr,Sem.run_bind,Sem.run_pure,qRa,loadVar,aiR,iF hi,hz,if_true,this];congr 2
end Go.Skm.Fen
set_option maxRecDepth 100000
namespace Go.Skm.Fen
open Go Go.Skm Go.Proofs Go.RowKit
abbrev IQ (L:Nat):Value:=.func (.yield L) #[] #[]
theorem Vg {gl:Option (List (Nat × Obj))} (w:World) (b:Nat) (C:Array Value) (e:TypeId) (fr:Nat × Nat):Turns gl (fun x=>x=b) w (iU w b C e fr) :=
 ⟨by simp[iU],fun x _ h=>by simp[iU,qAe (Ne.symm h)],rfl,rfl,rfl,.refl _ _⟩
theorem aaK {F : Go.Fence} {n k : Nat} {gl : Option (List (Nat × Obj))} {Q : Exit → Act → World → Prop} {d s : Nat} {p1 p2 : String} {es : Array Edge} {a : Act} {w : World} {v : V3} (hd : d < a.tmps.size) (hsd : s ≠ d) (hs : a.tmps.getD s undef = vV v)
    (h:∀ W',rV gl w W'→W'.heap.size=w.heap.size+1→W'.heap[w.heap.size]?=some (.cells (vV v).cells 26 (0,0))→Q .normal ((a.put (some d) (.pointer (some ⟨w.heap.size,0,none⟩))).put none undef) W') :
    (Code.region k #[⟨some d,.alloc 26,0,p1,#[],none⟩,⟨none,.store 26 (.tmp d) (.tmp s),0,p2,es,none⟩] false).wpIn F n Tryz.prog Q a w:=by
  refine wpIn_region_list ?_;refine oW rfl (by simp[Oper.about]) (fun c h=>by cases h) (aft w) ?_;have hb:=World.alloc_heap_new w (.cells (vV ⟨0,0,0⟩).cells 26 (0,0));have e1:(a.put (some d) (.pointer (some ⟨w.heap.size,0,none⟩))).eval (.tmp d)=.pointer (some ⟨w.heap.size,0,none⟩):=vw hd;have e2:(a.put (some d) (.pointer (some ⟨w.heap.size,0,none⟩))).eval (.tmp s)=vV v:=(yK hsd).trans hs;refine Xm rfl (by simp[Oper.about]) (fun c h=>by cases h) (w':=iU (w.alloc (.cells (vV ⟨0,0,0⟩).cells 26 (0,0))) w.heap.size (vV v).cells 26 (0,0)) ?_ ?_
  · simp only[execOp,e1,e2,Sem.run_bind,afu rfl hb v,qRa,Sem.run_pure]
  refine wpListIn_nil ?_;have hsz:(iU (w.alloc (.cells (vV ⟨0,0,0⟩).cells 26 (0,0))) w.heap.size (vV v).cells 26 (0,0)).heap.size=w.heap.size+1:=by simp[iU]
  refine h _ ?_ hsz (Bv hb);exact(rV.alloc w _).trans ((Vg _ _ _ _ _).weaken (O':=fun b=>b=w.heap.size) fun _ _ h=>h) (fun b hb h=>by omega) |>.weaken fun _ _ h=>h
def Mid (gl:Option (List (Nat × Obj))) (J:List PV→(Nat→Prop)→(Nat→Prop)→World→Prop) (es:List AX) (rest:List PV) (OA KA:Nat→Prop) (W1:World) (l:Nat) (lp:Loop) (r:List PV) (O' K':Nat→Prop) (W:World):Prop :=
 ∃ (i:Nat) (Oo Ko:Nat→Prop),r=(es.drop i).map eY∧J ((es.drop i).map eY++rest) Oo Ko W∧Turns gl (fun b=>OA b∨b=l) W1 W∧(∀ b,Oo b→OA b∨W1.heap.size≤b)∧(∀ b,Ko b→KA b∨OA b∨W1.heap.size≤b)∧(∀ b,Ko b→b<W1.heap.size∨K' b) ∧
  W.heap[l]?=some (.loop lp)∧(∀ b,O' b↔(Oo b∨b=l))∧∀ b,K' b→b<W.heap.size
def Mix (gl:Option (List (Nat × Obj))) (Jx:(Nat→Prop)→(Nat→Prop)→World→Prop) (OA KA:Nat→Prop) (W1:World) (l:Nat) (lp:Loop) (O' K':Nat→Prop) (W:World):Prop :=
 ∃ Oo Ko:Nat→Prop,Jx Oo Ko W∧Turns gl (fun b=>OA b∨b=l) W1 W∧(∀ b,Oo b→OA b∨W1.heap.size≤b)∧(∀ b,Ko b→KA b∨OA b∨W1.heap.size≤b)∧(∀ b,Ko b→b<W1.heap.size∨K' b)∧W.heap[l]?=some (.loop lp)∧(∀ b,O' b↔(Oo b∨b=l))
section
variable {gl:Option (List (Nat × Obj))} {W0 W1:World} {J:List PV→(Nat→Prop)→(Nat→Prop)→World→Prop} {Jx:(Nat→Prop)→(Nat→Prop)→World→Prop} {es:List AX} {rest:List PV} {OA KA:Nat→Prop} {l:Nat} {lp:Loop}
theorem Mid.bears (hJ:∀ r,Bears gl W0 (J r)) (h01:W0.heap.size≤W1.heap.size) (hl:l<W1.heap.size) (r:List PV):Bears gl W1 (Mid gl J es rest OA KA W1 l lp r):=by
 rintro O K W W' S ⟨i,Oo,Ko,h1,h2,h3,h4,h5,h6,h7,h8,h9⟩ g hS;have hSo:∀ b,S b→W0.heap.size≤b∧¬ Oo b∧¬ Ko b:=fun b hb=>by
  obtain⟨q1,q2,q3⟩:=hS b hb;refine⟨by omega,fun h=>q2 ((h8 b).2 (.inl h)),fun h=>?_⟩;rcases h6 b h with h | h
  · omega
  · exact q3 h
 refine⟨i,Oo,Ko,h1,hJ _ _ _ _ _ S h2 g hSo,h3.trans g fun b hb hs=>absurd (hS b hs).1 (by omega),h4,h5,h6,?_,h8,fun b hb=>Nat.lt_of_lt_of_le (h9 b hb) g.size⟩;have hlt:l<W.heap.size:=(qAa.1 h7).1;exact(g.keep l hlt fun hs=>absurd (hS l hs).1 (by omega)).trans h7
theorem Mix.bears (hJx:Bears gl W0 Jx) (h01:W0.heap.size≤W1.heap.size) (hl:l<W1.heap.size):Bears gl W1 (Mix gl Jx OA KA W1 l lp):=by
 rintro O K W W' S ⟨Oo,Ko,h2,h3,h4,h5,h6,h7,h8⟩ g hS;have hSo:∀ b,S b→W0.heap.size≤b∧¬ Oo b∧¬ Ko b:=fun b hb=>by
  obtain⟨q1,q2,q3⟩:=hS b hb;refine⟨by omega,fun h=>q2 ((h8 b).2 (.inl h)),fun h=>?_⟩;rcases h6 b h with h | h
  · omega
  · exact q3 h
 refine⟨Oo,Ko,hJx _ _ _ _ S h2 g hSo,h3.trans g fun b hb hs=>absurd (hS b hs).1 (by omega),h4,h5,h6,?_,h8⟩;have hlt:l<W.heap.size:=(qAa.1 h7).1;exact(g.keep l hlt fun hs=>absurd (hS l hs).1 (by omega)).trans h7
end
end Go.Skm.Fen
set_option maxRecDepth 100000
namespace Go.Skm.Fen
open Go Go.Skm Go.Proofs Go.RowKit
theorem afv {w:World} {b:Nat} {L:Nat} {e:TypeId} {fr:Nat × Nat} (hb:w.heap[b]?=some (.cells #[IQ L] e fr)):(Instr.loadAt 122 (.pointer (some ⟨b,0,none⟩))).run Tryz.prog w=.ok (IQ L) w:=by
 have hc:w.cell? ⟨b,0,none⟩=some (IQ L):=by simp[World.cell?,hb]
 have hi:(isAgg 122).run Tryz.prog w=.ok false w:=Tryz.isAgg122 w;simp[Instr.loadAt,Instr.sureAddr,loadVar,hi,hc]
theorem uh {gl:Option (List (Nat × Obj))} (W:World) (l:Nat) (o:Obj):Turns gl (fun b=>b=l) W (W.putObj l o):=Turns.putObj W l o
set_option maxHeartbeats 1000000 in
theorem afw {gl : Option (List (Nat × Obj))} {W0 W1 : World} {M0 : Nat → Prop} {J : List PV → (Nat → Prop) → (Nat → Prop) → World → Prop} {Jx : (Nat → Prop) → (Nat → Prop) → World → Prop} {es : List AX} {rest : List PV} {OA KA : Nat → Prop} {L l By : Nat} {lp : Loop} {fn D : Nat} {tm : Array Value}
    (hrec:lp={ state:=.ready,pending:=none,fn:=fn,tmps:=tm,params:=#[35,36],assign:=eA,body:=eB,defers:=D }) (htm:tm.size=43) (t2:tm.getD 2 undef=.pointer (some ⟨By,0,none⟩))
    (hJ:∀ r,Bears gl W0 (J r)) (hJx:Bears gl W0 Jx) (hlt:∀ r O K W,J r O K W→∀ b,O b∨K b→b<W.heap.size)
    (hY:∀ vs r O K W (M:Nat→Prop) aY,J (.agg vs::r) O K W→W0.heap.size≤W.heap.size→(∀ b,M b→b<W.heap.size∧¬ O b∧(M0 b∨W0.heap.size≤b))→aY.size=vs.length→(∀ i c,vs[i]?=some c→VR W M c (aY.getD i undef))→TQ Tryz.prog gl L aY W (J r) Jx O K M)
    (h01:W0.heap.size≤l) (hl1:l<W1.heap.size) (hlO:¬ OA l) (hlK:¬ KA l) (hBy:W1.heap[By]?=some (.cells #[IQ L] 122 (0,0))) (ahh:¬ OA By) (aiX:By≠l) {M1:Nat→Prop} :
    ∀ (us:List PV) (r:List PV) (O K:Nat→Prop) (W:World) (M:Nat→Prop) (aY:Array Value),Mid gl J es rest OA KA W1 l lp (.agg us::r) O K W→W1.heap.size≤W.heap.size→(∀ b,M b→b<W.heap.size∧¬ O b∧(M1 b∨W1.heap.size≤b))→aY.size=us.length→(∀ (i:Nat) (c:PV),us[i]?=some c→VR W M c (aY.getD i undef)) →
     TQ Tryz.prog gl l aY W (Mid gl J es rest OA KA W1 l lp r) (Mix gl Jx OA KA W1 l { lp with state:=.done,pending:=some .ret }) O K M:=by
  intro us r O K W M aY hmid hsz hM hcs hcv;obtain⟨i,Oo,Ko,m1,m2,m3,m4,m5,m6,m7,m8,m9⟩:=hmid;have hi:i<es.length:=by
   rcases Nat.lt_or_ge i es.length with h | h
   · exact h
   · rw[List.drop_eq_nil_iff.2 h]at m1;simp at m1
  rw[List.drop_eq_getElem_cons hi,List.map_cons]at m1 m2;obtain⟨q1,q2⟩:=List.cons.inj m1;generalize hee:es[i]=e at *;have hus:us=[dn e.1,dn e.2]:=by unfold eY at q1;exact PV.agg.inj q1
  subst hus;have hc0:=adG (hcv 0 _ rfl);have hc1:=adG (hcv 1 _ rfl);obtain⟨c0,c1,rfl⟩:∃ c0 c1,aY=#[c0,c1]:=by
   have hs:aY.size=2:=hcs;refine⟨aY[0],aY[1],?_⟩;apply Array.ext
   · simpa using hs
   · intro j k1 k2;have:j=0∨j=1:=by omega
     rcases this with rfl | rfl<;>rfl
  have hc0:c0=vV e.1:=hc0;have hc1:c1=vV e.2:=hc1;subst hc0 hc1;have hL:l<W.heap.size:=by omega
  have hOl:¬ Oo l:=fun h=>(m4 l h).elim hlO fun h=>by omega
  have hKl:¬ Ko l:=fun h=>by
   rcases m5 l h with h | h | h
   · exact hlK h
   · exact hlO h
   · omega
  have aiY:W.heap[By]?=some (.cells #[IQ L] 122 (0,0)):=(m3.keep By (qAa.1 hBy).1 fun h=>h.elim ahh aiX).trans hBy;have ahi:By<W.heap.size:=(qAa.1 aiY).1;refine⟨fn,(tm.setIfInBounds 35 (vV e.1)).setIfInBounds 36 (vV e.2),eA,eB,?_,?_⟩
  · have:=run_yield (P:=Tryz.prog) (args:=#[vV e.1,vV e.2]) m7 (by rw[hrec];rfl);rw[hrec]at this;dsimp only at this;rw[TR]at this;exact this
  refine roundIn_of_wpIn trivial ?_;have am7:(FW none).inRound l=FW (some l):=rfl;rw[am7];unfold eA;refine wpIn_seq ?_;have tsz:((tm.setIfInBounds 35 (vV e.1)).setIfInBounds 36 (vV e.2)).size=43:=by simp[htm]
  have am8:∀ t,t≠35→t≠36→((tm.setIfInBounds 35 (vV e.1)).setIfInBounds 36 (vV e.2)).getD t undef=tm.getD t undef:=fun t k1 k2=>by rw[qAb,qAe k2.symm,qAe k1.symm,qAb]
  have t35:((tm.setIfInBounds 35 (vV e.1)).setIfInBounds 36 (vV e.2)).getD 35 undef=vV e.1:=by rw[qAb,qAe (by decide)];simp[htm]
  have t36:((tm.setIfInBounds 35 (vV e.1)).setIfInBounds 36 (vV e.2)).getD 36 undef=vV e.2:=by simp[qAb,htm]
  generalize (tm.setIfInBounds 35 (vV e.1)).setIfInBounds 36 (vV e.2)=tt at *;unfold eA1;refine aaK (gl:=gl) (a:={ tmps:=tt,defers:=[] }) (by rw[tsz];decide) (by decide) t35 fun Wa ga sa ba=>?_;have e6:(({ tmps:=tt,defers:=[] }:Act).put (some 5) (.pointer (some ⟨W.heap.size,0,none⟩))).tmps.getD 36 undef=vV e.2:=(yK (by decide)).trans t36;unfold eA2;refine aaK (gl:=gl) (by rw[og,og,tsz];decide) (by decide) e6 fun Wb gb sb bb=>?_;have kb:∀ b,b<W.heap.size→Wb.heap[b]?=W.heap[b]?:=fun b hb=>(gb.keep b (by omega) fun h=>h).trans (ga.keep b hb fun h=>h);have hlb:Wb.heap[l]?=some (.loop lp):=(kb l hL).trans m7;refine⟨_,run_beginRound (P:=Tryz.prog) hlb (by rw[hrec]),?_⟩;obtain⟨Wc,hWc⟩:∃ Wc,Wb.putObj l (.loop { lp with state:=.busy })=Wc:=⟨_,rfl⟩;rw[hWc];have gc:Turns gl (fun b=>b=l) Wb Wc:=by rw[← hWc];exact uh _ _ _
  have sc:Wc.heap.size=Wb.heap.size:=by rw[← hWc];exact World.putObj_size
  have kc:∀ b,b<Wb.heap.size→b≠l→Wc.heap[b]?=Wb.heap[b]?:=fun b hb h=>gc.keep b hb h;have hlc:Wc.heap[l]?=some (.loop { lp with state:=.busy }):=by rw[← hWc];exact World.putObj_heap_same (by omega)
  clear hWc;have gWc:Turns gl (fun b=>b=l) W Wc:=((ga.trans gb fun _ _ h=>h).weaken (O':=fun b=>b=l) fun _ _ h=>h.elim).trans gc fun _ _ h=>h;have sWc:Wc.heap.size=W.heap.size+2:=by omega
  have b5:Wc.heap[W.heap.size]?=some (.cells (vV e.1).cells 26 (0,0)):=(kc _ (by omega) (by omega)).trans ((gb.keep _ (by omega) fun h=>h).trans ba);have b6:Wc.heap[Wa.heap.size]?=some (.cells (vV e.2).cells 26 (0,0)):=(kc _ (by omega) (by omega)).trans bb;have bBy:Wc.heap[By]?=some (.cells #[IQ L] 122 (0,0)):=(kc By (by omega) aiX).trans ((kb By ahi).trans aiY);have hJc:J (eY e::((es.drop (i+1)).map eY++rest)) Oo Ko Wc:=hJ _ _ _ _ _ _ m2 gWc fun b hb=>by subst hb;exact⟨h01,hOl,hKl⟩
  unfold eB;refine wpIn_block (wpIn_seq ?_);unfold eB1;refine wpIn_region_list ?_;generalize hA:((((({ tmps:=tt,defers:=[] }:Act).put (some 5) (.pointer (some ⟨W.heap.size,0,none⟩))).put none undef).put (some 6) (.pointer (some ⟨Wa.heap.size,0,none⟩))).put none undef)=A;have Asz:A.tmps.size=43:=by rw[← hA];simp only[og];exact tsz
  have A2:A.eval (.tmp 2)=.pointer (some ⟨By,0,none⟩):=by rw[← hA];show (((({ tmps:=tt,defers:=[] }:Act).put (some 5) _).put (some 6) _).tmps.getD 2 undef)=_;rw[yK (by decide),yK (by decide)];exact(am8 2 (by decide) (by decide)).trans t2
  have A5:A.eval (.tmp 5)=.pointer (some ⟨W.heap.size,0,none⟩):=by rw[← hA];show (((({ tmps:=tt,defers:=[] }:Act).put (some 5) _).put (some 6) _).tmps.getD 5 undef)=_;rw[yK (by decide),vw (by show 5<tt.size;rw[tsz];decide)]
  have A6:A.eval (.tmp 6)=.pointer (some ⟨Wa.heap.size,0,none⟩):=by rw[← hA];show (((({ tmps:=tt,defers:=[] }:Act).put (some 5) _).put (some 6) _).tmps.getD 6 undef)=_;rw[vw (by rw[og];show 6<tt.size;rw[tsz];decide)]
  clear hA;refine oW rfl (by simp[Oper.about]) (fun c h=>by cases h) (v:=IQ L) (w':=Wc) (by simp only[execOp,A2,Sem.run_bind,afv bBy,qRa,Sem.run_pure]) ?_;refine oW rfl (by simp[Oper.about]) (fun c h=>by cases h) (v:=vV e.1) (w':=Wc) ?_ ?_
  · have:(A.put (some 37) (IQ L)).eval (.tmp 5)=.pointer (some ⟨W.heap.size,0,none⟩):=(yK (by decide)).trans A5;simp only[execOp,this,Sem.run_bind,adH e.1 b5,qRa,Sem.run_pure]
  refine oW rfl (by simp[Oper.about]) (fun c h=>by cases h) (v:=vV e.2) (w':=Wc) ?_ ?_
  · have:((A.put (some 37) (IQ L)).put (some 38) (vV e.1)).eval (.tmp 6)=.pointer (some ⟨Wa.heap.size,0,none⟩):=(yK (by decide)).trans ((yK (by decide)).trans A6);simp only[execOp,this,Sem.run_bind,adH e.2 b6,qRa,Sem.run_pure]
  generalize hB:(((A.put (some 37) (IQ L)).put (some 38) (vV e.1)).put (some 39) (vV e.2))=B;have Bsz:B.tmps.size=43:=by rw[← hB];simp only[og];exact Asz
  have B37:B.eval (.tmp 37)=.func (.yield L) #[] #[]:=by rw[← hB];show ((((A.put (some 37) (IQ L)).put (some 38) _).put (some 39) _).tmps.getD 37 undef)=_;rw[yK (by decide),yK (by decide),vw (by rw[Asz];decide)]
  have B38:B.eval (.tmp 38)=vV e.1:=by rw[← hB];show ((((A.put (some 37) (IQ L)).put (some 38) _).put (some 39) _).tmps.getD 38 undef)=_;rw[yK (by decide),vw (by rw[og,Asz];decide)]
  have B39:B.eval (.tmp 39)=vV e.2:=by rw[← hB];show ((((A.put (some 37) (IQ L)).put (some 38) _).put (some 39) _).tmps.getD 39 undef)=_;rw[vw (by rw[og,og,Asz];decide)]
  clear hB;have hy:=hY [dn e.1,dn e.2] _ Oo Ko Wc (fun _=>False) #[vV e.1,vV e.2] hJc (by omega) (fun b hb=>hb.elim) rfl fun j c hj=>by
   match j,hj with
   | 0,hj=>cases hj;exact aaH _ _ _
   | 1,hj=>cases hj;exact aaH _ _ _
  obtain⟨fn2,aqF,arZ,body2,hrun,Zd⟩:=hy;refine wpListIn_plain rfl fun Kc hKc=>?_;unfold Oper.wpIn;refine⟨fun _ _=>trivial,?_⟩;rw[Oper.semAt_plain (FW (some l)) _ _ (fun c h=>by cases h),PZ B37];have hargs:(#[Operand.tmp 38,Operand.tmp 39]).map B.eval=#[vV e.1,vV e.2]:=by simp[B38,B39]
  rw[hargs,hrun,Oper.uponIn_round];refine⟨xZ (some l),RoundIn.mono (F:=FW (some l)) Zd fun x W' hR=>?_⟩;obtain⟨ht,O',K',hres,hO',hK'⟩:=hR;have sW':=ht.size;have hl':W'.heap[l]?=some (.loop { lp with state:=.busy }):=(ht.keep l (by omega) hOl).trans hlc;have ai0:¬ O' l:=fun h=>(hO' l h).elim hOl fun h=>by omega
  have ai1:¬ K' l:=fun h=>by
   rcases hK' l h with h | h | h | h
   · exact hKl h
   · exact h
   · exact hOl h
   · omega
  have gW':Turns gl (fun b=>Oo b∨b=l) W W':=(gWc.weaken (O':=fun b=>Oo b∨b=l) fun _ _ h=>.inr h).trans (ht.weaken (O':=fun b=>Oo b∨b=l) fun _ _ h=>.inl h) fun _ _ h=>h;have fin:∀ Xo:Loop,Turns gl O W (W'.putObj l (.loop Xo))∧Turns gl (fun b=>OA b∨b=l) W1 (W'.putObj l (.loop Xo))∧(W'.putObj l (.loop Xo)).heap.size=W'.heap.size∧(W'.putObj l (.loop Xo)).heap[l]?=some (.loop Xo):=fun Xo=>by
   have g2:=gW'.trans (uh (gl:=gl) W' l (.loop Xo)) fun _ _ h=>.inr h;refine⟨g2.weaken fun b _ h=>(m8 b).2 h,m3.trans g2 fun b hb h=>?_,World.putObj_size,World.putObj_heap_same (by omega)⟩;rcases h with h | h
   · rcases m4 b h with h | h
     · exact .inl h
     · omega
   · exact .inr h
  have oN:∀ b,O' b→OA b∨W1.heap.size≤b:=fun b hb=>by
   rcases hO' b hb with h | h
   · exact m4 b h
   · right;omega
  have kN:∀ b,K' b→KA b∨OA b∨W1.heap.size≤b:=fun b hb=>by
   rcases hK' b hb with h | h | h | h
   · exact m5 b h
   · exact h.elim
   · exact .inr (m4 b h)
   · right;right;omega
  have ai2:∀ b,(O' b∨b=l)→O b∨W.heap.size≤b:=fun b hb=>by
   rcases hb with h | h
   · rcases hO' b h with h | h
     · exact .inl ((m8 b).2 (.inl h))
     · right;omega
   · exact .inl ((m8 b).2 (.inr h))
  let KN:Nat→Prop:=fun b=>K b∨M b∨O b∨(W.heap.size≤b∧b<W'.heap.size);have kN2:∀ b,K' b→b<W1.heap.size∨KN b:=fun b hb=>by
   rcases hK' b hb with h | h | h | h
   · exact(m6 b h).imp id .inl
   · exact h.elim
   · exact .inr (.inr (.inr (.inl ((m8 b).2 (.inl h)))))
   · exact .inr (.inr (.inr (.inr ⟨by omega,h.2⟩)))
  have kN3:∀ b,KN b→b<W'.heap.size:=fun b hb=>by
   rcases hb with h | h | h | h
   · have:=m9 b h;omega
   · have:=(hM b h).1;omega
   · rcases(m8 b).1 h with h | h
     · have:=hlt _ _ _ _ m2 b (.inl h);omega
     · omega
   · exact h.2
  have am9:∀ t:Bool,(B.put (some 40) (.bool t)).eval (.tmp 40)=.bool t:=fun t=>vw (by rw[Bsz];decide);have ai3:∀ t u:Bool,((B.put (some 40) (.bool t)).put (some 41) (.bool u)).eval (.tmp 41)=.bool u:=fun t u=>vw (by rw[og,Bsz];decide);have hnot : ∀ t : Bool, (execOp (B.put (some 40) (.bool t)).eval ⟨some 41, .unOp .not 4 (.tmp 40), 4, "fence.go:337", #[⟨3, .data⟩], none⟩).run Tryz.prog W' = .ok (.value (.bool (!t))) W' := fun t => by simp only[execOp,am9];cases t<;>simp[go_sem]
  rcases hres with ⟨rfl,hj⟩ | ⟨rfl,hj⟩
  · -- more is wanted
    refine hKc _ _ ?_;refine oW rfl (by simp[Oper.about]) (fun c h=>by cases h) (v:=.bool false) (w':=W') (hnot true) ?_;refine wpListIn_nil ?_;refine wpIn_cond_false (ai3 true false) (wpIn_skip ?_);have hend:=run_endRound (P:=Tryz.prog) none hl';have adL:({ ({ lp with state:=.busy }:Loop) with state:=if(none:Option Code).isNone then .ready else .done,pending:=none }:Loop)=lp:=by rw[hrec];rfl
    rw[adL]at hend;refine⟨_,_,hend,?_⟩;obtain⟨f1,f2,f3,f4⟩:=fin lp;refine⟨f1,fun b=>O' b∨b=l,KN,.inl ⟨rfl,i+1,O',K',q2,?_,f2,oN,kN,kN2,f4,fun b=>Iff.rfl,fun b hb=>by rw[f3];exact kN3 b hb⟩,ai2,fun b hb=>by rw[f3];exact hb⟩;exact hJ _ _ _ _ _ _ hj (uh W' l _) fun b hb=>by subst hb;exact⟨h01,ai0,ai1⟩
  · -- no more
    refine hKc _ _ ?_;refine oW rfl (by simp[Oper.about]) (fun c h=>by cases h) (v:=.bool true) (w':=W') (hnot false) ?_;refine wpListIn_nil ?_;refine wpIn_cond_true (ai3 false true) (wpIn_ret ?_);have hend:=run_endRound (P:=Tryz.prog) (some .ret) hl';refine⟨_,_,hend,?_⟩;have adL:({ ({ lp with state:=.busy }:Loop) with state:=if(some Code.ret).isNone then .ready else .done,pending:=some .ret }:Loop)={ lp with state:=.done,pending:=some .ret }:=rfl;rw[adL];obtain⟨f1,f2,f3,f4⟩:=fin { lp with state:=.done,pending:=some .ret };refine⟨f1,fun b=>O' b∨b=l,KN,.inr ⟨rfl,O',K',?_,f2,oN,kN,kN2,f4,fun b=>Iff.rfl⟩,ai2,fun b hb=>by rw[f3];exact hb⟩;exact hJx _ _ _ _ _ hj (uh W' l _) fun b hb=>by subst hb;exact⟨h01,ai0,ai1⟩
end Go.Skm.Fen
set_option maxRecDepth 100000
namespace Go.Skm.Fen
open Go Go.Skm Go.Proofs Go.RowKit
theorem ab3 (args:Array Value) (w:World):(callFunc 100 args).run Tryz.prog w=.ok (.enter 100 args) w:=enters_of Tryz.func100 rfl rfl args w
theorem afx {gl : Option (List (Nat × Obj))} {W0 : World} {M0 : Nat → Prop} {J : List PV → (Nat → Prop) → (Nat → Prop) → World → Prop} {Jx : (Nat → Prop) → (Nat → Prop) → World → Prop} {es : List AX} {rest : List PV} {OA KA : Nat → Prop} {L By : Nat}
    (hJ:∀ r,Bears gl W0 (J r)) (hJx:Bears gl W0 Jx) (hlt:∀ r O K W,J r O K W→∀ b,O b∨K b→b<W.heap.size)
    (hY:∀ vs r O K W (M:Nat→Prop) aY,J (.agg vs::r) O K W→W0.heap.size≤W.heap.size→(∀ b,M b→b<W.heap.size∧¬ O b∧(M0 b∨W0.heap.size≤b))→aY.size=vs.length→(∀ i c,vs[i]?=some c→VR W M c (aY.getD i undef))→TQ Tryz.prog gl L aY W (J r) Jx O K M)
    {caps:List PV} (hit:L9 Tryz.prog gl 100 caps (es.map eY)) {a:Act} {w:World} {Q:Exit→Act→World→Prop} (ha:a.tmps.size=43) (t2:a.tmps.getD 2 undef=.pointer (some ⟨By,0,none⟩)) {lb:Array Value} (t34:a.tmps.getD 34 undef=.func (.func 100) #[] lb)
    {M1:Nat→Prop} (hlb:lb.size=caps.length) (hlv:∀ (i:Nat) (c:PV),caps[i]?=some c→VR w M1 c (lb.getD i undef)) (hM1:∀ b,M1 b→b<w.heap.size∧¬ OA b) (hgl:∀ p∈gl.getD [],M1 p.1∧w.heap[p.1]?=some p.2)
    (h0w:W0.heap.size≤w.heap.size) (hJ0:J (es.map eY++rest) OA KA w) (hBy:w.heap[By]?=some (.cells #[IQ L] 122 (0,0))) (ahh:¬ OA By)
    (post:∀ (W':World) (O' K':Nat→Prop),J rest O' K' W'→Turns gl OA w W'→W'.heap[w.heap.size]?=some (.deferred (some []))→(∀ b,O' b→OA b∨w.heap.size+2≤b)→(∀ b,K' b→KA b∨OA b∨w.heap.size+2≤b)→w.heap.size+2≤W'.heap.size→Q .normal { a with defers:=BX w.heap.size::a.defers } W')
    (stop:∀ (W':World) (O' K':Nat→Prop),Jx O' K' W'→Turns gl OA w W'→W'.heap[w.heap.size]?=some (.deferred (some []))→(∀ b,O' b→OA b∨w.heap.size+2≤b)→(∀ b,K' b→KA b∨OA b∨w.heap.size+2≤b)→w.heap.size+2≤W'.heap.size→Q .ret { a with defers:=BX w.heap.size::a.defers } W') :
    eRF.wpIn (FW none) 0 Tryz.prog Q a w:=by
  rw[aiT];have ab4:∀ b,OA b→b<w.heap.size:=fun b hb=>hlt _ _ _ _ hJ0 b (.inl hb);have ai4:∀ b,KA b→b<w.heap.size:=fun b hb=>hlt _ _ _ _ hJ0 b (.inr hb);refine wpIn_rangeFunc fun fn _=>?_;generalize hrec:({ state:=.ready,pending:=none,fn:=fn,tmps:=a.tmps,params:=#[35,36],assign:=eA,body:=eB,defers:=w.heap.size }:Loop)=rec;obtain⟨W1,hW1⟩:∃ W1,(w.alloc (.deferred (some []))).alloc (.loop rec)=W1:=⟨_,rfl⟩;have hs1:W1.heap.size=w.heap.size+2:=by rw[← hW1];simp
  have hgr:rV gl w W1:=by rw[← hW1];exact(rV.alloc w _).trans (rV.alloc _ _) (fun _ _ h=>h)
  have hk1:∀ b,b<w.heap.size→W1.heap[b]?=w.heap[b]?:=fun b hb=>hgr.keep b hb fun h=>h;have hD1:W1.heap[w.heap.size]?=some (.deferred (some [])):=by rw[← hW1];exact(Below.heap_alloc _ _ _ (by simp)).trans (World.alloc_heap_new w _)
  have hl1:W1.heap[w.heap.size+1]?=some (.loop rec):=by rw[← hW1];have:=World.alloc_heap_new (w.alloc (.deferred (some []))) (.loop rec);rwa[World.size_alloc]at this
  have hrun:(Instr.enterLoop fn a.tmps #[35,36] eA eB none).run Tryz.prog w=.ok (w.heap.size+1,[{ target:=.collected w.heap.size,args:=#[] }]) W1:=by rw[← hW1,← hrec];exact run_enterLoop_outer _ _ _ _ _
  clear hW1;have ahi:By<w.heap.size:=(qAa.1 hBy).1;have hlO:¬ OA (w.heap.size+1):=fun h=>by have:=ab4 _ h;omega
  have hlK:¬ KA (w.heap.size+1):=fun h=>by have:=ai4 _ h;omega
  refine⟨w.heap.size+1,[{ target:=.collected w.heap.size,args:=#[] }],W1,{ target:=.fn (.func 100) lb,args:=#[.func (.yield (w.heap.size+1)) #[] #[]] },W1,100,#[.func (.yield (w.heap.size+1)) #[] #[]]++lb,W1,hrun,?_,fun _ _=>trivial,?_,xZ none,?_⟩
  · have:a.eval (.tmp 34)=.func (.func 100) #[] lb:=t34;simp only[resolve,this];simp[go_sem]
  · simp only[invoke];exact ab3 _ _
  refine wG _ ?_;have hJ1:J (es.map eY++rest) OA KA W1:=(hJ _).grows hJ0 hgr;have h01:W0.heap.size≤W1.heap.size:=by omega
  let O0:Nat→Prop:=fun b=>OA b∨b=w.heap.size+1
  have ai5:Mid gl J es rest OA KA W1 (w.heap.size+1) rec (es.map eY) O0 (fun _=>False) W1 :=
   ⟨0,OA,KA,rfl,hJ1,(Turns.refl gl (fun b=>OA b∨b=w.heap.size+1) W1),fun b hb=>.inl hb,fun b hb=>.inl hb,fun b hb=>.inl (by have:=ai4 b hb;omega),hl1,fun b=>Iff.rfl,fun b hb=>hb.elim⟩
  have fin:∀ (W2:World),Turns gl (fun b=>OA b∨b=w.heap.size+1) W1 W2→∀ o:Obj,Turns gl OA w (W2.putObj (w.heap.size+1) o)∧(W2.putObj (w.heap.size+1) o).heap[w.heap.size]?=some (.deferred (some []))∧w.heap.size+2≤(W2.putObj (w.heap.size+1) o).heap.size:=fun W2 g o=>by
   have g1:Turns gl OA w W2:=(hgr.weaken (O':=OA) fun _ _ h=>h.elim).trans g fun b hb h=>h.elim id fun h=>by omega
   have hs:(W2.putObj (w.heap.size+1) o).heap.size=W2.heap.size:=World.putObj_size;have:=g.size;refine⟨g1.trans (uh W2 (w.heap.size+1) o) fun b hb h=>absurd h (by omega),?_,by omega⟩;rw[World.putObj_heap_other (by omega)];exact(g.keep _ (by omega) fun h=>h.elim (fun h=>by have:=ab4 _ h;omega) fun h=>by omega).trans hD1
  refine Calls.mono (hit W1 M1 (w.heap.size+1) lb (Mid gl J es rest OA KA W1 (w.heap.size+1) rec) (Mix gl Jx OA KA W1 (w.heap.size+1) { rec with state:=.done,pending:=some .ret }) O0 (fun p hp=>⟨(hgl p hp).1,(hk1 _ (hM1 _ (hgl p hp).1).1).trans (hgl p hp).2⟩) hlb (fun i c hc=>(hlv i c hc).mono fun b hb=>⟨hb,hk1 b (hM1 b hb).1⟩) (fun b hb=>⟨by have:=(hM1 b hb).1;omega,fun h=>?_⟩)
   (fun r=>Mid.bears hJ h01 (by omega) r) (Mix.bears hJx h01 (by omega)) (fun r O K W hm b hb=>?_) ?_ ai5) ?_
  · rcases h with h | h
    · exact(hM1 b hb).2 h
    · have:=(hM1 b hb).1;omega
  · obtain⟨i,Oo,Ko,m1,m2,m3,m4,m5,m6,m7,m8,m9⟩:=hm;rcases hb with hb | hb
    · rcases(m8 b).1 hb with h | h
      · exact hlt _ _ _ _ m2 b (.inl h)
      · rw[h];exact(qAa.1 m7).1
    · exact m9 b hb
  · intro us r O K W M aY hm hX hM hcs hcv;exact afw (M0:=M0) hrec.symm ha t2 hJ hJx hlt hY (by omega) (by omega) hlO hlK ((hk1 By ahi).trans hBy) ahh (by omega) us r O K W M aY hm hX hM hcs hcv
  · rintro e W2 ⟨⟨v,rfl⟩,O,K,(⟨i,Oo,Ko,m1,m2,m3,m4,m5,m6,m7,m8,m9⟩ | ⟨Oo,Ko,m2,m3,m4,m5,m6,m7,m8⟩)⟩
    · have hi : es.drop i = [] := by have:=congrArg List.length m1;simp only[List.length_nil,List.length_map]at this;exact List.eq_nil_of_length_eq_zero this.symm
      rw[hi]at m2;have hOl:¬ Oo (w.heap.size+1):=fun h=>(m4 _ h).elim hlO fun h=>by omega
      have hKl:¬ Ko (w.heap.size+1):=fun h=>by
       rcases m5 _ h with h | h | h
       · exact hlK h
       · exact hlO h
       · omega
      have hend:=run_endLoop (P:=Tryz.prog) m7 (by rw[← hrec];simp);obtain⟨f1,f2,f3⟩:=fin W2 m3 (.loop { rec with state:=.exhausted });have hJe:J ([].map eY++rest) Oo Ko (W2.putObj (w.heap.size+1) (.loop { rec with state:=.exhausted })):=hJ _ _ _ _ _ _ m2 (uh W2 _ _) fun b hb=>by subst hb;exact⟨by omega,hOl,hKl⟩
      generalize W2.putObj (w.heap.size+1) (.loop { rec with state:=.exhausted })=wE at hend f1 f2 f3 hJe;rw[show rec.pending=none by rw[← hrec]]at hend;refine⟨none,_,hend,?_⟩;refine post _ Oo Ko hJe f1 f2 (fun b hb=>(m4 b hb).imp id fun h=>by omega) (fun b hb=>?_) f3;rcases m5 b hb with h | h | h
      · exact .inl h
      · exact .inr (.inl h)
      · right;right;omega
    · have hOl:¬ Oo (w.heap.size+1):=fun h=>(m4 _ h).elim hlO fun h=>by omega
      have hKl:¬ Ko (w.heap.size+1):=fun h=>by
       rcases m5 _ h with h | h | h
       · exact hlK h
       · exact hlO h
       · omega
      have hend:=run_endLoop (P:=Tryz.prog) m7 (by simp);refine⟨some .ret,_,hend,?_⟩;obtain⟨f1,f2,f3⟩:=fin W2 m3 (.loop { ({ rec with state:=.done,pending:=some .ret }:Loop) with state:=.exhausted });refine wpIn_ret (stop _ Oo Ko (hJx _ _ _ _ _ m2 (uh W2 _ _) fun b hb=>by subst hb;exact⟨by omega,hOl,hKl⟩) f1 f2 (fun b hb=>(m4 b hb).imp id fun h=>by omega) (fun b hb=>?_) f3);rcases m5 b hb with h | h | h
      · exact .inl h
      · exact .inr (.inl h)
      · right;right;omega
end Go.Skm.Fen
