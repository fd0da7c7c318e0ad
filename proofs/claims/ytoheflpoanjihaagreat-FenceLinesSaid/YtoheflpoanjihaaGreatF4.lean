import Derived.Test.YtoheflpoanjihaaGreatG19
import Derived.Test.YtoheflpoanjihaaGreatTabOk
import Derived.Test.YtoheflpoanjihaaGreatSkmD
import Derived.Test.YtoheflpoanjihaaGreatSkmH
import Derived.RangeFuncNested
import Derived.WalkKit
import Derived.OwnWalkIn
set_option linter.all false
set_option maxRecDepth 100000
namespace Go.Skm.Fen
open Go Go.Skm Go.Proofs Go.RowKit
variable {v:Value}{a:Act}{b d:Nat}{w:World}
section
variable {F:Fence} {n:Nat} {P:Program} {ops:Array Oper} {rest:List Oper} {o:Oper} {a:Act} {w w':World} {Q:Exit->Act->World->Prop}
theorem wpListIn_val(j:o.guard=none)(e:o.about P w a.eval=none)(hd:∀ c,o.op≠.defer c)
    (i:(execOp a.eval o).run P w=.ok (.value v) w')(k:wpListIn F n P ops Q rest (a.put o.dst v) w'):wpListIn F n P ops Q (o::rest) a w:=by
  refine wpListIn_plain j λK g=>?_;unfold Oper.wpIn;refine⟨λf h=>(by rw[e]at h;cases h),?_⟩;rw[Oper.semAt_plain F _ _ hd,i];exact g _ _ k
theorem wpListIn_sk(j:o.guard=none)(e:o.about P w a.eval=none)(hd:∀ c,o.op≠.defer c)
    (i:(execOp a.eval o).run P w=.ok .skip w')(k:wpListIn F n P ops Q rest (a.put o.dst undef) w'):wpListIn F n P ops Q (o::rest) a w:=by
  refine wpListIn_plain j λK g=>?_;unfold Oper.wpIn;refine⟨λf h=>(by rw[e]at h;cases h),?_⟩;rw[Oper.semAt_plain F _ _ hd,i];exact g _ _ k
end
theorem put_self(h:d<a.tmps.size):(a.put (some d) v).tmps.getD d undef=v:=by simp[Act.put,qAb,h]
theorem put_ne{t:Nat}(h:t≠d):(a.put (some d) v).tmps.getD t undef=a.tmps.getD t undef:=by simp[Act.put,qAb,qAe (Ne.symm h)]
theorem put_size{d:Option Nat}:(a.put d v).tmps.size=a.tmps.size:=by cases d<;>simp[Act.put]
def vV(v:V3):Value:=.agg #[.int .i64 v.x,.int .i64 v.y,.int .i64 v.z]
theorem vr_vec{M:Nat->Prop}{v:V3}{c:Value}(h:VR w M (encV v) c):c=vV v:=by
 unfold encV at h;cases h with
 | agg _ vs l _ e =>
  have s:=vr_eq_val (p:=Av v.x) rfl (e 0 _ rfl);have r:=vr_eq_val (p:=Av v.y) rfl (e 1 _ rfl);have q:=vr_eq_val (p:=Av v.z) rfl (e 2 _ rfl);have g:vs.size=3:=l;show Value.agg vs=Value.agg _;congr 1;apply Array.ext
  . exact g
  . intro k f t;have m:∀ j (i:j<vs.size),vs[j]=vs.getD j undef:=λj i=>by simp[Array.getD,i]
    rw[m k f]
    match k,g▸f with
    | 0,_=>rw[s];rfl
    | 1,_=>rw[r];rfl
    | 2,_=>rw[q];rfl
theorem N9(w:World)(M:Nat->Prop)(v:V3):VR w M (encV v) (vV v):=by
 refine .agg _ _ rfl (λc f=>?_) λi c e=>?_
 . simp only[List.mem_cons,List.not_mem_nil,or_false]at f;rcases f with rfl | rfl | rfl<;>rfl
 . match i,e with
   | 0,e=>cases e;exact .int _ _
   | 1,e=>cases e;exact .int _ _
   | 2,e=>cases e;exact .int _ _
theorem info26:(Tryz.prog.info? 26).map (λi=>(i.zero,i.size))=some (some (vV ⟨0,0,0⟩),3):=by kernel_rfl
theorem XC:∀ w,(isAgg 26).run Tryz.prog w=.ok true w:=λw=>Tryz.isAgg26 w
noncomputable def XD:Code:=match Tryz.f87.body with
 | some (.seq _ (.seq _ (.seq _ (.block _ (.loop (.seq _ (.seq _ (.seq (.block _ (.seq _ (.seq _ (.seq _ (.block _ c))))) _))))))))=>c
 | _=>.skip
def eA1 : Array Oper := #[⟨some 5, .alloc 26, 0, "fence.go:336", #[], none⟩, ⟨none, .store 26 (.tmp 5) (.tmp 35), 0, "fence.go:336", #[⟨0, .data⟩, ⟨0, .phase⟩], none⟩]
def eA2 : Array Oper := #[⟨some 6, .alloc 26, 0, "fence.go:336", #[], none⟩, ⟨none, .store 26 (.tmp 6) (.tmp 36), 0, "fence.go:336", #[⟨0, .data⟩, ⟨0, .phase⟩], none⟩]
def eB1 : Array Oper := #[⟨some 37, .load 122 (.tmp 2), 122, "fence.go:337", #[], none⟩, ⟨some 38, .load 26 (.tmp 5), 26, "fence.go:337", #[], none⟩, ⟨some 39, .load 26 (.tmp 6), 26, "fence.go:337", #[], none⟩,
 ⟨some 40, .call { callee := .value (.tmp 37), args := #[.tmp 38, .tmp 39], argTypes := #[26, 26] }, 4, "fence.go:337", #[⟨0, .data⟩, ⟨1, .data⟩, ⟨2, .data⟩], none⟩, ⟨some 41, .unOp .not 4 (.tmp 40), 4, "fence.go:337", #[⟨3, .data⟩], none⟩]
def eA:Code:=.seq (.region 9 eA1 false) (.region 10 eA2 false)
def eB:Code:=.block 3 (.seq (.region 11 eB1 false) (.cond (.tmp 41) .ret .skip))
theorem XE:XD=.rangeFunc (.tmp 34) #[35,36] eA eB:=by kernel_rfl
theorem Uc(w:World){i:Operand->Value}{g:Option Tmp}{ty:TypeId}{f:String}{after:Array Edge}{guard:Option (Nat × Bool)}:(execOp i ⟨g,.alloc 26,ty,f,after,guard⟩).run Tryz.prog w=.ok (.value (.pointer (some ⟨w.heap.size,0,none⟩))) (w.alloc (.cells (vV ⟨0,0,0⟩).cells 26 (0,0))):=by
 obtain⟨c,e,j⟩:∃ c,Tryz.prog.info? 26=some c/\c.zero=some (vV ⟨0,0,0⟩):=by
  have h:=info26;cases e:Tryz.prog.info? 26 with
  | none=>rw[e]at h;cases h
  | some c =>rw[e]at h;simp only[Option.map_some,qOa,Prod.mk.injEq]at h;exact⟨c,rfl,h.1⟩
 simp[execOp,Instr.alloc,run_zero e j,newVar,newRow,vV]
theorem Ud{C:Array Value}(j:C.size=3)(l:w.heap[b]?=some (.cells C 26 (0,0)))(v:V3):(Instr.storeAt 26 (.pointer (some ⟨b,0,none⟩)) (vV v)).run Tryz.prog w=.ok () (setBlk w b (vV v).cells 26 (0,0)):=by
 obtain⟨f,g,k⟩:∃ f,Tryz.prog.info? 26=some f/\f.size=3:=by
  have h:=info26;cases g:Tryz.prog.info? 26 with
  | none=>rw[g]at h;cases h
  | some f =>rw[g]at h;simp only[Option.map_some,qOa,Prod.mk.injEq]at h;exact⟨f,rfl,h.2⟩
 have:=run_storeVar (P:=Tryz.prog) (t:=26) (b:=b) (o:=0) (c:=vV v) g (by rw[k];rfl) l (.inl rfl) (by rw[j];exact qNr 3) (λu i=>by simp only[vV,Value.cells]at i;simp at i;rcases i with rfl | rfl | rfl<;>rfl);rw[this];have e:patchA C 0 (vV v).cells.toList=(vV v).cells:=by simp only[vV,Value.cells,patchA,patch];apply Array.ext';simp[j]
 rw[e]
theorem Q5(v:V3)(l:w.heap[b]?=some (.cells (vV v).cells 26 (0,0))):(Instr.loadAt 26 (.pointer (some ⟨b,0,none⟩))).run Tryz.prog w=.ok (vV v) w:=by
 obtain⟨c,e,g⟩:∃ c,Tryz.prog.info? 26=some c/\c.size=3:=by
  have h:=info26;cases e:Tryz.prog.info? 26 with
  | none=>rw[e]at h;cases h
  | some c =>rw[e]at h;simp only[Option.map_some,qOa,Prod.mk.injEq]at h;exact⟨c,rfl,h.2⟩
 have k:∀ j,j<3->w.cell? ⟨b,0+j,none⟩=some ((vV v).cells.getD j undef):=λj i=>by
  simp only[World.cell?,l,qNz]
  match j,i with
  | 0,_=>rfl
  | 1,_=>rfl
  | 2,_=>rfl
 have:=loadCells_of (P:=Tryz.prog) (w:=w) (b:=b) (o:=0) (n:=3) (f:=λj=>(vV v).cells.getD j undef) k;simp only[Instr.loadAt,Instr.sureAddr,Sem.run_bind,Sem.run_pure,qRa,loadVar,XC,run_size e,g,if_true,this];congr 2
end Go.Skm.Fen
set_option maxRecDepth 100000
namespace Go.Skm.Fen
open Go Go.Skm Go.Proofs Go.RowKit
variable {gl:Option (List (Nat × Obj))}
abbrev zD(L:Nat):Value:=.func (.yield L) #[] #[]
theorem IK(w:World)(b:Nat)(C:Array Value)(e:TypeId)(fr:Nat × Nat):Turns gl (λx=>x=b) w (setBlk w b C e fr):=
 ⟨by simp[setBlk],λx _ h=>by simp[setBlk,qAe (Ne.symm h)],rfl,rfl,rfl,.refl _ _⟩
theorem Oc{F:Go.Fence}{n k:Nat}{Q:Exit->Act->World->Prop}{d s:Nat}{j i:String}{es:Array Edge}{a:Act}{w:World}{v:V3}(hd:d<a.tmps.size)(f:s≠d)(m:a.tmps.getD s undef=vV v)
    (h:∀ W',Grows gl w W'->W'.heap.size=w.heap.size+1->W'.heap[w.heap.size]?=some (.cells (vV v).cells 26 (0,0))->Q .normal ((a.put (some d) (.pointer (some ⟨w.heap.size,0,none⟩))).put none undef) W') :
    (Code.region k #[⟨some d,.alloc 26,0,j,#[],none⟩,⟨none,.store 26 (.tmp d) (.tmp s),0,i,es,none⟩] false).wpIn F n Tryz.prog Q a w:=by
  refine wpIn_region_list ?_;refine wpListIn_val rfl (by simp[Oper.about]) (λc h=>by cases h) (Uc w) ?_;have g:=World.alloc_heap_new w (.cells (vV ⟨0,0,0⟩).cells 26 (0,0));have p:(a.put (some d) (.pointer (some ⟨w.heap.size,0,none⟩))).eval (.tmp d)=.pointer (some ⟨w.heap.size,0,none⟩):=put_self hd;have o:(a.put (some d) (.pointer (some ⟨w.heap.size,0,none⟩))).eval (.tmp s)=vV v:=(put_ne f).trans m;refine wpListIn_sk rfl (by simp[Oper.about]) (λc h=>by cases h) (w':=setBlk (w.alloc (.cells (vV ⟨0,0,0⟩).cells 26 (0,0))) w.heap.size (vV v).cells 26 (0,0)) ?_ ?_
  . simp only[execOp,p,o,Sem.run_bind,Ud rfl g v,qRa,Sem.run_pure]
  refine wpListIn_nil ?_;have e:(setBlk (w.alloc (.cells (vV ⟨0,0,0⟩).cells 26 (0,0))) w.heap.size (vV v).cells 26 (0,0)).heap.size=w.heap.size+1:=by simp[setBlk]
  refine h _ ?_ e (setBlk_heap g);exact(Grows.alloc w _).trans ((IK _ _ _ _ _).weaken (O':=λb=>b=w.heap.size) λ_ _ h=>h) (λb g h=>by omega) |>.weaken λ_ _ h=>h
def Mid(gl:Option (List (Nat × Obj)))(J:List PV->(Nat->Prop)->(Nat->Prop)->World->Prop)(es:List jW)(rest:List PV)(OA KA:Nat->Prop)(W1:World)(l:Nat)(lp:Loop)(r:List PV)(O' K':Nat->Prop)(W:World):Prop:=
 ∃(i:Nat) (Oo Ko:Nat->Prop),r=(es.drop i).map eY/\J ((es.drop i).map eY++rest) Oo Ko W/\Turns gl (λb=>OA b\/b=l) W1 W/\(∀ b,Oo b->OA b\/W1.heap.size<=b)/\(∀ b,Ko b->KA b\/OA b\/W1.heap.size<=b)/\(∀ b,Ko b->b<W1.heap.size\/K' b) /\
  W.heap[l]?=some (.loop lp)/\(∀ b,O' b↔(Oo b\/b=l))/\∀ b,K' b->b<W.heap.size
def Mix(gl:Option (List (Nat × Obj)))(Jx:(Nat->Prop)->(Nat->Prop)->World->Prop)(OA KA:Nat->Prop)(W1:World)(l:Nat)(lp:Loop)(O' K':Nat->Prop)(W:World):Prop:=
 ∃ Oo Ko:Nat->Prop,Jx Oo Ko W/\Turns gl (λb=>OA b\/b=l) W1 W/\(∀ b,Oo b->OA b\/W1.heap.size<=b)/\(∀ b,Ko b->KA b\/OA b\/W1.heap.size<=b)/\(∀ b,Ko b->b<W1.heap.size\/K' b)/\W.heap[l]?=some (.loop lp)/\(∀ b,O' b↔(Oo b\/b=l))
section
variable {gl:Option (List (Nat × Obj))} {W0 W1:World} {J:List PV->(Nat->Prop)->(Nat->Prop)->World->Prop} {Jx:(Nat->Prop)->(Nat->Prop)->World->Prop} {es:List jW} {rest:List PV} {OA KA:Nat->Prop} {l:Nat} {lp:Loop}
theorem Mid.bears(s:∀ r,Bears gl W0 (J r))(x:W0.heap.size<=W1.heap.size)(z:l<W1.heap.size)(r:List PV):Bears gl W1 (Mid gl J es rest OA KA W1 l lp r):=by
 rintro O K W W' S ⟨i,n,o,w,v,u,h4,h5,m,k,j,t⟩ g f;have e:∀ b,S b->W0.heap.size<=b/\¬ n b/\¬ o b:=λb a=>by
  obtain⟨y,q,p⟩:=f b a;refine⟨by omega,λh=>q ((j b).2 (.inl h)),λh=>?_⟩;rcases m b h with h | h
  . omega
  . exact p h
 refine⟨i,n,o,w,s _ _ _ _ _ S v g e,u.trans g λb a c=>absurd (f b c).1 (by omega),h4,h5,m,?_,j,λb a=>Nat.lt_of_lt_of_le (t b a) g.size⟩;have d:l<W.heap.size:=(qAa.1 k).1;exact(g.keep l d λc=>absurd (f l c).1 (by omega)).trans k
theorem Mix.bears(f:Bears gl W0 Jx)(t:W0.heap.size<=W1.heap.size)(v:l<W1.heap.size):Bears gl W1 (Mix gl Jx OA KA W1 l lp):=by
 rintro O K W W' S ⟨n,o,s,r,h4,h5,m,k,j⟩ g e;have d:∀ b,S b->W0.heap.size<=b/\¬ n b/\¬ o b:=λb i=>by
  obtain⟨u,q,p⟩:=e b i;refine⟨by omega,λh=>q ((j b).2 (.inl h)),λh=>?_⟩;rcases m b h with h | h
  . omega
  . exact p h
 refine⟨n,o,f _ _ _ _ S s g d,r.trans g λb i a=>absurd (e b a).1 (by omega),h4,h5,m,?_,j⟩;have c:l<W.heap.size:=(qAa.1 k).1;exact(g.keep l c λa=>absurd (e l a).1 (by omega)).trans k
end
end Go.Skm.Fen
set_option maxRecDepth 100000
namespace Go.Skm.Fen
open Go Go.Skm Go.Proofs Go.RowKit
variable {L:Nat}{gl:Option (List (Nat × Obj))}
theorem Ue{w:World}{b:Nat}{e:TypeId}{fr:Nat × Nat}(a:w.heap[b]?=some (.cells #[zD L] e fr)):(Instr.loadAt 122 (.pointer (some ⟨b,0,none⟩))).run Tryz.prog w=.ok (zD L) w:=by simp_all[World.cell?,Instr.loadAt,Instr.sureAddr,loadVar]
theorem nV(W:World)(l:Nat)(o:Obj):Turns gl (λb=>b=l) W (W.putObj l o):=Turns.putObj W l o
set_option maxHeartbeats 1000000 in
theorem Uf{W0 W1:World}{M0:Nat->Prop}{J:List PV->(Nat->Prop)->(Nat->Prop)->World->Prop}{Jx:(Nat->Prop)->(Nat->Prop)->World->Prop}{N:List jW}{n:List PV}{OA KA:Nat->Prop}{l By:Nat}{g:Loop}{fn D:Nat}{q:Array Value}
    (k:g={state:=.ready,pending:=none,fn:=fn,tmps:=q,params:=#[35,36],assign:=eA,body:=eB,defers:=D})(z:q.size=43)(t2:q.getD 2 undef=.pointer (some ⟨By,0,none⟩))
    (hJ:∀ r,Bears gl W0 (J r))(hJx:Bears gl W0 Jx)(hlt:∀ r O K W,J r O K W->∀ b,O b\/K b->b<W.heap.size)
    (hY:∀ vs r O K W (M:Nat->Prop) cargs,J (.agg vs::r) O K W->W0.heap.size<=W.heap.size->(∀ b,M b->b<W.heap.size/\¬ O b/\(M0 b\/W0.heap.size<=b))->cargs.size=vs.length->(∀ i c,vs[i]?=some c->VR W M c (cargs.getD i undef))->YldOk Tryz.prog gl L cargs W (J r) Jx O K M)
    (I:W0.heap.size<=l)(hl1:l<W1.heap.size)(WZ:¬ OA l)(hlK:¬ KA l)(XG:W1.heap[By]?=some (.cells #[zD L] 122 (0,0)))(VQ:¬ OA By)(XH:By≠l){M1:Nat->Prop} :
    ∀(R:List PV) (r:List PV) (O K:Nat->Prop) (W:World) (M:Nat->Prop) (cargs:Array Value),Mid gl J N n OA KA W1 l g (.agg R::r) O K W->W1.heap.size<=W.heap.size->(∀ b,M b->b<W.heap.size/\¬ O b/\(M1 b\/W1.heap.size<=b))->cargs.size=R.length->(∀(i:Nat) (c:PV),R[i]?=some c->VR W M c (cargs.getD i undef)) ->
     YldOk Tryz.prog gl l cargs W (Mid gl J N n OA KA W1 l g r) (Mix gl Jx OA KA W1 l {g with state:=.done,pending:=some .ret}) O K M:=by
  intro R r O K W M cargs Z hsz hM hcs hcv;obtain⟨i,Q,Ko,m1,m2,m3,m4,m5,m6,m7,U,m9⟩:=Z;have hi:i<N.length:=by
   rcases Nat.lt_or_ge i N.length with h | h
   . exact h
   . rw[List.drop_eq_nil_iff.2 h]at m1;simp at m1
  rw[List.drop_eq_getElem_cons hi,List.map_cons]at m1 m2;obtain⟨q1,q2⟩:=List.cons.inj m1;generalize hee:N[i]=e at *;have hus:R=[encV e.1,encV e.2]:=by unfold eY at q1;exact PV.agg.inj q1
  subst hus;have E:=vr_vec (hcv 0 _ rfl);have C:=vr_vec (hcv 1 _ rfl);obtain⟨c0,c1,rfl⟩:∃ c0 c1,cargs=#[c0,c1]:=by
   have hs:cargs.size=2:=hcs;refine⟨cargs[0],cargs[1],?_⟩;apply Array.ext
   . simpa using hs
   . intro j k1 k2;have:j=0\/j=1:=by omega
     rcases this with rfl | rfl<;>rfl
  have E:c0=vV e.1:=E;have C:c1=vV e.2:=C;subst E C;have hL:l<W.heap.size:=by omega
  have w:¬ Q l:=λh=>(m4 l h).elim WZ λh=>by omega
  have W9:¬ Ko l:=λh=>by
   rcases m5 l h with h | h | h
   . exact hlK h
   . exact WZ h
   . omega
  have XI:W.heap[By]?=some (.cells #[zD L] 122 (0,0)):=(m3.keep By (qAa.1 XG).1 λh=>h.elim VQ XH).trans XG;have VT:By<W.heap.size:=(qAa.1 XI).1;refine⟨fn,(q.setIfInBounds 35 (vV e.1)).setIfInBounds 36 (vV e.2),eA,eB,?_,?_⟩
  . have:=run_yield (P:=Tryz.prog) (args:=#[vV e.1,vV e.2]) m7 (by rw[k];rfl);rw[k]at this;dsimp only at this;rw[zip_foldl]at this;exact this
  refine roundIn_of_wpIn trivial ?_;have T:(FW none).inRound l=FW (some l):=rfl;rw[T];unfold eA;refine wpIn_seq ?_;have XJ:((q.setIfInBounds 35 (vV e.1)).setIfInBounds 36 (vV e.2)).size=43:=by simp[z]
  have S:∀ t,t≠35->t≠36->((q.setIfInBounds 35 (vV e.1)).setIfInBounds 36 (vV e.2)).getD t undef=q.getD t undef:=λt k1 k2=>by rw[qAb,qAe k2.symm,qAe k1.symm,qAb]
  have t35:((q.setIfInBounds 35 (vV e.1)).setIfInBounds 36 (vV e.2)).getD 35 undef=vV e.1:=by rw[qAb,qAe (by decide)];simp[z]
  have t36:((q.setIfInBounds 35 (vV e.1)).setIfInBounds 36 (vV e.2)).getD 36 undef=vV e.2:=by simp[qAb,z]
  generalize (q.setIfInBounds 35 (vV e.1)).setIfInBounds 36 (vV e.2)=tt at *;unfold eA1;refine Oc (gl:=gl) (a:={tmps:=tt,defers:=[]}) (by rw[XJ];decide) (by decide) t35 λWa ga sa ba=>?_;have e6:(({tmps:=tt,defers:=[]}:Act).put (some 5) (.pointer (some ⟨W.heap.size,0,none⟩))).tmps.getD 36 undef=vV e.2:=(put_ne (by decide)).trans t36;unfold eA2;refine Oc (gl:=gl) (by rw[put_size,put_size,XJ];decide) (by decide) e6 λWb gb sb bb=>?_;have kb:∀ b,b<W.heap.size->Wb.heap[b]?=W.heap[b]?:=λb d=>(gb.keep b (by omega) λh=>h).trans (ga.keep b d λh=>h);have hlb:Wb.heap[l]?=some (.loop g):=(kb l hL).trans m7;refine⟨_,run_beginRound (P:=Tryz.prog) hlb (by rw[k]),?_⟩;obtain⟨Wc,o⟩:∃ Wc,Wb.putObj l (.loop {g with state:=.busy})=Wc:=⟨_,rfl⟩;rw[o];have gc:Turns gl (λb=>b=l) Wb Wc:=by rw[<- o];exact nV _ _ _
  have sc:Wc.heap.size=Wb.heap.size:=by rw[<- o];exact World.putObj_size
  have kc:∀ b,b<Wb.heap.size->b≠l->Wc.heap[b]?=Wb.heap[b]?:=λb d h=>gc.keep b d h;have hlc:Wc.heap[l]?=some (.loop {g with state:=.busy}):=by rw[<- o];exact World.putObj_heap_same (by omega)
  clear o;have gWc:Turns gl (λb=>b=l) W Wc:=((ga.trans gb λ_ _ h=>h).weaken (O':=λb=>b=l) λ_ _ h=>h.elim).trans gc λ_ _ h=>h;have sWc:Wc.heap.size=W.heap.size+2:=by omega
  have b5:Wc.heap[W.heap.size]?=some (.cells (vV e.1).cells 26 (0,0)):=(kc _ (by omega) (by omega)).trans ((gb.keep _ (by omega) λh=>h).trans ba);have b6:Wc.heap[Wa.heap.size]?=some (.cells (vV e.2).cells 26 (0,0)):=(kc _ (by omega) (by omega)).trans bb;have bBy:Wc.heap[By]?=some (.cells #[zD L] 122 (0,0)):=(kc By (by omega) XH).trans ((kb By VT).trans XI);have hJc:J (eY e::((N.drop (i+1)).map eY++n)) Q Ko Wc:=hJ _ _ _ _ _ _ m2 gWc λb d=>by subst d;exact⟨I,w,W9⟩
  unfold eB;refine wpIn_block (wpIn_seq ?_);unfold eB1;refine wpIn_region_list ?_;generalize hA:((((({tmps:=tt,defers:=[]}:Act).put (some 5) (.pointer (some ⟨W.heap.size,0,none⟩))).put none undef).put (some 6) (.pointer (some ⟨Wa.heap.size,0,none⟩))).put none undef)=A;have WX:A.tmps.size=43:=by rw[<- hA];simp only[put_size];exact XJ
  have A2:A.eval (.tmp 2)=.pointer (some ⟨By,0,none⟩):=by rw[<- hA];show(((({tmps:=tt,defers:=[]}:Act).put (some 5) _).put (some 6) _).tmps.getD 2 undef)=_;rw[put_ne (by decide),put_ne (by decide)];exact(S 2 (by decide) (by decide)).trans t2
  have A5:A.eval (.tmp 5)=.pointer (some ⟨W.heap.size,0,none⟩):=by rw[<- hA];show(((({tmps:=tt,defers:=[]}:Act).put (some 5) _).put (some 6) _).tmps.getD 5 undef)=_;rw[put_ne (by decide),put_self (by show 5<tt.size;rw[XJ];decide)]
  have A6:A.eval (.tmp 6)=.pointer (some ⟨Wa.heap.size,0,none⟩):=by rw[<- hA];show(((({tmps:=tt,defers:=[]}:Act).put (some 5) _).put (some 6) _).tmps.getD 6 undef)=_;rw[put_self (by rw[put_size];show 6<tt.size;rw[XJ];decide)]
  clear hA;refine wpListIn_val rfl (by simp[Oper.about]) (λc h=>by cases h) (v:=zD L) (w':=Wc) (by simp only[execOp,A2,Sem.run_bind,Ue bBy,qRa,Sem.run_pure]) ?_;refine wpListIn_val rfl (by simp[Oper.about]) (λc h=>by cases h) (v:=vV e.1) (w':=Wc) ?_ ?_
  . have:(A.put (some 37) (zD L)).eval (.tmp 5)=.pointer (some ⟨W.heap.size,0,none⟩):=(put_ne (by decide)).trans A5;simp only[execOp,this,Sem.run_bind,Q5 e.1 b5,qRa,Sem.run_pure]
  refine wpListIn_val rfl (by simp[Oper.about]) (λc h=>by cases h) (v:=vV e.2) (w':=Wc) ?_ ?_
  . have:((A.put (some 37) (zD L)).put (some 38) (vV e.1)).eval (.tmp 6)=.pointer (some ⟨Wa.heap.size,0,none⟩):=(put_ne (by decide)).trans ((put_ne (by decide)).trans A6);simp only[execOp,this,Sem.run_bind,Q5 e.2 b6,qRa,Sem.run_pure]
  generalize hB:(((A.put (some 37) (zD L)).put (some 38) (vV e.1)).put (some 39) (vV e.2))=B;have Bsz:B.tmps.size=43:=by rw[<- hB];simp only[put_size];exact WX
  have B37:B.eval (.tmp 37)=.func (.yield L) #[] #[]:=by rw[<- hB];show((((A.put (some 37) (zD L)).put (some 38) _).put (some 39) _).tmps.getD 37 undef)=_;rw[put_ne (by decide),put_ne (by decide),put_self (by rw[WX];decide)]
  have B38:B.eval (.tmp 38)=vV e.1:=by rw[<- hB];show((((A.put (some 37) (zD L)).put (some 38) _).put (some 39) _).tmps.getD 38 undef)=_;rw[put_ne (by decide),put_self (by rw[put_size,WX];decide)]
  have B39:B.eval (.tmp 39)=vV e.2:=by rw[<- hB];show((((A.put (some 37) (zD L)).put (some 38) _).put (some 39) _).tmps.getD 39 undef)=_;rw[put_self (by rw[put_size,put_size,WX];decide)]
  clear hB;have hy:=hY [encV e.1,encV e.2] _ Q Ko Wc (λ_=>False) #[vV e.1,vV e.2] hJc (by omega) (λb d=>d.elim) rfl λj c s=>by
   match j,s with
   | 0,s=>cases s;exact N9 _ _ _
   | 1,s=>cases s;exact N9 _ _ _
  obtain⟨fn2,adW,aeH,body2,X,hround⟩:=hy;refine wpListIn_plain rfl λKc hKc=>?_;unfold Oper.wpIn;refine⟨λ_ _=>trivial,?_⟩;rw[Oper.semAt_plain (FW (some l)) _ _ (λc h=>by cases h),exec_yield B37];have hargs:(#[Operand.tmp 38,Operand.tmp 39]).map B.eval=#[vV e.1,vV e.2]:=by simp[B38,B39]
  rw[hargs,X,Oper.uponIn_round];refine⟨FW_depth (some l),RoundIn.mono (F:=FW (some l)) hround λx W' hR=>?_⟩;obtain⟨ht,O',K',Y,G,H⟩:=hR;have sW':=ht.size;have hl':W'.heap[l]?=some (.loop {g with state:=.busy}):=(ht.keep l (by omega) w).trans hlc;have XK:¬ O' l:=λh=>(G l h).elim w λh=>by omega
  have XL:¬ K' l:=λh=>by
   rcases H l h with h | h | h | h
   . exact W9 h
   . exact h
   . exact w h
   . omega
  have gW':Turns gl (λb=>Q b\/b=l) W W':=(gWc.weaken (O':=λb=>Q b\/b=l) λ_ _ h=>.inr h).trans (ht.weaken (O':=λb=>Q b\/b=l) λ_ _ h=>.inl h) λ_ _ h=>h;have fin:∀ f:Loop,Turns gl O W (W'.putObj l (.loop f))/\Turns gl (λb=>OA b\/b=l) W1 (W'.putObj l (.loop f))/\(W'.putObj l (.loop f)).heap.size=W'.heap.size/\(W'.putObj l (.loop f)).heap[l]?=some (.loop f):=λf=>by
   have g2:=gW'.trans (nV (gl:=gl) W' l (.loop f)) λ_ _ h=>.inr h;refine⟨g2.weaken λb _ h=>(U b).2 h,m3.trans g2 λb d h=>?_,World.putObj_size,World.putObj_heap_same (by omega)⟩;rcases h with h | h
   . rcases m4 b h with h | h
     . exact .inl h
     . omega
   . exact .inr h
  have oN:∀ b,O' b->OA b\/W1.heap.size<=b:=λb d=>by
   rcases G b d with h | h
   . exact m4 b h
   . right;omega
  have kN:∀ b,K' b->KA b\/OA b\/W1.heap.size<=b:=λb d=>by
   rcases H b d with h | h | h | h
   . exact m5 b h
   . exact h.elim
   . exact .inr (m4 b h)
   . right;right;omega
  have XM:∀ b,(O' b\/b=l)->O b\/W.heap.size<=b:=λb d=>by
   rcases d with h | h
   . rcases G b h with h | h
     . exact .inl ((U b).2 (.inl h))
     . right;omega
   . exact .inl ((U b).2 (.inr h))
  let KN:Nat->Prop:=λb=>K b\/M b\/O b\/(W.heap.size<=b/\b<W'.heap.size);have V:∀ b,K' b->b<W1.heap.size\/KN b:=λb d=>by
   rcases H b d with h | h | h | h
   . exact(m6 b h).imp id .inl
   . exact h.elim
   . exact .inr (.inr (.inr (.inl ((U b).2 (.inl h)))))
   . exact .inr (.inr (.inr (.inr ⟨by omega,h.2⟩)))
  have kN3:∀ b,KN b->b<W'.heap.size:=λb d=>by
   rcases d with h | h | h | h
   . have:=m9 b h;omega
   . have:=(hM b h).1;omega
   . rcases(U b).1 h with h | h
     . have:=hlt _ _ _ _ m2 b (.inl h);omega
     . omega
   . exact h.2
  have abx:∀ t:Bool,(B.put (some 40) (.bool t)).eval (.tmp 40)=.bool t:=λt=>put_self (by rw[Bsz];decide);have XO:∀ t u:Bool,((B.put (some 40) (.bool t)).put (some 41) (.bool u)).eval (.tmp 41)=.bool u:=λt u=>put_self (by rw[put_size,Bsz];decide);have y : ∀ t : Bool, (execOp (B.put (some 40) (.bool t)).eval ⟨some 41, .unOp .not 4 (.tmp 40), 4, "fence.go:337", #[⟨3, .data⟩], none⟩).run Tryz.prog W' = .ok (.value (.bool (!t))) W' := λt => by simp only[execOp,abx];cases t<;>simp[go_sem]
  rcases Y with⟨rfl,s⟩ |⟨rfl,s⟩
  . -- more is wanted
    refine hKc _ _ ?_;refine wpListIn_val rfl (by simp[Oper.about]) (λc h=>by cases h) (v:=.bool false) (w':=W') (y true) ?_;refine wpListIn_nil ?_;refine wpIn_cond_false (XO true false) (wpIn_skip ?_);have m:=run_endRound (P:=Tryz.prog) none hl';have p:({({g with state:=.busy}:Loop)with state:=if(none:Option Code).isNone then .ready else .done,pending:=none}:Loop)=g:=by rw[k];rfl
    rw[p]at m;refine⟨_,_,m,?_⟩;obtain⟨f1,f2,f3,f4⟩:=fin g;refine⟨f1,λb=>O' b\/b=l,KN,.inl ⟨rfl,i+1,O',K',q2,?_,f2,oN,kN,V,f4,λb=>Iff.rfl,λb d=>by rw[f3];exact kN3 b d⟩,XM,λb d=>by rw[f3];exact d⟩;exact hJ _ _ _ _ _ _ s (nV W' l _) λb d=>by subst d;exact⟨I,XK,XL⟩
  . -- no more
    refine hKc _ _ ?_;refine wpListIn_val rfl (by simp[Oper.about]) (λc h=>by cases h) (v:=.bool true) (w':=W') (y false) ?_;refine wpListIn_nil ?_;refine wpIn_cond_true (XO false true) (wpIn_ret ?_);have m:=run_endRound (P:=Tryz.prog) (some .ret) hl';refine⟨_,_,m,?_⟩;have p:({({g with state:=.busy}:Loop)with state:=if(some Code.ret).isNone then .ready else .done,pending:=some .ret}:Loop)={g with state:=.done,pending:=some .ret}:=rfl;rw[p];obtain⟨f1,f2,f3,f4⟩:=fin {g with state:=.done,pending:=some .ret};refine⟨f1,λb=>O' b\/b=l,KN,.inr ⟨rfl,O',K',?_,f2,oN,kN,V,f4,λb=>Iff.rfl⟩,XM,λb d=>by rw[f3];exact d⟩;exact hJx _ _ _ _ _ s (nV W' l _) λb d=>by subst d;exact⟨I,XK,XL⟩
end Go.Skm.Fen
set_option maxRecDepth 100000
namespace Go.Skm.Fen
open Go Go.Skm Go.Proofs Go.RowKit
theorem Ug{gl:Option (List (Nat × Obj))}{W0:World}{M0:Nat->Prop}{J:List PV->(Nat->Prop)->(Nat->Prop)->World->Prop}{Jx:(Nat->Prop)->(Nat->Prop)->World->Prop}{D:List jW}{j:List PV}{OA KA:Nat->Prop}{L By:Nat}
    (Y:∀ r,Bears gl W0 (J r))(B:Bears gl W0 Jx)(t:∀ r O K W,J r O K W->∀ b,O b\/K b->b<W.heap.size)
    (hY:∀ vs r O K W (M:Nat->Prop) cargs,J (.agg vs::r) O K W->W0.heap.size<=W.heap.size->(∀ b,M b->b<W.heap.size/\¬ O b/\(M0 b\/W0.heap.size<=b))->cargs.size=vs.length->(∀ i c,vs[i]?=some c->VR W M c (cargs.getD i undef))->YldOk Tryz.prog gl L cargs W (J r) Jx O K M)
    {n:List PV}(hit:IterOk Tryz.prog gl 100 n (D.map eY)){a:Act}{w:World}{Q:Exit->Act->World->Prop}(ha:a.tmps.size=43)(t2:a.tmps.getD 2 undef=.pointer (some ⟨By,0,none⟩)){s:Array Value}(t34:a.tmps.getD 34 undef=.func (.func 100) #[] s)
    {M1:Nat->Prop}(hlb:s.size=n.length)(hlv:∀(i:Nat) (c:PV),n[i]?=some c->VR w M1 c (s.getD i undef))(A:∀ b,M1 b->b<w.heap.size/\¬ OA b)(y:∀ p∈gl.getD [],M1 p.1/\w.heap[p.1]?=some p.2)
    (h0w:W0.heap.size<=w.heap.size)(C:J (D.map eY++j) OA KA w)(XG:w.heap[By]?=some (.cells #[zD L] 122 (0,0)))(VQ:¬ OA By)
    (I:∀(W':World) (O' K':Nat->Prop),J j O' K' W'->Turns gl OA w W'->W'.heap[w.heap.size]?=some (.deferred (some []))->(∀ b,O' b->OA b\/w.heap.size+2<=b)->(∀ b,K' b->KA b\/OA b\/w.heap.size+2<=b)->w.heap.size+2<=W'.heap.size->Q .normal {a with defers:=markOf w.heap.size::a.defers} W')
    (H:∀(W':World) (O' K':Nat->Prop),Jx O' K' W'->Turns gl OA w W'->W'.heap[w.heap.size]?=some (.deferred (some []))->(∀ b,O' b->OA b\/w.heap.size+2<=b)->(∀ b,K' b->KA b\/OA b\/w.heap.size+2<=b)->w.heap.size+2<=W'.heap.size->Q .ret {a with defers:=markOf w.heap.size::a.defers} W') :
    XD.wpIn (FW none) 0 Tryz.prog Q a w:=by
  rw[XE];have q:∀ b,OA b->b<w.heap.size:=λb d=>t _ _ _ _ C b (.inl d);have XP:∀ b,KA b->b<w.heap.size:=λb d=>t _ _ _ _ C b (.inr d);refine wpIn_rangeFunc λfn _=>?_;generalize l:({state:=.ready,pending:=none,fn:=fn,tmps:=a.tmps,params:=#[35,36],assign:=eA,body:=eB,defers:=w.heap.size}:Loop)=f;obtain⟨W1,m⟩:∃ W1,(w.alloc (.deferred (some []))).alloc (.loop f)=W1:=⟨_,rfl⟩;have hs1:W1.heap.size=w.heap.size+2:=by rw[<- m];simp
  have x:Grows gl w W1:=by rw[<- m];exact(Grows.alloc w _).trans (Grows.alloc _ _) (λ_ _ h=>h)
  have u:∀ b,b<w.heap.size->W1.heap[b]?=w.heap[b]?:=λb d=>x.keep b d λh=>h;have hD1:W1.heap[w.heap.size]?=some (.deferred (some [])):=by rw[<- m];exact(Below.heap_alloc _ _ _ (by simp)).trans (World.alloc_heap_new w _)
  have hl1:W1.heap[w.heap.size+1]?=some (.loop f):=by rw[<- m];have:=World.alloc_heap_new (w.alloc (.deferred (some []))) (.loop f);grind[World.size_alloc]
  have R:(Instr.enterLoop fn a.tmps #[35,36] eA eB none).run Tryz.prog w=.ok (w.heap.size+1,[{target:=.collected w.heap.size,args:=#[]}]) W1:=by rw[<- m,<- l];exact run_enterLoop_outer _ _ _ _ _
  clear m;have VT:By<w.heap.size:=(qAa.1 XG).1;have WZ:¬ OA (w.heap.size+1):=λh=>by have:=q _ h;omega
  have hlK:¬ KA (w.heap.size+1):=λh=>by have:=XP _ h;omega
  refine⟨w.heap.size+1,[{target:=.collected w.heap.size,args:=#[]}],W1,{target:=.fn (.func 100) s,args:=#[.func (.yield (w.heap.size+1)) #[] #[]]},W1,100,#[.func (.yield (w.heap.size+1)) #[] #[]]++s,W1,R,?_,λ_ _=>trivial,?_,FW_depth none,?_⟩
  . have:a.eval (.tmp 34)=.func (.func 100) #[] s:=t34;simp only[resolve,this];simp[go_sem]
  . rfl
  refine callsIn_fw _ ?_;have hJ1:J (D.map eY++j) OA KA W1:=(Y _).grows C x;have T:W0.heap.size<=W1.heap.size:=by omega
  let O0:Nat->Prop:=λb=>OA b\/b=w.heap.size+1
  have XQ:Mid gl J D j OA KA W1 (w.heap.size+1) f (D.map eY) O0 (λ_=>False) W1:=
   ⟨0,OA,KA,rfl,hJ1,(Turns.refl gl (λb=>OA b\/b=w.heap.size+1) W1),λb d=>.inl d,λb d=>.inl d,λb d=>.inl (by have:=XP b d;omega),hl1,λb=>Iff.rfl,λb d=>d.elim⟩
  have U:∀(W2:World),Turns gl (λb=>OA b\/b=w.heap.size+1) W1 W2->∀ o:Obj,Turns gl OA w (W2.putObj (w.heap.size+1) o)/\(W2.putObj (w.heap.size+1) o).heap[w.heap.size]?=some (.deferred (some []))/\w.heap.size+2<=(W2.putObj (w.heap.size+1) o).heap.size:=λW2 g o=>by
   have g1:Turns gl OA w W2:=(x.weaken (O':=OA) λ_ _ h=>h.elim).trans g λb d h=>h.elim id λh=>by omega
   have hs:(W2.putObj (w.heap.size+1) o).heap.size=W2.heap.size:=World.putObj_size;have:=g.size;refine⟨g1.trans (nV W2 (w.heap.size+1) o) λb d h=>absurd h (by omega),?_,by omega⟩;rw[World.putObj_heap_other (by omega)];exact(g.keep _ (by omega) λh=>h.elim (λh=>by have:=q _ h;omega) λh=>by omega).trans hD1
  refine Calls.mono (hit W1 M1 (w.heap.size+1) s (Mid gl J D j OA KA W1 (w.heap.size+1) f) (Mix gl Jx OA KA W1 (w.heap.size+1) {f with state:=.done,pending:=some .ret}) O0 (λp hp=>⟨(y p hp).1,(u _ (A _ (y p hp).1).1).trans (y p hp).2⟩) hlb (λi c hc=>(hlv i c hc).mono λb d=>⟨d,u b (A b d).1⟩) (λb d=>⟨by have:=(A b d).1;omega,λh=>?_⟩)
   (λr=>Mid.bears Y T (by omega) r) (Mix.bears B T (by omega)) (λr O K W hm b d=>?_) ?_ XQ) ?_
  . grind
  . obtain⟨i,E,F,m1,N,X,G,m5,m6,V,m8,m9⟩:=hm;grind
  . intro us r O K W M cargs hm hX hM hcs hcv;exact Uf (M0:=M0) l.symm ha t2 Y B t hY (by omega) (by omega) WZ hlK ((u By VT).trans XG) VQ (by omega) us r O K W M cargs hm hX hM hcs hcv
  . rintro e W2 ⟨⟨v,rfl⟩,O,K,(⟨i,E,F,m1,N,X,G,m5,m6,V,m8,m9⟩ |⟨E,F,N,X,G,m5,m6,V,m8⟩)⟩
    . have hi:D.drop i=[]:=by have:=congrArg List.length m1;simp only[List.length_nil,qLm]at this;grind
      rw[hi]at N;have z:¬ E (w.heap.size+1):=λh=>(G _ h).elim WZ λh=>by omega
      have W9:¬ F (w.heap.size+1):=λh=>by grind
      have k:=run_endLoop (P:=Tryz.prog) V (by rw[<- l];simp);obtain⟨f1,f2,Z⟩:=U W2 X (.loop {f with state:=.exhausted});have S:J ([].map eY++j) E F (W2.putObj (w.heap.size+1) (.loop {f with state:=.exhausted})):=Y _ _ _ _ _ _ N (nV W2 _ _) λb d=>by subst d;exact⟨by omega,z,W9⟩
      generalize W2.putObj (w.heap.size+1) (.loop {f with state:=.exhausted})=wE at k f1 f2 Z S;rw[show f.pending=none by rw[<- l]]at k;refine⟨none,_,k,?_⟩;refine I _ E F S f1 f2 (λb d=>(G b d).imp id λh=>by omega) (λb d=>?_) Z;grind
    . have z:¬ E (w.heap.size+1):=λh=>(G _ h).elim WZ λh=>by omega
      have W9:¬ F (w.heap.size+1):=λh=>by grind
      have k:=run_endLoop (P:=Tryz.prog) V (by simp);refine⟨some .ret,_,k,?_⟩;obtain⟨f1,f2,Z⟩:=U W2 X (.loop {({f with state:=.done,pending:=some .ret}:Loop)with state:=.exhausted});refine wpIn_ret (H _ E F (B _ _ _ _ _ N (nV W2 _ _) λb d=>by subst d;exact⟨by omega,z,W9⟩) f1 f2 (λb d=>(G b d).imp id λh=>by omega) (λb d=>?_) Z);grind
end Go.Skm.Fen
