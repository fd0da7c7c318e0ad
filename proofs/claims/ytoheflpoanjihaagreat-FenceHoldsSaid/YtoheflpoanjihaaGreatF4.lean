import Derived.Test.YtoheflpoanjihaaGreatG19
import Derived.Test.YtoheflpoanjihaaGreatTabOk
import Derived.Test.YtoheflpoanjihaaGreatSkmD
import Derived.Test.YtoheflpoanjihaaGreatSkmH
import Derived.RangeFuncNested
import Derived.WalkKit
import Derived.OwnWalkIn
set_option linter.all false
set_option maxRecDepth 100000
namespace Go.Skm.Fen
open Go Go.Skm Go.Proofs Go.RowKit
variable {v:Value}{a:Act}{b d:Nat}{w:World}
section
variable {F:Fence} {n:Nat} {P:Program} {ops:Array Oper} {rest:List Oper} {o:Oper} {a:Act} {w w':World} {Q:Exit->Act->World->Prop}
theorem qU(j:o.guard=none)(e:o.about P w a.eval=none)(hd:∀ c,o.op≠.defer c)
    (i:(execOp a.eval o).run P w=.ok (.value v) w')(k:wpListIn F n P ops Q rest (a.put o.dst v) w'):wpListIn F n P ops Q (o::rest) a w:=by
  refine wpListIn_plain j λK g=>?_;unfold Oper.wpIn;refine⟨λf h=>(by rw[e]at h;cases h),?_⟩;rw[Oper.semAt_plain F _ _ hd,i];exact g _ _ k
theorem abG(j:o.guard=none)(e:o.about P w a.eval=none)(hd:∀ c,o.op≠.defer c)
    (i:(execOp a.eval o).run P w=.ok .skip w')(k:wpListIn F n P ops Q rest (a.put o.dst undef) w'):wpListIn F n P ops Q (o::rest) a w:=by
  refine wpListIn_plain j λK g=>?_;unfold Oper.wpIn;refine⟨λf h=>(by rw[e]at h;cases h),?_⟩;rw[Oper.semAt_plain F _ _ hd,i];exact g _ _ k
end
theorem yt(h:d<a.tmps.size):(a.put (some d) v).tmps.getD d undef=v:=by simp[Act.put,qAb,h]
theorem Bv{t:Nat}(h:t≠d):(a.put (some d) v).tmps.getD t undef=a.tmps.getD t undef:=by simp[Act.put,qAb,qAe (Ne.symm h)]
theorem qp{d:Option Nat}:(a.put d v).tmps.size=a.tmps.size:=by cases d<;>simp[Act.put]
def vV(v:V3):Value:=.agg #[.int .i64 v.x,.int .i64 v.y,.int .i64 v.z]
theorem aiI{M:Nat->Prop}{v:V3}{c:Value}(h:VR w M (cO v) c):c=vV v:=by
 unfold cO at h;cases h with
 | agg _ vs l _ e =>
  have s:=Lc (p:=Ap v.x) rfl (e 0 _ rfl);have r:=Lc (p:=Ap v.y) rfl (e 1 _ rfl);have q:=Lc (p:=Ap v.z) rfl (e 2 _ rfl);have g:vs.size=3:=l;show Value.agg vs=Value.agg _;congr 1;apply Array.ext
  . exact g
  . intro k f t;have m:∀ j (i:j<vs.size),vs[j]=vs.getD j undef:=λj i=>by simp[Array.getD,i]
    rw[m k f]
    match k,g▸f with
    | 0,_=>rw[s];rfl
    | 1,_=>rw[r];rfl
    | 2,_=>rw[q];rfl
theorem afu(w:World)(M:Nat->Prop)(v:V3):VR w M (cO v) (vV v):=by
 refine .agg _ _ rfl (λc f=>?_) λi c e=>?_
 . simp only[List.mem_cons,List.not_mem_nil,or_false]at f;rcases f with rfl | rfl | rfl<;>rfl
 . match i,e with
   | 0,e=>cases e;exact .int _ _
   | 1,e=>cases e;exact .int _ _
   | 2,e=>cases e;exact .int _ _
theorem info26:(Tryz.prog.info? 26).map (λi=>(i.zero,i.size))=some (some (vV ⟨0,0,0⟩),3):=by kernel_rfl
theorem ao2:∀ w,(isAgg 26).run Tryz.prog w=.ok true w:=λw=>Tryz.isAgg26 w
noncomputable def eRF:Code:=match Tryz.f87.body with
 | some (.seq _ (.seq _ (.seq _ (.block _ (.loop (.seq _ (.seq _ (.seq (.block _ (.seq _ (.seq _ (.seq _ (.block _ c))))) _))))))))=>c
 | _=>.skip
def eA1 : Array Oper := #[⟨some 5, .alloc 26, 0, "fence.go:336", #[], none⟩, ⟨none, .store 26 (.tmp 5) (.tmp 35), 0, "fence.go:336", #[⟨0, .data⟩, ⟨0, .phase⟩], none⟩]
def eA2 : Array Oper := #[⟨some 6, .alloc 26, 0, "fence.go:336", #[], none⟩, ⟨none, .store 26 (.tmp 6) (.tmp 36), 0, "fence.go:336", #[⟨0, .data⟩, ⟨0, .phase⟩], none⟩]
def eB1 : Array Oper := #[⟨some 37, .load 122 (.tmp 2), 122, "fence.go:337", #[], none⟩, ⟨some 38, .load 26 (.tmp 5), 26, "fence.go:337", #[], none⟩, ⟨some 39, .load 26 (.tmp 6), 26, "fence.go:337", #[], none⟩,
 ⟨some 40, .call { callee := .value (.tmp 37), args := #[.tmp 38, .tmp 39], argTypes := #[26, 26] }, 4, "fence.go:337", #[⟨0, .data⟩, ⟨1, .data⟩, ⟨2, .data⟩], none⟩, ⟨some 41, .unOp .not 4 (.tmp 40), 4, "fence.go:337", #[⟨3, .data⟩], none⟩]
def eA:Code:=.seq (.region 9 eA1 false) (.region 10 eA2 false)
def eB:Code:=.block 3 (.seq (.region 11 eB1 false) (.cond (.tmp 41) .ret .skip))
theorem ao4:eRF=.rangeFunc (.tmp 34) #[35,36] eA eB:=by kernel_rfl
theorem ak5(w:World){i:Operand->Value}{g:Option Tmp}{ty:TypeId}{f:String}{after:Array Edge}{guard:Option (Nat × Bool)}:(execOp i ⟨g,.alloc 26,ty,f,after,guard⟩).run Tryz.prog w=.ok (.value (.pointer (some ⟨w.heap.size,0,none⟩))) (w.alloc (.cells (vV ⟨0,0,0⟩).cells 26 (0,0))):=by
 obtain⟨c,e,j⟩:∃ c,Tryz.prog.info? 26=some c/\c.zero=some (vV ⟨0,0,0⟩):=by
  have h:=info26;cases e:Tryz.prog.info? 26 with
  | none=>rw[e]at h;cases h
  | some c =>rw[e]at h;simp only[Option.map_some,qOa,Prod.mk.injEq]at h;exact⟨c,rfl,h.1⟩
 simp[execOp,Instr.alloc,vK e j,newVar,newRow,vV]
theorem ak6{C:Array Value}(j:C.size=3)(l:w.heap[b]?=some (.cells C 26 (0,0)))(v:V3):(Instr.storeAt 26 (.pointer (some ⟨b,0,none⟩)) (vV v)).run Tryz.prog w=.ok () (jK w b (vV v).cells 26 (0,0)):=by
 obtain⟨f,g,k⟩:∃ f,Tryz.prog.info? 26=some f/\f.size=3:=by
  have h:=info26;cases g:Tryz.prog.info? 26 with
  | none=>rw[g]at h;cases h
  | some f =>rw[g]at h;simp only[Option.map_some,qOa,Prod.mk.injEq]at h;exact⟨f,rfl,h.2⟩
 have:=CU (P:=Tryz.prog) (t:=26) (b:=b) (o:=0) (c:=vV v) g (by rw[k];rfl) l (.inl rfl) (by rw[j];exact qNr 3) (λu i=>by simp only[vV,Value.cells]at i;simp at i;rcases i with rfl | rfl | rfl<;>rfl);rw[this];have e:ku C 0 (vV v).cells.toList=(vV v).cells:=by simp only[vV,Value.cells,ku,patch];apply Array.ext';simp[j]
 rw[e]
theorem aiJ(v:V3)(l:w.heap[b]?=some (.cells (vV v).cells 26 (0,0))):(Instr.loadAt 26 (.pointer (some ⟨b,0,none⟩))).run Tryz.prog w=.ok (vV v) w:=by
 obtain⟨c,e,g⟩:∃ c,Tryz.prog.info? 26=some c/\c.size=3:=by
  have h:=info26;cases e:Tryz.prog.info? 26 with
  | none=>rw[e]at h;cases h
  | some c =>rw[e]at h;simp only[Option.map_some,qOa,Prod.mk.injEq]at h;exact⟨c,rfl,h.2⟩
 have k:∀ j,j<3->w.cell? ⟨b,0+j,none⟩=some ((vV v).cells.getD j undef):=λj i=>by
  simp only[World.cell?,l,qNz]
  match j,i with
  | 0,_=>rfl
  | 1,_=>rfl
  | 2,_=>rfl
 have:=yu (P:=Tryz.prog) (w:=w) (b:=b) (o:=0) (n:=3) (f:=λj=>(vV v).cells.getD j undef) k;simp only[Instr.loadAt,Instr.sureAddr,Sem.run_bind,Sem.run_pure,qRa,loadVar,ao2,jm e,g,if_true,this];congr 2
end Go.Skm.Fen
set_option maxRecDepth 100000
namespace Go.Skm.Fen
open Go Go.Skm Go.Proofs Go.RowKit
variable {gl:Option (List (Nat × Obj))}
abbrev MQ(L:Nat):Value:=.func (.yield L) #[] #[]
theorem ZL(w:World)(b:Nat)(C:Array Value)(e:TypeId)(fr:Nat × Nat):Turns gl (λx=>x=b) w (jK w b C e fr):=
 ⟨by simp[jK],λx _ h=>by simp[jK,qAe (Ne.symm h)],rfl,rfl,rfl,.refl _ _⟩
theorem afx{F:Go.Fence}{n k:Nat}{Q:Exit->Act->World->Prop}{d s:Nat}{j i:String}{es:Array Edge}{a:Act}{w:World}{v:V3}(hd:d<a.tmps.size)(f:s≠d)(m:a.tmps.getD s undef=vV v)
    (h:∀ W',uZ gl w W'->W'.heap.size=w.heap.size+1->W'.heap[w.heap.size]?=some (.cells (vV v).cells 26 (0,0))->Q .normal ((a.put (some d) (.pointer (some ⟨w.heap.size,0,none⟩))).put none undef) W') :
    (Code.region k #[⟨some d,.alloc 26,0,j,#[],none⟩,⟨none,.store 26 (.tmp d) (.tmp s),0,i,es,none⟩] false).wpIn F n Tryz.prog Q a w:=by
  refine wpIn_region_list ?_;refine qU rfl (by simp[Oper.about]) (λc h=>by cases h) (ak5 w) ?_;have g:=World.alloc_heap_new w (.cells (vV ⟨0,0,0⟩).cells 26 (0,0));have p:(a.put (some d) (.pointer (some ⟨w.heap.size,0,none⟩))).eval (.tmp d)=.pointer (some ⟨w.heap.size,0,none⟩):=yt hd;have o:(a.put (some d) (.pointer (some ⟨w.heap.size,0,none⟩))).eval (.tmp s)=vV v:=(Bv f).trans m;refine abG rfl (by simp[Oper.about]) (λc h=>by cases h) (w':=jK (w.alloc (.cells (vV ⟨0,0,0⟩).cells 26 (0,0))) w.heap.size (vV v).cells 26 (0,0)) ?_ ?_
  . simp only[execOp,p,o,Sem.run_bind,ak6 rfl g v,qRa,Sem.run_pure]
  refine wpListIn_nil ?_;have e:(jK (w.alloc (.cells (vV ⟨0,0,0⟩).cells 26 (0,0))) w.heap.size (vV v).cells 26 (0,0)).heap.size=w.heap.size+1:=by simp[jK]
  refine h _ ?_ e (EL g);exact(uZ.alloc w _).trans ((ZL _ _ _ _ _).weaken (O':=λb=>b=w.heap.size) λ_ _ h=>h) (λb g h=>by omega) |>.weaken λ_ _ h=>h
def Mid(gl:Option (List (Nat × Obj)))(J:List PV->(Nat->Prop)->(Nat->Prop)->World->Prop)(es:List pG)(rest:List PV)(OA KA:Nat->Prop)(W1:World)(l:Nat)(lp:Loop)(r:List PV)(O' K':Nat->Prop)(W:World):Prop:=
 ∃(i:Nat) (Oo Ko:Nat->Prop),r=(es.drop i).map eY/\J ((es.drop i).map eY++rest) Oo Ko W/\Turns gl (λb=>OA b\/b=l) W1 W/\(∀ b,Oo b->OA b\/W1.heap.size<=b)/\(∀ b,Ko b->KA b\/OA b\/W1.heap.size<=b)/\(∀ b,Ko b->b<W1.heap.size\/K' b) /\
  W.heap[l]?=some (.loop lp)/\(∀ b,O' b↔(Oo b\/b=l))/\∀ b,K' b->b<W.heap.size
def Mix(gl:Option (List (Nat × Obj)))(Jx:(Nat->Prop)->(Nat->Prop)->World->Prop)(OA KA:Nat->Prop)(W1:World)(l:Nat)(lp:Loop)(O' K':Nat->Prop)(W:World):Prop:=
 ∃ Oo Ko:Nat->Prop,Jx Oo Ko W/\Turns gl (λb=>OA b\/b=l) W1 W/\(∀ b,Oo b->OA b\/W1.heap.size<=b)/\(∀ b,Ko b->KA b\/OA b\/W1.heap.size<=b)/\(∀ b,Ko b->b<W1.heap.size\/K' b)/\W.heap[l]?=some (.loop lp)/\(∀ b,O' b↔(Oo b\/b=l))
section
variable {gl:Option (List (Nat × Obj))} {W0 W1:World} {J:List PV->(Nat->Prop)->(Nat->Prop)->World->Prop} {Jx:(Nat->Prop)->(Nat->Prop)->World->Prop} {es:List pG} {rest:List PV} {OA KA:Nat->Prop} {l:Nat} {lp:Loop}
theorem Mid.bears(s:∀ r,Bears gl W0 (J r))(x:W0.heap.size<=W1.heap.size)(z:l<W1.heap.size)(r:List PV):Bears gl W1 (Mid gl J es rest OA KA W1 l lp r):=by
 rintro O K W W' S ⟨i,n,o,w,v,u,h4,h5,m,k,j,t⟩ g f;have e:∀ b,S b->W0.heap.size<=b/\¬ n b/\¬ o b:=λb a=>by
  obtain⟨y,q,p⟩:=f b a;refine⟨by omega,λh=>q ((j b).2 (.inl h)),λh=>?_⟩;rcases m b h with h | h
  . omega
  . exact p h
 refine⟨i,n,o,w,s _ _ _ _ _ S v g e,u.trans g λb a c=>absurd (f b c).1 (by omega),h4,h5,m,?_,j,λb a=>Nat.lt_of_lt_of_le (t b a) g.size⟩;have d:l<W.heap.size:=(qAa.1 k).1;exact(g.keep l d λc=>absurd (f l c).1 (by omega)).trans k
theorem Mix.bears(f:Bears gl W0 Jx)(t:W0.heap.size<=W1.heap.size)(v:l<W1.heap.size):Bears gl W1 (Mix gl Jx OA KA W1 l lp):=by
 rintro O K W W' S ⟨n,o,s,r,h4,h5,m,k,j⟩ g e;have d:∀ b,S b->W0.heap.size<=b/\¬ n b/\¬ o b:=λb i=>by
  obtain⟨u,q,p⟩:=e b i;refine⟨by omega,λh=>q ((j b).2 (.inl h)),λh=>?_⟩;rcases m b h with h | h
  . omega
  . exact p h
 refine⟨n,o,f _ _ _ _ S s g d,r.trans g λb i a=>absurd (e b a).1 (by omega),h4,h5,m,?_,j⟩;have c:l<W.heap.size:=(qAa.1 k).1;exact(g.keep l c λa=>absurd (e l a).1 (by omega)).trans k
end
end Go.Skm.Fen
set_option maxRecDepth 100000
namespace Go.Skm.Fen
open Go Go.Skm Go.Proofs Go.RowKit
variable {L:Nat}{gl:Option (List (Nat × Obj))}
theorem ak7{w:World}{b:Nat}{e:TypeId}{fr:Nat × Nat}(a:w.heap[b]?=some (.cells #[MQ L] e fr)):(Instr.loadAt 122 (.pointer (some ⟨b,0,none⟩))).run Tryz.prog w=.ok (MQ L) w:=by simp_all[World.cell?,Instr.loadAt,Instr.sureAddr,loadVar]
theorem wK(W:World)(l:Nat)(o:Obj):Turns gl (λb=>b=l) W (W.putObj l o):=Turns.putObj W l o
set_option maxHeartbeats 1000000 in
theorem ak8{W0 W1:World}{M0:Nat->Prop}{J:List PV->(Nat->Prop)->(Nat->Prop)->World->Prop}{Jx:(Nat->Prop)->(Nat->Prop)->World->Prop}{R:List pG}{o:List PV}{OA KA:Nat->Prop}{l By:Nat}{g:Loop}{fn D:Nat}{q:Array Value}
    (k:g={state:=.ready,pending:=none,fn:=fn,tmps:=q,params:=#[35,36],assign:=eA,body:=eB,defers:=D})(C:q.size=43)(t2:q.getD 2 undef=.pointer (some ⟨By,0,none⟩))
    (hJ:∀ r,Bears gl W0 (J r))(hJx:Bears gl W0 Jx)(hlt:∀ r O K W,J r O K W->∀ b,O b\/K b->b<W.heap.size)
    (hY:∀ vs r O K W (M:Nat->Prop) bF,J (.agg vs::r) O K W->W0.heap.size<=W.heap.size->(∀ b,M b->b<W.heap.size/\¬ O b/\(M0 b\/W0.heap.size<=b))->bF.size=vs.length->(∀ i c,vs[i]?=some c->VR W M c (bF.getD i undef))->Yo Tryz.prog gl L bF W (J r) Jx O K M)
    (N:W0.heap.size<=l)(hl1:l<W1.heap.size)(hlO:¬ OA l)(hlK:¬ KA l)(hBy:W1.heap[By]?=some (.cells #[MQ L] 122 (0,0)))(anh:¬ OA By)(ao7:By≠l){M1:Nat->Prop} :
    ∀(T:List PV) (r:List PV) (O K:Nat->Prop) (W:World) (M:Nat->Prop) (bF:Array Value),Mid gl J R o OA KA W1 l g (.agg T::r) O K W->W1.heap.size<=W.heap.size->(∀ b,M b->b<W.heap.size/\¬ O b/\(M1 b\/W1.heap.size<=b))->bF.size=T.length->(∀(i:Nat) (c:PV),T[i]?=some c->VR W M c (bF.getD i undef)) ->
     Yo Tryz.prog gl l bF W (Mid gl J R o OA KA W1 l g r) (Mix gl Jx OA KA W1 l {g with state:=.done,pending:=some .ret}) O K M:=by
  intro T r O K W M bF Z hsz hM hcs hcv;obtain⟨i,S,Ko,m1,m2,m3,m4,m5,m6,m7,U,m9⟩:=Z;have hi:i<R.length:=by
   rcases Nat.lt_or_ge i R.length with h | h
   . exact h
   . rw[List.drop_eq_nil_iff.2 h]at m1;simp at m1
  rw[List.drop_eq_getElem_cons hi,List.map_cons]at m1 m2;obtain⟨q1,q2⟩:=List.cons.inj m1;generalize hee:R[i]=e at *;have hus:T=[cO e.1,cO e.2]:=by unfold eY at q1;exact PV.agg.inj q1
  subst hus;have G:=aiI (hcv 0 _ rfl);have E:=aiI (hcv 1 _ rfl);obtain⟨c0,c1,rfl⟩:∃ c0 c1,bF=#[c0,c1]:=by
   have hs:bF.size=2:=hcs;refine⟨bF[0],bF[1],?_⟩;apply Array.ext
   . simpa using hs
   . intro j k1 k2;have:j=0\/j=1:=by omega
     rcases this with rfl | rfl<;>rfl
  have G:c0=vV e.1:=G;have E:c1=vV e.2:=E;subst G E;have hL:l<W.heap.size:=by omega
  have w:¬ S l:=λh=>(m4 l h).elim hlO λh=>by omega
  have hKl:¬ Ko l:=λh=>by
   rcases m5 l h with h | h | h
   . exact hlK h
   . exact hlO h
   . omega
  have ao8:W.heap[By]?=some (.cells #[MQ L] 122 (0,0)):=(m3.keep By (qAa.1 hBy).1 λh=>h.elim anh ao7).trans hBy;have ani:By<W.heap.size:=(qAa.1 ao8).1;refine⟨fn,(q.setIfInBounds 35 (vV e.1)).setIfInBounds 36 (vV e.2),eA,eB,?_,?_⟩
  . have:=run_yield (P:=Tryz.prog) (args:=#[vV e.1,vV e.2]) m7 (by rw[k];rfl);rw[k]at this;dsimp only at this;rw[Yp]at this;exact this
  refine roundIn_of_wpIn trivial ?_;have aui:(FW none).inRound l=FW (some l):=rfl;rw[aui];unfold eA;refine wpIn_seq ?_;have n:((q.setIfInBounds 35 (vV e.1)).setIfInBounds 36 (vV e.2)).size=43:=by simp[C]
  have auj:∀ t,t≠35->t≠36->((q.setIfInBounds 35 (vV e.1)).setIfInBounds 36 (vV e.2)).getD t undef=q.getD t undef:=λt k1 k2=>by rw[qAb,qAe k2.symm,qAe k1.symm,qAb]
  have t35:((q.setIfInBounds 35 (vV e.1)).setIfInBounds 36 (vV e.2)).getD 35 undef=vV e.1:=by rw[qAb,qAe (by decide)];simp[C]
  have t36:((q.setIfInBounds 35 (vV e.1)).setIfInBounds 36 (vV e.2)).getD 36 undef=vV e.2:=by simp[qAb,C]
  generalize (q.setIfInBounds 35 (vV e.1)).setIfInBounds 36 (vV e.2)=tt at *;unfold eA1;refine afx (gl:=gl) (a:={tmps:=tt,defers:=[]}) (by rw[n];decide) (by decide) t35 λWa ga sa ba=>?_;have e6:(({tmps:=tt,defers:=[]}:Act).put (some 5) (.pointer (some ⟨W.heap.size,0,none⟩))).tmps.getD 36 undef=vV e.2:=(Bv (by decide)).trans t36;unfold eA2;refine afx (gl:=gl) (by rw[qp,qp,n];decide) (by decide) e6 λWb gb sb bb=>?_;have kb:∀ b,b<W.heap.size->Wb.heap[b]?=W.heap[b]?:=λb d=>(gb.keep b (by omega) λh=>h).trans (ga.keep b d λh=>h);have hlb:Wb.heap[l]?=some (.loop g):=(kb l hL).trans m7;refine⟨_,run_beginRound (P:=Tryz.prog) hlb (by rw[k]),?_⟩;obtain⟨Wc,p⟩:∃ Wc,Wb.putObj l (.loop {g with state:=.busy})=Wc:=⟨_,rfl⟩;rw[p];have gc:Turns gl (λb=>b=l) Wb Wc:=by rw[<- p];exact wK _ _ _
  have sc:Wc.heap.size=Wb.heap.size:=by rw[<- p];exact World.putObj_size
  have kc:∀ b,b<Wb.heap.size->b≠l->Wc.heap[b]?=Wb.heap[b]?:=λb d h=>gc.keep b d h;have hlc:Wc.heap[l]?=some (.loop {g with state:=.busy}):=by rw[<- p];exact World.putObj_heap_same (by omega)
  clear p;have gWc:Turns gl (λb=>b=l) W Wc:=((ga.trans gb λ_ _ h=>h).weaken (O':=λb=>b=l) λ_ _ h=>h.elim).trans gc λ_ _ h=>h;have sWc:Wc.heap.size=W.heap.size+2:=by omega
  have b5:Wc.heap[W.heap.size]?=some (.cells (vV e.1).cells 26 (0,0)):=(kc _ (by omega) (by omega)).trans ((gb.keep _ (by omega) λh=>h).trans ba);have b6:Wc.heap[Wa.heap.size]?=some (.cells (vV e.2).cells 26 (0,0)):=(kc _ (by omega) (by omega)).trans bb;have bBy:Wc.heap[By]?=some (.cells #[MQ L] 122 (0,0)):=(kc By (by omega) ao7).trans ((kb By ani).trans ao8);have hJc:J (eY e::((R.drop (i+1)).map eY++o)) S Ko Wc:=hJ _ _ _ _ _ _ m2 gWc λb d=>by subst d;exact⟨N,w,hKl⟩
  unfold eB;refine wpIn_block (wpIn_seq ?_);unfold eB1;refine wpIn_region_list ?_;generalize hA:((((({tmps:=tt,defers:=[]}:Act).put (some 5) (.pointer (some ⟨W.heap.size,0,none⟩))).put none undef).put (some 6) (.pointer (some ⟨Wa.heap.size,0,none⟩))).put none undef)=A;have y:A.tmps.size=43:=by rw[<- hA];simp only[qp];exact n
  have A2:A.eval (.tmp 2)=.pointer (some ⟨By,0,none⟩):=by rw[<- hA];show(((({tmps:=tt,defers:=[]}:Act).put (some 5) _).put (some 6) _).tmps.getD 2 undef)=_;rw[Bv (by decide),Bv (by decide)];exact(auj 2 (by decide) (by decide)).trans t2
  have A5:A.eval (.tmp 5)=.pointer (some ⟨W.heap.size,0,none⟩):=by rw[<- hA];show(((({tmps:=tt,defers:=[]}:Act).put (some 5) _).put (some 6) _).tmps.getD 5 undef)=_;rw[Bv (by decide),yt (by show 5<tt.size;rw[n];decide)]
  have A6:A.eval (.tmp 6)=.pointer (some ⟨Wa.heap.size,0,none⟩):=by rw[<- hA];show(((({tmps:=tt,defers:=[]}:Act).put (some 5) _).put (some 6) _).tmps.getD 6 undef)=_;rw[yt (by rw[qp];show 6<tt.size;rw[n];decide)]
  clear hA;refine qU rfl (by simp[Oper.about]) (λc h=>by cases h) (v:=MQ L) (w':=Wc) (by simp only[execOp,A2,Sem.run_bind,ak7 bBy,qRa,Sem.run_pure]) ?_;refine qU rfl (by simp[Oper.about]) (λc h=>by cases h) (v:=vV e.1) (w':=Wc) ?_ ?_
  . have:(A.put (some 37) (MQ L)).eval (.tmp 5)=.pointer (some ⟨W.heap.size,0,none⟩):=(Bv (by decide)).trans A5;simp only[execOp,this,Sem.run_bind,aiJ e.1 b5,qRa,Sem.run_pure]
  refine qU rfl (by simp[Oper.about]) (λc h=>by cases h) (v:=vV e.2) (w':=Wc) ?_ ?_
  . have:((A.put (some 37) (MQ L)).put (some 38) (vV e.1)).eval (.tmp 6)=.pointer (some ⟨Wa.heap.size,0,none⟩):=(Bv (by decide)).trans ((Bv (by decide)).trans A6);simp only[execOp,this,Sem.run_bind,aiJ e.2 b6,qRa,Sem.run_pure]
  generalize hB:(((A.put (some 37) (MQ L)).put (some 38) (vV e.1)).put (some 39) (vV e.2))=B;have Bsz:B.tmps.size=43:=by rw[<- hB];simp only[qp];exact y
  have B37:B.eval (.tmp 37)=.func (.yield L) #[] #[]:=by rw[<- hB];show((((A.put (some 37) (MQ L)).put (some 38) _).put (some 39) _).tmps.getD 37 undef)=_;rw[Bv (by decide),Bv (by decide),yt (by rw[y];decide)]
  have B38:B.eval (.tmp 38)=vV e.1:=by rw[<- hB];show((((A.put (some 37) (MQ L)).put (some 38) _).put (some 39) _).tmps.getD 38 undef)=_;rw[Bv (by decide),yt (by rw[qp,y];decide)]
  have B39:B.eval (.tmp 39)=vV e.2:=by rw[<- hB];show((((A.put (some 37) (MQ L)).put (some 38) _).put (some 39) _).tmps.getD 39 undef)=_;rw[yt (by rw[qp,qp,y];decide)]
  clear hB;have hy:=hY [cO e.1,cO e.2] _ S Ko Wc (λ_=>False) #[vV e.1,vV e.2] hJc (by omega) (λb d=>d.elim) rfl λj c s=>by
   match j,s with
   | 0,s=>cases s;exact afu _ _ _
   | 1,s=>cases s;exact afu _ _ _
  obtain⟨fn2,ayq,azK,body2,X,adY⟩:=hy;refine wpListIn_plain rfl λKc hKc=>?_;unfold Oper.wpIn;refine⟨λ_ _=>trivial,?_⟩;rw[Oper.semAt_plain (FW (some l)) _ _ (λc h=>by cases h),Vm B37];have hargs:(#[Operand.tmp 38,Operand.tmp 39]).map B.eval=#[vV e.1,vV e.2]:=by simp[B38,B39]
  rw[hargs,X,Oper.uponIn_round];refine⟨Az (some l),RoundIn.mono (F:=FW (some l)) adY λx W' hR=>?_⟩;obtain⟨ht,O',K',Y,H,I⟩:=hR;have sW':=ht.size;have hl':W'.heap[l]?=some (.loop {g with state:=.busy}):=(ht.keep l (by omega) w).trans hlc;have apa:¬ O' l:=λh=>(H l h).elim w λh=>by omega
  have apb:¬ K' l:=λh=>by
   rcases I l h with h | h | h | h
   . exact hKl h
   . exact h
   . exact w h
   . omega
  have gW':Turns gl (λb=>S b\/b=l) W W':=(gWc.weaken (O':=λb=>S b\/b=l) λ_ _ h=>.inr h).trans (ht.weaken (O':=λb=>S b\/b=l) λ_ _ h=>.inl h) λ_ _ h=>h;have fin:∀ f:Loop,Turns gl O W (W'.putObj l (.loop f))/\Turns gl (λb=>OA b\/b=l) W1 (W'.putObj l (.loop f))/\(W'.putObj l (.loop f)).heap.size=W'.heap.size/\(W'.putObj l (.loop f)).heap[l]?=some (.loop f):=λf=>by
   have g2:=gW'.trans (wK (gl:=gl) W' l (.loop f)) λ_ _ h=>.inr h;refine⟨g2.weaken λb _ h=>(U b).2 h,m3.trans g2 λb d h=>?_,World.putObj_size,World.putObj_heap_same (by omega)⟩;rcases h with h | h
   . rcases m4 b h with h | h
     . exact .inl h
     . omega
   . exact .inr h
  have oN:∀ b,O' b->OA b\/W1.heap.size<=b:=λb d=>by
   rcases H b d with h | h
   . exact m4 b h
   . right;omega
  have kN:∀ b,K' b->KA b\/OA b\/W1.heap.size<=b:=λb d=>by
   rcases I b d with h | h | h | h
   . exact m5 b h
   . exact h.elim
   . exact .inr (m4 b h)
   . right;right;omega
  have apc:∀ b,(O' b\/b=l)->O b\/W.heap.size<=b:=λb d=>by
   rcases d with h | h
   . rcases H b h with h | h
     . exact .inl ((U b).2 (.inl h))
     . right;omega
   . exact .inl ((U b).2 (.inr h))
  let KN:Nat->Prop:=λb=>K b\/M b\/O b\/(W.heap.size<=b/\b<W'.heap.size);have V:∀ b,K' b->b<W1.heap.size\/KN b:=λb d=>by
   rcases I b d with h | h | h | h
   . exact(m6 b h).imp id .inl
   . exact h.elim
   . exact .inr (.inr (.inr (.inl ((U b).2 (.inl h)))))
   . exact .inr (.inr (.inr (.inr ⟨by omega,h.2⟩)))
  have kN3:∀ b,KN b->b<W'.heap.size:=λb d=>by
   rcases d with h | h | h | h
   . have:=m9 b h;omega
   . have:=(hM b h).1;omega
   . rcases(U b).1 h with h | h
     . have:=hlt _ _ _ _ m2 b (.inl h);omega
     . omega
   . exact h.2
  have auk:∀ t:Bool,(B.put (some 40) (.bool t)).eval (.tmp 40)=.bool t:=λt=>yt (by rw[Bsz];decide);have apd:∀ t u:Bool,((B.put (some 40) (.bool t)).put (some 41) (.bool u)).eval (.tmp 41)=.bool u:=λt u=>yt (by rw[qp,Bsz];decide);have z : ∀ t : Bool, (execOp (B.put (some 40) (.bool t)).eval ⟨some 41, .unOp .not 4 (.tmp 40), 4, "fence.go:337", #[⟨3, .data⟩], none⟩).run Tryz.prog W' = .ok (.value (.bool (!t))) W' := λt => by simp only[execOp,auk];cases t<;>simp[go_sem]
  rcases Y with⟨rfl,s⟩ |⟨rfl,s⟩
  . -- more is wanted
    refine hKc _ _ ?_;refine qU rfl (by simp[Oper.about]) (λc h=>by cases h) (v:=.bool false) (w':=W') (z true) ?_;refine wpListIn_nil ?_;refine wpIn_cond_false (apd true false) (wpIn_skip ?_);have m:=run_endRound (P:=Tryz.prog) none hl';have Q:({({g with state:=.busy}:Loop)with state:=if(none:Option Code).isNone then .ready else .done,pending:=none}:Loop)=g:=by rw[k];rfl
    rw[Q]at m;refine⟨_,_,m,?_⟩;obtain⟨f1,f2,f3,f4⟩:=fin g;refine⟨f1,λb=>O' b\/b=l,KN,.inl ⟨rfl,i+1,O',K',q2,?_,f2,oN,kN,V,f4,λb=>Iff.rfl,λb d=>by rw[f3];exact kN3 b d⟩,apc,λb d=>by rw[f3];exact d⟩;exact hJ _ _ _ _ _ _ s (wK W' l _) λb d=>by subst d;exact⟨N,apa,apb⟩
  . -- no more
    refine hKc _ _ ?_;refine qU rfl (by simp[Oper.about]) (λc h=>by cases h) (v:=.bool true) (w':=W') (z false) ?_;refine wpListIn_nil ?_;refine wpIn_cond_true (apd false true) (wpIn_ret ?_);have m:=run_endRound (P:=Tryz.prog) (some .ret) hl';refine⟨_,_,m,?_⟩;have Q:({({g with state:=.busy}:Loop)with state:=if(some Code.ret).isNone then .ready else .done,pending:=some .ret}:Loop)={g with state:=.done,pending:=some .ret}:=rfl;rw[Q];obtain⟨f1,f2,f3,f4⟩:=fin {g with state:=.done,pending:=some .ret};refine⟨f1,λb=>O' b\/b=l,KN,.inr ⟨rfl,O',K',?_,f2,oN,kN,V,f4,λb=>Iff.rfl⟩,apc,λb d=>by rw[f3];exact d⟩;exact hJx _ _ _ _ _ s (wK W' l _) λb d=>by subst d;exact⟨N,apa,apb⟩
end Go.Skm.Fen
set_option maxRecDepth 100000
namespace Go.Skm.Fen
open Go Go.Skm Go.Proofs Go.RowKit
theorem ak9{gl:Option (List (Nat × Obj))}{W0:World}{M0:Nat->Prop}{J:List PV->(Nat->Prop)->(Nat->Prop)->World->Prop}{Jx:(Nat->Prop)->(Nat->Prop)->World->Prop}{E:List pG}{j:List PV}{OA KA:Nat->Prop}{L By:Nat}
    (hJ:∀ r,Bears gl W0 (J r))(C:Bears gl W0 Jx)(s:∀ r O K W,J r O K W->∀ b,O b\/K b->b<W.heap.size)
    (hY:∀ vs r O K W (M:Nat->Prop) bF,J (.agg vs::r) O K W->W0.heap.size<=W.heap.size->(∀ b,M b->b<W.heap.size/\¬ O b/\(M0 b\/W0.heap.size<=b))->bF.size=vs.length->(∀ i c,vs[i]?=some c->VR W M c (bF.getD i undef))->Yo Tryz.prog gl L bF W (J r) Jx O K M)
    {n:List PV}(hit:QL Tryz.prog gl 100 n (E.map eY)){a:Act}{w:World}{Q:Exit->Act->World->Prop}(ha:a.tmps.size=43)(t2:a.tmps.getD 2 undef=.pointer (some ⟨By,0,none⟩)){q:Array Value}(t34:a.tmps.getD 34 undef=.func (.func 100) #[] q)
    {M1:Nat->Prop}(hlb:q.size=n.length)(hlv:∀(i:Nat) (c:PV),n[i]?=some c->VR w M1 c (q.getD i undef))(A:∀ b,M1 b->b<w.heap.size/\¬ OA b)(y:∀ p∈gl.getD [],M1 p.1/\w.heap[p.1]?=some p.2)
    (h0w:W0.heap.size<=w.heap.size)(D:J (E.map eY++j) OA KA w)(U:w.heap[By]?=some (.cells #[MQ L] 122 (0,0)))(anh:¬ OA By)
    (N:∀(W':World) (O' K':Nat->Prop),J j O' K' W'->Turns gl OA w W'->W'.heap[w.heap.size]?=some (.deferred (some []))->(∀ b,O' b->OA b\/w.heap.size+2<=b)->(∀ b,K' b->KA b\/OA b\/w.heap.size+2<=b)->w.heap.size+2<=W'.heap.size->Q .normal {a with defers:=Fj w.heap.size::a.defers} W')
    (I:∀(W':World) (O' K':Nat->Prop),Jx O' K' W'->Turns gl OA w W'->W'.heap[w.heap.size]?=some (.deferred (some []))->(∀ b,O' b->OA b\/w.heap.size+2<=b)->(∀ b,K' b->KA b\/OA b\/w.heap.size+2<=b)->w.heap.size+2<=W'.heap.size->Q .ret {a with defers:=Fj w.heap.size::a.defers} W') :
    eRF.wpIn (FW none) 0 Tryz.prog Q a w:=by
  rw[ao4];have Z:∀ b,OA b->b<w.heap.size:=λb d=>s _ _ _ _ D b (.inl d);have Y:∀ b,KA b->b<w.heap.size:=λb d=>s _ _ _ _ D b (.inr d);refine wpIn_rangeFunc λfn _=>?_;generalize l:({state:=.ready,pending:=none,fn:=fn,tmps:=a.tmps,params:=#[35,36],assign:=eA,body:=eB,defers:=w.heap.size}:Loop)=f;obtain⟨W1,m⟩:∃ W1,(w.alloc (.deferred (some []))).alloc (.loop f)=W1:=⟨_,rfl⟩;have hs1:W1.heap.size=w.heap.size+2:=by rw[<- m];simp
  have x:uZ gl w W1:=by rw[<- m];exact(uZ.alloc w _).trans (uZ.alloc _ _) (λ_ _ h=>h)
  have u:∀ b,b<w.heap.size->W1.heap[b]?=w.heap[b]?:=λb d=>x.keep b d λh=>h;have hD1:W1.heap[w.heap.size]?=some (.deferred (some [])):=by rw[<- m];exact(Below.heap_alloc _ _ _ (by simp)).trans (World.alloc_heap_new w _)
  have hl1:W1.heap[w.heap.size+1]?=some (.loop f):=by rw[<- m];have:=World.alloc_heap_new (w.alloc (.deferred (some []))) (.loop f);grind[World.size_alloc]
  have S:(Instr.enterLoop fn a.tmps #[35,36] eA eB none).run Tryz.prog w=.ok (w.heap.size+1,[{target:=.collected w.heap.size,args:=#[]}]) W1:=by rw[<- m,<- l];exact run_enterLoop_outer _ _ _ _ _
  clear m;have ani:By<w.heap.size:=(qAa.1 U).1;have t:¬ OA (w.heap.size+1):=λh=>by have:=Z _ h;omega
  have hlK:¬ KA (w.heap.size+1):=λh=>by have:=Y _ h;omega
  refine⟨w.heap.size+1,[{target:=.collected w.heap.size,args:=#[]}],W1,{target:=.fn (.func 100) q,args:=#[.func (.yield (w.heap.size+1)) #[] #[]]},W1,100,#[.func (.yield (w.heap.size+1)) #[] #[]]++q,W1,S,?_,λ_ _=>trivial,?_,Az none,?_⟩
  . have:a.eval (.tmp 34)=.func (.func 100) #[] q:=t34;simp only[resolve,this];simp[go_sem]
  . rfl
  refine zi _ ?_;have hJ1:J (E.map eY++j) OA KA W1:=(hJ _).grows D x;have V:W0.heap.size<=W1.heap.size:=by omega
  let O0:Nat->Prop:=λb=>OA b\/b=w.heap.size+1
  have apf:Mid gl J E j OA KA W1 (w.heap.size+1) f (E.map eY) O0 (λ_=>False) W1:=
   ⟨0,OA,KA,rfl,hJ1,(Turns.refl gl (λb=>OA b\/b=w.heap.size+1) W1),λb d=>.inl d,λb d=>.inl d,λb d=>.inl (by have:=Y b d;omega),hl1,λb=>Iff.rfl,λb d=>d.elim⟩
  have X:∀(W2:World),Turns gl (λb=>OA b\/b=w.heap.size+1) W1 W2->∀ o:Obj,Turns gl OA w (W2.putObj (w.heap.size+1) o)/\(W2.putObj (w.heap.size+1) o).heap[w.heap.size]?=some (.deferred (some []))/\w.heap.size+2<=(W2.putObj (w.heap.size+1) o).heap.size:=λW2 g o=>by
   have g1:Turns gl OA w W2:=(x.weaken (O':=OA) λ_ _ h=>h.elim).trans g λb d h=>h.elim id λh=>by omega
   have hs:(W2.putObj (w.heap.size+1) o).heap.size=W2.heap.size:=World.putObj_size;have:=g.size;refine⟨g1.trans (wK W2 (w.heap.size+1) o) λb d h=>absurd h (by omega),?_,by omega⟩;rw[World.putObj_heap_other (by omega)];exact(g.keep _ (by omega) λh=>h.elim (λh=>by have:=Z _ h;omega) λh=>by omega).trans hD1
  refine Calls.mono (hit W1 M1 (w.heap.size+1) q (Mid gl J E j OA KA W1 (w.heap.size+1) f) (Mix gl Jx OA KA W1 (w.heap.size+1) {f with state:=.done,pending:=some .ret}) O0 (λp hp=>⟨(y p hp).1,(u _ (A _ (y p hp).1).1).trans (y p hp).2⟩) hlb (λi c hc=>(hlv i c hc).mono λb d=>⟨d,u b (A b d).1⟩) (λb d=>⟨by have:=(A b d).1;omega,λh=>?_⟩)
   (λr=>Mid.bears hJ V (by omega) r) (Mix.bears C V (by omega)) (λr O K W hm b d=>?_) ?_ apf) ?_
  . grind
  . obtain⟨i,F,G,m1,R,m3,H,m5,m6,m7,m8,m9⟩:=hm;grind
  . intro us r O K W M bF hm hX hM hcs hcv;exact ak8 (M0:=M0) l.symm ha t2 hJ C s hY (by omega) (by omega) t hlK ((u By ani).trans U) anh (by omega) us r O K W M bF hm hX hM hcs hcv
  . rintro e W2 ⟨⟨v,rfl⟩,O,K,(⟨i,F,G,m1,R,m3,H,m5,m6,m7,m8,m9⟩ |⟨F,G,R,m3,H,m5,m6,m7,m8⟩)⟩
    . have hi:E.drop i=[]:=by have:=congrArg List.length m1;simp only[List.length_nil,qLm]at this;grind
      rw[hi]at R;have z:¬ F (w.heap.size+1):=λh=>(H _ h).elim t λh=>by omega
      have B:¬ G (w.heap.size+1):=λh=>by grind
      have k:=run_endLoop (P:=Tryz.prog) m7 (by rw[<- l];simp);obtain⟨f1,f2,f3⟩:=X W2 m3 (.loop {f with state:=.exhausted});have T:J ([].map eY++j) F G (W2.putObj (w.heap.size+1) (.loop {f with state:=.exhausted})):=hJ _ _ _ _ _ _ R (wK W2 _ _) λb d=>by subst d;exact⟨by omega,z,B⟩
      generalize W2.putObj (w.heap.size+1) (.loop {f with state:=.exhausted})=wE at k f1 f2 f3 T;rw[show f.pending=none by rw[<- l]]at k;refine⟨none,_,k,?_⟩;refine N _ F G T f1 f2 (λb d=>(H b d).imp id λh=>by omega) (λb d=>?_) f3;grind
    . have z:¬ F (w.heap.size+1):=λh=>(H _ h).elim t λh=>by omega
      have B:¬ G (w.heap.size+1):=λh=>by grind
      have k:=run_endLoop (P:=Tryz.prog) m7 (by simp);refine⟨some .ret,_,k,?_⟩;obtain⟨f1,f2,f3⟩:=X W2 m3 (.loop {({f with state:=.done,pending:=some .ret}:Loop)with state:=.exhausted});refine wpIn_ret (I _ F G (C _ _ _ _ _ R (wK W2 _ _) λb d=>by subst d;exact⟨by omega,z,B⟩) f1 f2 (λb d=>(H b d).imp id λh=>by omega) (λb d=>?_) f3);grind
end Go.Skm.Fen
