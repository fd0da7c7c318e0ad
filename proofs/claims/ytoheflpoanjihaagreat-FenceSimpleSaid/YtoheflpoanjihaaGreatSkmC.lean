import Derived.Test.YtoheflpoanjihaaGreatSkmB
import Derived.OrdersIn
import Derived.TacticsIn
import Derived.OwnWalkIn
namespace Go.Skm
def jK (gl:Option (List (Nat × Obj))) (a b:Nat):Prop:=gl=none→a≤b
theorem jK.refl (gl:Option (List (Nat × Obj))) (a:Nat):jK gl a a:=fun _=>Nat.le_refl _
theorem jK.trans {gl:Option (List (Nat × Obj))} {a b c:Nat} (h:jK gl a b) (k:jK gl b c):jK gl a c:=fun e=>Nat.le_trans (h e) (k e)
inductive DY (T:Tab) (w:World) (M:Nat→Prop) (β:Nat→Option (Nat × Nat)) (h:Nat→Option cu):lq→TypeId→AV→Value→Option (Nat × Nat)→Prop
 | deep (t:TypeId) (x:PV) (c:Value) (hs:bZ (bY T t).1 (bY T t).2 x=true) (hv:VR w M x c):DY T w M β h .deep t (.p x) c none
 | fresh (t e : TypeId) (xs : List PV) (c : Value) (p : Option (Nat × Nat)) (hu : und T t = some (.slice e))
     (hb:BR w M (fun _=>p) (fun _=>some (.arr (bY T e).1 (bY T e).2 xs)) 0 (.arr (bY T e).1 (bY T e).2 xs))
     (hv:AR w M (fun _=>p) (fun _=>some (.arr (bY T e).1 (bY T e).2 xs)) (.slice 0 (bY T e).2.length 0 xs.length) c) :
     DY T w M β h .fresh t (.fresh (bY T e).1 (bY T e).2 xs) c p
 | alias (j : Nat) (t e : TypeId) (off len : Nat) (c : Value) (hu : und T t = some (.slice e))
     (hv:AR w M β h (.slice (ah+j) (bY T e).2.length off len) c):DY T w M β h (.alias j) t (.slice (ah+j) (bY T e).2.length off len) c none
 | func (g:Nat) (qs:List (Bool × List Kd)) (t:TypeId) (cs:List PV) (c:Value) (hs:F7 qs cs=true) (hv:VR w M (.fn g cs) c):DY T w M β h (.func g qs) t (.p (.fn g cs)) c none
inductive CQ (T:Tab) (w:World) (M:Nat→Prop) (β:Nat→Option (Nat × Nat)) (h:Nat→Option cu):List lq→List TypeId→List AV→List Value→List (Option (Nat × Nat))→Prop
 | nil (ms:List lq):CQ T w M β h ms [] [] [] []
 | cons (ms : List lq) (t : TypeId) (ts : List TypeId) (v : AV) (vs : List AV) (c : Value) (cs : List Value) (p : Option (Nat × Nat)) (ps : List (Option (Nat × Nat)))
     (h1:DY T w M β h (ms.headD .deep) t v c p) (h2:CQ T w M β h ms.tail ts vs cs ps)
     (h3:∀ b o o',p=some (b,o)→some (b,o') ∉ ps):CQ T w M β h ms (t::ts) (v::vs) (c::cs) (p::ps)
def vF:List Value→Value
 | [c]=>c
 | cs=>.tuple cs.toArray
structure DZ (gl:Option (List (Nat × Obj))) (T:Tab) (fi:FI) (w:World) (M:Nat→Prop) (β:Nat→Option (Nat × Nat)) (bl:List cu) (rs:List AV) (jX:List cu) (w':World) (M':Nat→Prop) (cs:List Value) (ps:List (Option (Nat × Nat))):Prop where
 res:CQ T w' M' β (look (gV 0 jX)) fi.cfg.rets fi.fn.resultTypes.toList rs cs ps
 own:∀ b o,some (b,o)∈ps→¬ M' b∧b<w'.heap.size∧w.heap.size≤b
 res2:fi.cfg.vY=false→fi.cfg.shares=false→∃ M2:Nat→Prop,(∀ b,M2 b→M' b∧w.heap.size≤b)∧CQ T w' M2 β (look (gV 0 jX)) fi.cfg.rets fi.fn.resultTypes.toList rs cs ps
 gU:∀ b,M b→M' b
 lY:∀ b,M' b→M b∨w.heap.size≤b
 mlt:∀ b,M' b→b<w'.heap.size
 keep:∀ b,b<w.heap.size→(∀ i o,i<bl.length→β (ah+i)≠some (b,o))→w'.heap[b]?=w.heap[b]?
 room:∀ b n,b<w.heap.size→Room w b n→Room w' b n
 size:w.heap.size≤w'.heap.size
 os:w'.os=w.os
 tape:w'.tape=w.tape
 output:w'.output=w.output
 drawn:jK gl w.drawn w'.drawn
 len:jX.length=bl.length
 blk:∀ i b0 b1,bl[i]?=some b0→jX[i]?=some b1→BR w' M' β (look (gV 0 jX)) (ah+i) b1∧Like b0 b1∧backOk b0 b1=true∧gI b1=true
structure tZ (w:World) (M:Nat→Prop) (β:Nat→Option (Nat × Nat)) (args:List AV) (bl:List cu) (aY:Array Value):Prop where
 num:aY.size=args.length
 args:∀ i v,args[i]?=some v→AR w M β (look (gV 0 bl)) v (aY.getD i undef)
 blk:∀ i b0,bl[i]?=some b0→BR w M β (look (gV 0 bl)) (ah+i) b0
 own:∀ i b o,i<bl.length→β (ah+i)=some (b,o)→¬ M b∧b<w.heap.size
 inj:∀ i j b o o',i<bl.length→j<bl.length→β (ah+i)=some (b,o)→β (ah+j)=some (b,o')→i=j
 gU:∀ b,M b→b<w.heap.size
structure Wi (keep:Bool) (w:World) (M:Nat→Prop) (β:Nat→Option (Nat × Nat)) (args:List AV) (bl:List cu) (aY:Array Value):Prop where
 num:aY.size=args.length
 args:∀ i v,args[i]?=some v→AR w M β (look (lu keep bl)) v (aY.getD i undef)
 blk:∀ s b,look (lu keep bl) s=some b→BR w M β (look (lu keep bl)) s b
 own:∀ s b o,(look (lu keep bl) s).isSome=true→β s=some (b,o)→¬ M b∧b<w.heap.size
 inj:∀ s s' b o o',(look (lu keep bl) s).isSome=true→(look (lu keep bl) s').isSome=true→β s=some (b,o)→β s'=some (b,o')→s=s'
 gU:∀ b,M b→b<w.heap.size
structure Wj (gl:Option (List (Nat × Obj))) (T:Tab) (fi:FI) (w:World) (M:Nat→Prop) (β:Nat→Option (Nat × Nat)) (a:Bool) (ks:List Kd) (xs:List PV) (rs:List AV) (jX:List cu) (w':World) (M':Nat→Prop) (cs:List Value):Prop where
 res:∃ β' h' ps,CQ T w' M' β' h' fi.cfg.rets fi.fn.resultTypes.toList rs cs ps∧∀ p∈ps,p=none
 gU:∀ b,M b→M' b
 lY:∀ b,M' b→M b∨w.heap.size≤b∨∃ o,β (fA fi.cfg.vkeep)=some (b,o)
 mlt:∀ b,M' b→b<w'.heap.size
 keep:∀ b,b<w.heap.size→(∀ o,β ah≠some (b,o))→(∀ o,β (fA fi.cfg.vkeep)≠some (b,o))→w'.heap[b]?=w.heap[b]?
 size:w.heap.size≤w'.heap.size
 os:w'.os=w.os
 tape:w'.tape=w.tape
 output:w'.output=w.output
 drawn:jK gl w.drawn w'.drawn
 back:∃ off len ys bb bo C e fr p,jX=[.box [.slice (fA fi.cfg.vkeep) ks.length off len],.arr a ks ys]∧β ah=some (bb,bo)∧¬ M' bb∧w'.heap[bb]?=some (.cells C e fr)∧bo+1≤C.size∧Open C fr ∧
  AR w' M' (fun _=>p) (fun _=>some (.arr a ks ys)) (.slice 0 ks.length off len) (C.getD bo undef)∧BR w' M' (fun _=>p) (fun _=>some (.arr a ks ys)) 0 (.arr a ks ys) ∧
  (∀ b o,p=some (b,o)→¬ M' b∧b<w'.heap.size∧b≠bb∧(w.heap.size≤b∨∃ o',β (fA fi.cfg.vkeep)=some (b,o'))) ∧
  (fi.cfg.vkeep=true→p=β (fA true)∧xs.length≤ys.length∧∀ b o n,p=some (b,o)→Room w b n→Room w' b n)
structure OY (w:World) (M:Nat→Prop) (β:Nat→Option (Nat × Nat)) (args:List AV) (b1:cu) (aY:Array Value):Prop where
 num:aY.size=args.length
 args:∀ i v,args[i]?=some v→AR w M β (look [(99999,b1)]) v (aY.getD i undef)
 blk:BR w M β (look [(99999,b1)]) 99999 b1
 own:∀ b o,β 99999=some (b,o)→¬ M b∧b<w.heap.size
 gU:∀ b,M b→b<w.heap.size
structure Q9 (gl:Option (List (Nat × Obj))) (T:Tab) (fi:FI) (w:World) (M:Nat→Prop) (β:Nat→Option (Nat × Nat)) (rs:List AV) (w':World) (M':Nat→Prop) (cs:List Value) (ps:List (Option (Nat × Nat))):Prop where
 res:∃ β' h',CQ T w' M' β' h' fi.cfg.rets fi.fn.resultTypes.toList rs cs ps
 own:∀ b o,some (b,o)∈ps→¬ M' b∧b<w'.heap.size∧(w.heap.size≤b∨∃ o',β 99999=some (b,o'))
 gU:∀ b,M b→M' b
 lY:∀ b,M' b→M b∨w.heap.size≤b∨∃ o,β 99999=some (b,o)
 mlt:∀ b,M' b→b<w'.heap.size
 keep:∀ b,b<w.heap.size→(∀ o,β 99999≠some (b,o))→w'.heap[b]?=w.heap[b]?
 size:w.heap.size≤w'.heap.size
 os:w'.os=w.os
 tape:w'.tape=w.tape
 output:w'.output=w.output
 drawn:jK gl w.drawn w'.drawn
structure jl (P:Program) (T:Tab) (gl:Option (List (Nat × Obj))) (C:aS):Prop where
 plain:∀ f fi args bl rs jX,dN T.funcs f=some fi→(∀ b∈bl,gI b=true)→C f args bl=some (rs,jX)→(∃ c,fi.fn.body=some c) ∧
  ∀ (w:World) (M:Nat→Prop) (β:Nat→Option (Nat × Nat)) (aY:Array Value),(∀ p∈gl.getD [],M p.1∧w.heap[p.1]?=some p.2)→tZ w M β args bl aY →
   Calls P f aY w fun e w'=>∃ cs ps M',e=.returned (vF cs)∧DZ gl T fi w M β bl rs jX w' M' cs ps
 var:∀ f fi args z off len a ks xs rs jX,dN T.funcs f=some fi→fi.cfg.vcall=true→C f args [.box [.slice (fA fi.cfg.vkeep) z off len],.arr a ks xs]=some (rs,jX)→(∃ c,fi.fn.body=some c) ∧
  ∀ (w:World) (M:Nat→Prop) (β:Nat→Option (Nat × Nat)) (aY:Array Value),(∀ p∈gl.getD [],M p.1∧w.heap[p.1]?=some p.2)→Wi fi.cfg.vkeep w M β args [.box [.slice (fA fi.cfg.vkeep) z off len],.arr a ks xs] aY →
   Calls P f aY w fun e w'=>∃ cs M',e=.returned (vF cs)∧Wj gl T fi w M β a ks xs rs jX w' M' cs
 take:∀ f fi args a ks xs rs jX,dN T.funcs f=some fi→fi.cfg.take=true→C f args [.log false [],.arr a ks xs]=some (rs,jX)→(∃ c,fi.fn.body=some c) ∧
  ∀ (w:World) (M:Nat→Prop) (β:Nat→Option (Nat × Nat)) (aY:Array Value),(∀ p∈gl.getD [],M p.1∧w.heap[p.1]?=some p.2)→OY w M β args (.arr a ks xs) aY →
   Calls P f aY w fun e w'=>∃ cs ps M',e=.returned (vF cs)∧Q9 gl T fi w M β rs w' M' cs ps
 glob:∀ w:World,(∀ p∈gl.getD [],w.heap[p.1]?=some p.2)→T.glob gl.isSome w
theorem acJ {bl:List cu}:∀ (k i:Nat),look (gV k bl) (ah+(k+i))=bl[i]?:=by
 induction bl with
 | nil=>intro k i;simp[gV,look]
 | cons b r ih =>
  intro k i;cases i with
  | zero=>simp[gV,look]
  | succ i =>
   have:(ah+k==ah+(k+(i+1)))=false:=by simp
   simp only[gV,look,this,cond_false];rw[show k+(i+1)=(k+1)+i from by omega,ih];simp
theorem qM {bl:List cu} (i:Nat):look (gV 0 bl) (ah+i)=bl[i]?:=by have:=acJ (bl:=bl) 0 i;rwa[Nat.zero_add]at this
theorem Yg:∀ {bl:List cu} {k s:Nat} {b:cu},look (gV k bl) s=some b→∃ i,i<bl.length∧s=ah+(k+i)
 | [],k,s,b,h=>by simp[gV,look]at h
 | x::r,k,s,b,h=>by
  simp only[gV,look]at h;cases he:ah+k==s with
  | true=>exact⟨0,by simp,(by simpa using he:ah+k=s).symm⟩
  | false =>rw[he]at h;obtain⟨i,h1,h2⟩:=Yg h;exact⟨i+1,by simpa using h1,by omega⟩
theorem Il {bl:List cu} {s:Nat} {b:cu} (h:look (gV 0 bl) s=some b):∃ i,i<bl.length∧s=ah+i∧bl[i]?=some b:=by obtain⟨i,h1,h2⟩:=Yg h;rw[Nat.zero_add]at h2;subst h2;exact⟨i,h1,rfl,by rw[← qM];exact h⟩
theorem VR.aeD {w w':World} {M M':Nat→Prop} {k:Kd} {x:PV} {c:Value} (hk:k.flat=true) (ho:kindOk k x=true) (h:VR w M x c):VR w' M' x c:=by cases k<;>simp[Kd.flat]at hk<;>cases x<;>simp[kindOk]at ho<;>cases h<;>constructor
theorem VR.flat {w w':World} {M M':Nat→Prop} {a:Bool} {ks:List Kd} {x:PV} {c:Value} (hk:ks.all Kd.flat=true) (ho:bZ a ks x=true) (h:VR w M x c):VR w' M' x c:=by
 have hall:∀ (j:Nat) (k:Kd),ks[j]?=some k→k.flat=true:=fun j k hj=>List.all_eq_true.1 hk k (qLe hj);cases a with
 | true =>
  cases h with
  | agg cs vs hn hl hc =>
   have hko:=lK (tq ho);refine .agg cs vs hn hl fun i y hy=>?_;have hi:i<ks.length:=by have:=(qLa.1 hy).1;have e:=hko.1;simp only[PV.cells]at e;omega
   exact(hc i y hy).aeD (hall i ks[i] (by simp)) (hko.2 i ks[i] y (by simp) hy)
  | _=>simp[bZ]at ho
 | false =>
  match ks,ho,hall with
  | [k],ho,hall=>exact h.aeD (hall 0 k rfl) (by simpa [bZ] using ho)
  | [],ho,_=>simp[bZ]at ho
  | _::_::_,ho,_=>simp[bZ]at ho
theorem VR.written {w:World} {M:Nat→Prop} {ks:List Kd} {x:PV} {c:Value} (ho:bZ true ks x=true) (h:VR w M x c):VR w M (.agg (jB ks x 0)) c:=by
 cases h with
 | agg cs vs hn hl hc =>
  have hko:=lK (tq ho);simp only[PV.cells]at hko;have hlen:(jB ks (.agg cs) 0).length=ks.length:=by
   have:∀ (ks:List Kd) (x:PV) (o:Nat),(jB ks x o).length=ks.length:=by
    intro ks;induction ks with
    | nil=>intro x o;rfl
    | cons k r ih=>intro x o;simp[jB,ih]
   exact this _ _ _
  have hget:∀ (j:Nat) (y:PV),(jB ks (.agg cs) 0)[j]?=some y→∃ k z,ks[j]?=some k∧cs[j]?=some z∧y=eta k z:=by
   intro j y hy;rw[yw]at hy;cases hk:ks[j]? with
   | none=>rw[hk]at hy;cases hy
   | some k =>
    rw[hk]at hy;simp only[Option.map_some,qOa]at hy;have hj:j<cs.length:=by have:=(qLa.1 hk).1;omega
    refine⟨k,cs[j],rfl,by simp,?_⟩;rw[← hy];simp[PV.cell,List.getD,hj]
  refine .agg _ vs (by rw[hlen,hn];exact hko.1.symm) (fun y hy=>?_) fun j y hy=>?_
  · obtain⟨j,hj⟩:=List.mem_iff_getElem?.1 hy;obtain⟨k,z,h1,h2,rfl⟩:=hget j y hj;exact QH (hko.2 j k z h1 h2)
  · obtain⟨k,z,h1,h2,rfl⟩:=hget j y hy;exact EK (hko.2 j k z h1 h2) (hc j z h2)
 | _=>simp[bZ]at ho
end Go.Skm
namespace Go.Skm
abbrev OI:=Nat × cu × Option (Nat × Nat)
def Gu (l:List OI):List (Nat × cu):=l.map fun x=>(x.1,x.2.1)
def overlay (β:Nat→Option (Nat × Nat)):List OI→Nat→Option (Nat × Nat)
 | []=>β
 | (k,_,p)::r=>overlay (fun x=>if x=k then p else β x) r
theorem BH {s:Nat}:∀ {l:List OI} {β:Nat→Option (Nat × Nat)},(∀ x∈l,x.1≠s)→overlay β l s=β s
 | [],_,_=>rfl
 | (k,b,p)::r,β,h=>by simp only[overlay];rw[BH fun x hx=>h x (by simp[hx])];exact if_neg fun e=>h (k,b,p) (by simp) e.symm
theorem Rf {x:OI}:∀ {l:List OI} {β:Nat→Option (Nat × Nat)},l.Pairwise (fun x y=>x.1≠y.1)→x∈l→overlay β l x.1=x.2.2
 | [],_,_,h=>by simp at h
 | (k,b,p)::r,β,hd,h=>by
  simp only[overlay];rw[List.pairwise_cons]at hd;rcases List.mem_cons.1 h with rfl | h
  · rw[BH fun y hy=>(hd.1 y hy).symm];simp
  · exact Rf hd.2 h
theorem JA {s:Nat}:∀ {l:List OI} {hp:Heap},(∀ x∈l,x.1≠s)→look (fC hp (Gu l)) s=look hp s
 | [],_,_=>rfl
 | (k,b,p)::r,hp,h=>by show look (fC (put hp k b) (Gu r)) s=_;rw[JA fun x hx=>h x (by simp[hx]),dS];exact if_neg fun e=>h (k,b,p) (by simp) e.symm
theorem Um {x:OI}:∀ {l:List OI} {hp:Heap},l.Pairwise (fun x y=>x.1≠y.1)→x∈l→look (fC hp (Gu l)) x.1=some x.2.1
 | [],_,_,h=>by simp at h
 | (k,b,p)::r,hp,hd,h=>by
  show look (fC (put hp k b) (Gu r)) x.1=_;rw[List.pairwise_cons]at hd;rcases List.mem_cons.1 h with rfl | h
  · rw[JA fun y hy=>(hd.1 y hy).symm,dS];simp
  · exact Um hd.2 h
section
variable {w0:Base} {Pr M0 M:Nat→Prop} {β:Nat→Option (Nat × Nat)} {st:St} {a:Act} {w:World}
theorem BR.Yh {w:World} {M:Nat→Prop} {β β':Nat→Option (Nat × Nat)} {h h':Nat→Option cu} {s s':Nat} {sa:Bool} {ks:List Kd} {xs:List PV} (hb:BR w M β h s (.arr sa ks xs)) (e:β' s'=β s):BR w M β' h' s' (.arr sa ks xs):=by
 cases hb with
 | jS=>exact .jS _ _
 | arr _ _ _ b o C e' fr g1 g2 g3 g4 g5 g6=>exact .arr _ _ _ b o C e' fr (e.trans g1) g2 g3 g4 g5 g6
theorem AR.kM {w:World} {M M':Nat→Prop} {β β':Nat→Option (Nat × Nat)} {h h':Nat→Option cu} {s s' z off len:Nat} {c:Value} {blk:cu} (hv:AR w M β h (.slice s z off len) c) (e1:h s=some blk) (e2:h' s'=some blk) (e3:β' s'=β s):AR w M' β' h' (.slice s' z off len) c:=by
 cases hv with
 | slice _ _ _ a ks xs b o cap hs hl hb hcap hr=>rw[hs]at e1;cases e1;exact .slice s' off len a ks xs b o cap e2 hl (e3.trans hb) hcap hr
 | sliceE _ _ a ks xs base hs hl=>rw[hs]at e1;cases e1;exact .sliceE s' off a ks xs base e2 hl
theorem Rel.lays : ∀ (l : List OI) {β : Nat → Option (Nat × Nat)} {st : St},Rel w0 Pr M0 M β st a w → l.Pairwise (fun x y => x.1 ≠ y.1) → (∀ x ∈ l,look st.heap x.1 = none) →
    l.Pairwise (fun x y=>∀ b o o',x.2.2=some (b,o)→y.2.2≠some (b,o')) →
    (∀ x∈l,∀ b o,x.2.2=some (b,o)→¬ M b∧b<w.heap.size∧((w0.heap.size≤b∨Pr b)∧w0.n0≤b)∧(∀ s' o',(look st.heap s').isSome=true→β s'≠some (b,o'))) →
    (∀ x∈l,∃ sa ks xs,x.2.1=.arr sa ks xs∧BR w M (fun _=>x.2.2) (fun _=>none) 0 x.2.1) →
    Rel w0 Pr M0 M (overlay β l) { st with heap:=fC st.heap (Gu l) } a w
  | [],β,st,r,_,_,_,_,_=>r
  | (k,blk,p)::l,β,st,r,hd,hn,hq,ho,hb=>by
   rw[List.pairwise_cons]at hd hq;have h0:=hn (k,blk,p) (by simp);obtain⟨sa,ks,xs,e,hb0⟩:=hb (k,blk,p) (by simp);simp only at e hb0 h0;have r1:=r.lay (s:=k) (blk:=blk) h0 (p:=p) (fun b o e=>by obtain⟨g1,g2,g3,g4⟩:=ho (k,blk,p) (by simp) b o e;exact⟨g1,g2,⟨g3.1,.inl g3.2⟩,g4⟩) (by subst e;exact hb0.Yh (by simp));refine Rel.lays l r1 hd.2 (fun x hx=>?_) hq.2 (fun x hx b o e=>?_) (fun x hx=>hb x (by simp[hx]))
   · show look (put st.heap k blk) x.1=none;rw[dS,if_neg (hd.1 x hx).symm];exact hn x (by simp[hx])
   · obtain⟨g1,g2,g3,g4⟩:=ho x (by simp[hx]) b o e;refine⟨g1,g2,g3,fun s' o' hs' tX=>?_⟩;by_cases hk:s'=k
     · simp only[hk,if_true]at tX;exact hq.1 x hx b o' o tX e
     · simp only[if_neg hk]at tX;have af6:(look (put st.heap k blk) s').isSome=true:=hs';rw[dS,if_neg hk]at af6;exact g4 s' o' af6 tX
theorem Rel.Rh (r : Rel w0 Pr M0 M β st a w) {w' : World} {M' : Nat → Prop} {hp' : Heap} (hsz : w.heap.size ≤ w'.heap.size) (hos : w'.os = w.os) (htp : w'.tape = w.tape) (hop : w'.output = w.output)
    (hkeep:∀ b,b<w.heap.size→(M b∨(b<w0.heap.size∧¬ Pr b))→w'.heap[b]?=w.heap[b]?) (hrm:∀ b n,b<w.heap.size→((∃ s o blk,look st.heap s=some blk∧β s=some (b,o)∧ajx blk n)∨(b<w0.n0∧Pr b))→Room w b n→Room w' b n)
    (h1:∀ b,M b→M' b) (h2:∀ b,M' b→M b∨(w.heap.size≤b∧b<w'.heap.size))
    (hnone:∀ s,look st.heap s=none→look hp' s=none)
    (hlk:∀ s blk,look st.heap s=some blk→∃ blk',look hp' s=some blk'∧((blk'=blk∧∀ b o,β s=some (b,o)→w'.heap[b]?=w.heap[b]?)∨(Like blk blk'∧BR w' M' β (look hp') s blk'))) :
    Rel w0 Pr M0 M' β { st with heap:=hp' } a w':=by
  have hM:∀ b,M b→M' b∧w'.heap[b]?=w.heap[b]?:=fun b h=>⟨h1 b h,hkeep b (r.gU b h) (.inl h)⟩;have hlive:∀ s,(look hp' s).isSome=true→(look st.heap s).isSome=true:=fun s h=>by
   cases he:look st.heap s with
   | none=>rw[hnone s he]at h;cases h
   | some b=>rfl
  have key:∀ (v:AV) (c:Value),AR w M β (look st.heap) v c→AR w' M' β (look hp') v c:=fun v c h =>
   h.agO hM fun s blk _ hl=>by
    obtain⟨blk',e1,e2⟩:=hlk s blk hl;refine⟨blk',e1,?_,rfl,fun b o n h3 ha hr=>hrm b n (r.own s b o (by rw[hl];rfl) h3).2.1 (.inl ⟨s,o,blk,hl,h3,ha⟩) hr⟩;rcases e2 with ⟨rfl,_⟩ | ⟨h,_⟩
    · exact Like.refl _
    · exact h
  refine⟨r.oK,fun t v h=>key _ _ (r.env t v h),?_,?_,fun s s' b o o' hl hl'=>r.inj s s' b o o' (hlive s hl) (hlive s' hl'),?_,?_,fun b h=>h1 b (r.tu b h),?_,
   fun b n h3 h4 h5=>hrm b n (by have:=r.size;have:=w0.le';omega) (.inr ⟨h3,h4⟩) (r.room b n h3 h4 h5),by have:=r.size;omega,hos.trans r.os,htp.trans r.tape,hop.trans r.output,fun p hp=>⟨(hM _ (r.glob p hp).1).1,(hM _ (r.glob p hp).1).2.trans (r.glob p hp).2⟩⟩
  · intro s blk hl;have hl':look hp' s=some blk:=hl;cases he:look st.heap s with
    | none=>rw[hnone s he]at hl';cases hl'
    | some b0 =>
     obtain⟨blk',e1,e2⟩:=hlk s b0 he;rw[hl']at e1;cases e1;rcases e2 with ⟨rfl,hB⟩ | ⟨_,h⟩
     · show BR w' M' β (look hp') s _;cases r.heap s _ he with
       | box cs b o C e fr g1 g2 g3 g4 g5 g6=>exact .box _ b o C e fr g1 (by rw[hB b o g1];exact g2) g3 g4 g5 fun j c hc=>key _ _ (g6 j c hc)
       | jS a ks=>exact .jS a ks
       | log on ys=>exact .log on ys
       | arr a ks xs b o C e fr g1 g2 g3 g4 g5 g6=>exact .arr a ks xs b o C e fr g1 (by rw[hB b o g1];exact g2) g3 g4 g5 fun i x j c hx hc=>(g6 i x j c hx hc).mono hM
     · exact h
  · intro s b o hl h3;obtain⟨g1,g2,g3⟩:=r.own s b o (hlive s hl) h3;refine⟨fun hm=>?_,by omega,g3⟩;rcases h2 b hm with h | h
    · exact g1 h
    · omega
  · intro b h;rcases h2 b h with h | h
    · have:=r.gU b h;omega
    · omega
  · intro b h;rcases h2 b h with h | h
    · exact r.lY b h
    · right;have:=r.size;have:=w0.le';exact⟨by omega,.inl (by omega)⟩
  · intro b h3 h4;rw[hkeep b (by have:=r.size;omega) (.inr ⟨h3,h4⟩),r.keep b h3 h4]
theorem Rel.moved (r : Rel w0 Pr M0 M β st a w) {w' : World} {M' : Nat → Prop} {hp' : Heap} (hsz : w.heap.size ≤ w'.heap.size) (hos : w'.os = w.os) (htp : w'.tape = w.tape) (hop : w'.output = w.output)
    (hkeep:∀ b,b<w.heap.size→(M b∨(b<w0.heap.size∧¬ Pr b))→w'.heap[b]?=w.heap[b]?) (hrm:∀ b n,b<w.heap.size→((∃ s o,(look st.heap s).isSome=true∧β s=some (b,o))∨(b<w0.n0∧Pr b))→Room w b n→Room w' b n)
    (h1:∀ b,M b→M' b) (h2:∀ b,M' b→M b∨(w.heap.size≤b∧b<w'.heap.size))
    (hnone:∀ s,look st.heap s=none→look hp' s=none)
    (hlk:∀ s blk,look st.heap s=some blk→∃ blk',look hp' s=some blk'∧((blk'=blk∧∀ b o,β s=some (b,o)→w'.heap[b]?=w.heap[b]?)∨(Like blk blk'∧BR w' M' β (look hp') s blk'))) :
    Rel w0 Pr M0 M' β { st with heap:=hp' } a w' :=
  r.Rh hsz hos htp hop hkeep (fun b n hb hc hr=>hrm b n hb (hc.imp (fun ⟨s,o,blk,h1,h2,_⟩=>⟨s,o,by rw[h1];rfl,h2⟩) id) hr) h1 h2 hnone hlk
end
end Go.Skm
namespace Go.Skm
section
variable {T:Tab}
theorem DY.flat {w : World} {M M' : Nat → Prop} {β β' : Nat → Option (Nat × Nat)} {h h' : Nat → Option cu} {m : lq} {t : TypeId} {v : AV} {c : Value} {p : Option (Nat × Nat)}
    (h1:DY T w M β h m t v c p) (h0:KI T m t=true):DY T w M' β' h' m t v c p:=by
  cases h1 with
  | deep t x c hs hv=>exact .deep t x c hs (hv.flat h0 hs)
  | fresh t e xs c p hu hb hv =>
   simp only[KI,hu]at h0;refine .fresh t e xs c p hu ?_ ?_
   · generalize bY T e=sh at hb h0;obtain⟨sa,ks⟩:=sh;simp only at hb h0 ⊢;cases hb with
     | jS=>exact .jS _ _
     | arr _ _ _ b o C e' fr g1 g2 g3 g4 g5 g6 =>
      refine .arr _ _ _ b o C e' fr g1 g2 g3 g4 g5 fun i x j y hx hy=>?_;have hx':=g5 x (qLe hx);have hk:=lK (tq hx');have hj:j<ks.length:=by have:=(qLa.1 hy).1;have:=hk.1;omega
      exact(g6 i x j y hx hy).aeD (List.all_eq_true.1 h0 ks[j] (by simp)) (hk.2 j ks[j] y (by simp) hy)
   · exact hv.kM rfl rfl rfl
  | alias=>cases h0
  | func=>cases h0
section
variable {w:World} {M:Nat→Prop} {β:Nat→Option (Nat × Nat)}
theorem DY.mono {M M':Nat→Prop} {h:Nat→Option cu} {m:lq} {t:TypeId} {v:AV} {c:Value} {p:Option (Nat × Nat)} (hM:∀ b,M b→M' b) (hr:DY T w M β h m t v c p):DY T w M' β h m t v c p:=by
 have hM':∀ b,M b→M' b∧w.heap[b]?=w.heap[b]?:=fun b h=>⟨hM b h,rfl⟩;cases hr with
 | deep _ x _ hs hv=>exact .deep t x c hs (hv.mono hM')
 | fresh _ e xs _ _ hu hb hv =>
  refine .fresh t e xs c p hu ?_ (hv.kM rfl rfl rfl);cases hb with
  | jS=>exact .jS _ _
  | arr _ _ _ b o C e' fr g1 g2 g3 g4 g5 g6=>exact .arr _ _ _ b o C e' fr g1 g2 g3 g4 g5 fun i x j c h1 h2=>(g6 i x j c h1 h2).mono hM'
 | func g qs _ cs _ hs hv=>exact .func g qs t cs c hs (hv.mono hM')
 | alias j _ e off len _ hu hv =>
  have:∃ blk,h (ah+j)=some blk:=by
   generalize (bY T e).2.length=z at hv;cases hv with
   | slice _ _ _ a ks xs b o cap hs hl hb hcap hr=>exact⟨_,hs⟩
   | sliceE _ _ a ks xs base hs hl=>exact⟨_,hs⟩
  obtain⟨blk,hb⟩:=this;exact .alias j t e off len c hu (hv.kM hb hb rfl)
theorem CQ.mono {M M':Nat→Prop} {h:Nat→Option cu} {ms:List lq} {ts:List TypeId} {vs:List AV} {cs:List Value} {ps:List (Option (Nat × Nat))} (hM:∀ b,M b→M' b) (hr:CQ T w M β h ms ts vs cs ps):CQ T w M' β h ms ts vs cs ps:=by
 induction hr with
 | nil ms=>exact .nil ms
 | cons ms t ts v vs c cs p ps h1 h2 h3 ih=>exact .cons ms t ts v vs c cs p ps (h1.mono hM) ih h3
end
theorem Ri:∀ (ks:List Kd) (x:PV) (o j:Nat),(Ci ks x o)[j]?=(ks[j]?).map fun k=>eta k (x.iq (o+j))
 | [],_,_,j=>by simp[Ci]
 | k::r,x,o,0=>by simp[Ci]
 | k::r,x,o,j+1=>by simp only[Ci,List.getElem?_cons_succ,Ri r x (o+1) j];rw[show o+1+j=o+(j+1) from by omega]
theorem I7:∀ (ks:List Kd) (x:PV) (o:Nat),(Ci ks x o).length=ks.length
 | [],_,_=>rfl
 | k::r,x,o=>by simp[Ci,I7 r]
theorem acK {w:World} {M:Nat→Prop} {q:Bool × List Kd} {v:PV} {c:Value} (ho:XV q v=true) (h:VR w M v c):VR w M (Zz q v) c:=by
 obtain⟨b,ks⟩:=q;cases b with
 | false =>
  match ks,ho with
  | [k],ho=>exact EK ho h
  | [],ho=>simp[XV]at ho
  | _::_::_,ho=>simp[XV]at ho
 | true =>
  cases h with
  | ref cs b o f hM hl hc hv ho' =>
   have hk:=lK (show gQ ks cs=true from ho);have hget:∀ (j:Nat) (y:PV),(Ci ks (.ref cs) 0)[j]?=some y→∃ k z,ks[j]?=some k∧cs[j]?=some z∧y=eta k z:=by
    intro j y hy;rw[Ri]at hy;cases hkj:ks[j]? with
    | none=>rw[hkj]at hy;cases hy
    | some k =>
     rw[hkj]at hy;simp only[Option.map_some,qOa,Nat.zero_add]at hy;have hj:j<cs.length:=by have:=(qLa.1 hkj).1;have:=hk.1;omega
     refine⟨k,cs[j],rfl,by simp,?_⟩;rw[← hy];simp[PV.iq,List.getD,hj]
   have hlen:(Ci ks (.ref cs) 0).length=cs.length:=by have:=I7 ks (.ref cs) 0;have:=hk.1;omega
   refine .ref _ b o f hM (fun y hy=>?_) (fun j y hy=>?_) (fun j y hy=>?_) (hlen▸ho')
   · obtain⟨j,hj⟩:=List.mem_iff_getElem?.1 hy;obtain⟨k,z,h1,h2,rfl⟩:=hget j y hj;exact QH (hk.2 j k z h1 h2)
   · obtain⟨k,z,h1,h2,rfl⟩:=hget j y hy;exact hc j z h2
   · obtain⟨k,z,h1,h2,rfl⟩:=hget j y hy;exact EK (hk.2 j k z h1 h2) (hv j z h2)
  | _=>cases ho
theorem Rj:∀ {qs:List (Bool × List Kd)} {vs:List PV},F7 qs vs=true→qs.length=vs.length∧∀ (j:Nat) (q:Bool × List Kd) (v:PV),qs[j]?=some q→vs[j]?=some v→XV q v=true
 | [],[],_=>⟨rfl,fun j q v h=>by simp at h⟩
 | q::qs,v::vs,h=>by
  simp[F7]at h;obtain⟨h1,h2⟩:=Rj h.2;refine⟨by simp[h1],fun j q' v' hq hv=>?_⟩;cases j with
  | zero=>simp at hq hv;subst hq hv;exact h.1
  | succ j=>simp at hq hv;exact h2 j q' v' hq hv
 | [],_::_,h | _::_,[],h=>by simp[F7]at h
theorem NU:∀ (qs:List (Bool × List Kd)) (x:PV) (o j:Nat),(zu qs x o)[j]?=(qs[j]?).map fun q=>Zz q (x.cap (o+j))
 | [],_,_,j=>by simp[zu]
 | k::r,x,o,0=>by simp[zu]
 | k::r,x,o,j+1=>by simp only[zu,List.getElem?_cons_succ,NU r x (o+1) j];rw[show o+1+j=o+(j+1) from by omega]
theorem Gw:∀ (ks:List (Bool × List Kd)) (x:PV) (o:Nat),(zu ks x o).length=ks.length
 | [],_,_=>rfl
 | k::r,x,o=>by simp[zu,Gw r]
theorem VR.Wn {w:World} {M:Nat→Prop} {g:Nat} {qs:List (Bool × List Kd)} {cs:List PV} {c:Value} (ho:F7 qs cs=true) (h:VR w M (.fn g cs) c):VR w M (.fn g (zu qs (.fn g cs) 0)) c:=by
 cases h with
 | fn _ _ vs hn hc =>
  have hk:=Rj ho;refine .fn g _ vs (by rw[hn,Gw];exact hk.1.symm) fun i y hy=>?_;rw[NU]at hy;cases hq:qs[i]? with
  | none=>rw[hq]at hy;cases hy
  | some q =>
   rw[hq]at hy;simp only[Option.map_some,qOa,Nat.zero_add]at hy;have hi:i<cs.length:=by have:=(qLa.1 hq).1;have:=hk.1;omega
   have e:(PV.fn g cs).cap i=cs[i]:=by simp[PV.cap,List.getD,hi]
   rw[← hy,e];exact acK (hk.2 i q cs[i] hq (by simp)) (hc i cs[i] (by simp))
theorem ZR {w : World} {M : Nat → Prop} {βa : Nat → Option (Nat × Nat)} {ha : Nat → Option cu} {d : Nat} {ss : List Nat} {ms : List lq} {ts : List TypeId} {rs : List AV} {cs : List Value} {ps : List (Option (Nat × Nat))}
    (hr:CQ T w M βa ha ms ts rs cs ps):∀ {i:Nat} {xs:List AV} {bs:List (Nat × cu)},rF T d ss i ms ts rs=some (xs,bs)→∃ l:List OI,bs=Gu l∧(∀ x∈l,∃ j,i≤j∧x.1=d+1000*j)∧l.Pairwise (fun x y=>x.1≠y.1) ∧
      l.Pairwise (fun x y=>∀ b o o',x.2.2=some (b,o)→y.2.2≠some (b,o'))∧(∀ x∈l,∀ b o,x.2.2=some (b,o)→some (b,o)∈ps) ∧
      (∀ x∈l,∃ sa ks ys,x.2.1=.arr sa ks ys∧BR w M (fun _=>x.2.2) (fun _=>none) 0 x.2.1)∧xs.length=cs.length ∧
      ∀ (h:Nat→Option cu) (β:Nat→Option (Nat × Nat)),(∀ x∈l,h x.1=some x.2.1∧β x.1=x.2.2)→(∀ j s blk,ss[j]?=some s→ha (ah+j)=some blk→h s=some blk∧β s=βa (ah+j)) →
       ∀ (k:Nat) (v:AV),xs[k]?=some v→∃ c,cs[k]?=some c∧AR w M β h v c:=by
  induction hr with
  | nil ms =>intro i xs bs h;simp only[rF,qOa,Prod.mk.injEq]at h;obtain⟨rfl,rfl⟩:=h;exact⟨[],rfl,by simp,.nil,.nil,by simp,by simp,rfl,fun _ _ _ _ k v hk=>by simp at hk⟩
  | cons ms t ts v vs c cs p ps h1 h2 h3 ih =>
   intro i xs bs h;simp only[rF,List.headD_cons,List.tail_cons]at h;split at h
   · rename_i x1 b1 xr br e1 e2;simp only[qOa,Prod.mk.injEq]at h;obtain⟨rfl,rfl⟩:=h;obtain⟨l,q1,q2,q3,q4,q5,q6,q7,q8⟩:=ih e2
     have Io : b1 = [] → (∀ (h : Nat → Option cu) (β : Nat → Option (Nat × Nat)),(∀ j s blk,ss[j]? = some s → ha (ah + j) = some blk → h s = some blk ∧ β s = βa (ah + j)) → AR w M β h x1 c) →
         ∃ l:List OI,b1++br=Gu l∧(∀ x∈l,∃ j,i≤j∧x.1=d+1000*j)∧l.Pairwise (fun x y=>x.1≠y.1) ∧
     l.Pairwise (fun x y=>∀ b o o',x.2.2=some (b,o)→y.2.2≠some (b,o'))∧(∀ x∈l,∀ b o,x.2.2=some (b,o)→some (b,o)∈p::ps) ∧
     (∀ x∈l,∃ sa ks ys,x.2.1=.arr sa ks ys∧BR w M (fun _=>x.2.2) (fun _=>none) 0 x.2.1)∧(x1::xr).length=(c::cs).length ∧
     ∀ (h:Nat→Option cu) (β:Nat→Option (Nat × Nat)),(∀ x∈l,h x.1=some x.2.1∧β x.1=x.2.2)→(∀ j s blk,ss[j]?=some s→ha (ah+j)=some blk→h s=some blk∧β s=βa (ah+j)) →
      ∀ (k:Nat) (v:AV),(x1::xr)[k]?=some v→∃ c',(c::cs)[k]?=some c'∧AR w M β h v c':=by
      intro hb hx;subst hb;refine⟨l,by simpa using q1,fun x hx=>?_,q3,q4,fun x hx b o e=>by simp[q5 x hx b o e],q6,by simp[q7],fun h β g1 g2 k v hk=>?_⟩
      · obtain⟨j,hj1,hj2⟩:=q2 x hx;exact⟨j,by omega,hj2⟩
      · cases k with
        | zero=>simp at hk;subst hk;exact⟨c,rfl,hx h β g2⟩
        | succ k=>simp at hk;simpa using q8 h β g1 g2 k v hk
     revert h1 e1;generalize ms.headD .deep=m;intro h1 e1;cases h1 with
     | deep t x c hs hv =>
      simp only[Qz,AV.pv]at e1;generalize bY T t=sh at hs e1;obtain⟨sa,ks⟩:=sh;simp only at hs e1;split at e1
      · rename_i ks' e;obtain⟨rfl,rfl⟩:=Prod.mk.inj e;simp only[qOa,Prod.mk.injEq]at e1;obtain⟨rfl,rfl⟩:=e1;exact Io rfl fun _ _ _=>.p _ _ (hv.written hs)
      · rename_i k e;obtain⟨rfl,rfl⟩:=Prod.mk.inj e;simp only[qOa,Prod.mk.injEq]at e1;obtain⟨rfl,rfl⟩:=e1;exact Io rfl fun _ _ _=>.p _ _ (EK (by simpa [bZ] using hs) hv)
      · cases e1
     | func g qs t cs c hs hv =>simp only[Qz,AV.pv,qOa,Prod.mk.injEq]at e1;obtain⟨rfl,rfl⟩:=e1;exact Io rfl fun _ _ _=>.p _ _ (hv.Wn hs)
     | alias j t e off len c hu hv =>
      simp only[Qz,hu,AV.qV,AV.sLen]at e1;cases hj:ss[j]? with
      | none=>rw[hj]at e1;cases e1
      | some s =>
       rw[hj]at e1;simp only[qOa,Prod.mk.injEq]at e1;obtain⟨rfl,rfl⟩:=e1;refine Io rfl fun h β g=>?_;have:∃ blk,ha (ah+j)=some blk:=by
        generalize (bY T e).2.length=z at hv;cases hv with
        | slice _ _ _ a ks xs b o cap hs hl hb hcap hr=>exact⟨_,hs⟩
        | sliceE _ _ a ks xs base hs hl=>exact⟨_,hs⟩
       obtain⟨blk,hblk⟩:=this;obtain⟨g1,g2⟩:=g j s blk hj hblk;exact hv.kM hblk g1 g2
     | fresh t e ys c p hu hb hv =>
      simp only[Qz,hu,AV.aU,qOa,Prod.mk.injEq]at e1;obtain⟨rfl,rfl⟩:=e1;refine⟨(d+1000*i,.arr (bY T e).1 (bY T e).2 ys,p)::l,by simp[Gu,q1],fun x hx=>?_,List.pairwise_cons.2 ⟨fun x hx=>?_,q3⟩,List.pairwise_cons.2 ⟨fun x hx b o o' e1 e2=>?_,q4⟩,fun x hx b o e1=>?_,fun x hx=>?_,by simp[q7],fun h β g1 g2 k v hk=>?_⟩
      · rcases List.mem_cons.1 hx with rfl | hx
        · exact⟨i,Nat.le_refl _,rfl⟩
        · obtain⟨j,hj1,hj2⟩:=q2 x hx;exact⟨j,by omega,hj2⟩
      · obtain⟨j,hj1,hj2⟩:=q2 x hx;rw[hj2];simp only;omega
      · exact h3 b o o' e1 (q5 x hx b o' e2)
      · rcases List.mem_cons.1 hx with rfl | hx
        · simp only at e1;simp[e1]
        · simp[q5 x hx b o e1]
      · rcases List.mem_cons.1 hx with rfl | hx
        · exact⟨_,_,_,rfl,hb.Yh rfl⟩
        · exact q6 x hx
      · cases k with
        | zero =>simp at hk;subst hk;obtain⟨g3,g4⟩:=g1 _ List.mem_cons_self;exact⟨c,rfl,hv.kM rfl g3 g4⟩
        | succ k=>simp at hk;simpa using q8 h β (fun x hx=>g1 x (by simp[hx])) g2 k v hk
   · cases h
end
end Go.Skm
namespace Go.Skm
def FW (rd:Option Nat):Fence:={ Fence.wide with round:=rd }
theorem xZ (rd:Option Nat) {n:Nat}:(FW rd).depth.isSome=true→1≤n:=fun h=>by simp[FW,Fence.wide]at h
theorem wG {P:Program} {f:FuncId} {args:Array Value} {w:World} {R:Ending→World→Prop} (rd:Option Nat) {n:Nat} (h:Calls P f args w R):CallsIn (FW rd) n P f args w R :=
 (callsIn_wide (n:=n)).2 h
theorem xY {P:Program} {f:FuncId} {args:Array Value} {w:World} {R:Ending→World→Prop} {rd:Option Nat} {n:Nat} (h:CallsIn (FW rd) n P f args w R):Calls P f args w R :=
 (callsIn_wide (n:=n)).1 h
theorem wV {P : Program} {o : Oper} {a : Act} {w : World} {K : Act → World → Prop} {Q : Exit → Act → World → Prop} {rd : Option Nat} {n : Nat} (hnd : ∀ c,o.op ≠ .defer c)
    (h:o.uponIn (FW rd) n P a K Q ((execOp a.eval o).run P w)):o.wpIn (FW rd) n P a w K Q :=
  ⟨fun _ _=>trivial,by rw[Oper.semAt_plain (FW rd) a.eval o hnd];exact h⟩
structure fU (P:Program) (w0:Base) (Pr M0:Nat→Prop) (β:Nat→Option (Nat × Nat)) (st:St) (a:Act) (w:World) (o:Oper) (D:DT):Prop where
 sim:(∀ c,o.op≠.defer c)→∀ (α:Type) (k:Eff→Option α) (r:α),D.run k=some r→∀ (rd:Option Nat) (n:Nat) Q,Oper.wpIn (FW rd) n P o a w (fun a' w'=>(∃ c,a'=a.put o.dst c)∧∃ e M' β',k e=some r∧jK w0.gl w.drawn w'.drawn∧(jq (e.new++e.Ed)=true →
  Rel w0 Pr M0 M' β' (st.apply o.dst e) a' w'∧(∀ s,ah≤s→β' s=β s)∧lX st.heap (st.apply o.dst e).heap)) Q
section
variable {P:Program} {T:Tab} {w0:Base} {Pr M0 M:Nat→Prop} {β:Nat→Option (Nat × Nat)} {st:St} {a:Act} {w:World} {o:Oper}
theorem Ip {α:Type} {c:Option (List AV × List cu)} {f:List AV × List cu→DT} {k:Eff→Option α} {r:α} (h:(DT.call c f).run k=some r):∃ x,c=some x∧(f x).run k=some r:=by
 cases c with
 | none=>simp[DT.run]at h
 | some x=>exact⟨x,rfl,by simpa [DT.run] using h⟩
theorem dF.op {D:DT} (h:dF P w0 Pr M0 β st a w o.dst D (execOp a.eval o)):fU P w0 Pr M0 β st a w o D:=by
 refine⟨fun hnd α k r hk rd n Q=>?_⟩;obtain⟨e,nv,c,w',M',β',h1,h2,h3,h4⟩:=h.sim α k r hk;refine wV hnd ?_;have hd:jK w0.gl w.drawn w'.drawn:=fun _=>acs _ h2;rw[h2];rcases h3 with rfl | ⟨rfl,rfl⟩
 · exact⟨⟨_,rfl⟩,e,M',β',h1,hd,h4⟩
 · exact⟨⟨_,rfl⟩,e,M',β',h1,hd,h4⟩
theorem JB {s:Nat}:∀ {l:List OI},s∈keysOf (Gu l)↔∃ x∈l,x.1=s
 | []=>by simp[Gu,keysOf]
 | (k,b,p)::r=>by
  have ih:=JB (s:=s) (l:=r);simp only[Gu,List.map_cons,keysOf,List.mem_cons]at ih ⊢;rw[ih];constructor
  · rintro (rfl | ⟨x,hx,rfl⟩)
    · exact⟨_,.inl rfl,rfl⟩
    · exact⟨x,.inr hx,rfl⟩
  · rintro ⟨x,rfl | hx,rfl⟩
    · exact .inl rfl
    · exact .inr ⟨x,hx,rfl⟩
theorem af7 {h:Nat→Option cu} {xs:List AV} {cs:List Value} (hl:xs.length=cs.length) (hx:∀ (k:Nat) (v:AV),xs[k]?=some v→∃ c,cs[k]?=some c∧AR w M β h v c):AR w M β h (mg xs) (vF cs):=by
 match xs,cs,hl,hx with
 | [v],[c],_,hx =>obtain⟨c',h1,h2⟩:=hx 0 v rfl;simp at h1;subst h1;exact h2
 | [],[],_,_=>exact .qY [] #[] rfl fun i c hi=>by simp at hi
 | x::y::xs,c::d::cs,hl,hx =>
  refine .qY _ _ (by simp at hl;simp[hl]) fun i v hi=>?_;obtain⟨c',h1,h2⟩:=hx i v hi;have:(c::d::cs).toArray.getD i undef=c':=by simp only[qAb,List.getElem?_toArray,h1,Option.getD_some]
  rw[this];exact h2
 | [],_::_,hl,_=>simp at hl
 | _::_,[],hl,_=>simp at hl
 | [_],_::_::_,hl,_=>simp at hl
 | _::_::_,[_],hl,_=>simp at hl
theorem Rel.results (r : Rel w0 Pr M0 M β st a w) {βa : Nat → Option (Nat × Nat)} {ha : Nat → Option cu} {d : Nat} {ss : List Nat} {ms : List lq} {ts : List TypeId} {rs : List AV} {cs : List Value} {ps : List (Option (Nat × Nat))}
    {xs:List AV} {bs:List (Nat × cu)} (hr:CQ T w M βa ha ms ts rs cs ps) (hv:rF T d ss 0 ms ts rs=some (xs,bs)) (hfree:∀ s∈keysOf bs,look st.heap s=none)
    (hown:∀ b o,some (b,o)∈ps→¬ M b∧b<w.heap.size∧((w0.heap.size≤b∨Pr b)∧w0.n0≤b)∧∀ s' o',(look st.heap s').isSome=true→β s'≠some (b,o'))
    (harg:∀ j s blk,ss[j]?=some s→ha (ah+j)=some blk→look st.heap s=some blk∧β s=βa (ah+j)) :
    ∃ β',Rel w0 Pr M0 M β' { env:=Skm.setEnv st.env (some d) (mg xs),heap:=fC st.heap bs } (a.put (some d) (vF cs)) w∧∀ s,s ∉ keysOf bs→β' s=β s:=by
  obtain⟨l,rfl,q2,q3,q4,q5,q6,q7,q8⟩:=ZR hr hv;have hfr:∀ x∈l,look st.heap x.1=none:=fun x hx=>hfree x.1 (JB.2 ⟨x,hx,rfl⟩);have r1:=Rel.lays l r q3 hfr q4 (fun x hx b o e=>hown b o (q5 x hx b o e)) q6;refine⟨overlay β l,r1.setEnv (some d) (af7 q7 (q8 _ _ (fun x hx=>⟨Um q3 hx,Rf q3 hx⟩) fun j s blk h1 h2=>?_)),fun s hs=>BH fun x hx e=>hs (JB.2 ⟨x,hx,e⟩)⟩;obtain⟨g1,g2⟩:=harg j s blk h1 h2;have hne:∀ x∈l,x.1≠s:=fun x hx e=>by rw[← e,hfr x hx]at g1;cases g1
  exact⟨(JA hne).trans g1,(BH hne).trans g2⟩
theorem D5 (ok:dZ P T) {f:Nat} {fi:FI} (hf:dN T.funcs f=some fi) (hb:∃ c,fi.fn.body=some c) (args:Array Value):(callFunc f args).run P w=.ok (.enter f args) w:=by obtain⟨h1,h2,_⟩:=ok.funcs f fi hf;obtain⟨c,hc⟩:=hb;unfold callFunc;simp only[Sem.run_bind,program,Sem.run,qRa,h1,h2,hc,Option.isNone_some,Bool.false_eq_true,if_false,Sem.run_pure]
theorem Tn (st : St) (d : Option Nat) (v : AV) (bs : List (Nat × cu)) (nw fz : List Nat) : st.apply d { val := v,qI := bs,new := nw,Ed := fz } =
    { env:=Skm.setEnv (st.strike (present st.heap nw++fz)).env d v,heap:=fC (st.strike (present st.heap nw++fz)).heap bs }:=rfl
theorem yx {nw fz:List Nat} {s:Nat} (hs:s∈nw):look (st.strike (present st.heap nw++fz)).heap s=none:=by
 rw[fQ];by_cases hm:s∈present st.heap nw++fz
 · rw[if_pos hm]
 · rw[if_neg hm];cases hd:look st.heap s with
   | none=>rfl
   | some x=>exact absurd (List.mem_append.2 (.inl (uS hs (by rw[hd];rfl)))) hm
theorem NV {ss:List Nat} {s:Nat} (h:(look (st.strike ss).heap s).isSome=true):s ∉ ss∧(look st.heap s).isSome=true:=by
 rw[fQ]at h;by_cases hm:s∈ss
 · rw[if_pos hm]at h;cases h
 · rw[if_neg hm]at h;exact⟨hm,by simpa using h⟩
theorem acL {sh:Bool × List Kd} {x:PV} {M:Nat→Prop} {c:Value} (h:VR w M x c):VR w M (ZE sh x) c:=by
 unfold ZE;split
 · cases h;exact .vZ _ _ none 0
 · exact h
theorem yP:∀ (ts:List TypeId) (vs:List PV),(normArgs T ts vs).length=vs.length
 | [],vs=>by simp[normArgs]
 | t::ts,[]=>rfl
 | t::ts,v::vs=>by simp[normArgs,yP ts vs]
theorem EN:∀ (ts:List TypeId) (vs:List PV) (i:Nat) (v:AV),(normArgs T ts vs)[i]?=some v→∃ x,vs[i]?=some x∧∀ (M:Nat→Prop) (β:Nat→Option (Nat × Nat)) (h:Nat→Option cu) (c:Value),VR w M x c→AR w M β h v c
 | [],vs,i,v,h=>by simp only[normArgs,List.getElem?_map,Option.map_eq_some_iff]at h;obtain⟨x,hx,rfl⟩:=h;exact⟨x,hx,fun M β h c hv=>.p _ _ hv⟩
 | t::ts,[],i,v,h=>by simp[normArgs]at h
 | t::ts,x::vs,0,v,h=>by simp only[normArgs,List.getElem?_cons_zero,qOa]at h;subst h;exact⟨x,rfl,fun M β h c hv=>.p _ _ (acL hv)⟩
 | t::ts,x::vs,i+1,v,h=>by simp only[normArgs,List.getElem?_cons_succ]at h;simpa using EN ts vs i v h
theorem acM (ok : dZ P T) {C : aS} (hC : jl P T w0.gl C) (r : Rel w0 Pr M0 M β st a w) {h' : Nat → Option cu} (hsub : ∀ s b,h' s = some b → look st.heap s = some b) {d f : Nat} {fi : FI} {args : List AV} {aY : Array Value}
    (hd:o.dst=some d) (hf:dN T.funcs f=some fi) (hm:fi.cfg.vY=false) (hargs:mX w M β (look st.heap) args aY.toList) (he:(execOp a.eval o).run P w=(callFunc f aY).run P w) :
    fU P w0 Pr M0 β st a w o (uN T C h' o.dst f args):=by
  rw[hd];simp only[uN,hf,hm];cases hdp:Gg h' args with
  | none=>exact⟨fun _ _ _ _ hk=>by simp[DT.run]at hk⟩
  | some q =>
   obtain⟨vs,ss⟩:=q;refine⟨fun hnd α k res hk rd n Q=>?_⟩;obtain⟨⟨rs,jX⟩,hcall,hk⟩:=Ip hk;obtain⟨hbody,JC⟩:=hC.plain f fi _ [] rs jX hf (by simp) hcall;obtain⟨d1,d2,d3⟩:=Gn (fun s b h=>r.heap s b (hsub s b h)) hsub hdp hargs;cases hres:rF T d [] 0 fi.cfg.rets fi.fn.resultTypes.toList rs with
   | none=>rw[hres]at hk;simp[DT.run]at hk
   | some xb =>
    obtain⟨xs,bs⟩:=xb;rw[hres]at hk;simp only[DT.run]at hk;refine wV hnd ?_;rw[he,D5 ok hf hbody,Oper.uponIn_enter];refine⟨xZ rd,wG rd ?_⟩;have hpre:tZ w (dR M β ss) β (normArgs T fi.fn.params.toList vs) [] aY:=by
     refine⟨by simp[d1,yP],fun i v hi=>?_,fun i b0 hi=>by simp at hi,fun i b o hi=>by simp at hi,fun i j b o o' hi=>by simp at hi,fun b hb=>?_⟩
     · obtain⟨x,hx,hv⟩:=EN (T:=T) (w:=w) _ _ i v hi;have hlt:i<aY.toList.length:=by rw[← d1];exact(qLa.1 hx).1
       have hc:aY.toList[i]?=some (aY.getD i undef):=by rw[qLd hlt];simp only[Array.length_toList]at hlt;simp[hlt]
       exact hv _ _ _ _ (d2 i x _ hx hc)
     · rcases hb with hb | ⟨s,o,hs,hb⟩
       · exact r.gU b hb
       · exact(r.own s b o (d3 s hs) hb).2.1
    refine Calls.mono (JC w _ β aY (fun p hp=>⟨.inl (r.glob p hp).1,(r.glob p hp).2⟩) hpre) fun e w' hpost=>?_;obtain⟨cs,ps,M',rfl,post⟩:=hpost;have hkeep:∀ b,b<w.heap.size→w'.heap[b]?=w.heap[b]?:=fun b hb=>post.keep b hb fun i o hi=>by simp at hi
    refine⟨⟨_,rfl⟩,?_⟩;show ∃ e M' β',_
    obtain ⟨M'',hM1,hM2,hM3,hM4⟩ : ∃ M'' : Nat → Prop,(∀ b,dR M β (cond fi.cfg.shares ss []) b → M'' b) ∧ (∀ b,M'' b → dR M β (cond fi.cfg.shares ss []) b ∨ (w.heap.size ≤ b ∧ b < w'.heap.size)) ∧ (∀ b,M'' b → M' b) ∧
        CQ T w' M'' β (look (gV 0 jX)) fi.cfg.rets fi.fn.resultTypes.toList rs cs ps:=by
      cases hs:fi.cfg.shares with
      | true=>exact⟨M',fun b hb=>post.gU b hb,fun b hb=>(post.lY b hb).imp id fun h=>⟨h,post.mlt b hb⟩,fun _ h=>h,post.res⟩
      | false =>
       obtain⟨M2,k1,k2⟩:=post.res2 hm hs;refine⟨fun b=>dR M β [] b∨M2 b,fun _ h=>.inl h,fun b h=>h.imp id fun h=>⟨(k1 b h).2,post.mlt b (k1 b h).1⟩,fun b hb=>?_,k2.mono fun _ h=>.inr h⟩;rcases hb with (hb | ⟨s,o,hs,_⟩) | hb
       · exact post.gU b (.inl hb)
       · simp at hs
       · exact(k1 b hb).1
    refine⟨{ val:=mg xs,qI:=bs,new:=keysOf bs,Ed:=cond fi.cfg.shares ss [] },M'',?_⟩;by_cases hfz:jq (keysOf bs++cond fi.cfg.shares ss [])=true
    · have r1 := r.freeze (present st.heap (keysOf bs)) (cond fi.cfg.shares ss []) (lD hfz).2 (by
        cases fi.cfg.shares with
        | false=>simp
        | true=>exact d3)
      have r2:Rel w0 Pr M0 M'' β (st.strike (present st.heap (keysOf bs)++cond fi.cfg.shares ss [])) a w' :=
       r1.world post.size post.os post.tape post.output (fun b hb _=>hkeep b hb) (fun b n _ hb _ hr=>hr.of_block (hkeep b hb)) hM1 hM2
      obtain⟨β',r3,tX⟩:=r2.results (d:=d) hM4 hres (fun s hs=>yx hs) (fun b o hb=>by obtain⟨g1,g2,g3⟩:=post.own b o hb;refine⟨fun h=>g1 (hM3 b h),g2,⟨.inl (by have:=r.size;omega),by have:=r.size;have:=w0.le';omega⟩,fun s' o' hs' tX=>?_⟩;have:=(r1.own s' b o' hs' tX).2.1;omega) (fun j s blk hj=>by simp at hj);refine⟨β',hk,post.drawn,fun _=>⟨?_,fun s hs=>tX s fun hk=>?_,ku fun k b hkb=>.inl ?_⟩⟩
      · rw[hd];exact r3
      · have:=pF (lD hfz).1 s hk;omega
      · refine pF (lD hfz).1 k ?_;have:∀ (l:List (Nat × cu)),(k,b)∈l→k∈keysOf l:=by
         intro l;induction l with
         | nil=>intro h;simp at h
         | cons x r ih =>
          intro h;rcases List.mem_cons.1 h with rfl | h
          · simp[keysOf]
          · simp[keysOf,ih h]
        exact this _ hkb
    · exact⟨β,hk,post.drawn,fun h=>absurd h hfz⟩
end
end Go.Skm
namespace Go.Skm
section
variable {P:Program} {T:Tab} {w0:Base} {Pr M0 M:Nat→Prop} {β:Nat→Option (Nat × Nat)} {st:St} {a:Act} {w:World} {o:Oper}
theorem ZT {ss:List Nat} (h:ss.Nodup) (s:Nat):(addN ss s).Nodup:=by
 unfold addN;cases hm:jC s ss with
 | true=>exact h
 | false =>simp only[cond_false];have:=gG.1 hm;rw[List.nodup_append];exact⟨h,by simp,fun x hx y hy=>by simp at hy;subst hy;rintro rfl;exact this hx⟩
mutual
theorem Yi:∀ (v:AV) (acc:List Nat),acc.Nodup→(AV.sites acc v).Nodup
 | .slice s _ _ _,Yj,h | .bslice s _ _,Yj,h | .ptr s _ _,Yj,h=>ZT h s
 | .fn _ cs,acc,h | .agg cs,acc,h | .qY cs,acc,h=>AA cs acc h
 | .undef,Yj,h | .p _,Yj,h | .pq _ _ _ _,Yj,h | .fresh _ _ _,Yj,h | .vN,Yj,h=>h
theorem AA:∀ (l:List AV) (acc:List Nat),acc.Nodup→(AV.yh acc l).Nodup
 | [],Yj,h=>h
 | v::r,acc,h=>AA r _ (Yi v acc h)
end
theorem Rk {s:Nat}:∀ {l:List Nat} {i j:Nat},idxOf s l i=some j→∃ n,j=i+n∧l[n]?=some s
 | [],i,j,h=>by simp[idxOf]at h
 | x::r,i,j,h=>by
  simp only[idxOf]at h;cases he:x==s with
  | true =>rw[he]at h;simp at h;exact⟨0,h.symm,by simpa using he⟩
  | false =>rw[he]at h;obtain⟨n,h1,h2⟩:=Rk h;exact⟨n+1,by omega,by simpa using h2⟩
theorem Rl {h:Nat→Option cu}:∀ {ss:List Nat} {bl:List cu},Ib h ss=some bl→bl.length=ss.length∧∀ (i s:Nat),ss[i]?=some s→∃ b,bl[i]?=some b∧h s=some b∧gI b=true
 | [],bl,hb=>by simp[Ib]at hb;subst hb;exact⟨rfl,fun i s hi=>by simp at hi⟩
 | x::r,bl,hb=>by
  simp only[Ib]at hb;split at hb
  · rename_i b bs h1 h2;cases hp:gI b with
    | false=>rw[hp]at hb;cases hb
    | true =>
     rw[hp]at hb;simp at hb;subst hb;obtain⟨g1,g2⟩:=Rl h2;refine⟨by simp[g1],fun i s hi=>?_⟩;cases i with
     | zero=>simp at hi;subst hi;exact⟨b,rfl,h1,hp⟩
     | succ i=>simp at hi;simpa using g2 i s hi
  · cases hb
theorem Un {ss:List Nat}:∀ {args as_:List AV},MQ ss args=some as_→as_.length=args.length∧∀ (i:Nat) (v:AV),as_[i]?=some v→∃ u,args[i]?=some u∧toArg ss u=some v
 | [],as_,h=>by simp[MQ]at h;subst h;exact⟨rfl,fun i v hi=>by simp at hi⟩
 | u::r,as_,h=>by
  simp only[MQ]at h;split at h
  · rename_i x xs h1 h2;cases h;obtain⟨g1,g2⟩:=Un h2;refine⟨by simp[g1],fun i v hi=>?_⟩;cases i with
    | zero=>simp at hi;subst hi;exact⟨u,rfl,h1⟩
    | succ i=>simp at hi;simpa using g2 i v hi
  · cases h
def Gx (β:Nat→Option (Nat × Nat)) (ss:List Nat) (x:Nat):Option (Nat × Nat):=if ah≤x then(ss[x-ah]?).bind β else none
theorem Yk {ss:List Nat} (i:Nat):Gx β ss (ah+i)=(ss[i]?).bind β:=by simp[Gx]
theorem AR.aeE {M':Nat→Prop} {β':Nat→Option (Nat × Nat)} {h h':Nat→Option cu} {s s' i off:Nat} {c:Value} {blk:cu} (hv:AR w M β h (.ptr s i off) c) (e1:h s=some blk) (e2:h' s'=some blk) (e3:β' s'=β s):AR w M' β' h' (.ptr s' i off) c:=by
 cases hv with
 | ptrB _ _ cs b o hs hb=>rw[hs]at e1;cases e1;exact .ptrB s' off cs b o e2 (e3.trans hb)
 | ptrA _ _ _ a ks xs b o hs hi hb=>rw[hs]at e1;cases e1;exact .ptrA s' i off a ks xs b o e2 hi (e3.trans hb)
theorem BR.MZ {β':Nat→Option (Nat × Nat)} {h h':Nat→Option cu} {s s':Nat} {blk:cu} (hb:BR w M β h s blk) (hp:gI blk=true) (e:β' s'=β s):BR w M β' h' s' blk:=by
 cases hb with
 | jS=>exact .jS _ _
 | log=>exact .log _ _
 | arr _ _ _ b o C e' fr g1 g2 g3 g4 g5 g6=>exact .arr _ _ _ b o C e' fr (e.trans g1) g2 g3 g4 g5 g6
 | box cs b o C e' fr g1 g2 g3 g4 g5 g6 =>
  refine .box cs b o C e' fr (e.trans g1) g2 g3 g4 g5 fun j c hc=>?_;simp only[gI,Option.isSome_iff_exists]at hp;obtain⟨vs,hp⟩:=hp;have hcs:=yu hp;subst hcs;have hc':=g6 j c hc;simp only[List.getElem?_map,Option.map_eq_some_iff]at hc;obtain⟨x,_,rfl⟩:=hc;generalize C.getD (o+j) undef=u at hc';cases hc' with
  | p _ _ hv=>exact .p _ _ hv
theorem KU:∀ (cs ds ds0:List AV) (n:Nat),uP cs ds=true→(∀ (i:Nat) (d:AV),ds[i]?=some d→ds0.getD (n+i) .undef=d)→tV.uM cs ds0 n=ds
 | [],[],_,_,_,_=>rfl
 | [],_::_,_,_,h,_=>by simp[uP]at h
 | _::_,[],_,_,h,_=>by simp[uP]at h
 | c::cs,d::ds,ds0,n,h,hg=>by
  simp only[uP,qBa]at h;have h0:ds0.getD n .undef=d:=by simpa using hg 0 d rfl
  have hr:=KU cs ds ds0 (n+1) h.2 fun i x hx=>by have:=hg (i+1) x (by simpa using hx);rwa[show n+(i+1)=n+1+i from by omega]at this
  have h1:=h.1;unfold tV.uM;split<;>rename_i hh<;>first | (cases hh;done) | skip
  all_goals (try (simp only[List.cons.injEq]at hh;obtain⟨rfl,rfl⟩:=hh))
  all_goals rw[hr,h0]
  all_goals (try (cases d<;>simp[X0]at h1))
  all_goals (try (rename_i v;cases v<;>simp at h1))
  all_goals (try subst h1)
  all_goals simp[AV.pv,PV.toInt,PV.toBool,PV.toStr,PV.toList]
  all_goals exact⟨h1.1,Kd.rJ _ _ h1.2⟩
theorem JD {b0 b1:cu} (h:backOk b0 b1=true):tV b0 b1=b1:=by
 cases b0 with
 | log on ys=>rfl
 | arr a ks xs =>
  cases b1 with
  | box=>simp[backOk]at h
  | log=>simp[backOk]at h
  | arr b ls ys =>simp only[backOk,qBa,beq_iff_eq]at h;obtain⟨rfl,h2⟩:=h;have:=Kd.rJ _ _ h2;subst this;rfl
 | box cs =>
  cases b1 with
  | arr=>simp[backOk]at h
  | log=>simp[backOk]at h
  | box ds =>simp only[tV,cu.cs,cu.box.injEq];exact KU cs ds ds 0 h fun i d hi=>by simp[List.getD,hi]
end
section
variable {P:Program} {T:Tab} {w0:Base} {Pr M0 M:Nat→Prop} {β:Nat→Option (Nat × Nat)} {st:St} {a:Act} {w:World} {o:Oper}
theorem Uo:∀ {ss:List Nat} {i j s:Nat},ss.Nodup→ss[i]?=some s→ss[j]?=some s→i=j
 | [],i,j,s,_,h,_=>by simp at h
 | x::r,0,0,s,_,_,_=>rfl
 | x::r,0,j+1,s,h,hi,hj=>by simp at hi hj;subst hi;exact absurd (qLe hj) (List.nodup_cons.1 h).1
 | x::r,i+1,0,s,h,hi,hj=>by simp at hi hj;subst hj;exact absurd (qLe hi) (List.nodup_cons.1 h).1
 | x::r,i+1,j+1,s,h,hi,hj=>by simp at hi hj;rw[Uo (List.nodup_cons.1 h).2 hi hj]
theorem CS {ss:List Nat}:∀ {l:List Nat},Ic ss l=true→∀ x∈l,x ∉ ss
 | [],_,x,hx=>by simp at hx
 | y::r,h,x,hx=>by
  simp only[Ic,qBa,qBb]at h;rcases List.mem_cons.1 hx with rfl | hx
  · exact gG.1 h.1
  · exact CS h.2 x hx
theorem I8:∀ (l1 l2:List (Nat × cu)) (hp:Heap),fC hp (l1++l2)=fC (fC hp l1) l2
 | [],_l2,_hp=>rfl
 | (s,b)::r,l2,hp=>I8 r l2 (put hp s b)
theorem Ur : ∀ {ss : List Nat} {bl jX : List cu} {hp : Heap},ss.Nodup → bl.length = ss.length → jX.length = bl.length →
    (∀ s,s ∉ ss→look (fC hp (ji ss bl jX)) s=look hp s)∧(∀ (i s:Nat) (b0 b1:cu),ss[i]?=some s→bl[i]?=some b0→jX[i]?=some b1→look (fC hp (ji ss bl jX)) s=some (tV b0 b1))
  | [],bl,jX,hp,_,_,_=>by refine⟨fun s _=>?_,fun i s b0 b1 h=>by simp at h⟩;simp[ji,fC]
  | x::r,[],jX,hp,_,h,_=>by simp at h
  | x::r,b::bl,[],hp,_,_,h=>by simp at h
  | x::r,b::bl,c::jX,hp,hd,h1,h2=>by
   rw[List.nodup_cons]at hd;have ih:=Ur (ss:=r) (bl:=bl) (jX:=jX) (hp:=put hp x (tV b c)) hd.2 (by simpa using h1) (by simpa using h2);have e:ji (x::r) (b::bl) (c::jX)=(x,tV b c)::ji r bl jX:=rfl;rw[e];refine⟨fun s hs=>?_,fun i s b0 b1 hi h3 h4=>?_⟩
   · simp only[List.mem_cons,not_or]at hs;show look (fC (put hp x (tV b c)) (ji r bl jX)) s=_;rw[ih.1 s hs.2,dS,if_neg hs.1]
   · cases i with
     | zero =>simp at hi h3 h4;subst hi h3 h4;show look (fC (put hp x (tV b c)) (ji r bl jX)) x=_;rw[ih.1 x hd.1,dS,if_pos rfl]
     | succ i=>simp at hi h3 h4;exact ih.2 i s b0 b1 hi h3 h4
theorem KW:∀ {ss:List Nat} {bl jX:List cu} {k:Nat} {b:cu},bl.length=ss.length→jX.length=bl.length→(k,b)∈ji ss bl jX→∃ (i:Nat) (b0 b1:cu),ss[i]?=some k∧bl[i]?=some b0∧jX[i]?=some b1∧b=tV b0 b1
 | [],bl,jX,k,b,_,_,h=>by simp[ji]at h
 | x::r,[],jX,k,b,h,_,_=>by simp at h
 | x::r,c::bl,[],k,b,_,h,_=>by simp at h
 | x::r,c::bl,d::jX,k,b,h1,h2,h=>by
  have e:ji (x::r) (c::bl) (d::jX)=(x,tV c d)::ji r bl jX:=rfl;rw[e]at h;rcases List.mem_cons.1 h with h | h
  · cases h;exact⟨0,c,d,rfl,rfl,rfl,rfl⟩
  · obtain⟨i,b0,b1,g1,g2,g3,g4⟩:=KW (by simpa using h1) (by simpa using h2) h;exact⟨i+1,b0,b1,by simpa using g1,by simpa using g2,by simpa using g3,g4⟩
theorem acN (ok : dZ P T) {C : aS} (hC : jl P T w0.gl C) (r : Rel w0 Pr M0 M β st a w) {h' : Nat → Option cu} (hsub : ∀ s b,h' s = some b → look st.heap s = some b) {d f : Nat} {fi : FI} {args : List AV} {aY : Array Value}
    (hd:o.dst=some d) (hf:dN T.funcs f=some fi) (hm:fi.cfg.vY=true) (hargs:mX w M β (look st.heap) args aY.toList) (he:(execOp a.eval o).run P w=(callFunc f aY).run P w) :
    fU P w0 Pr M0 β st a w o (uN T C h' o.dst f args):=by
  rw[hd];simp only[uN,hf,hm];have hnd:(AV.yh [] args).Nodup:=AA args [] List.nodup_nil;generalize AV.yh [] args=ss at hnd;cases hta:MQ ss args with
  | none=>exact⟨fun _ _ _ _ hk=>by simp[DT.run]at hk⟩
  | some as_ =>
   cases hab:Ib h' ss with
   | none=>exact⟨fun _ _ _ _ hk=>by simp[DT.run]at hk⟩
   | some bl =>
    refine⟨fun hnd' α k res hk rd nd Q=>?_⟩;obtain⟨⟨rs,jX⟩,hcall,hk⟩:=Ip hk;obtain⟨b1,b2⟩:=Rl hab;obtain⟨hbody,JC⟩:=hC.plain f fi _ bl rs jX hf (fun b hb=>by
     obtain⟨i,hi⟩:=List.mem_iff_getElem?.1 hb;have hlt:i<ss.length:=by rw[← b1];exact(qLa.1 hi).1
     obtain⟨b',h1,_,h2⟩:=b2 i ss[i] (by simp);rw[hi]at h1;cases h1;exact h2) hcall
    obtain⟨t1,t2⟩:=Un hta;cases hres:rF T d ss 0 fi.cfg.rets fi.fn.resultTypes.toList rs with
    | none=>rw[hres]at hk;simp[DT.run]at hk
    | some xb =>
     obtain⟨xs,bs⟩:=xb;rw[hres]at hk;obtain⟨hna,hk⟩:=VZ hk;simp only[DT.run]at hk;refine wV hnd' ?_;rw[he,D5 ok hf hbody,Oper.uponIn_enter];refine⟨xZ rd,wG rd ?_⟩;have ahH:∀ (i:Nat) (b0:cu),bl[i]?=some b0→∃ s,ss[i]?=some s∧look st.heap s=some b0∧gI b0=true:=by
      intro i b0 hi;have hlt:i<ss.length:=by rw[← b1];exact(qLa.1 hi).1
      obtain⟨b,g1,g2,g3⟩:=b2 i ss[i] (by simp);rw[g1]at hi;cases hi;exact⟨ss[i],by simp,hsub _ _ g2,g3⟩
     have vK:∀ (i s:Nat),ss[i]?=some s→∃ b0,bl[i]?=some b0∧look st.heap s=some b0∧gI b0=true:=by intro i s hi;obtain⟨b,g1,g2,g3⟩:=b2 i s hi;exact⟨b,g1,hsub _ _ g2,g3⟩
     have place:∀ (i s:Nat),ss[i]?=some s→Gx β ss (ah+i)=β s:=by intro i s hi;rw[Yk,hi];rfl
     have arg1:∀ (u v:AV) (c:Value),toArg ss u=some v→AR w M β (look st.heap) u c→AR w M (Gx β ss) (look (gV 0 bl)) v c:=by
      intro u v c hu hc;unfold toArg at hu;split at hu
      · cases hu;cases hc with
        | p _ _ hv=>exact .p _ _ hv
      · rename_i s z off len;cases hi:idxOf s ss 0 with
        | none=>rw[hi]at hu;cases hu
        | some i =>
         rw[hi]at hu;simp at hu;subst hu;obtain⟨n,hn,hs⟩:=Rk hi;obtain rfl:i=n:=by omega
         obtain⟨b0,g1,g2,g3⟩:=vK i s hs;exact hc.kM g2 (by rw[qM];exact g1) (place i s hs)
      · rename_i s idx off;cases hi:idxOf s ss 0 with
        | none=>rw[hi]at hu;cases hu
        | some i =>
         rw[hi]at hu;simp at hu;subst hu;obtain⟨n,hn,hs⟩:=Rk hi;obtain rfl:i=n:=by omega
         obtain⟨b0,g1,g2,g3⟩:=vK i s hs;exact hc.aeE g2 (by rw[qM];exact g1) (place i s hs)
      · cases hu
     have hpre:tZ w M (Gx β ss) as_ bl aY:=by
      refine⟨?_,fun i v hi=>?_,fun i b0 hi=>?_,fun i b o hi h=>?_,fun i j b o o' hi hj h1 h2=>?_,r.gU⟩
      · have:=hargs.1;simp only[Array.length_toList]at this;omega
      · obtain⟨u,g1,g2⟩:=t2 i v hi;have hlt:i<aY.toList.length:=by rw[← hargs.1];exact(qLa.1 g1).1
        have hc:aY.toList[i]?=some (aY.getD i undef):=by rw[qLd hlt];simp only[Array.length_toList]at hlt;simp[hlt]
        exact arg1 u v _ g2 (hargs.2 i u _ g1 hc)
      · obtain⟨s,g1,g2,g3⟩:=ahH i b0 hi;exact(r.heap s b0 g2).MZ g3 (place i s g1)
      · have hlt:i<ss.length:=by omega
        rw[place i ss[i] (by simp)]at h;obtain⟨b0,g1,g2,g3⟩:=vK i ss[i] (by simp);have:=r.own ss[i] b o (by rw[g2];rfl) h;exact⟨this.1,this.2.1⟩
      · have hli:i<ss.length:=by omega
        have hlj:j<ss.length:=by omega
        rw[place i ss[i] (by simp)]at h1;rw[place j ss[j] (by simp)]at h2;obtain⟨b0,g1,g2,g3⟩:=vK i ss[i] (by simp);obtain⟨b0',g1',g2',g3'⟩:=vK j ss[j] (by simp);have:=r.inj ss[i] ss[j] b o o' (by rw[g2];rfl) (by rw[g2'];rfl) h1 h2;exact Uo (s:=ss[j]) hnd (by rw[← this];simp) (by simp)
     refine Calls.mono (JC w _ _ aY r.glob hpre) fun e w' hpost=>?_;obtain⟨cs,ps,M',rfl,post⟩:=hpost;refine⟨⟨_,rfl⟩,?_⟩;show ∃ e M' β',_;refine⟨{ val:=mg xs,qI:=ji ss bl jX++bs,new:=keysOf bs },M',?_⟩;by_cases hfz:jq (keysOf bs++[])=true
     · have hfz':jq (keysOf bs)=true:=(lD hfz).1;have r1:Rel w0 Pr M0 M β (st.strike (present st.heap (keysOf bs))) a w:=r.strike _ (fun b h=>h) fun b h=>.inl h;generalize hst1:st.strike (present st.heap (keysOf bs))=st1 at r1;have abj:∀ (i s:Nat) (b0:cu),ss[i]?=some s→bl[i]?=some b0→look st1.heap s=some b0:=by
        intro i s b0 hi hb;obtain⟨b,g1,g2,g3⟩:=vK i s hi;rw[hb]at g1;cases g1;rw[← hst1,fQ,if_neg,g2]
        · show some (b0.kill _)=some b0;congr 1;cases b0 with
          | arr=>rfl
          | log=>rfl
          | box cs =>
           simp only[gI,Option.isSome_iff_exists]at g3;obtain⟨vs,hp⟩:=g3;have hcs:=yu hp;subst hcs;simp only[cu.kill,cu.box.injEq];apply List.ext_getElem?;intro n;rw[jI];cases hx:(vs.map AV.p)[n]? with
           | none=>rfl
           | some v =>simp only[List.getElem?_map,Option.map_eq_some_iff]at hx;obtain⟨x,_,rfl⟩:=hx;rfl
        · intro hm;exact CS hna s (qL hm).1 (qLe hi)
       have hbk:=Ur (ss:=ss) (bl:=bl) (jX:=jX) (hp:=st1.heap) hnd b1 post.len;have ZU:∀ s,s∈ss→∃ (i:Nat) (b0 b1:cu),ss[i]?=some s∧bl[i]?=some b0∧jX[i]?=some b1:=by
        intro s hs;obtain⟨i,hi⟩:=List.mem_iff_getElem?.1 hs;obtain⟨b0,g1,_,_⟩:=vK i s hi;have hlt:i<jX.length:=by rw[post.len];exact(qLa.1 g1).1
        exact⟨i,b0,jX[i],hi,g1,by simp⟩
       have r2:Rel w0 Pr M0 M' β { st1 with heap:=fC st1.heap (ji ss bl jX) } a w':=by
        refine r1.moved post.size post.os post.tape post.output (fun b hb hm=>post.keep b hb fun i o hi h=>?_) (fun b n hb _ hr=>post.room b n hb hr) post.gU (fun b h=>?_) (fun s hs=>?_) (fun s blk hs=>?_)
        · have hlt:i<ss.length:=by omega
          rw[place i ss[i] (by simp)]at h;obtain⟨b0,g1,g2,g3⟩:=vK i ss[i] (by simp);obtain⟨o1,o2,o3⟩:=r.own ss[i] b o (by rw[g2];rfl) h;rcases hm with hm | ⟨hm1,hm2⟩
          · exact o1 hm
          · rcases o3.1 with o3 | o3
            · omega
            · exact hm2 o3
        · rcases post.lY b h with h1 | h1
          · exact .inl h1
          · exact .inr ⟨h1,post.mlt b h⟩
        · rw[hbk.1 s]
          · exact hs
          · intro hm;obtain⟨i,b0,b1,g1,g2,g3⟩:=ZU s hm;rw[abj i s b0 g1 g2]at hs;cases hs
        · by_cases hm:s∈ss
          · obtain⟨i,b0,b1,g1,g2,g3⟩:=ZU s hm;have:=abj i s b0 g1 g2;rw[this]at hs;cases hs;obtain⟨k1,k2,k3,k4⟩:=post.blk i blk b1 g2 g3;refine⟨b1,by rw[hbk.2 i s blk b1 g1 g2 g3,JD k3],.inr ⟨k2,k1.MZ k4 (place i s g1).symm⟩⟩
          · refine⟨blk,by rw[hbk.1 s hm];exact hs,.inl ⟨rfl,fun b o h=>?_⟩⟩;have hl:(look st1.heap s).isSome=true:=by rw[hs];rfl
            refine post.keep b (r1.own s b o hl h).2.1 fun i o' hi h'=>?_;have hlt:i<ss.length:=by omega
            rw[place i ss[i] (by simp)]at h';obtain⟨b0,g1,g2,g3⟩:=vK i ss[i] (by simp);have:=r1.inj s ss[i] b o o' hl (by rw[abj i ss[i] b0 (by simp) g1];rfl) h h';exact hm (by rw[this];simp)
       obtain⟨β',r3,tX⟩:=r2.results (d:=d) post.res hres (fun s hs=>by
        show look (fC st1.heap (ji ss bl jX)) s=none;rw[hbk.1 s (CS hna s hs),← hst1];exact by simpa using yx (st:=st) (fz:=[]) hs) (fun b o hb=>by
        obtain⟨g1,g2,g3⟩:=post.own b o hb;refine⟨g1,g2,⟨.inl (by have:=r.size;omega),by have:=r.size;have:=w0.le';omega⟩,fun s' o' hs' tX=>?_⟩;have af6:(look st1.heap s').isSome=true:=by
         by_cases hm:s'∈ss
         · obtain⟨i,b0,b1,k1,k2,k3⟩:=ZU s' hm;rw[abj i s' b0 k1 k2];rfl
         · have h3:(look (fC st1.heap (ji ss bl jX)) s').isSome=true:=hs';rw[hbk.1 s' hm]at h3;exact h3
        have:=(r1.own s' b o' af6 tX).2.1;omega) (fun j s blk hj hb=>by
        rw[qM]at hb;obtain⟨b0,g1,g2,g3⟩:=vK j s hj;refine⟨?_,(place j s hj).symm⟩;show look (fC st1.heap (ji ss bl jX)) s=_;rw[hbk.2 j s b0 blk hj g1 hb,JD (post.blk j b0 blk g1 hb).2.2.1])
       refine⟨β',hk,post.drawn,fun _=>⟨?_,fun s hs=>tX s fun hk=>?_,ku fun k b hkb=>?_⟩⟩
       · rw[hd];have e:st.apply (some d) { val:=mg xs,qI:=ji ss bl jX++bs,new:=keysOf bs }={ env:=Skm.setEnv st1.env (some d) (mg xs),heap:=fC (fC st1.heap (ji ss bl jX)) bs }:=by rw[← I8,← hst1];simp[St.apply,St.kill]
         rw[e];exact r3
       · have:=pF hfz' s hk;omega
       · rcases List.mem_append.1 hkb with h | h
         · obtain⟨i,b0,b1',k1,k2,k3,rfl⟩:=KW b1 post.len h;obtain⟨b,g1,g2,g3⟩:=vK i k k1;rw[k2]at g1;cases g1;obtain⟨q1,q2,q3,q4⟩:=post.blk i b0 b1' k2 k3;exact .inr ⟨b0,g2,by rw[JD q3];exact q2⟩
         · refine .inl (pF hfz' k ?_);have:∀ (l:List (Nat × cu)),(k,b)∈l→k∈keysOf l:=by
            intro l;induction l with
            | nil=>intro h;simp at h
            | cons x r ih =>
             intro h;rcases List.mem_cons.1 h with rfl | h
             · simp[keysOf]
             · simp[keysOf,ih h]
           exact this _ h
     · exact⟨β,hk,post.drawn,fun h=>absurd h hfz⟩
end
end Go.Skm
namespace Go.Skm
section
variable {P:Program} {T:Tab} {w0:Base} {Pr M0 M:Nat→Prop} {β:Nat→Option (Nat × Nat)} {st:St} {a:Act} {w:World} {o:Oper}
theorem Rel.more (r : Rel w0 Pr M0 M β st a w) {M' : Nat → Prop} (h1 : ∀ b,M b → M' b)
    (h2:∀ b,M' b→M b∨(b<w.heap.size∧(w0.n0≤b∧(w0.heap.size≤b∨Pr b))∧∀ s o,(look st.heap s).isSome=true→β s≠some (b,o))):Rel w0 Pr M0 M' β st a w:=by
  have hM:∀ b,M b→M' b∧w.heap[b]?=w.heap[b]?:=fun b h=>⟨h1 b h,rfl⟩;have key:∀ (v:AV) (c:Value),AR w M β (look st.heap) v c→AR w M' β (look st.heap) v c:=fun v c h =>h.mono hM fun s blk _ hl=>⟨blk,hl,Like.refl _,rfl,fun _ _ _ _ h=>h⟩;refine⟨r.oK,fun t v h=>key _ _ (r.env t v h),fun s blk hl=>?_,fun s b o hl hb=>?_,r.inj,fun b h=>?_,fun b h=>?_,fun b h=>h1 b (r.tu b h),r.keep,r.room,r.size,r.os,r.tape,r.output,fun p hp=>⟨h1 _ (r.glob p hp).1,(r.glob p hp).2⟩⟩
  · cases r.heap s blk hl with
    | box cs b o C e fr g1 g2 g3 g4 g5 g6=>exact .box _ b o C e fr g1 g2 g3 g4 g5 fun j c hc=>key _ _ (g6 j c hc)
    | jS a ks=>exact .jS a ks
    | log on ys=>exact .log on ys
    | arr a ks xs b o C e fr g1 g2 g3 g4 g5 g6=>exact .arr a ks xs b o C e fr g1 g2 g3 g4 g5 fun i x j c hx hc=>(g6 i x j c hx hc).mono hM
  · obtain⟨g1,g2,g3⟩:=r.own s b o hl hb;refine⟨fun h=>?_,g2,g3⟩;rcases h2 b h with h | ⟨_,_,h⟩
    · exact g1 h
    · exact h s o hl hb
  · rcases h2 b h with h | ⟨h,_⟩
    · exact r.gU b h
    · exact h
  · rcases h2 b h with h | ⟨_,h,_⟩
    · exact r.lY b h
    · exact .inr h
theorem Gy {keep:Bool} {b0 b1:cu} (s:Nat):look (lu keep [b0,b1]) s=if s=ah then some b0 else if s=fA keep then some b1 else none:=by
 simp only[lu,look];by_cases h:s=ah
 · subst h;simp
 · have:(ah==s)=false:=by simp;exact fun e=>h e.symm
   rw[this,if_neg h];simp only[cond_false];by_cases h':s=fA keep
   · subst h';simp
   · have:(fA keep==s)=false:=by simp;exact fun e=>h' e.symm
     rw[this,if_neg h'];rfl
theorem Rn (keep:Bool):fA keep≠ah:=by cases keep<;>simp[fA,ah]
theorem Ro {β:Type}:∀ {l:List β} {r:List β} {x:β},Qy l=some (r,x)→l=r++[x]
 | [],r,x,h=>by cases h
 | [y],r,x,h=>by simp[Qy]at h;obtain⟨rfl,rfl⟩:=h;rfl
 | y::z::l,r,x,h=>by
  simp only[Qy]at h;split at h
  · rename_i r' x' e;simp only[qOa,Prod.mk.injEq]at h;obtain⟨rfl,rfl⟩:=h;rw[Ro e];rfl
  · cases h
theorem ZV {h:Nat→Option cu} {pre:List AV} {v:AV} {cs:List Value} (hl:mX w M β h (pre++[v]) cs):AR w M β h v (cs.getD pre.length undef)∧∀ (i:Nat) (x:AV) (c:Value),pre[i]?=some x→cs[i]?=some c→AR w M β h x c:=by
 have hn:cs.length=pre.length+1:=by have:=hl.1;simp at this;omega
 refine⟨?_,fun i x c hi hc=>hl.2 i x c (by rw[List.getElem?_append_left (qLa.1 hi).1];exact hi) hc⟩;have hc:cs[pre.length]?=some (cs.getD pre.length undef):=by rw[qLb,qLd (by omega)];rfl
 exact hl.2 pre.length v _ (by simp) hc
theorem BR.Gz {w:World} {M M':Nat→Prop} {β β':Nat→Option (Nat × Nat)} {h h':Nat→Option cu} {s s':Nat} {sa:Bool} {ks:List Kd} {xs:List PV} (hM:∀ b,M b→M' b) (hb:BR w M β h s (.arr sa ks xs)) (e:β' s'=β s):BR w M' β' h' s' (.arr sa ks xs):=by
 cases hb with
 | jS=>exact .jS _ _
 | arr _ _ _ b o C e' fr g1 g2 g3 g4 g5 g6=>exact .arr _ _ _ b o C e' fr (e.trans g1) g2 g3 g4 g5 fun i x j c h1 h2=>(g6 i x j c h1 h2).mono fun b h=>⟨hM b h,rfl⟩
theorem Us (ok : dZ P T) {C : aS} (hC : jl P T w0.gl C) (r : Rel w0 Pr M0 M β st a w) {h' : Nat → Option cu} (hsub : ∀ s b,h' s = some b → look st.heap s = some b) {d f : Nat} {fi : FI} {pre : List AV} {aY : Array Value}
    {s A:Nat} {nw:List Nat} {sa:Bool} {ks:List Kd} {off len:Nat} {xs:List PV} {v:AV}
    (hd:o.dst=some d) (hf:dN T.funcs f=some fi) (Wp:fi.cfg.vcall=true) (hargs:mX w M β (look st.heap) (pre++[.ptr s 0 0]) aY.toList) (he:(execOp a.eval o).run P w=(callFunc f aY).run P w)
    (hs:look st.heap s=some (.box [v]))
    (hcase:(nw=[]∧look st.heap A=some (.arr sa ks xs)∧∃ z,v=.slice A z off len)∨(nw=[A]∧v=.p .nil∧off=0∧len=0∧xs=[]∧fi.cfg.vkeep=false)) :
    fU P w0 Pr M0 β st a w o (QB T C h' d f fi pre s A nw sa ks off len xs):=by
  unfold QB;cases hdp:Gg h' pre with
  | none=>exact⟨fun _ _ _ _ hk=>by simp[DT.run]at hk⟩
  | some q =>
  obtain⟨vs,ss⟩:=q;simp only;cases ajD:(Nat.blt s 100000&&(Nat.blt A 100000&&!(A==s)))&&(!(jC s ss)&&!(jC A ss)) with
  | false=>exact⟨fun _ _ _ _ hk=>by simp[DT.run]at hk⟩
  | true =>
  simp only[qBa,qBb,Nat.blt_eq]at ajD;obtain⟨⟨hs1,hA1,hAs⟩,hss,acO⟩:=ajD;have hAs:A≠s:=by simpa using hAs
  have hss:s ∉ ss:=gG.1 hss;have acO:A ∉ ss:=gG.1 acO;have hsA:s≠A:=fun e=>hAs e.symm;simp only[cond_true];refine⟨fun hnd α k res hk rd n Q=>?_⟩;obtain⟨⟨rs,jX⟩,hcall,hk⟩:=Ip hk;obtain⟨hbody,JC⟩:=hC.var f fi _ _ _ _ _ _ _ rs jX hf Wp hcall;obtain⟨ajE,hpre0⟩:=ZV hargs;have hnum:aY.size=pre.length+1:=by have:=hargs.1;simp at this;omega
  have hargs0:mX w M β (look st.heap) pre (aY.toList.take pre.length):=by
   refine⟨by simp;omega,fun i x c hi hc=>?_⟩;rw[List.getElem?_take]at hc;split at hc
   · exact hpre0 i x c hi hc
   · cases hc
  obtain⟨d1,d2,d3⟩:=Gn (fun s b h=>r.heap s b (hsub s b h)) hsub hdp hargs0;have d1:vs.length=pre.length:=by rw[d1];simp;omega
  cases hres:rF T d [] 0 fi.cfg.rets fi.fn.resultTypes.toList rs with
  | none=>rw[hres]at hk;simp[DT.run]at hk
  | some xb =>
  obtain⟨rv,bs⟩:=xb;rw[hres]at hk;cases bs with
  | cons x y=>simp[DT.run]at hk
  | nil =>
  simp only[DT.run]at hk;refine wV hnd ?_;rw[he,D5 ok hf hbody,Oper.uponIn_enter];refine⟨xZ rd,wG rd ?_⟩;have his:(look st.heap s).isSome=true:=by rw[hs];rfl
  let pA:Option (Nat × Nat):=match nw with | []=>β A | _=>none
  have hpA:∀ b o,pA=some (b,o)→nw=[]∧look st.heap A=some (.arr sa ks xs)∧β A=some (b,o):=by
   intro b o h;rcases hcase with ⟨rfl,h1,_⟩ | ⟨rfl,_⟩
   · exact⟨rfl,h1,h⟩
   · have e:pA=none:=rfl;rw[e]at h;cases h
  have aou:nw=[]→pA=β A:=by intro h;subst h;rfl
  let βc:Nat→Option (Nat × Nat):=fun x=>if x=ah then β s else if x=fA fi.cfg.vkeep then pA else none
  have bc0:βc ah=β s:=by simp[βc]
  have bc1:βc (fA fi.cfg.vkeep)=pA:=by simp[βc,Rn]
  have hlv:=fun x=>Gy (keep:=fi.cfg.vkeep) (b0:=.box [.slice (fA fi.cfg.vkeep) ks.length off len]) (b1:=.arr sa ks xs) x;have hl0:=hlv ah;rw[if_pos rfl]at hl0;have hl1:=hlv (fA fi.cfg.vkeep);rw[if_neg (Rn _),if_pos rfl]at hl1;have live:∀ x,(look (lu fi.cfg.vkeep [.box [.slice (fA fi.cfg.vkeep) ks.length off len],.arr sa ks xs]) x).isSome=true→x=ah∨x=fA fi.cfg.vkeep:=by
   intro x hx;rw[hlv x]at hx;by_cases h1:x=ah
   · exact .inl h1
   · rw[if_neg h1]at hx;by_cases h2:x=fA fi.cfg.vkeep
     · exact .inr h2
     · rw[if_neg h2]at hx;cases hx
  have hup:∀ b,M b→dR M β ss b:=fun b h=>.inl h;have af8:∀ x b o,(look st.heap x).isSome=true→β x=some (b,o)→x ∉ ss→¬ dR M β ss b:=by
   intro x b o hx hb hn hm;rcases hm with hm | ⟨s',o',hs',hb'⟩
   · exact(r.own x b o hx hb).1 hm
   · exact hn (by rw[r.inj x s' b o o' hx (d3 s' hs') hb hb'];exact hs')
  have hpre:Wi fi.cfg.vkeep w (dR M β ss) βc (normArgs T fi.fn.params.toList vs++[.ptr ah 0 0]) [.box [.slice (fA fi.cfg.vkeep) ks.length off len],.arr sa ks xs] aY:=by
   have hlen:(normArgs T fi.fn.params.toList vs).length=pre.length:=by simp[d1,yP]
   refine⟨by simp[hlen,hnum],fun i x hi=>?_,fun x b hx=>?_,fun x b o hx hb=>?_,fun x y b o o' hx hy hb hb'=>?_,fun b hb=>?_⟩
   · by_cases hi':i<pre.length
     · rw[List.getElem?_append_left (by rw[hlen];exact hi')]at hi;obtain⟨y,hy,hv⟩:=EN (T:=T) (w:=w) _ _ i x hi;have hc:(aY.toList.take pre.length)[i]?=some (aY.getD i undef):=by
        rw[List.getElem?_take,if_pos hi',qLd (by simp;omega)];have:i<aY.size:=by omega
        simp[this]
       exact hv _ _ _ _ (d2 i y _ hy hc)
     · have e : i = pre.length := by have:=(qLa.1 hi).1;simp[hlen]at this;omega
       subst e;rw[List.getElem?_append_right (by rw[hlen];exact Nat.le_refl _),hlen,Nat.sub_self]at hi;simp at hi;subst hi;have e:aY.getD pre.length undef=aY.toList.getD pre.length undef:=by rw[qAb,qLb,Array.getElem?_toList]
       rw[e];generalize aY.toList.getD pre.length undef=u at ajE;cases ajE with
       | ptrB _ _ cs b o h1 hb=>exact .ptrB ah 0 _ b o hl0 (bc0.trans hb)
       | ptrA _ _ _ a ks xs b o h1 hi hb=>rw[hs]at h1;cases h1
   · rcases live x (by rw[hx];rfl) with rfl | rfl
     · rw[hl0]at hx;cases hx;cases r.heap s _ hs with
       | box _ b o C e fr g1 g2 g3 g4 g5 g6 =>
        refine .box _ b o C e fr (bc0.trans g1) g2 g3 g4 (fun c hc=>by simp at hc;subst hc;rfl) fun j c hj=>?_;cases j with
        | succ j=>simp at hj
        | zero =>
         simp at hj;subst hj;have hv:=g6 0 v rfl;rcases hcase with ⟨rfl,hA,z,rfl⟩ | ⟨rfl,rfl,rfl,rfl,rfl,hk⟩
         · have hz : z = ks.length := by
             generalize C.getD (o+0) undef=u at hv;cases hv with
             | slice _ _ _ a' ks' xs' b' o' cap h1 hl hb hcap hr=>rw[hA]at h1;cases h1;rfl
             | sliceE _ _ a' ks' xs' base h1 hl=>rw[hA]at h1;cases h1;rfl
           subst hz;exact hv.kM hA hl1 bc1
         · generalize C.getD (o+0) undef=u at hv;cases hv with
           | p _ _ hv=>cases hv;exact .sliceE _ 0 sa ks [] none hl1 (by simp)
     · rw[hl1]at hx;cases hx;rcases hcase with ⟨rfl,hA,z,rfl⟩ | ⟨rfl,rfl,rfl,rfl,rfl,hk⟩
       · exact(r.heap A _ hA).Gz hup bc1
       · exact .jS _ _
   · rcases live x hx with rfl | rfl
     · rw[bc0]at hb;exact⟨af8 s b o his hb hss,(r.own s b o his hb).2.1⟩
     · rw[bc1]at hb;obtain⟨_,hA,hb⟩:=hpA b o hb;have hiA:(look st.heap A).isSome=true:=by rw[hA];rfl
       exact⟨af8 A b o hiA hb acO,(r.own A b o hiA hb).2.1⟩
   · rcases live x hx with rfl | rfl<;>rcases live y hy with rfl | rfl
     · rfl
     · rw[bc0]at hb;rw[bc1]at hb';obtain⟨_,hA,hb'⟩:=hpA b o' hb';exact absurd (r.inj s A b o o' his (by rw[hA];rfl) hb hb') hsA
     · rw[bc1]at hb;rw[bc0]at hb';obtain⟨_,hA,hb⟩:=hpA b o hb;exact absurd (r.inj s A b o' o his (by rw[hA];rfl) hb' hb) hsA
     · rfl
   · rcases hb with hb | ⟨s',o,hs',hb⟩
     · exact r.gU b hb
     · exact(r.own s' b o (d3 s' hs') hb).2.1
  refine Calls.mono (JC w _ βc aY (fun p hp=>⟨.inl (r.glob p hp).1,(r.glob p hp).2⟩) hpre) fun e w' hpost=>?_;obtain⟨cs,M',rfl,post⟩:=hpost;refine⟨⟨_,rfl⟩,?_⟩;show ∃ e M' β',_;obtain⟨off',len',ys,bb,bo,Cb,eb,fb,p,rfl,q1,q2,q3,q4,q5,q6,q7,q8,q9⟩:=post.back;rw[bc0]at q1;have hkeep:∀ b,b<w.heap.size→b≠bb→(∀ o,pA≠some (b,o))→w'.heap[b]?=w.heap[b]?:=fun b hb h1 h2 =>post.keep b hb (fun o h=>by rw[bc0,q1]at h;cases h;exact h1 rfl) fun o h=>by rw[bc1]at h;exact h2 o h
  obtain⟨ob1,ob2,ob3,ob4⟩:=r.own s bb bo his q1;have ajF:ah=100000:=rfl;have hnb:w0.n0≤bb:=by rcases ob4 with h | h<;>omega
  have hnA:∀ b o,pA=some (b,o)→¬ M b∧b<w.heap.size∧(w0.heap.size≤b∨Pr b)∧w0.n0≤b:=by intro b o h;obtain⟨_,hA,hb⟩:=hpA b o h;obtain⟨g1,g2,g3,g4⟩:=r.own A b o (by rw[hA];rfl) hb;exact⟨g1,g2,g3,by rcases g4 with h | h<;>omega⟩
  have hvar:Xj [cu.box [.slice (fA fi.cfg.vkeep) ks.length off' len'],.arr sa ks ys]=ys:=rfl;have hvV:Va [cu.box [.slice (fA fi.cfg.vkeep) ks.length off' len'],.arr sa ks ys]=.slice (fA fi.cfg.vkeep) ks.length off' len':=rfl;rw[hvar,hvV]at hk;simp only[AV.qV,AV.sLen]at hk;obtain⟨β1,hh1,ps,abk,hps⟩:=post.res;by_cases hfz:¬ jq (nw++ss)=true
  · exact⟨_,M',β,hk,post.drawn,fun h=>absurd h hfz⟩
  have hfz:jq (nw++ss)=true:=Classical.not_not.1 hfz;have r1:=r.freeze (present st.heap nw) ss (lD hfz).2 d3;have hst1:∀ x,look (st.strike (present st.heap nw++ss)).heap x=if x∈present st.heap nw++ss then none else(look st.heap x).map (cu.kill (present st.heap nw++ss)):=fun x=>fQ _ x
  have hsn:s ∉ present st.heap nw++ss:=by
   intro hm;rcases List.mem_append.1 hm with hm | hm
   · rcases hcase with ⟨rfl,_⟩ | ⟨rfl,_⟩
     · simp[present]at hm
     · have:=(qL hm).1;simp at this;exact hsA this
   · exact hss hm
  have hs1':look (st.strike (present st.heap nw++ss)).heap s=some (.box [v]):=by
   rw[hst1,if_neg hsn,hs];show some (cu.box [AV.kill _ v])=_;congr 2;rcases hcase with ⟨rfl,hA,z,rfl⟩ | ⟨rfl,rfl,_⟩
   · simp[AV.kill,AV.refers,present,gG.2 acO]
   · rfl
  have ahI:nw=[]→look (st.strike (present st.heap nw++ss)).heap A=some (.arr sa ks xs):=by
   intro hn;rcases hcase with ⟨_,hA,_⟩ | ⟨h,_⟩
   · rw[hst1,if_neg (by rw[hn];simpa [present] using acO),hA];rfl
   · rw[hn]at h;cases h
  have aov:nw≠[]→look (st.strike (present st.heap nw++ss)).heap A=none:=by
   intro hn;rcases hcase with ⟨h,_⟩ | ⟨h,_⟩
   · exact absurd h hn
   · subst h;rw[hst1];by_cases hm:A∈present st.heap [A]++ss
     · rw[if_pos hm]
     · rw[if_neg hm];cases hl:look st.heap A with
       | none=>rfl
       | some b=>exact absurd (List.mem_append.2 (.inl (uS (by simp) (by rw[hl];rfl)))) hm
  have Rq:∀ x,(look (st.strike (present st.heap nw++ss)).heap x).isSome=true→(look st.heap x).isSome=true:=fun x hx=>(NV hx).2;generalize agQ:st.strike (present st.heap nw++ss)=st1 at r1 hs1' ahI aov Rq;have hpo:∀ b o,p=some (b,o)→¬ M' b∧b<w'.heap.size∧((w0.heap.size≤b∨Pr b)∧(w0.n0≤b∨ah≤A))∧b≠bb:=by
   intro b o hp;obtain⟨g1,g2,g3,g4⟩:=q8 b o hp;refine⟨g1,g2,?_,g3⟩;rcases g4 with g4 | ⟨o',g4⟩
   · exact⟨.inl (by have:=r.size;omega),.inl (by have:=r.size;have:=w0.le';omega)⟩
   · rw[bc1]at g4;obtain⟨_,_,k3,k4⟩:=hnA b o' g4;exact⟨k3,.inl k4⟩
  have hpl:∀ b o,p=some (b,o)→∀ x o',x≠A→(look st1.heap x).isSome=true→β x≠some (b,o'):=by
   intro b o hp x o' hx hl hb;obtain⟨_,_,_,g4⟩:=q8 b o hp;rcases g4 with g4 | ⟨o'',g4⟩
   · have:=(r1.own x b o' hl hb).2.1;omega
   · rw[bc1]at g4;obtain⟨_,hA,g4⟩:=hpA b o'' g4;exact hx (r.inj x A b o' o'' (Rq x hl) (by rw[hA];rfl) hb g4)
  have hkM:∀ b,b<w.heap.size→(dR M β ss b∨(b<w0.heap.size∧¬ Pr b))→w'.heap[b]?=w.heap[b]?:=by
   intro b hb hm;refine hkeep b hb (fun e=>?_) fun o h=>?_
   · subst e;rcases hm with hm | ⟨h1,h2⟩
     · exact af8 s b bo his q1 hss hm
     · rcases ob3 with h | h
       · omega
       · exact h2 h
   · obtain⟨g1,g2,g3,g4⟩:=hnA b o h;obtain⟨_,hA,hb'⟩:=hpA b o h;rcases hm with hm | ⟨h1,h2⟩
     · exact af8 A b o (by rw[hA];rfl) hb' acO hm
     · rcases g3 with h | h
       · omega
       · exact h2 h
  have hput:∀ (hp:Heap) (x:Nat),look (fC hp [(A,.arr sa ks ys),(s,.box [.slice A ks.length off' len'])]) x=if x=s then some (.box [.slice A ks.length off' len']) else if x=A then some (.arr sa ks ys) else look hp x:=by intro hp x;show look (put (put hp A _) s _) x=_;rw[dS,dS]
  have ajG:Yb st.heap [(A,.arr sa ks ys),(s,.box [.slice A ks.length off' len'])]:=by
   intro x b hx;simp at hx;rcases hx with ⟨rfl,_⟩ | ⟨rfl,_⟩
   · exact .inl hA1
   · exact .inl hs1
  cases hkp:fi.cfg.vkeep with
  | true =>
   rw[hkp]at hk bc1;obtain⟨k1,k2,k3⟩:=q9 hkp;rw[bc1]at k1;have hn:nw=[]∧look st.heap A=some (.arr sa ks xs):=by
    rcases hcase with ⟨h1,h2,_⟩ | ⟨_,_,_,_,_,h⟩
    · exact⟨h1,h2⟩
    · rw[hkp]at h;cases h
   have aeF:pA=β A:=by exact aou hn.1
   have hA1:=ahI hn.1;have r2:Rel w0 Pr M0 M' β { st1 with heap:=fC st1.heap [(A,.arr sa ks ys),(s,.box [.slice A ks.length off' len'])] } a w':=by
    refine r1.Rh post.size post.os post.tape post.output hkM (fun b n hb h hr=>?_) post.gU (fun b hb=>?_) (fun x hx=>?_) (fun x blk hx=>?_)
    · rcases h with ⟨x,o,blk,h1,h2,h3⟩ | ⟨h1,h2⟩
      · by_cases e1:x=s
        · subst e1;rw[hs1']at h1;cases h1;exact h3.elim
        · by_cases e2:x=A
          · subst e2;exact k3 b o n (by rw[k1,aeF];exact h2) hr
          · refine hr.of_block (hkeep b hb (fun e=>?_) fun o' h=>?_)
            · subst e;exact e1 (r1.inj x s b o bo (by rw[h1];rfl) (by rw[hs1'];rfl) h2 q1)
            · rw[aeF]at h;exact e2 (r1.inj x A b o o' (by rw[h1];rfl) (by rw[hA1];rfl) h2 h)
      · refine hr.of_block (hkeep b hb (fun e=>by omega) fun o' h=>?_);have:=(hnA b o' h).2.2.2;omega
    · rcases post.lY b hb with h | h | ⟨o,h⟩
      · exact .inl h
      · exact .inr ⟨h,post.mlt b hb⟩
      · rw[hkp,bc1]at h;exact absurd hb (q8 b o (by rw[k1];exact h)).1
    · rw[hput];have h1:x≠s:=by rintro rfl;rw[hs1']at hx;cases hx
      have h2:x≠A:=by rintro rfl;rw[hA1]at hx;cases hx
      rw[if_neg h1,if_neg h2];exact hx
    · rw[hput];by_cases e1:x=s
      · subst e1;rw[hs1']at hx;cases hx;refine⟨_,if_pos rfl,.inr ⟨rfl,?_⟩⟩;refine .box _ bb bo Cb eb fb q1 q3 (by simpa using q4) q5 (fun c hc=>by simp at hc;subst hc;rfl) fun j c hj=>?_;cases j with
        | succ j=>simp at hj
        | zero =>simp at hj;subst hj;exact q6.kM rfl (by rw[hput,if_neg hAs,if_pos rfl]) (by rw[k1,aeF])
      · rw[if_neg e1];by_cases e2:x=A
        · subst e2;rw[hA1]at hx;cases hx;exact⟨_,if_pos rfl,.inr ⟨⟨rfl,rfl,k2⟩,q7.Gz (fun _ h=>h) (by rw[k1,aeF])⟩⟩
        · refine⟨blk,by rw[if_neg e2];exact hx,.inl ⟨rfl,fun b o h=>hkeep b (r1.own x b o (by rw[hx];rfl) h).2.1 (fun e=>?_) fun o' h'=>?_⟩⟩
          · subst e;exact e1 (r1.inj x s b o bo (by rw[hx];rfl) (by rw[hs1'];rfl) h q1)
          · rw[aeF]at h';exact e2 (r1.inj x A b o o' (by rw[hx];rfl) (by rw[hA1];rfl) h h')
   obtain⟨β2,r3,tX⟩:=r2.results (d:=d) abk hres (fun s hs=>by simp[keysOf]at hs) (fun b o hb=>absurd (hps _ hb) (by simp)) (fun j s blk hj=>by simp at hj);refine⟨_,M',β2,hk,post.drawn,fun _=>⟨?_,fun x _=>tX x (by simp[keysOf]),ku ajG⟩⟩;rw[hd];have e:st.apply (some d) { val:=mg rv,qI:=[(A,.arr sa ks ys),(s,.box [.slice A ks.length off' len'])],new:=nw,cut:=cond true [] [A],Ed:=ss }={ env:=Skm.setEnv st1.env (some d) (mg rv),heap:=fC (fC st1.heap [(A,.arr sa ks ys),(s,.box [.slice A ks.length off' len'])]) [] }:=by rw[← agQ];rfl
   rw[e];exact r3
  | false =>
   rw[hkp]at hk bc1;have r2:Rel w0 Pr M0 (dR M β ss) β (st1.strike [A]) a w:=r1.strike [A] (fun _ h=>h) fun _ h=>.inl h;have hst2:∀ x,look (st1.strike [A]).heap x=if x=A then none else(look st1.heap x).map (cu.kill [A]):=fun x=>by rw[fQ];simp
   have hs2:look (st1.strike [A]).heap s=some (.box [AV.kill [A] v]):=by rw[hst2,if_neg hsA,hs1'];rfl
   have Ru:∀ x,(look (st1.strike [A]).heap x).isSome=true→x≠A∧(look st1.heap x).isSome=true:=by
    intro x hx;rw[hst2]at hx;by_cases e:x=A
    · rw[if_pos e]at hx;cases hx
    · rw[if_neg e]at hx;exact⟨e,by simpa using hx⟩
   have hapart:∀ x b o,(look (st1.strike [A]).heap x).isSome=true→β x=some (b,o)→∀ o',pA≠some (b,o'):=by intro x b o hx hb o' h;obtain⟨hn,hA,h⟩:=hpA b o' h;exact(Ru x hx).1 (r1.inj x A b o o' (Ru x hx).2 (by rw[ahI hn];rfl) hb h)
   generalize ajI:st1.strike [A]=st2 at r2 hst2 hs2 Ru hapart;have r3:Rel w0 Pr M0 (fun b=>M' b∧(dR M β ss b∨w.heap.size≤b)) β { st2 with heap:=put st2.heap s (.box [.undef]) } a w':=by
    refine r2.Rh post.size post.os post.tape post.output hkM (fun b n hb h hr=>?_) (fun b h=>⟨post.gU b h,.inl h⟩) (fun b hb=>hb.2.imp id fun h=>⟨h,post.mlt b hb.1⟩) (fun x hx=>?_) (fun x blk hx=>?_)
    · rcases h with ⟨x,o,blk,h1,h2,h3⟩ | ⟨h1,h2⟩
      · by_cases e1:x=s
        · subst e1;rw[hs2]at h1;cases h1;exact h3.elim
        · refine hr.of_block (hkeep b hb (fun e=>?_) (hapart x b o (by rw[h1];rfl) h2));subst e;exact e1 (r2.inj x s b o bo (by rw[h1];rfl) (by rw[hs2];rfl) h2 q1)
      · refine hr.of_block (hkeep b hb (fun e=>by omega) fun o' h=>?_);have:=(hnA b o' h).2.2.2;omega
    · have h1:x≠s:=by rintro rfl;rw[hs2]at hx;cases hx
      rw[dS,if_neg h1];exact hx
    · rw[dS];by_cases e1:x=s
      · subst e1;rw[hs2]at hx;cases hx;refine⟨_,if_pos rfl,.inr ⟨rfl,?_⟩⟩;refine .box _ bb bo Cb eb fb q1 q3 (by simpa using q4) q5 (fun c hc=>by simp at hc;subst hc;rfl) fun j c hj=>?_;cases j with
        | succ j=>simp at hj
        | zero=>simp at hj;subst hj;exact .undef _
      · refine⟨blk,by rw[if_neg e1];exact hx,.inl ⟨rfl,fun b o h=>hkeep b (r2.own x b o (by rw[hx];rfl) h).2.1 (fun e=>?_) (hapart x b o (by rw[hx];rfl) h)⟩⟩;subst e;exact e1 (r2.inj x s b o bo (by rw[hx];rfl) (by rw[hs2];rfl) h q1)
   have ZW:∀ x,(look (put st2.heap s (.box [.undef])) x).isSome=true→(look st2.heap x).isSome=true:=by
    intro x hx;rw[dS]at hx;by_cases e:x=s
    · subst e;rw[hs2];rfl
    · rw[if_neg e]at hx;exact hx
   have r4:Rel w0 Pr M0 M' β { st2 with heap:=put st2.heap s (.box [.undef]) } a w':=by
    refine r3.more (fun b h=>h.1) fun b hb=>?_;rcases post.lY b hb with h | h | ⟨o,h⟩
    · exact .inl ⟨hb,.inl h⟩
    · exact .inl ⟨hb,.inr h⟩
    · rw[hkp,bc1]at h;obtain⟨g1,g2,g3,g4⟩:=hnA b o h;exact .inr ⟨by have:=post.size;omega,⟨g4,g3⟩,fun x o' hx hb'=>hapart x b o' (ZW x hx) hb' o h⟩
   have hfree:look (put st2.heap s (.box [.undef])) A=none:=by rw[dS,if_neg hAs,hst2,if_pos rfl]
   have r5:=r4.lay (s:=A) (blk:=.arr sa ks ys) hfree (p:=p) (fun b o hp=>by obtain⟨g1,g2,g3,g4⟩:=hpo b o hp;exact⟨g1,g2,g3,fun x o' hx=>hpl b o hp x o' (Ru x (ZW x hx)).1 (Ru x (ZW x hx)).2⟩) (q7.Gz (fun _ h=>h) (by simp));have r6:Rel w0 Pr M0 M' (fun x=>if x=A then p else β x) { st2 with heap:=put (put (put st2.heap s (.box [.undef])) A (.arr sa ks ys)) s (.box [.slice A ks.length off' len']) } a w':=by
    refine r5.Rh (Nat.le_refl _) rfl rfl rfl (fun _ _ _=>rfl) (fun _ _ _ _ h=>h) (fun _ h=>h) (fun _ h=>.inl h) (fun x hx=>?_) (fun x blk hx=>?_)
    · have h1 : x ≠ s := by rintro rfl;have hx:look (put (put st2.heap x (.box [.undef])) A (.arr sa ks ys)) x=none:=hx;rw[dS,if_neg hsA,dS,if_pos rfl]at hx;cases hx
      rw[dS,if_neg h1];exact hx
    · rw[dS];by_cases e1:x=s
      · subst e1;have hx:look (put (put st2.heap x (.box [.undef])) A (.arr sa ks ys)) x=some blk:=hx;rw[dS,if_neg hsA,dS,if_pos rfl]at hx;cases hx;refine⟨_,if_pos rfl,.inr ⟨rfl,?_⟩⟩;refine .box _ bb bo Cb eb fb (by simp only[if_neg hsA];exact q1) q3 (by simpa using q4) q5 (fun c hc=>by simp at hc;subst hc;rfl) fun j c hj=>?_;cases j with
        | succ j=>simp at hj
        | zero =>simp at hj;subst hj;exact q6.kM rfl (by rw[dS,if_neg hAs,dS,if_pos rfl]) (by simp)
      · exact⟨blk,by rw[if_neg e1];exact hx,.inl ⟨rfl,fun _ _ _=>rfl⟩⟩
   obtain⟨β2,r7,tX⟩:=r6.results (d:=d) abk hres (fun s hs=>by simp[keysOf]at hs) (fun b o hb=>absurd (hps _ hb) (by simp)) (fun j s blk hj=>by simp at hj);refine⟨_,M',β2,hk,post.drawn,fun _=>⟨?_,fun x hx=>(tX x (by simp[keysOf])).trans (if_neg (by omega)),ku ajG⟩⟩;rw[hd];have e:st.apply (some d) { val:=mg rv,qI:=[(A,.arr sa ks ys),(s,.box [.slice A ks.length off' len'])],new:=nw,cut:=cond false [] [A],Ed:=ss }={ env:=Skm.setEnv st2.env (some d) (mg rv),heap:=fC (iV [A] st1.heap) [(A,.arr sa ks ys),(s,.box [.slice A ks.length off' len'])] }:=by rw[← ajI,← agQ];rfl
   rw[e];refine Rel.congr (st:={ env:=Skm.setEnv st2.env (some d) (mg rv),heap:=put (put (put st2.heap s (.box [.undef])) A (.arr sa ks ys)) s (.box [.slice A ks.length off' len']) }) r7 fun x=>?_;show look (fC (iV [A] st1.heap) _) x=look (put (put (put st2.heap s (.box [.undef])) A (.arr sa ks ys)) s (.box [.slice A ks.length off' len'])) x;rw[hput,dS];by_cases e1:x=s
   · rw[if_pos e1,if_pos e1]
   · rw[if_neg e1,if_neg e1,dS];by_cases e2:x=A
     · rw[if_pos e2,if_pos e2]
     · rw[if_neg e2,if_neg e2,dS,if_neg e1,iY,hst2,if_neg e2]
theorem af9 (ok : dZ P T) {C : aS} (hC : jl P T w0.gl C) (r : Rel w0 Pr M0 M β st a w) {h' : Nat → Option cu} (hsub : ∀ s b,h' s = some b → look st.heap s = some b) {f : Nat} {args : List AV} {aY : Array Value}
    (Wp:(jo T f).vcall=true) (hargs:mX w M β (look st.heap) args aY.toList) (he:(execOp a.eval o).run P w=(callFunc f aY).run P w):fU P w0 Pr M0 β st a w o (OX T C h' o.dst f args):=by
  have fail:fU P w0 Pr M0 β st a w o .fail:=⟨fun _ _ _ _ hk=>by simp[DT.run]at hk⟩;unfold OX;split
  · rename_i d fi pre s hd hf hu;have ajJ:fi.cfg.vcall=true:=by rw[← Wp];simp[jo,hf]
    have ha:=Ro hu;subst ha;split
    · rename_i A z off len hs;split
      · rename_i sa ks xs hA;exact Us ok hC r hsub hd hf ajJ hargs he (hsub _ _ hs) (.inl ⟨rfl,hsub _ _ hA,z,rfl⟩)
      · exact fail
    · rename_i hs;cases hk:fi.cfg.vkeep with
      | true=>exact fail
      | false=>exact Us ok hC r hsub hd hf ajJ hargs he (hsub _ _ hs) (.inr ⟨rfl,rfl,rfl,rfl,rfl,hk⟩)
    · exact fail
  · exact fail
end
end Go.Skm
namespace Go.Skm
section
variable {P:Program} {T:Tab} {w0:Base} {Pr M0 M:Nat→Prop} {β:Nat→Option (Nat × Nat)} {st:St} {a:Act} {w:World} {o:Oper}
theorem Iq {b1:cu} (s:Nat):look [(99999,b1)] s=if s=99999 then some b1 else none:=by
 simp only[look];by_cases h:s=99999
 · subst h;simp
 · have:(99999==s)=false:=by simp;exact fun e=>h e.symm
   rw[this,if_neg h];rfl
theorem aeG (ok : dZ P T) {C : aS} (hC : jl P T w0.gl C) (r : Rel w0 Pr M0 M β st a w) {h' : Nat → Option cu} (hsub : ∀ s b,h' s = some b → look st.heap s = some b) {f : Nat} {args : List AV} {aY : Array Value}
    (htk:(jo T f).take=true) (hargs:mX w M β (look st.heap) args aY.toList) (he:(execOp a.eval o).run P w=(callFunc f aY).run P w):fU P w0 Pr M0 β st a w o (KJ T C h' o.dst f args):=by
  have fail:fU P w0 Pr M0 β st a w o .fail:=⟨fun _ _ _ _ hk=>by simp[DT.run]at hk⟩;unfold KJ;split
  case h_2=>exact fail
  rename_i d fi A z off len rest hd hf;have aow:fi.cfg.take=true:=by rw[← htk];simp[jo,hf]
  split
  case h_2=>exact fail
  rename_i sa ks xs hA0;have hA:=hsub _ _ hA0;split
  case h_2=>exact fail
  rename_i vs hdp;refine⟨fun hnd α k res hk rd n Q=>?_⟩;obtain⟨⟨rs,jX⟩,hcall,hk⟩:=Ip hk;obtain⟨hbody,JC⟩:=hC.take f fi _ _ _ _ rs jX hf aow hcall;have hnum:aY.size=rest.length+1:=by have:=hargs.1;simp at this;omega
  have h0:AR w M β (look st.heap) (.slice A z off len) (aY.getD 0 undef):=by
   have hc:aY.toList[0]?=some (aY.getD 0 undef):=by
    rw[qLd (by simp;omega)];have:0<aY.size:=by omega
    simp[this]
   exact hargs.2 0 _ _ rfl hc
  have hargs0:mX w M β (look st.heap) rest aY.toList.tail:=by refine⟨by simp;omega,fun i x c hi hc=>hargs.2 (i+1) x c (by simpa using hi) (by simpa using hc)⟩
  obtain⟨d1,d2,d3⟩:=Gn (fun s b h=>r.heap s b (hsub s b h)) hsub hdp hargs0;have d1:vs.length=rest.length:=by rw[d1];simp;omega
  cases hres:rF T d [] 0 fi.cfg.rets fi.fn.resultTypes.toList rs with
  | none=>rw[hres]at hk;simp[DT.run]at hk
  | some xb =>
  obtain⟨rv,bs⟩:=xb;rw[hres]at hk;simp only[DT.run]at hk;refine wV hnd ?_;rw[he,D5 ok hf hbody,Oper.uponIn_enter];refine⟨xZ rd,wG rd ?_⟩;have hiA:(look st.heap A).isSome=true:=by rw[hA];rfl
  have hz:z=ks.length:=by
   generalize aY.getD 0 undef=u at h0;cases h0 with
   | slice _ _ _ a' ks' xs' b' o' cap h1 hl hb hcap hr=>rw[hA]at h1;cases h1;rfl
   | sliceE _ _ a' ks' xs' base h1 hl=>rw[hA]at h1;cases h1;rfl
  subst hz;have hpre:OY w (dR M β []) (fun _=>β A) (.slice 99999 ks.length off len::vs.map .p) (.arr sa ks xs) aY:=by
   refine⟨by simp[d1,hnum],fun i x hi=>?_,?_,fun b o' hb=>?_,fun b hb=>?_⟩
   · cases i with
     | zero =>simp at hi;subst hi;exact(h0.kM hA (by rw[Iq,if_pos rfl]) rfl)
     | succ i =>
      simp only[List.getElem?_cons_succ,List.getElem?_map,Option.map_eq_some_iff]at hi;obtain⟨y,hy,rfl⟩:=hi;have hlt:=(qLa.1 hy).1;have hc:aY.toList.tail[i]?=some (aY.getD (i+1) undef):=by
       rw[List.getElem?_tail,qLd (by simp;omega)];have:i+1<aY.size:=by omega
       simp[this]
      exact .p _ _ (d2 i y _ hy hc)
   · exact(r.heap A _ hA).Gz (fun b h=>.inl h) rfl
   · obtain⟨g1,g2,_⟩:=r.own A b o' hiA hb;refine⟨fun h=>?_,g2⟩;rcases h with h | ⟨s',_,hs',_⟩
     · exact g1 h
     · simp at hs'
   · rcases hb with hb | ⟨s',_,hs',_⟩
     · exact r.gU b hb
     · simp at hs'
  refine Calls.mono (JC w _ (fun _=>β A) aY (fun p hp=>⟨.inl (r.glob p hp).1,(r.glob p hp).2⟩) hpre) fun e w' hpost=>?_;obtain⟨cs,ps,M',rfl,post⟩:=hpost;refine⟨⟨_,rfl⟩,?_⟩;show ∃ e M' β',_;have hM0:∀ b,dR M β [] b↔M b:=fun b=>⟨fun h=>by
   rcases h with h | ⟨s',_,hs',_⟩
   · exact h
   · simp at hs',.inl⟩
  refine⟨{ val:=mg rv,qI:=bs,new:=A::keysOf bs },M',?_⟩;by_cases hfz:¬ jq ((A::keysOf bs)++[])=true
  · exact⟨β,hk,post.drawn,fun h=>absurd h hfz⟩
  have hfz:jq ((A::keysOf bs)++[])=true:=Classical.not_not.1 hfz;have ajF:ah=100000:=rfl;have hA1:A<100000:=pF hfz A (by simp);have r1:Rel w0 Pr M0 M β (st.strike (present st.heap (A::keysOf bs)++[])) a w:=r.strike _ (fun _ h=>h) fun _ h=>.inl h;have hnA:(look (st.strike (present st.heap (A::keysOf bs)++[])).heap A)=none:=yx (by simp);have hnk:∀ s∈keysOf bs,look (st.strike (present st.heap (A::keysOf bs)++[])).heap s=none:=fun s hs=>yx (by simp[hs]);have Rq:∀ x,(look (st.strike (present st.heap (A::keysOf bs)++[])).heap x).isSome=true→(look st.heap x).isSome=true:=fun x hx=>(NV hx).2;generalize hst1:st.strike (present st.heap (A::keysOf bs)++[])=st1 at r1 hnA hnk Rq;obtain⟨oA1,oA2,oA3⟩:(∀ b o',β A=some (b,o')→¬ M b)∧(∀ b o',β A=some (b,o')→b<w.heap.size)∧(∀ b o',β A=some (b,o')→(w0.heap.size≤b∨Pr b)∧w0.n0≤b):=by refine⟨fun b o' h=>(r.own A b o' hiA h).1,fun b o' h=>(r.own A b o' hiA h).2.1,fun b o' h=>?_⟩;obtain⟨_,_,g3,g4⟩:=r.own A b o' hiA h;exact⟨g3,by rcases g4 with g | g<;>omega⟩
  have hapart:∀ x b o',(look st1.heap x).isSome=true→β x=some (b,o')→∀ o'',β A≠some (b,o''):=by intro x b o' hx hb o'' h;have:=r.inj x A b o' o'' (Rq x hx) hiA hb h;subst this;rw[hnA]at hx;cases hx
  have hkM:∀ b,b<w.heap.size→(M b∨(b<w0.heap.size∧¬ Pr b))→w'.heap[b]?=w.heap[b]?:=by
   intro b hb hm;refine post.keep b hb fun o' h=>?_;rcases hm with hm | ⟨h1,h2⟩
   · exact oA1 b o' h hm
   · rcases(oA3 b o' h).1 with h' | h'
     · omega
     · exact h2 h'
  have r3:Rel w0 Pr M0 (fun b=>M' b∧(M b∨w.heap.size≤b)) β { st1 with heap:=st1.heap } a w':=by
   refine r1.Rh post.size post.os post.tape post.output hkM (fun b n hb h hr=>?_) (fun b h=>⟨post.gU b (.inl h),.inl h⟩) (fun b hb=>hb.2.imp id fun h=>⟨h,post.mlt b hb.1⟩) (fun x hx=>hx) (fun x blk hx=>?_)
   · rcases h with ⟨x,o',blk,h1,h2,h3⟩ | ⟨h1,h2⟩
     · exact hr.of_block (post.keep b hb (hapart x b o' (by rw[h1];rfl) h2))
     · refine hr.of_block (post.keep b hb fun o' h'=>?_);have:=(oA3 b o' h').2;omega
   · exact⟨blk,hx,.inl ⟨rfl,fun b o' h=>post.keep b (r1.own x b o' (by rw[hx];rfl) h).2.1 (hapart x b o' (by rw[hx];rfl) h)⟩⟩
  have r4:Rel w0 Pr M0 M' β st1 a w':=by
   refine r3.more (fun b h=>h.1) fun b hb=>?_;rcases post.lY b hb with h | h | ⟨o',h⟩
   · exact .inl ⟨hb,.inl ((hM0 b).1 h)⟩
   · exact .inl ⟨hb,.inr h⟩
   · exact .inr ⟨by have:=oA2 b o' h;have:=post.size;omega,⟨(oA3 b o' h).2,(oA3 b o' h).1⟩,fun x o'' hx hb'=>hapart x b o'' hx hb' o' h⟩
  obtain⟨β1,h1,abk⟩:=post.res;obtain⟨β2,r5,tX⟩:=r4.results (d:=d) abk hres hnk (fun b o' hb=>by
   obtain⟨g1,g2,g3⟩:=post.own b o' hb;refine⟨g1,g2,?_,fun s' o'' hs' tX=>?_⟩
   · rcases g3 with g3 | ⟨o'',g3⟩
     · exact⟨.inl (by have:=r.size;omega),by have:=r.size;have:=w0.le';omega⟩
     · exact oA3 b o'' g3
   · rcases g3 with g3 | ⟨o3,g3⟩
     · have:=(r1.own s' b o'' hs' tX).2.1;omega
     · exact hapart s' b o'' hs' tX o3 g3) (fun j s blk hj=>by simp at hj)
  refine⟨β2,hk,post.drawn,fun _=>⟨?_,fun s hs=>tX s fun hk=>?_,ku fun k b hkb=>.inl ?_⟩⟩
  · rw[hd];have e:st.apply (some d) { val:=mg rv,qI:=bs,new:=A::keysOf bs }={ env:=Skm.setEnv st1.env (some d) (mg rv),heap:=fC st1.heap bs }:=by rw[← hst1];rfl
    rw[e];exact r5
  · have:=pF hfz s (by simp[hk]);omega
  · refine pF hfz k ?_;have:∀ (l:List (Nat × cu)),(k,b)∈l→k∈keysOf l:=by
     intro l;induction l with
     | nil=>intro h;simp at h
     | cons x r ih =>
      intro h;rcases List.mem_cons.1 h with rfl | h
      · simp[keysOf]
      · simp[keysOf,ih h]
    simp[this _ hkb]
end
end Go.Skm
namespace Go.Skm
section
variable {P:Program} {T:Tab} {w0:Base} {Pr M0 M:Nat→Prop} {β:Nat→Option (Nat × Nat)} {st:St} {a:Act} {w:World} {o:Oper}
theorem Rel.l7 (r:Rel w0 Pr M0 M β st a w):∀ (l:List Operand),mX w M β (look st.heap) (Skm.l7 st.env l) (l.map a.eval)
 | []=>⟨rfl,fun i x c h=>by simp[Skm.l7]at h⟩
 | x::l=>by
  obtain⟨h1,h2⟩:=r.l7 l;refine⟨by simp[Skm.l7,h1],fun i y c hy hc=>?_⟩;cases i with
  | zero=>simp[Skm.l7]at hy hc;subst hy hc;exact r.dJ x
  | succ i=>simp only[Skm.l7,List.map_cons,List.getElem?_cons_succ]at hy hc;exact h2 i y c hy hc
theorem Rel.Ir (r:Rel w0 Pr M0 M β st a w) (l:Array Operand):mX w M β (look st.heap) (Skm.l7 st.env l.toList) (l.map a.eval).toList:=by rw[Array.toList_map];exact r.l7 l.toList
theorem Rel.jR (r:Rel w0 Pr M0 M β st a w):∀ (l:List (Nat × Operand)),QS w M β (look st.heap) (Skm.jR st.env l) (l.map fun (i,x)=>(i,a.eval x))
 | []=>⟨rfl,fun i x c h=>by simp[Skm.jR]at h⟩
 | (n,x)::l=>by
  obtain⟨h1,h2⟩:=r.jR l;refine⟨by simp[Skm.jR,h1],fun i y c hy hc=>?_⟩;cases i with
  | zero=>simp[Skm.jR]at hy hc;subst hy hc;exact⟨rfl,r.dJ x⟩
  | succ i=>simp only[Skm.jR,List.map_cons,List.getElem?_cons_succ]at hy hc;exact h2 i y c hy hc
theorem Rel.Rw (r:Rel w0 Pr M0 M β st a w) (l:Array (Nat × Operand)):QS w M β (look st.heap) (Skm.jR st.env l.toList) (l.map fun (i,x)=>(i,a.eval x)).toList:=by rw[Array.toList_map];exact r.jR l.toList
theorem Rel.mD (r:Rel w0 Pr M0 M β st a w) (x:Option Operand):QU w M β (look st.heap) (Skm.mD st.env x) (x.map a.eval):=by
 cases x with
 | none=>exact True.intro
 | some x=>exact r.dJ x
theorem fU.fail:fU P w0 Pr M0 β st a w o .fail:=⟨fun _ _ _ _ hk=>by simp[DT.run]at hk⟩
theorem fU.val (r:Rel w0 Pr M0 M β st a w) {D:DT} {sem:Sem Value} (h:aH P w M β (look st.heap) D sem) (e:execOp a.eval o=(do pure (.value (← sem)))):fU P w0 Pr M0 β st a w o D :=
 dF.op (by rw[e];exact dF.MW r h)
theorem dF.Ut {d:Option Nat} {D:DT} {s1 s2:Sem Next} (h:dF P w0 Pr M0 β st a w d D s1) (e:s2.run P w=s1.run P w):dF P w0 Pr M0 β st a w d D s2 :=
 ⟨fun α k q hk=>by rw[e];exact h.sim α k q hk⟩
theorem fU.of {D:DT} {sem:Sem Next} (h:dF P w0 Pr M0 β st a w o.dst D sem) (e:execOp a.eval o=sem):fU P w0 Pr M0 β st a w o D :=
 dF.op (by rw[e];exact h)
theorem aga (r : Rel w0 Pr M0 M β st a w) {d : Nat} {sa : Bool} {ks : List Kd} :
    dF P w0 Pr M0 β st a w (some d) (.ret { val:=.slice d ks.length 0 0,qI:=[(d,.arr sa ks [])],new:=[d] }) (pure (.value (.slice none 0 0))):=by
  refine dF.ret (nv:=.value (.slice none 0 0)) (c:=.slice none 0 0) (w':=w) (M':=M) (β':=fun x=>if x=d then none else β x) (by simp) (.inl rfl) (fun _=>?_) (fun hf=>xA (ss:=[]) hf);have r1:Rel w0 Pr M0 M β (st.strike (present st.heap [d]++[])) a w:=r.strike _ (fun b h=>h) fun b h=>.inl h;have h0:look (st.strike (present st.heap [d]++[])).heap d=none:=yx (by simp);rw[Tn];generalize st.strike (present st.heap [d]++[])=st1 at r1 h0;have r2:=r1.lay (s:=d) (blk:=.arr sa ks []) h0 (p:=none) (fun b o h=>by cases h) (.jS _ _);refine r2.setEnv (some d) ?_;exact .sliceE d 0 sa ks [] none (by simp[dS]) (by simp)
theorem aeH (ok : dZ P T) (r : Rel w0 Pr M0 M β st a w) {f : Nat} {args : List AV} {aY : Array Value} (hp : (jo T f).Jg.is = true)
    (hargs:mX w M β (look st.heap) args aY.toList) (he:(execOp a.eval o).run P w=(callFunc f aY).run P w):fU P w0 Pr M0 β st a w o (QA (jo T f).Jg o.dst args):=by
  obtain⟨fi,hf,aox⟩:∃ fi,dN T.funcs f=some fi∧jo T f=fi.cfg:=by
   unfold jo at hp ⊢;cases hf:dN T.funcs f with
   | none=>rw[hf]at hp;cases hp
   | some fi=>exact⟨fi,rfl,rfl⟩
  rw[aox]at hp ⊢;have hC:=ok.adt f fi hf;cases hpr:fi.cfg.Jg with
  | carry b =>
   rw[hpr]at hC;unfold QA;split
   all_goals first
    | exact fU.fail
    | (next heq=>cases heq)
    | skip
   next d b' x y c hd hb =>
    cases hb;obtain⟨v0,v1,v2,hca⟩:∃ v0 v1 v2,aY=#[v0,v1,v2]:=by
     have:=hargs.1;simp only[List.length_cons,List.length_nil,Array.length_toList]at this;exact⟨aY[0],aY[1],aY[2],by
      apply Array.ext
      · simp;omega
      · intro i h1 h2;have:i=0∨i=1∨i=2:=by simp at h2;omega
        rcases this with rfl | rfl | rfl<;>rfl⟩
    subst hca;have i0:=(hargs.2 0 _ v0 rfl rfl).Au;have i1:=(hargs.2 1 _ v1 rfl rfl).Au;have i2:=(hargs.2 2 _ v2 rfl rfl).Au;subst i0 i1 i2;refine dF.op (dF.chk fun hc=>?_);simp only[qBa,qDa]at hc;obtain⟨h0,h1,h2,h3⟩:=hc;have hrun:=hC w x.toNat y.toNat c.toNat (by omega);rw[Int.toNat_of_nonneg h0,Int.toNat_of_nonneg h1,Int.toNat_of_nonneg h2]at hrun;refine dF.Ut (dF.MW r (aH.ret (c:=.tuple #[.int .u64 (lU b x.toNat y.toNat c.toNat),.int .u64 (ni b x.toNat y.toNat c.toNat)]) (sem:=pure (.tuple #[.int .u64 (lU b x.toNat y.toNat c.toNat),.int .u64 (ni b x.toNat y.toNat c.toNat)])) ?_ rfl)) ?_
    · refine .qY _ _ rfl fun i c hi=>?_
      match i,hi with
      | 0,hi=>cases hi;exact .p _ _ (.int _ _)
      | 1,hi=>cases hi;exact .p _ _ (.int _ _)
      | i+2,hi=>simp at hi
    · rw[he,hrun];simp only[Sem.run_bind,Sem.run_pure,qRa]
  | none=>rw[hpr]at hp;cases hp
theorem Rx (ok : dZ P T) {C : aS} (hC : jl P T w0.gl C) (r : Rel w0 Pr M0 M β st a w) {h' : Nat → Option cu} (hsub : ∀ s b,h' s = some b → look st.heap s = some b) {f : Nat} {args : List AV} {aY : Array Value}
    (hargs:mX w M β (look st.heap) args aY.toList) (he:(execOp a.eval o).run P w=(callFunc f aY).run P w):fU P w0 Pr M0 β st a w o (Ar T C h' o.dst f args):=by
  unfold Ar;cases hp:(jo T f).Jg.is with
  | true =>simp only[cond_true];exact aeH ok r hp hargs he
  | false =>
  simp only[cond_false];cases Wp:(jo T f).vcall with
  | true=>exact af9 ok hC r hsub Wp hargs he
  | false =>
  simp only[cond_false];cases htk:(jo T f).take with
  | true=>exact aeG ok hC r hsub htk hargs he
  | false =>
  simp only[cond_false];cases hd:o.dst with
  | none=>simp only[uN];exact fU.fail
  | some d =>
   cases hf:dN T.funcs f with
   | none=>simp only[uN,hf];exact fU.fail
   | some fi =>
    rw[← hd];cases hm:fi.cfg.vY with
    | false=>exact acM ok hC r hsub hd hf hm hargs he
    | true=>exact acN ok hC r hsub hd hf hm hargs he
theorem rO {ρ : Operand → Value} {dst : Option Tmp} {b : Builtin} {args : Array Operand} {ts : Array TypeId} {type : TypeId} {pos : String} {after : Array Edge} {guard : Option (Nat × Bool)} :
    execOp ρ ⟨dst,.call ⟨.builtin b,args,ts⟩,type,pos,after,guard⟩=builtin b ts type (args.map fun | .const _=>true | _=>false) (args.map ρ):=rfl
theorem Ry {ρ : Operand → Value} {dst : Option Tmp} {fo : Operand} {args : Array Operand} {ts : Array TypeId} {type : TypeId} {pos : String} {after : Array Edge} {guard : Option (Nat × Bool)} {f : Nat} {vs : Array Value} (h : ρ fo = .func (.func f) #[] vs) :
    (execOp ρ ⟨dst,.call ⟨.value fo,args,ts⟩,type,pos,after,guard⟩)=callFunc f (args.map ρ++vs):=by
  simp only[execOp,resolve,h,Deferred.ofValue];simp[invoke]
theorem mX.append {w:World} {M:Nat→Prop} {β:Nat→Option (Nat × Nat)} {h:Nat→Option cu}:∀ {xs ys:List AV} {cs ds:List Value},mX w M β h xs cs→mX w M β h ys ds→mX w M β h (xs++ys) (cs++ds)
 | [],ys,[],ds,_,h2=>h2
 | x::xs,ys,c::cs,ds,h1,h2=>by
  obtain⟨g1,g2⟩:=h1.cons;obtain⟨k1,k2⟩:=g2.append h2;refine⟨by simp[k1],fun i y e hy he=>?_⟩;cases i with
  | zero=>simp at hy he;subst hy he;exact g1
  | succ i=>simp at hy he;exact k2 i y e hy he
 | [],_,_::_,_,h1,_=>by have:=h1.1;simp at this
 | _::_,_,[],_,h1,_=>by have:=h1.1;simp at this
theorem ahJ (ok : dZ P T) {C : aS} (hC : jl P T w0.gl C) (r : Rel w0 Pr M0 M β st a w) {h' : Nat → Option cu} (hsub : ∀ s b,h' s = some b → look st.heap s = some b) :
    fU P w0 Pr M0 β st a w o (fG T C st.env h' o):=by
  have hh:=r.heap;obtain⟨dst,op,type,pos,after,guard⟩:=o;cases op with
  | move x=>exact fU.of (sem:=pure (.value (a.eval x))) (dF.ret (nv:=.value (a.eval x)) (by simp) (.inl rfl) (fun _=>r.setEnv dst (r.dJ x)) (fun _ _ _=>rfl) (fun _=>KT)) rfl
  | assign x =>
   have plain:dF P w0 Pr M0 β st a w dst (.ret { val:=Skm.dJ st.env x }) (pure (.value (a.eval x))) :=
    dF.ret (nv:=.value (a.eval x)) (by simp) (.inl rfl) (fun _=>r.setEnv dst (r.dJ x)) (fun _ _ _=>rfl) (fun _=>KT)
   simp only[fG];split
   · exact fU.of (aga r) rfl
   · exact fU.of plain rfl
  | pick c x y=>refine fU.of ((dF.MW r (aep (r.dJ c) (r.dJ x) (r.dJ y))).Ut (s2:=do pure (.value (if ← asBool (a.eval c) then a.eval x else a.eval y))) ?_) rfl;simp only[Sem.run_bind];cases (asBool (a.eval c)).run P w<;>simp
  | alloc t=>exact fU.of (acC ok r) rfl
  | box t v=>exact fU.of (af4 r (r.dJ v)) rfl
  | build t ps=>exact fU.val r (acy ok (r.Rw ps)) rfl
  | buildSlice t len ps =>exact fU.of (QZ ok r hsub (r.Rw ps)) rfl
  | load t x=>exact fU.val r (X7 ok hsub hh (r.dJ x)) rfl
  | store t x v=>exact fU.of (acH ok r hsub (r.dJ x) (r.dJ v)) rfl
  | binOp op t x y _=>exact fU.val r (af0 ok x y (r.dJ x) (r.dJ y)) rfl
  | unOp op _ x=>exact fU.val r (ahE (r.dJ x)) rfl
  | convert s t x=>exact fU.of (Yf ok r hsub (r.dJ x)) rfl
  | makeFunc fn first caps=>exact fU.val r (Wh (r.Ir first) (r.Ir caps)) rfl
  | makeSlice t l c=>exact fU.of (Tj ok r (r.dJ l) (r.dJ c)) rfl
  | slice t x lo hi mx =>
   simp only[fG];split
   · rename_i n e hu;exact fU.val r (V6 ok hsub hu (r.dJ x) (r.mD lo) (r.mD hi) (r.mD mx)) rfl
   · split
     · exact fU.fail
     · rename_i hmh;refine fU.val r (acz ok (r.dJ x) (r.mD lo) (r.mD hi) (r.mD mx) ?_) rfl;intro h;cases mx with
       | none=>simp[Skm.mD]at h
       | some m =>
        cases hi with
        | none=>exact absurd rfl (hmh m rfl)
        | some _=>rfl
  | fieldAddr t x f=>exact fU.val r (Td ok (r.dJ x)) rfl
  | field t x f=>exact fU.val r (acw ok (r.dJ x)) rfl
  | indexAddr t x i=>exact fU.val r (Tf ok (r.dJ x) (r.dJ i)) rfl
  | index t x i=>exact fU.val r (acA ok (r.dJ x) (r.dJ i)) rfl
  | extract x i=>exact fU.val r (X5 (r.dJ x)) rfl
  | nilCheck x =>
   have hx:=r.dJ x;refine fU.of (sem:=execOp a.eval ⟨dst,.nilCheck x,type,pos,after,guard⟩) ?_ rfl;simp only[fG];generalize hv:Skm.dJ st.env x=v at hx;have key:(∃ s i o,v=.ptr s i o)∨(∃ sa ks y o,v=.pq sa ks y o)∨(∃ cs,v=.p (.ref cs))∨(∃ f cs,v=.p (.fn f cs))∨(∃ f cs,v=.fn f cs)→dF P w0 Pr M0 β st a w dst (.ret { val:=v }) (execOp a.eval ⟨dst,.nilCheck x,type,pos,after,guard⟩):=by
    intro h;refine dF.ret (nv:=.value (a.eval x)) (c:=a.eval x) ?_ (.inl rfl) (fun _=>r.setEnv dst hx) (fun _ _ _=>rfl) (fun _=>KT);simp only[execOp];generalize a.eval x=c at hx;rcases h with ⟨s,i,o,rfl⟩ | ⟨sa,ks,y,o,rfl⟩ | ⟨cs,rfl⟩ | ⟨f,cs,rfl⟩ | ⟨f,cs,rfl⟩
    · cases hx<;>rfl
    · cases hx<;>rfl
    · cases hx;rename_i hv;cases hv;rfl
    · cases hx;rename_i hv;cases hv;rfl
    · cases hx;rfl
   unfold KH;split
   · exact key (.inl ⟨_,_,_,rfl⟩)
   · exact key (.inr (.inl ⟨_,_,_,_,rfl⟩))
   · exact key (.inr (.inr (.inl ⟨_,rfl⟩)))
   · exact key (.inr (.inr (.inr (.inl ⟨_,_,rfl⟩))))
   · exact key (.inr (.inr (.inr (.inr ⟨_,_,rfl⟩))))
   · exact dF.fail
  | call c =>
   obtain⟨callee,args,argTypes⟩:=c;simp only[fG];split
   · -- len
     split
     · rename_i x t ts h1 h2;have e1:args=#[x]:=by rw[← Array.toList_inj];exact h1
       have e2:argTypes[0]?=some t:=by rw[← Array.getElem?_toList,h2];rfl
       subst e1;exact fU.val r (af2 ok e2 (ty:=type) (r.dJ x)) (by rw[rO];simp[builtin])
     · exact fU.fail
   · exact fU.val r (QW (g:=Builtin.min2) (r.Ir args) (fun j x y=>by simp[Builtin.min2,EX])) rO
   · exact fU.val r (QW (g:=Builtin.max2) (r.Ir args) (fun j x y=>by simp[Builtin.max2,Di])) rO
   · -- append
     split
     · rename_i x y t t2 h1 h2;have e1:args=#[x,y]:=by rw[← Array.toList_inj];exact h1
       have e2:argTypes=#[t,t2]:=by rw[← Array.toList_inj];exact h2
       subst e1 e2;exact fU.of (ZP ok r hsub (ty:=type) (ts:=#[t,t2]) rfl rfl (r.dJ x) (r.dJ y)) (by rw[rO];simp[builtin])
     · exact fU.fail
   · split
     · rename_i x y t ts h1 h2;have e1:args=#[x,y]:=by rw[← Array.toList_inj];exact h1
       have e2:argTypes[0]?=some t:=by rw[← Array.getElem?_toList,h2];rfl
       subst e1;exact fU.of (aeA ok r hsub e2 (ty:=type) (r.dJ x) (r.dJ y)) (by rw[rO];simp[builtin])
     · exact fU.fail
   · split
     · rename_i x t ts h1 h2;have e1:args=#[x]:=by rw[← Array.toList_inj];exact h1
       have e2:argTypes[0]?=some t:=by rw[← Array.getElem?_toList,h2];rfl
       subst e1;exact fU.of (acI ok r hsub e2 (ty:=type) (r.dJ x)) (by rw[rO];simp[builtin])
     · exact fU.fail
   · rename_i fo;have hfo:=r.dJ fo;split
     · rename_i f caps hv;rw[hv]at hfo;have:∃ vs:Array Value,a.eval fo=.func (.func f) #[] vs∧mX w M β (look st.heap) (caps.map .p) vs.toList:=by
        generalize a.eval fo=c at hfo;cases hfo with
        | p _ _ hv =>
         cases hv with
         | fn _ _ vs hn hc =>refine⟨vs,rfl,by simp[hn],fun i x c hx hy=>?_⟩;simp only[List.getElem?_map,Option.map_eq_some_iff]at hx;obtain⟨y,hx,rfl⟩:=hx;have:=hc i y hx;rw[Array.getElem?_toList]at hy;rw[qAb,hy]at this;exact .p _ _ this
       obtain⟨vs,h1,h2⟩:=this;refine Rx (o:=⟨dst,.call ⟨.value fo,args,argTypes⟩,type,pos,after,guard⟩) ok hC r hsub (aY:=args.map a.eval++vs) ?_ (by rw[Ry h1]);rw[Array.toList_append];exact(r.Ir args).append h2
     · rename_i f caps hv;rw[hv]at hfo;have:∃ vs:Array Value,a.eval fo=.func (.func f) #[] vs∧mX w M β (look st.heap) caps vs.toList:=by
        generalize a.eval fo=c at hfo;cases hfo with
        | fn _ _ vs hn hc =>refine⟨vs,rfl,by simp[hn],fun i x c hx hy=>?_⟩;have:=hc i x hx;rw[Array.getElem?_toList]at hy;rw[qAb,hy]at this;exact this
       obtain⟨vs,h1,h2⟩:=this;refine Rx (o:=⟨dst,.call ⟨.value fo,args,argTypes⟩,type,pos,after,guard⟩) ok hC r hsub (aY:=args.map a.eval++vs) ?_ (by rw[Ry h1]);rw[Array.toList_append];exact(r.Ir args).append h2
     · exact fU.fail
   · exact fU.fail
  | _=>exact fU.fail
end
end Go.Skm
namespace Go.Skm
section
variable {α:Type}
theorem yA (m:Nat) (k:Nat→Option α):sV m k=k m:=by cases m<;>rfl
theorem Yl (n:Int) (k:Int→Option α):QC n k=k n:=by cases n<;>simp[QC,yA]
mutual
theorem JE (b:Bool):∀ (v:PV) (k:PV→Option α),o8 b v k=k v
 | .bool c,k=>by cases b<;>cases c<;>simp[o8]
 | .int j n,k=>by cases b<;>simp[o8,Yl]
 | .str s,k=>by simp[o8]
 | .agg cs,k=>by simp[o8,mY b cs]
 | .list a ks xs,k=>by cases b<;>simp[o8,mY _ xs]
 | .full a ks xs,k=>by cases b<;>simp[o8,mY _ xs]
 | .nil,k=>by simp[o8]
 | .fn f cs,k=>by cases b<;>simp[o8,mY _ cs]
 | .ref cs,k=>by simp[o8,mY b cs]
 | .VG,k=>by simp[o8]
 | .pX,k=>by simp[o8]
theorem mY (b:Bool):∀ (v:List PV) (k:List PV→Option α),pz b v k=k v
 | [],k=>by simp[pz]
 | v::r,k=>by simp[pz,JE b v,mY b r]
end
mutual
theorem Rz (b:Bool):∀ (v:AV) (k:AV→Option α),qc b v k=k v
 | .undef,k=>by simp[qc]
 | .p v,k=>by cases b<;>simp[qc,JE]
 | .slice s z o l,k=>by cases b<;>simp[qc,yA]
 | .bslice s o l,k=>by cases b<;>simp[qc,yA]
 | .ptr s i o,k=>by cases b<;>simp[qc,yA]
 | .pq a ks x o,k=>by cases b<;>simp[qc,yA,JE]
 | .fn f cs,k=>by simp[qc,gY b cs]
 | .agg cs,k=>by simp[qc,gY b cs]
 | .qY cs,k=>by simp[qc,gY b cs]
 | .fresh a ks xs,k=>by cases b<;>simp[qc,mY]
 | .vN,k=>by simp[qc]
theorem gY (b:Bool):∀ (v:List AV) (k:List AV→Option α),ou b v k=k v
 | [],k=>by simp[ou]
 | v::r,k=>by simp[ou,Rz b v,gY b r]
end
theorem Ym:∀ (v:List AV) (k:List AV→Option α),spine v k=k v
 | [],k=>rfl
 | v::r,k=>by simp[spine,Ym r]
theorem NW (b:Bool):∀ (v:cu) (k:cu→Option α),DU b v k=k v
 | .box cs,k=>by simp[DU,gY]
 | .arr a ks xs,k=>by cases b<;>simp[DU,mY]
 | .log on xs,k=>by cases b<;>simp[DU,mY]
theorem jD (b:Bool):∀ (v:List cu) (k:List cu→Option α),wP b v k=k v
 | [],k=>rfl
 | v::r,k=>by simp[wP,NW,jD b r]
theorem NY (b:Bool):∀ (v:List (Nat × cu)) (k:List (Nat × cu)→Option α),KL b v k=k v
 | [],k=>rfl
 | (s,x)::r,k=>by simp[KL,NW,NY b r]
theorem Uu:∀ (v:Heap) (k:Heap→Option α),VQ v k=k v
 | [],k=>rfl
 | (s,x)::r,k=>by simp[VQ,Uu r]
theorem bU (st:St) (k:St→Option α):gZ st k=k st:=by simp[gZ,Ym,Uu]
theorem Yn (b:Bool) (st:St) (d:Option Nat) (e:Eff) (k:St→Option α):KO b st d e k=k (st.apply d e):=by simp[KO,Rz,NY,bU]
theorem DT.run_bind:∀ (D:DT) (k:Eff→Option α),D.run k=(D.run some).bind k
 | .fail,k=>rfl
 | .ret e,k=>rfl
 | .ite c x y,k=>by cases c<;>simp[DT.run,DT.run_bind x k,DT.run_bind y k]
 | .call o f,k=>by
  cases o with
  | none=>rfl
  | some r=>simp only[DT.run];exact DT.run_bind (f r) k
end
section
variable (T:Tab) (C:aS)
def Bf (all:List Oper) (o:Oper) (env:List AV) (h:Nat→Option cu):Option (Option Eff) :=
 match o.guard with
 | none=>((fG T C env h o).run some).map some
 | some (g,want) =>
  match uO all g with
  | none=>none
  | some t =>
   match env.getD t .undef with
   | .p (.bool b)=>if b=want then((fG T C env h o).run some).map some else some none
   | .qY []=>some none
   | _=>none
def step1 (draw:Bool) (hd:List Nat) (all:List Oper) (o:Oper) (st:St):Option St :=
 match Bf T C all o st.env (lI hd (look st.heap)) with
 | none=>none
 | some none=>some { st with env:=setEnv st.env o.dst (.qY []) }
 | some (some e)=>if(jq (e.new++e.Ed)&&gJ draw (dH T all o) (iK all o) st.heap e)=true then some (st.apply o.dst e) else none
theorem set_self {env:List AV} {t:Nat} {v:AV} (h:env.getD t .undef=v) (hv:v≠.undef):env.set t v=env:=by
 apply List.ext_getElem?;intro i;by_cases hi:i=t
 · subst hi;by_cases hl:i<env.length
   · have : env[i]? = some v := by rw[qLb,qLd hl]at h;simp at h;simp[hl,h]
     rw[this];simp[hl]
   · rw[qLb,List.getElem?_eq_none (by omega)]at h;exact absurd h.symm hv
 · rw[List.getElem?_set_ne (Ne.symm hi)]
def guardOf (all:List Oper) (o:Oper) (env:List AV):Option Bool :=
 match o.guard with
 | none=>some true
 | some (g,want) =>
  match uO all g with
  | none=>none
  | some t =>
   match env.getD t .undef with
   | .p (.bool b)=>some (b==want)
   | .qY []=>some false
   | _=>none
theorem RD (all : List Oper) (o : Oper) (env : List AV) (h : Nat → Option cu) : Bf T C all o env h = (match guardOf all o env with
    | none=>none
    | some false=>some none
    | some true=>((fG T C env h o).run some).map some):=by
  unfold Bf guardOf;cases o.guard with
  | none=>rfl
  | some gw =>
   obtain⟨g,want⟩:=gw;simp only;cases uO all g with
   | none=>rfl
   | some t =>
    simp only;split
    · rename_i b hb;cases b<;>cases want<;>rfl
    · rfl
    · rfl
theorem Uw {α : Type} {draw : Bool} {hd : List (List Nat)} {all : List Oper} {o : Oper} {rest : List Oper} {j : Nat} {st : St} {k : St → Option α} :
    fP T C draw hd all (o::rest) j st k=(match guardOf all o st.env with
     | none=>none
     | some false=>fP T C draw hd all rest (j+1) { st with env:=setEnv st.env o.dst (.qY []) } k
     | some true=>match rG draw st o with
      | some (xs,vs)=>fork (fP T C draw hd all rest (j+1) (kL st o.dst xs vs false) k) (fP T C draw hd all rest (j+1) (kL st o.dst xs vs true) k)
      | none=>((fG T C st.env (lI (hd.getD j []) (look st.heap)) o).run some).bind fun e =>
       if(jq (e.new++e.Ed)&&gJ draw (dH T all o) (iK all o) st.heap e)=true then fP T C draw hd all rest (j+1) (st.apply o.dst e) k else none):=by
  have go : ∀ st : St, (match rG draw st o with
        | some (xs,vs)=>fork (gZ (kL st o.dst xs vs false) fun st=>fP T C draw hd all rest (j+1) st k) (gZ (kL st o.dst xs vs true) fun st=>fP T C draw hd all rest (j+1) st k)
        | none=>(fG T C st.env (lI (hd.getD j []) (look st.heap)) o).run fun e =>
        bif jq (e.new++e.Ed)&&gJ draw (dH T all o) (iK all o) st.heap e then KO T.strict st o.dst e fun st=>fP T C draw hd all rest (j+1) st k else none) =
      (match rG draw st o with
        | some (xs,vs)=>fork (fP T C draw hd all rest (j+1) (kL st o.dst xs vs false) k) (fP T C draw hd all rest (j+1) (kL st o.dst xs vs true) k)
        | none=>((fG T C st.env (lI (hd.getD j []) (look st.heap)) o).run some).bind fun e =>
         if(jq (e.new++e.Ed)&&gJ draw (dH T all o) (iK all o) st.heap e)=true then fP T C draw hd all rest (j+1) (st.apply o.dst e) k else none):=by
    intro st;cases rG draw st o with
    | some p=>obtain⟨xs,vs⟩:=p;simp only[bU]
    | none =>simp only;rw[DT.run_bind];congr 1;funext e;simp only[Yn];cases jq (e.new++e.Ed)&&gJ draw (dH T all o) (iK all o) st.heap e<;>simp
  rw[fP];unfold guardOf;cases hg:o.guard with
  | none=>exact go st
  | some gw =>
   obtain⟨g,want⟩:=gw;simp only;cases hd':uO all g with
   | none=>rfl
   | some t =>
    simp only;by_cases hx:∃ b,st.env.getD t .undef=.p (.bool b)
    · obtain⟨b,hb⟩:=hx;have hs:=set_self hb (by simp);rw[hb];cases b
      · simp only[cond_false];rw[hs];cases want
        · simp only[cond_false];exact go st
        · simp only[cond_true,bU];rfl
      · simp only[cond_true];rw[hs];cases want
        · simp only[cond_false,bU];rfl
        · simp only[cond_true];exact go st
    · by_cases hh:st.env.getD t .undef=.qY []
      · rw[hh];simp only[bU]
      · split
        · rename_i b hb;exact absurd ⟨b,hb⟩ hx
        · rename_i hb;exact absurd hb hh
        · have : (match st.env.getD t .undef with
            | .p (.bool b)=>some (b==want)
            | .qY []=>some false
            | _=>none:Option Bool)=none:=by
            split
            · rename_i b hb;exact absurd ⟨b,hb⟩ hx
            · rename_i hb;exact absurd hb hh
            · rfl
          rw[this]
theorem qN {α : Type} {draw : Bool} {hd : List (List Nat)} {all : List Oper} {o : Oper} {rest : List Oper} {j : Nat} {st : St} {k : St → Option α} (hy : rG draw st o = none) :
    fP T C draw hd all (o::rest) j st k=(step1 T C draw (hd.getD j []) all o st).bind fun st'=>fP T C draw hd all rest (j+1) st' k:=by
  rw[Uw,hy];unfold step1;rw[RD];cases guardOf all o st.env with
  | none=>rfl
  | some b =>
   cases b with
   | false=>rfl
   | true =>
    simp only;cases (fG T C st.env (lI (hd.getD j []) (look st.heap)) o).run some with
    | none=>rfl
    | some e =>simp only[Option.bind_some,Option.map_some];cases jq (e.new++e.Ed)&&gJ draw (dH T all o) (iK all o) st.heap e<;>simp
theorem rP {α : Type} {draw : Bool} {hd : List (List Nat)} {all : List Oper} {o : Oper} {rest : List Oper} {j : Nat} {st : St} {k : St → Option α} {xs vs : List PV} (hy : rG draw st o = some (xs,vs)) :
    fP T C draw hd all (o::rest) j st k=(match guardOf all o st.env with
     | none=>none
     | some false=>fP T C draw hd all rest (j+1) { st with env:=setEnv st.env o.dst (.qY []) } k
     | some true=>fork (fP T C draw hd all rest (j+1) (kL st o.dst xs vs false) k) (fP T C draw hd all rest (j+1) (kL st o.dst xs vs true) k)):=by
  rw[Uw,hy]
theorem Iu {α:Type} {no yes:Option α} {x:α} (h:fork no yes=some x):∃ r,no=some r∧yes=some x:=by
 cases no with
 | none=>cases h
 | some r=>exact⟨r,rfl,h⟩
theorem VD {α:Type} {no yes:Option α} {x r:α} (h1:no=some r) (h3:yes=some x):fork no yes=some x:=by subst h1 h3;rfl
end
structure Cx where
 w0:Base
 Pr:Nat→Prop
 M0:Nat→Prop
 OQ:Nat→Option (Nat × Nat)
 hp0:Heap
 Wr:Nat→Prop
 t0:Array Value
 rd:Option Nat
 L0:List (Nat × Obj)
 nm:Nat
 Ys:Nat→Prop:=fun _=>False
 yv:Value:=undef
def mQ (β:Nat→Option (Nat × Nat)) (hp:Heap) (b:Nat):Prop:=∃ s o,(look hp s).isSome=true∧β s=some (b,o)
def BX (D:Nat):Deferred:={ target:=.collected D,args:=#[] }
def Ai (hp:Heap):Prop:=∀ xs,look hp ah≠some (.log true xs)
structure Fix (cx:Cx) (M:Nat→Prop) (β:Nat→Option (Nat × Nat)) (hp:Heap) (a:Act) (w:World) (L:List (Nat × Obj)) (ds:List Nat):Prop where
 lies:∀ p∈L,w.heap[p.1]?=some p.2∧¬ mQ β hp p.1∧¬ M p.1
 sub:∀ p∈cx.L0,p∈L
 marks:a.defers=ds.map BX
 nodup:ds.Nodup
 mark:∀ D∈ds,(D,Obj.deferred (some []))∈L∧cx.nm≤D∧((D,Obj.deferred (some []))∈cx.L0∨cx.w0.heap.size≤D)
 rd:∀ l,cx.rd=some l→∃ r,(l,Obj.loop r)∈L
 size:a.tmps.size=cx.t0.size
 tmps:∀ t,¬ cx.Wr t→a.tmps.getD t undef=cx.t0.getD t undef
 one:¬ Ai cx.hp0→ds=[]
 yl:∀ t,cx.Ys t→a.tmps.getD t undef=cx.yv∨a.tmps.getD t undef=undef
 nml:cx.nm≤cx.w0.heap.size
def BI (cx:Cx) (o:Oper):Prop:=(∀ t,o.dst=some t→cx.Wr t)∧∀ t,o.dst=some t→cx.Ys t→∃ s,cx.Ys s∧(o.op=.move (.tmp s)∨o.op=.assign (.tmp s))
def Inv (cx:Cx) (st:St) (a:Act) (w:World):Prop :=
 ∃ M β L ds,Rel cx.w0 cx.Pr cx.M0 M β st a w∧(∀ s,ah≤s→β s=cx.OQ s)∧lX cx.hp0 st.heap∧jK cx.w0.gl cx.w0.drawn w.drawn∧Fix cx M β st.heap a w L ds
section
variable {w0:Base} {Pr M0 M M':Nat→Prop} {β β':Nat→Option (Nat × Nat)} {st st':St} {a a':Act} {w w':World}
theorem Rel.aeI (r:Rel w0 Pr M0 M β st a w):Rel ⟨w,w0.n0,Nat.le_trans w0.le' r.size,w0.gl⟩ (mQ β st.heap) M M β st a w :=
 ⟨r.oK,r.env,r.heap,fun s b o hs hb=>⟨(r.own s b o hs hb).1,(r.own s b o hs hb).2.1,.inr ⟨s,o,hs,hb⟩,(r.own s b o hs hb).2.2.2⟩,r.inj,r.gU,fun _ h=>.inl h,fun _ h=>h,fun _ _ _=>rfl,fun _ _ _ _ h=>h,Nat.le_refl _,rfl,rfl,rfl,r.glob⟩
theorem Rel.ZX (r:Rel w0 Pr M0 M β st a w) {le:w0.n0≤w.heap.size} (r':Rel ⟨w,w0.n0,le,w0.gl⟩ (mQ β st.heap) M M' β' st' a' w'):Rel w0 Pr M0 M' β' st' a' w':=by
 have hown:∀ b,mQ β st.heap b→w0.heap.size≤b∨Pr b:=fun b ⟨s,o,hs,hb⟩=>(r.own s b o hs hb).2.2.1;have hk:∀ b,b<w.heap.size→¬ mQ β st.heap b→w'.heap[b]?=w.heap[b]?:=r'.keep;have hsz:w.heap.size≤w'.heap.size:=r'.size;refine⟨r'.oK,r'.env,r'.heap,fun s b o hs hb=>?_,r'.inj,r'.gU,fun b h=>?_,fun b h=>r'.tu b (r.tu b h),fun b h1 h2=>?_,fun b n h1 h2 h3=>?_,Nat.le_trans r.size hsz,r'.os.trans r.os,r'.tape.trans r.tape,r'.output.trans r.output,r'.glob⟩
 · obtain⟨g1,g2,g3,g4⟩:=r'.own s b o hs hb;refine⟨g1,g2,?_,g4⟩;rcases g3 with h | h
   · have h:w.heap.size≤b:=h;have:=r.size;left;omega
   · exact hown b h
 · rcases r'.lY b h with h | ⟨h,h'⟩
   · exact r.lY b h
   · refine .inr ⟨h,?_⟩;rcases h' with h' | h'
     · have h':w.heap.size≤b:=h';have:=r.size;left;omega
     · exact hown b h'
 · have hb:b<w.heap.size:=by have:=r.size;omega
   rw[hk b hb fun h=>?_,r.keep b h1 h2];rcases hown b h with h | h
   · omega
   · exact h2 h
 · have hb:b<w.heap.size:=by have:=r.size;omega
   have hr:=r.room b n h1 h2 h3;by_cases ho:mQ β st.heap b
   · exact r'.room b n h1 ho hr
   · exact hr.of_block (hk b hb ho)
end
theorem put_defers (a:Act) (d:Option Nat) (c:Value):(a.put d c).defers=a.defers:=by cases d<;>rfl
theorem og (a:Act) (d:Option Nat) (c:Value):(a.put d c).tmps.size=a.tmps.size:=by cases d<;>simp[Act.put]
theorem Wq {a:Act} {d:Option Nat} {c:Value} {t:Nat} (h:d≠some t):(a.put d c).tmps.getD t undef=a.tmps.getD t undef:=by
 cases d with
 | none=>rfl
 | some d =>have:d≠t:=fun e=>h (by rw[e]);simp[Act.put,qAb,qAe this]
section
variable {P:Program} {T:Tab} {cx:Cx} {st st':St} {a:Act} {w:World} {o:Oper}
theorem Fix.put {M:Nat→Prop} {β:Nat→Option (Nat × Nat)} {hp:Heap} {L:List (Nat × Obj)} {ds:List Nat} (f:Fix cx M β hp a w L ds) {d:Option Nat} (hd:∀ t,d=some t→cx.Wr t) (c:Value) (hy:∀ t,d=some t→cx.Ys t→c=cx.yv∨c=undef):Fix cx M β hp (a.put d c) w L ds :=
 ⟨f.lies,f.sub,by rw[put_defers];exact f.marks,f.nodup,f.mark,f.rd,by rw[og];exact f.size,fun t ht=>by rw[Wq fun e=>ht (hd t e)];exact f.tmps t ht,f.one,fun t ht=>by
   by_cases e:d=some t
   · subst e;by_cases hl:t<a.tmps.size
     · have:(a.put (some t) c).tmps.getD t undef=c:=by simp[Act.put,hl]
       rw[this];exact hy t rfl ht
     · right;simp[Act.put,Nat.le_of_not_lt hl]
   · rw[Wq e];exact f.yl t ht,f.nml⟩
theorem Fix.move {M M':Nat→Prop} {β β':Nat→Option (Nat × Nat)} {hp hp':Heap} {w':World} {L:List (Nat × Obj)} {ds:List Nat} (f:Fix cx M β hp a w L ds) (h:∀ p∈L,w'.heap[p.1]?=w.heap[p.1]?∧¬ mQ β' hp' p.1∧¬ M' p.1):Fix cx M' β' hp' a w' L ds :=
 ⟨fun p hp=>⟨(h p hp).1.trans (f.lies p hp).1,(h p hp).2⟩,f.sub,f.marks,f.nodup,f.mark,f.rd,f.size,f.tmps,f.one,f.yl,f.nml⟩
theorem Fix.less {M:Nat→Prop} {β β':Nat→Option (Nat × Nat)} {hp hp':Heap} {w':World} {L:List (Nat × Obj)} {ds:List Nat} (f:Fix cx M β hp a w L ds) (h:∀ p∈L,w'.heap[p.1]?=w.heap[p.1]?) (ho:∀ b,mQ β' hp' b→mQ β hp b):Fix cx M β' hp' a w' L ds :=
 f.move fun p hp=>⟨h p hp,fun h'=>(f.lies p hp).2.1 (ho _ h'),(f.lies p hp).2.2⟩
theorem Fix.step {β β' : Nat → Option (Nat × Nat)} {w0 : Base} {Pr M0 M M' : Nat → Prop} {w' : World} {a' : Act} {L : List (Nat × Obj)} {ds : List Nat} (f : Fix cx M β st.heap a w L ds) (_r : Rel w0 Pr M0 M β st a w) {le : w0.n0 ≤ w.heap.size}
    (r':Rel ⟨w,w0.n0,le,w0.gl⟩ (mQ β st.heap) M M' β' st' a' w'):Fix cx M' β' st'.heap a w' L ds:=by
  refine f.move fun p hp=>?_;obtain⟨h1,h2,h3⟩:=f.lies p hp;have hlt:p.1<w.heap.size:=(qAa.1 h1).1;refine⟨r'.keep p.1 hlt h2,fun ⟨s,o,hs,hb⟩=>?_,fun hm=>?_⟩
  · rcases(r'.own s p.1 o hs hb).2.2.1 with h | h
    · have h:w.heap.size≤p.1:=h;omega
    · exact h2 h
  · rcases r'.lY p.1 hm with h | ⟨_,h | h⟩
    · exact h3 h
    · have h:w.heap.size≤p.1:=h;omega
    · exact h2 h
theorem aeJ {U:List Nat} {h:Nat→Option cu} {s:Nat} {b:cu} (hh:lI U h s=some b):h s=some b:=by
 unfold lI at hh;split at hh
 · exact hh
 · simp only at hh;cases hm:jC s U with
   | true=>rw[hm]at hh;cases hh
   | false=>rw[hm]at hh;exact hh
theorem RF {all:List Oper} {ops:Array Oper} (he:ops.toList=all) {g t:Nat} (hd:uO all g=some t) (i:Inv cx st a w) {b:Bool} (hb:st.env.getD t .undef=.p (.bool b)):yielded ops a.tmps g=some b:=by
 obtain⟨M,β,L,ds,r,_⟩:=i;subst he;have h1:=r.slot t;rw[hb]at h1;have h2:=h1.EL;unfold yielded;unfold uO at hd;rw[Array.getElem?_toList]at hd;rw[hd];have hlt:t<a.tmps.size:=by
  have:t<st.env.length:=by
   by_cases h:t<st.env.length
   · exact h
   · rw[qLb,List.getElem?_eq_none (by omega)]at hb;cases hb
  have:=r.oK;omega
 have:a.tmps[t]?=some (.bool b):=by rw[qAb,qAd hlt]at h2;rw[qAd hlt];simpa using h2
 simp[this]
theorem KX {all:List Oper} {ops:Array Oper} (he:ops.toList=all) {g t:Nat} (hd:uO all g=some t) (i:Inv cx st a w) (hb:st.env.getD t .undef=.qY []):yielded ops a.tmps g=none:=by
 obtain⟨M,β,L,ds,r,_⟩:=i;subst he;have h1:=r.slot t;rw[hb]at h1;unfold yielded;unfold uO at hd;rw[Array.getElem?_toList]at hd;rw[hd];simp only[Option.bind_some];cases hx:a.tmps[t]? with
 | none=>rfl
 | some c =>
  rw[qAb,hx]at h1;simp only[Option.getD_some]at h1;cases h1 with
  | qY _ vs hn _=>rfl
theorem Ws {C:aS} {env:List AV} {h:Nat→Option cu} {e:Eff} (h1:(fG T C env h o).run some=some e):∀ c,o.op≠.defer c:=by intro c hc;obtain⟨dst,op,type,pos,after,guard⟩:=o;subst hc;simp[fG,DT.run]at h1
theorem acP {s:Nat} (hop:o.op=.move (.tmp s)∨o.op=.assign (.tmp s)) {rd:Option Nat} {n:Nat} {K:Act→World→Prop} {Q:Exit→Act→World→Prop}:o.wpIn (FW rd) n P a w K Q↔K (a.put o.dst (a.tmps.getD s undef)) w:=by
 have hnd:∀ c,o.op≠.defer c:=fun c hc=>by rcases hop with h | h<;>rw[h]at hc<;>cases hc
 have he:(execOp a.eval o).run P w=.ok (.value (a.tmps.getD s undef)) w:=by obtain⟨dst,op,type,pos,after,guard⟩:=o;rcases hop with h | h<;>(simp only at h;subst h;simp[execOp,Act.eval])
 constructor
 · intro h;have h2:=h.2;rw[Oper.semAt_plain (FW rd) a.eval o hnd,he]at h2;exact h2
 · intro h;refine wV hnd ?_;rw[he];exact h
theorem agb (ok : dZ P T) {C : aS} (hC : jl P T cx.w0.gl C) {draw : Bool} {hd : List Nat} {all : List Oper} {ops : Array Oper} (he : ops.toList = all) (hw : BI cx o) (i : Inv cx st a w)
    (h:step1 T C draw hd all o st=some st') {rd:Option Nat} {n:Nat} {K:Act→World→Prop} (hK:∀ a' w',Inv cx st' a' w'→K a' w') {Q:Exit→Act→World→Prop} :
    if Region.wanted o (yielded ops a.tmps) then o.wpIn (FW rd) n P a w K Q else K (a.put o.dst undef) w:=by
  have key:∀ e,((fG T C st.env (lI hd (look st.heap)) o).run some)=some e→jq (e.new++e.Ed)=true→st'=st.apply o.dst e→o.wpIn (FW rd) n P a w K Q:=by
   intro e h1 h2 h3;obtain⟨M,β,L,ds,r,i1,i2,i3,fx⟩:=i;have hs:=(ahJ (w0:=⟨w,cx.w0.n0,Nat.le_trans cx.w0.le' r.size,cx.w0.gl⟩) (o:=o) ok hC r.aeI (h':=lI hd (look st.heap)) fun s b=>aeJ).sim (Ws h1) Eff some e h1 rd n Q;by_cases hys:∃ t,o.dst=some t∧cx.Ys t
   · obtain⟨t,ht,hyt⟩:=hys;obtain⟨s,hys,hop⟩:=hw.2 t ht hyt;rw[acP hop]at hs ⊢;obtain⟨_,e',M',β',h5,hdr,h6⟩:=hs;cases h5;obtain⟨g1,g2,g3⟩:=h6 h2;exact hK _ w ⟨M',β',L,ds,by rw[h3];exact r.ZX g1,fun s hs=>(g2 s hs).trans (i1 s hs),by rw[h3];exact i2.trans g3,i3.trans hdr,by rw[h3];exact(fx.step r g1).put hw.1 _ fun _ _ _=>fx.yl s hys⟩
   · refine Oper.wpIn_mono (fun a' w' h4=>?_) hs;obtain⟨⟨c,rfl⟩,e',M',β',h5,hdr,h6⟩:=h4;cases h5;obtain⟨g1,g2,g3⟩:=h6 h2;exact hK _ w' ⟨M',β',L,ds,by rw[h3];exact r.ZX g1,fun s hs=>(g2 s hs).trans (i1 s hs),by rw[h3];exact i2.trans g3,i3.trans hdr,by rw[h3];exact(fx.step r g1).put hw.1 c fun t h1 h2=>absurd ⟨t,h1,h2⟩ hys⟩
  have skip:st'={ st with env:=setEnv st.env o.dst (.qY []) }→K (a.put o.dst undef) w:=by intro h3;obtain⟨M,β,L,ds,r,i1,i2,i3,fx⟩:=i;exact hK _ _ ⟨M,β,L,ds,by rw[h3];exact r.setEnv o.dst (.qY [] #[] rfl fun i c h=>by simp at h),i1,by rw[h3];exact i2,i3,by rw[h3];exact fx.put hw.1 _ fun _ _ _=>.inr rfl⟩
  have go : ∀ x : Option Eff, x = ((fG T C st.env (lI hd (look st.heap)) o).run some) → (match x.map some with
        | none=>none
        | some none=>some { st with env:=setEnv st.env o.dst (.qY []) }
        | some (some e)=>if(jq (e.new++e.Ed)&&gJ draw (dH T all o) (iK all o) st.heap e)=true then some (st.apply o.dst e) else none:Option St)=some st'→o.wpIn (FW rd) n P a w K Q:=by
    intro x hx h;cases x with
    | none=>simp at h
    | some e =>
     simp only[Option.map_some]at h;split at h
     · rename_i hc;simp only[qBa]at hc;exact key e hx.symm hc.1 (by simpa using h.symm)
     · cases h
  unfold step1 Bf at h;cases hg:o.guard with
  | none =>rw[hg]at h;simp only[Region.wanted,hg,if_true];exact go _ rfl h
  | some gw =>
   obtain⟨g,want⟩:=gw;rw[hg]at h;simp only at h;cases hd':uO all g with
   | none=>rw[hd']at h;simp at h
   | some t =>
    rw[hd']at h;simp only at h;cases hv:st.env.getD t .undef with
    | p v =>
     cases v with
     | bool b =>
      rw[hv]at h;simp only at h;have hy:=RF he hd' i hv;simp only[Region.wanted,hg,hy];by_cases hb:b=want
      · subst hb;rw[if_pos rfl]at h;simp only[beq_self_eq_true,if_true];exact go _ rfl h
      · rw[if_neg hb]at h;simp only at h;have:(some b==some want)=false:=by simpa using hb
        rw[this];simp only[Bool.false_eq_true,if_false];exact skip (by simpa using h.symm)
     | _=>rw[hv]at h;simp at h
    | qY cs =>
     cases cs with
     | cons x r=>rw[hv]at h;simp at h
     | nil =>rw[hv]at h;simp only at h;have hy:=KX he hd' i hv;simp only[Region.wanted,hg,hy];have:((none:Option Bool)==some want)=false:=rfl;rw[this];simp only[Bool.false_eq_true,if_false];exact skip (by simpa using h.symm)
    | _=>rw[hv]at h;simp at h
theorem ZY {hp hp':Heap} (h:Ai hp) (hl:lX hp hp'):Ai hp':=by
 intro xs he;obtain⟨blk,h1,h2⟩:=hl ah (Nat.le_refl _) _ he;cases blk with
 | box=>exact h2.elim
 | arr=>exact h2.elim
 | log on ys=>exact h ys (by rw[h1];cases (show on=true from h2);rfl)
theorem Ai.yield (h:Ai st.heap) (draw:Bool):rG draw st o=none:=by
 cases draw with
 | true=>rfl
 | false =>
  show yieldOf st o=none;unfold yieldOf;split
  · split
    · split
      · split
        · rename_i h1 _;exact absurd h1 (h _)
        · rfl
      · rfl
    · rfl
  · rfl
theorem Inv.Xn (i:Inv cx st a w) (h:Ai cx.hp0):Ai st.heap:=by obtain⟨M,β,L,ds,r,i1,i2,i3,fx⟩:=i;exact ZY h i2
theorem RG (ok : dZ P T) {C : aS} (hC : jl P T cx.w0.gl C) {α : Type} {draw : Bool} {hd : List (List Nat)} {ops : Array Oper} (hn : Ai cx.hp0) {rd : Option Nat} {n : Nat} {Q : Exit → Act → World → Prop} {k : St → Option α} {x : α} (hQ : ∀ st' a' w',k st' = some x → Inv cx st' a' w' → Q .normal a' w') :
    ∀ (l:List Oper) (j:Nat) (st:St) (a:Act) (w:World),(∀ o∈l,BI cx o)→fP T C draw hd ops.toList l j st k=some x→Inv cx st a w→wpListIn (FW rd) n P ops Q l a w
  | [],j,st,a,w,_,h,i=>hQ st a w h i
  | o::rest,j,st,a,w,hw,h,i=>by
   rw[qN _ _ ((i.Xn hn).yield draw)]at h;cases h1:step1 T C draw (hd.getD j []) ops.toList o st with
   | none=>rw[h1]at h;cases h
   | some st1 =>
    rw[h1]at h;have:=agb ok hC rfl (hw o (by simp)) i h1 (rd:=rd) (n:=n) (K:=wpListIn (FW rd) n P ops Q rest) (fun a' w' i'=>RG ok hC hn hQ rest (j+1) st1 a' w' (fun o ho=>hw o (by simp[ho])) h i') (Q:=Q);unfold wpListIn;split
    · rename_i hw;rw[if_pos hw]at this;exact this
    · rename_i hw;rw[if_neg hw]at this;exact⟨fun _ _=>trivial,this⟩
end
end Go.Skm
namespace Go.Skm
section
variable {T:Tab} {C:aS}
theorem zD {env env':List AV}:∀ {l:List Operand},(∀ x∈l,dJ env x=dJ env' x)→l7 env l=l7 env' l
 | [],_=>rfl
 | x::r,h=>by have:=zD (l:=r) fun y hy=>h y (List.mem_cons_of_mem _ hy);simp[l7,h x (by simp),this]
theorem yQ {env env':List AV}:∀ {l:List (Nat × Operand)},(∀ x∈l,dJ env x.2=dJ env' x.2)→jR env l=jR env' l
 | [],_=>rfl
 | (i,x)::r,h=>by have:=yQ (l:=r) fun y hy=>h y (List.mem_cons_of_mem _ hy);simp[jR,h (i,x) (by simp),this]
theorem CU {env env':List AV} {x:Option Operand} (h:∀ y,x=some y→dJ env y=dJ env' y):mD env x=mD env' x:=by
 cases x with
 | none=>rfl
 | some y=>simp[mD,h y rfl]
theorem Wu {env env':List AV} {h:Nat→Option cu} {o:Oper} (he:∀ x∈o.op.operands,dJ env x=dJ env' x):fG T C env h o=fG T C env' h o:=by
 obtain⟨dst,op,type,pos,after,guard⟩:=o;cases op with
 | call c =>
  obtain⟨callee,args,ts⟩:=c;simp only[Op.operands,Call.operands]at he;have ha:∀ x∈args.toList,dJ env x=dJ env' x:=fun x hx=>he x (by simp[Array.mem_toList_iff.1 hx]);have hl:=zD ha;simp only[fG];split
  · split
    · rename_i x t r h1 h2;rw[ha x (by rw[h1];simp)]
    · rfl
  · rw[hl]
  · rw[hl]
  · split
    · rename_i x y t t2 h1 h2;rw[ha x (by rw[h1];simp),ha y (by rw[h1];simp)]
    · rfl
  · split
    · rename_i x y t ts h1 h2;rw[ha x (by rw[h1];simp),ha y (by rw[h1];simp)]
    · rfl
  · split
    · rename_i x t ts h1 h2;rw[ha x (by rw[h1];simp)]
    · rfl
  · rename_i f;rw[he f (by simp),hl]
  · rfl
 | build t ps =>simp only[Op.operands]at he;simp only[fG];rw[yQ fun x hx=>he x.2 (by simp;exact⟨x.1,by simpa using hx⟩)]
 | buildSlice t n ps =>simp only[Op.operands]at he;simp only[fG];rw[yQ fun x hx=>he x.2 (by simp;exact⟨x.1,by simpa using hx⟩)]
 | makeFunc fn first caps =>simp only[Op.operands]at he;simp only[fG];rw[zD fun x hx=>he x (by simp[Array.mem_toList_iff.1 hx]),zD (l:=caps.toList) fun x hx=>he x (by simp[Array.mem_toList_iff.1 hx])]
 | slice t x lo hi mx =>simp only[Op.operands]at he;simp only[fG];rw[he x (by simp),CU (x:=lo) fun y hy=>he y (by simp[hy]),CU (x:=hi) fun y hy=>he y (by simp[hy]),CU (x:=mx) fun y hy=>he y (by simp[hy])]
 | assign x =>
  simp only[Op.operands]at he;have hx:=he x (by simp);simp only[fG];split
  · rfl
  · rw[hx]
 | _ =>
  simp only[Op.operands]at he;simp only[fG];try simp at he
  try simp only[he]
theorem JF {t:Nat}:∀ {l:List Operand},Operand.tmp t∈l→t∈tmpsOf l
 | [],h=>by simp at h
 | x::r,h=>by
  rcases List.mem_cons.1 h with rfl | h
  · simp[tmpsOf]
  · have:=JF h;cases x<;>simp[tmpsOf,this]
def CV (T:Tab) (C:aS) (all:List Oper) (o:Oper) (env:List AV) (h:Nat→Option cu):Option Eff:=(Bf T C all o env h).map fun x=>x.getD { val:=.qY [] }
theorem Z4 {all:List Oper} {o:Oper} {env env':List AV} {h:Nat→Option cu} (he:∀ t∈vI all o,env.getD t .undef=env'.getD t .undef):Bf T C all o env h=Bf T C all o env' h:=by
 have hs:fG T C env h o=fG T C env' h o:=Wu fun x hx=>by
  cases x with
  | tmp t =>show env.getD t .undef=env'.getD t .undef;exact he t (by unfold vI;exact List.mem_append_left _ (JF (by simpa using hx)))
  | _=>rfl
 unfold Bf;rw[hs];cases hg:o.guard with
 | none=>rfl
 | some gw =>
  obtain⟨g,want⟩:=gw;simp only;cases hd:uO all g with
  | none=>rfl
  | some t =>simp only;rw[he t (by unfold vI;unfold uO at hd;rw[hg];simp[hd])]
theorem wW {all:List Oper} {o:Oper} {env env':List AV} {h:Nat→Option cu} (he:∀ t∈vI all o,env.getD t .undef=env'.getD t .undef):CV T C all o env h=CV T C all o env' h:=by unfold CV;rw[Z4 he]
theorem Yo {all:List Oper} {o:Oper} {env:List AV} {h h':Nat→Option cu} (hc:dH T all o=.pure):fG T C env h o=fG T C env h' o:=by
 obtain⟨dst,op,type,pos,after,guard⟩:=o;cases op with
 | call c =>
  obtain⟨callee,args,ts⟩:=c;cases callee with
  | builtin b =>cases b<;>first | rfl | (simp only[dH]at hc;cases hb:KQ args.toList all<;>rw[hb]at hc<;>simp at hc;done) | (simp[dH]at hc)
  | value f =>
   cases f with
   | func f =>simp only[dH]at hc;cases hb:(jo T f).vY||((jo T f).take||((jo T f).shares&&!(jo T f).quiet))<;>rw[hb]at hc<;>simp at hc
   | tmp t =>simp only[dH]at hc;cases ho:aeh T dst<;>rw[ho]at hc<;>simp at hc
   | _=>simp[dH]at hc
  | invoke r n=>simp[dH]at hc
 | slice t x lo hi mx =>
  simp only[dH]at hc;simp only[fG];split
  · rename_i n e hu;rw[hu]at hc;simp at hc
  · rfl
 | store t p v =>
  simp only[dH]at hc;split at hc<;>first | (rename_i t' _;cases hl:DV T all t' v<;>rw[hl]at hc<;>simp at hc;done) | simp_all
  all_goals (try (rename_i t' _ _;cases hl:DV T all t' v<;>simp_all))
 | assign x =>simp only[dH]at hc;rfl
 | move x=>rfl
 | _=>first | rfl | (simp[dH]at hc)
theorem Ux {all:List Oper} {o:Oper} {env:List AV} {h h':Nat→Option cu} (hc:dH T all o=.pure):CV T C all o env h=CV T C all o env h':=by unfold CV Bf;rw[Yo hc (h':=h')]
theorem Wv {all:List Oper} {o:Oper} (hc:dH T all o=.const):∃ v,(v=.undef∨∃ x,v=.p x)∧∀ env h,fG T C env h o=.ret { val:=v }:=by
 have val:∀ x,yj x=true→∃ v,(v=.undef∨∃ y,v=.p y)∧∀ env,dJ env x=v:=by
  intro x hx;cases x with
  | tmp t=>simp[yj]at hx
  | global g=>simp[yj]at hx
  | func f=>exact⟨.p (.fn f []),.inr ⟨_,rfl⟩,fun _=>rfl⟩
  | const v =>
   cases hv:ofValue v with
   | none=>exact⟨.undef,.inl rfl,fun env=>by simp[dJ,hv]⟩
   | some y=>exact⟨.p y,.inr ⟨_,rfl⟩,fun env=>by simp[dJ,hv]⟩
 obtain⟨dst,op,type,pos,after,guard⟩:=o;cases op with
 | move x =>
  simp only[dH]at hc;cases hx:yj x with
  | false =>
   rw[hx]at hc;simp only[cond_false,aa8]at hc;split at hc
   · rename_i u d;cases hm:jC (1000*d+u) T.calcs<;>rw[hm]at hc<;>cases hc
   · cases hc
  | true =>obtain⟨v,h1,h2⟩:=val x hx;exact⟨v,h1,fun env h=>by simp[fG,h2]⟩
 | assign x =>
  simp only[dH]at hc;split at hc
  · cases hc
  · rename_i y hy hne;cases hne;cases hx:yj x with
    | false=>rw[hx]at hc;simp at hc
    | true =>
     obtain⟨v,h1,h2⟩:=val x hx;refine⟨v,h1,fun env h=>?_⟩;simp only[fG];split
     · exact(hy rfl).elim
     · rw[h2]
  all_goals (first | (rename_i h;cases h;done) | cases hc)
 | call c =>
  obtain⟨callee,args,ts⟩:=c;cases callee with
  | builtin b =>cases b<;>first | (cases hc;done) | (simp only[dH]at hc;cases hb:KQ args.toList all<;>rw[hb]at hc<;>simp at hc;done) | (simp[dH]at hc)
  | value f =>
   cases f with
   | func f =>simp only[dH]at hc;cases hb:(jo T f).vY||((jo T f).take||((jo T f).shares&&!(jo T f).quiet))<;>rw[hb]at hc<;>simp at hc
   | tmp t =>simp only[dH]at hc;cases ho:aeh T dst<;>rw[ho]at hc<;>simp at hc
   | _=>simp[dH]at hc
  | invoke r n=>simp[dH]at hc
 | slice t x lo hi mx =>simp only[dH]at hc;split at hc<;>cases hc
 | store t p v =>simp only[dH]at hc;split at hc<;>simp_all;all_goals (rename_i t' _ _;cases hl:DV T all t' v<;>simp_all)
 | _=>simp[dH]at hc
theorem abl {v:AV} (h:v.Tc=true):v=.qY []∨∃ x,v=.p x:=by
 cases v with
 | p x=>exact .inr ⟨x,rfl⟩
 | qY l=>cases l with
  | nil=>exact .inl rfl
  | cons a l=>simp[AV.Tc]at h
 | _=>simp[AV.Tc]at h
theorem Z5 {op:BinOp} {t:TypeId} {x y:AV} {e:Eff} (h:(DR T op t x y).run some=some e):∃ p q,x=.p p∧y=.p q:=by
 cases x with
 | p p=>cases y with
  | p q=>exact⟨p,q,rfl,rfl⟩
  | _=>cases p<;>simp[DR,DT.run]at h
 | _=>simp[DR,DT.run]at h
theorem Uy {op:BinOp} {t:TypeId} {kc:Bool} {x:AV} {q:PV} {e:Eff} (h:(Ia T op t kc x (.p q)).run some=some e):∃ p,x=.p p:=by
 cases x with
 | p p=>exact⟨p,rfl⟩
 | _=>cases q<;>simp[Ia,DT.run]at h
theorem acQ {op:BinOp} {t:TypeId} {kc:Bool} {x y:AV} {e:Eff} (h:(KG T op t kc x y).run some=some e):∃ p q,x=.p p∧y=.p q:=by
 unfold KG at h;split at h
 · obtain⟨p,rfl⟩:=Uy h;exact⟨p,_,rfl,rfl⟩
 · obtain⟨p,rfl⟩:=Uy h;exact⟨p,_,rfl,rfl⟩
 · exact Z5 h
theorem aeK {op:UnOp} {x:AV} {e:Eff} (h:(Qv op x).run some=some e):∃ p,x=.p p:=by
 cases x with
 | p p=>exact⟨p,rfl⟩
 | _=>cases op<;>simp[Qv,DT.run]at h
theorem Yp {all : List Oper} {o : Oper} (hc : dH T all o = .plain) {env : List AV} {h : Nat → Option cu} {e : Eff} (he : (fG T C env h o).run some = some e) (hp : e.val.Tc = true) (env' : List AV) (h' : Nat → Option cu)
    (hk:∀ t∈tmpsOf o.op.operands.toList,∀ u:AV,u.Tc=true→env.getD t .undef=u→env'.getD t .undef=u):(fG T C env' h' o).run some=some e:=by
  have ev:∀ x∈o.op.operands,∀ u:AV,u.Tc=true→dJ env x=u→dJ env' x=u:=by
   intro x hx u hu hxu;cases x with
   | tmp t=>exact hk t (JF (by simpa using hx)) u hu hxu
   | _=>exact hxu
  obtain⟨dst,op,type,pos,after,guard⟩:=o;cases op with
  | move x =>simp only[fG,DT.run,qOa]at he ⊢;subst he;simp only at hp;rw[ev x (by simp[Op.operands]) _ hp rfl]
  | binOp op t x y z =>simp only[fG]at he ⊢;obtain⟨p,q,h1,h2⟩:=acQ he;rw[ev x (by simp[Op.operands]) (.p p) rfl h1,ev y (by simp[Op.operands]) (.p q) rfl h2];rw[h1,h2]at he;exact he
  | unOp op t x =>simp only[fG]at he ⊢;obtain⟨p,h1⟩:=aeK he;rw[ev x (by simp[Op.operands]) (.p p) rfl h1];rw[h1]at he;exact he
  | call c =>
   obtain⟨callee,args,ts⟩:=c;cases callee with
   | builtin b =>cases b<;>first | (cases hc;done) | (simp only[dH]at hc;cases hb:KQ args.toList all<;>rw[hb]at hc<;>simp at hc;done) | (simp[dH]at hc)
   | value f =>
    cases f with
    | func f =>simp only[dH]at hc;cases hb:(jo T f).vY||((jo T f).take||((jo T f).shares&&!(jo T f).quiet))<;>rw[hb]at hc<;>simp at hc
    | tmp t =>simp only[dH]at hc;cases ho:aeh T dst<;>rw[ho]at hc<;>simp at hc
    | _=>simp[dH]at hc
   | invoke r n=>simp[dH]at hc
  | slice t x lo hi mx =>simp only[dH]at hc;split at hc<;>cases hc
  | store t p v =>simp only[dH]at hc;split at hc<;>simp_all;all_goals (rename_i t' _ _;cases hl:DV T all t' v<;>simp_all)
  | assign x =>
   simp only[dH]at hc;split at hc
   · cases hc
   · rename_i y hy hne;cases hne;cases hx:yj x<;>rw[hx]at hc<;>simp at hc
   all_goals (first | (rename_i h;cases h;done) | cases hc)
  | _=>simp[dH]at hc
end
end Go.Skm
namespace Go.Skm
def Same (s t:St):Prop:=s.env=t.env∧look s.heap=look t.heap
theorem Same.refl (s:St):Same s s:=⟨rfl,rfl⟩
theorem Same.trans {s t u:St} (h1:Same s t) (h2:Same t u):Same s u:=⟨h1.1.trans h2.1,h1.2.trans h2.2⟩
theorem Same.symm {s t:St} (h:Same s t):Same t s:=⟨h.1.symm,h.2.symm⟩
mutual
theorem RH:∀ (v:AV),AV.refers [] v=false
 | .undef | .p _ | .pq _ _ _ _ | .fresh _ _ _ | .vN=>rfl
 | .slice _ _ _ _ | .bslice _ _ _ | .ptr _ _ _=>rfl
 | .fn _ cs | .agg cs | .qY cs=>by simp only[AV.refers];exact I9 cs
theorem I9:∀ (l:List AV),AV.jh [] l=false
 | []=>rfl
 | v::r=>by simp[AV.jh,RH v,I9 r]
end
theorem uT:∀ (l:List AV),jd [] l=l
 | []=>rfl
 | v::r=>by simp[jd,AV.kill,RH,uT r]
def NZ (ss:List Nat) (hp:Heap):Heap:=match ss with | []=>hp | ss=>iV ss hp
def BJ (ss:List Nat) (hp:Heap):Heap:=match ss with | []=>hp | ss=>pY (iV ss hp) ss
theorem agc (ss:List Nat) (st:St):st.kill ss=⟨jd ss st.env,NZ ss st.heap⟩:=by
 cases ss with
 | nil=>simp[St.kill,NZ,uT]
 | cons s r=>rfl
theorem acR (ss:List Nat) (st:St):st.strike ss=⟨jd ss st.env,BJ ss st.heap⟩:=by
 cases ss with
 | nil=>simp[St.strike,BJ,uT]
 | cons s r=>rfl
theorem kT (st : St) (d : Option Nat) (e : Eff) : st.apply d e =
    ⟨setEnv (jd e.cut (jd (present st.heap e.new++e.Ed) st.env)) d e.val,fC (NZ e.cut (BJ (present st.heap e.new++e.Ed) st.heap)) e.qI⟩:=by
  simp only[St.apply,agc,acR]
theorem CW {h1 h2:Heap} (h:look h1=look h2):∀ (l:List Nat),present h1 l=present h2 l
 | []=>rfl
 | s::r=>by simp only[present,h,CW h r]
theorem Yq {h1 h2:Heap} (h:look h1=look h2) (ss:List Nat):look (NZ ss h1)=look (NZ ss h2):=by
 cases ss with
 | nil=>exact h
 | cons s r=>funext x;simp only[NZ,iY,h]
theorem Tt {h1 h2:Heap} (h:look h1=look h2) (ss:List Nat):look (BJ ss h1)=look (BJ ss h2):=by
 cases ss with
 | nil=>exact h
 | cons s r=>funext x;simp only[BJ,vJ,iY,h]
theorem acS {h1 h2:Heap} (h:look h1=look h2) (s:Nat) (b:cu):look (put h1 s b)=look (put h2 s b):=by funext x;simp only[dS,h]
theorem KY:∀ {c:List (Nat × cu)} {h1 h2:Heap},look h1=look h2→look (fC h1 c)=look (fC h2 c)
 | [],_,_,h=>h
 | (s,b)::r,_,_,h=>KY (c:=r) (acS h s b)
theorem Yr {s t:St} (h:Same s t) (d:Option Nat) (e:Eff):Same (s.apply d e) (t.apply d e):=by rw[kT,kT,CW h.2,h.1];exact⟨rfl,KY (Yq (Tt h.2 _) _)⟩
section
variable {T:Tab} {C:aS}
theorem GH {h1 h2:Heap} (h:look h1=look h2):∀ c:List (Nat × cu),BF h1 c=BF h2 c
 | []=>rfl
 | (s,.log _ _)::r=>rfl
 | (s,.box _)::r=>by simp only[BF,h,GH h r]
 | (s,.arr _ _ _)::r=>by simp only[BF,h,GH h r]
theorem Yt {draw:Bool} {cls:Cls} {o:List Nat} {h1 h2:Heap} (h:look h1=look h2) (e:Eff):gJ draw cls o h1 e=gJ draw cls o h2 e:=by unfold gJ;rw[CW h,GH h]
theorem aeL {draw : Bool} {hd : List Nat} {all : List Oper} {o : Oper} {st : St} :
    step1 T C draw hd all o st=(CV T C all o st.env (lI hd (look st.heap))).bind fun e=>if(jq (e.new++e.Ed)&&gJ draw (dH T all o) (iK all o) st.heap e)=true then some (st.apply o.dst e) else none:=by
  unfold step1 CV;cases Bf T C all o st.env (lI hd (look st.heap)) with
  | none=>rfl
  | some x =>
   cases x with
   | none =>
    simp only[Option.map_some,Option.getD_none,Option.bind_some];have:gJ draw (dH T all o) (iK all o) st.heap { val:=.qY [] }=true:=by
     cases draw with
     | false=>rfl
     | true=>cases dH T all o<;>rfl
    rw[if_pos (by simp[jq,this]),kT];simp[present,uT,NZ,BJ,fC]
   | some e=>rfl
theorem jE {draw : Bool} {hd : List Nat} {all : List Oper} {o : Oper} {st st' : St} : step1 T C draw hd all o st = some st' ↔
    ∃ e,CV T C all o st.env (lI hd (look st.heap))=some e∧jq (e.new++e.Ed)=true∧gJ draw (dH T all o) (iK all o) st.heap e=true∧st'=st.apply o.dst e:=by
  rw[aeL];cases h:CV T C all o st.env (lI hd (look st.heap)) with
  | none=>simp
  | some e =>
   simp only[Option.bind_some,qOa,exists_eq_left'];constructor
   · intro h;split at h
     · rename_i hc;simp only[qBa]at hc;exact⟨hc.1,hc.2,by simpa using h.symm⟩
     · cases h
   · rintro ⟨h1,h2,rfl⟩;rw[if_pos (by simp[h1,h2])]
theorem Yu {draw:Bool} {hd:List Nat} {all:List Oper} {o:Oper} {s t s':St} (h:Same s t) (h1:step1 T C draw hd all o s=some s'):∃ t',step1 T C draw hd all o t=some t'∧Same s' t':=by
 obtain⟨e,g1,g2,g3,rfl⟩:=jE.1 h1;refine⟨t.apply o.dst e,jE.2 ⟨e,?_,g2,?_,rfl⟩,Yr h _ _⟩
 · rw[← h.1,← h.2];exact g1
 · rw[← Yt h.2];exact g3
def lastOf:List (Nat × cu)→Nat→Option cu
 | [],_=>none
 | (s,b)::r,x=>match lastOf r x with
  | some c=>some c
  | none=>if x=s then some b else none
theorem oG:∀ (c:List (Nat × cu)) (hp:Heap) (x:Nat),look (fC hp c) x=match lastOf c x with | some b=>some b | none=>look hp x
 | [],hp,x=>rfl
 | (s,b)::r,hp,x=>by
  show look (fC (put hp s b) r) x=_;rw[oG r];simp only[lastOf];cases lastOf r x with
  | some c=>rfl
  | none =>simp only[dS];by_cases h:x=s<;>simp[h]
theorem yC {x:Nat}:∀ {c:List (Nat × cu)},x ∉ keysOf c→lastOf c x=none
 | [],_=>rfl
 | (s,b)::r,h=>by simp only[keysOf,List.mem_cons,not_or]at h;simp[lastOf,yC h.2,h.1]
theorem Yv {c1 c2:List (Nat × cu)} (h:∀ x,x∈keysOf c1→x ∉ keysOf c2) (hp:Heap):look (fC (fC hp c1) c2)=look (fC (fC hp c2) c1):=by
 funext x;simp only[oG];by_cases h1:x∈keysOf c1
 · rw[yC (h x h1)]
 · rw[yC h1]
theorem JG {ss:List Nat}:∀ {c:List (Nat × cu)},QE ss c=true→∀ x∈keysOf c,x∈ss
 | [],_,x,h=>by simp[keysOf]at h
 | (k,b)::r,h,x,hx=>by
  simp only[QE,qBa]at h;simp only[keysOf,List.mem_cons]at hx;rcases hx with rfl | hx
  · exact mW.1 h.1
  · exact JG h.2 x hx
theorem Yw {ss:List Nat}:∀ {l:List Nat},afV ss l=true→∀ x∈l,x∈ss
 | [],_,x,h=>by simp at h
 | y::r,h,x,hx=>by
  simp only[afV,qBa]at h;rcases List.mem_cons.1 hx with rfl | hx
  · exact mW.1 h.1
  · exact Yw h.2 x hx
theorem Yx {U:List Nat} {c:List (Nat × cu)} (h:∀ x∈keysOf c,x∈U) (hp:Heap):lI U (look (fC hp c))=lI U (look hp):=by
 cases U with
 | nil =>
  cases c with
  | nil=>rfl
  | cons p r=>obtain⟨k,b⟩:=p;exact absurd (h k (by simp[keysOf])) (by simp)
 | cons s r =>
  funext x;simp only[lI];cases hm:jC x (s::r) with
  | true=>rfl
  | false =>simp only[cond_false];rw[oG,yC fun hx=>gG.1 hm (h x hx)]
theorem CX {hp:Heap}:∀ {l:List Nat},present hp l=[]↔∀ s∈l,look hp s=none
 | []=>by simp[present]
 | s::r=>by
  simp only[present,List.mem_cons,forall_eq_or_imp];cases h:look hp s with
  | some b=>simp
  | none=>simp[CX]
theorem yD {env:List AV} {d1 d2:Option Nat} {v1 v2:AV} (h:∀ d,d1=some d→d2≠some d):setEnv (setEnv env d1 v1) d2 v2=setEnv (setEnv env d2 v2) d1 v1:=by
 cases d1 with
 | none=>rfl
 | some a =>
  cases d2 with
  | none=>rfl
  | some b=>exact List.set_comm _ _ fun e=>h a rfl (by rw[e])
theorem lM {env:List AV} {d:Option Nat} {v:AV} {t:Nat} (h:d≠some t):(setEnv env d v).getD t .undef=env.getD t .undef:=by
 cases d with
 | none=>rfl
 | some a =>have:a≠t:=fun e=>h (by rw[e]);simp only[setEnv,qLb,List.getElem?_set_ne this]
theorem oL {ss:List Nat} {env:List AV} {d:Option Nat} {v:AV} (h:v=.undef∨v=.qY []∨∃ x,v=.p x):jd ss (setEnv env d v)=setEnv (jd ss env) d v:=by
 have hk:AV.kill ss v=v:=by rcases h with rfl | rfl | ⟨x,rfl⟩<;>rfl
 cases d with
 | none=>rfl
 | some a =>
  apply List.ext_getElem?;intro i;simp only[setEnv,jI];by_cases hi:a=i
  · subst hi;by_cases hl:a<env.length
    · simp[hl,oC,hk]
    · rw[List.getElem?_eq_none (by simp;omega),List.getElem?_eq_none (by simp[oC];omega)];rfl
  · rw[List.getElem?_set_ne hi,List.getElem?_set_ne hi,jI]
theorem Uz {ss:List Nat} {env:List AV} {t:Nat} {v:PV}:(jd ss env).getD t .undef=.p v↔env.getD t .undef=.p v:=by
 simp only[qLb,jI];cases env[t]? with
 | none=>simp
 | some u =>
  simp only[Option.map_some,Option.getD_some];unfold AV.kill;cases h:AV.refers ss u with
  | false=>simp
  | true =>
   simp only[cond_true];constructor
   · intro h';cases h'
   · rintro rfl;simp[AV.refers]at h
theorem KZ {ss:List Nat} {env:List AV} {t:Nat}:(jd ss env).getD t .undef=.qY []↔env.getD t .undef=.qY []:=by
 simp only[qLb,jI];cases env[t]? with
 | none=>simp
 | some u =>
  simp only[Option.map_some,Option.getD_some];unfold AV.kill;cases h:AV.refers ss u with
  | false=>simp
  | true =>
   simp only[cond_true];constructor
   · intro h';cases h'
   · rintro rfl;simp[AV.refers,AV.jh]at h
def IsG (v:AV):Prop:=(∃ b,v=.p (.bool b))∨v=.qY []
theorem Iw {ss:List Nat} {env:List AV} {t:Nat} {v:AV} (hv:IsG v):(jd ss env).getD t .undef=v↔env.getD t .undef=v:=by
 rcases hv with ⟨b,rfl⟩ | rfl
 · exact Uz
 · exact KZ
theorem Iy {ss:List Nat} {env:List AV} {t:Nat} {v:AV} (hv:v.Tc=true):(jd ss env).getD t .undef=v↔env.getD t .undef=v:=by
 rcases abl hv with rfl | ⟨x,rfl⟩
 · exact KZ
 · exact Uz
end
end Go.Skm
namespace Go.Skm
section
variable {T:Tab} {C:aS}
theorem RI {ss:List Nat}:∀ {l:List Nat},VT ss l=true→∀ x∈l,x ∉ ss
 | [],_,x,h=>by simp at h
 | y::r,h,x,hx=>by
  simp only[VT,qBa,qBb]at h;rcases List.mem_cons.1 hx with rfl | hx
  · exact gG.1 h.1
  · exact RI h.2 x hx
theorem Yy {all : List Oper} {x y : Oper} (h : ZF all x y = true) :
    (∀ d,x.dst=some d→d ∉ vI all y)∧(∀ d,x.dst=some d→y.dst≠some d)∧(∀ d,y.dst=some d→d ∉ vI all x):=by
  unfold ZF at h;simp only[qBa]at h;refine⟨fun d hd=>?_,fun d hd=>?_,fun d hd=>?_⟩
  · have:=h.1;rw[hd]at this;simp only[qBa,qBb]at this;exact gG.1 this.1
  · have:=h.1;rw[hd]at this;simp only[qBa,qBb]at this;simpa using this.2
  · have:=h.2;rw[hd]at this;simp only[qBb]at this;exact gG.1 this
theorem je {st:St} {d:Option Nat} {e:Eff} (h1:e.cut=[]) (h2:e.Ed=[]) (h3:present st.heap e.new=[]):st.apply d e=⟨setEnv st.env d e.val,fC st.heap e.qI⟩:=by rw[kT,h1,h2,h3];simp[uT,NZ,BJ]
theorem RJ {all : List Oper} {o : Oper} (hc : dH T all o = .const) {env : List AV} {h : Nat → Option cu} {e : Eff} (he : CV T C all o env h = some e) :
    (∃ v,e={ val:=v }∧(v=.undef∨v=.qY []∨∃ x,v=.p x)) ∧
    ∀ env' h',(∀ g want t v,o.guard=some (g,want)→uO all g=some t→IsG v→env.getD t .undef=v→env'.getD t .undef=v)→CV T C all o env' h'=some e:=by
  obtain⟨v,hv,hs⟩:=Wv (C:=C) hc;have hv':v=.undef∨v=.qY []∨∃ x,v=.p x:=hv.imp id .inr;unfold CV Bf at he ⊢;simp only[hs]at he ⊢;cases hg:o.guard with
  | none =>rw[hg]at he;simp only[DT.run,Option.map_some,Option.getD_some,qOa]at he;subst he;exact⟨⟨v,rfl,hv'⟩,fun env' h' _=>rfl⟩
  | some gw =>
   obtain⟨g,want⟩:=gw;rw[hg]at he;simp only at he ⊢;cases hd:uO all g with
   | none=>rw[hd]at he;simp at he
   | some t =>
    rw[hd]at he;simp only at he ⊢;by_cases hx:∃ b,env.getD t .undef=.p (.bool b)
    · obtain⟨b,hb⟩:=hx;rw[hb]at he;simp only at he;refine⟨?_,fun env' h' hk=>?_⟩
      · split at he
        · simp[DT.run]at he;subst he;exact⟨v,rfl,hv'⟩
        · simp at he;subst he;exact⟨.qY [],rfl,.inr (.inl rfl)⟩
      · rw[hk g want t _ rfl hd (.inl ⟨b,rfl⟩) hb];exact he
    · by_cases hh:env.getD t .undef=.qY []
      · rw[hh]at he;simp only[Option.map_some,Option.getD_none,qOa]at he;subst he;refine⟨⟨.qY [],rfl,.inr (.inl rfl)⟩,fun env' h' hk=>?_⟩;rw[hk g want t _ rfl hd (.inr rfl) hh];rfl
      · split at he
        · rename_i b hb;exact absurd ⟨b,hb⟩ hx
        all_goals (first | exact absurd ⟨_,‹_›⟩ hx | exact absurd ‹_› hh | simp at he)
theorem guard_looks {all:List Oper} {o:Oper} {g t:Nat} {want:Bool} (hg:o.guard=some (g,want)) (hd:uO all g=some t):t∈vI all o:=by unfold vI;unfold uO at hd;rw[hg];simp[hd]
theorem UA {all : List Oper} {o : Oper} (hc : dH T all o = .plain) {env : List AV} {h h0 : Heap} {hh : Nat → Option cu} {ss : List Nat} {e : Eff} (he : CV T C all o env hh = some e) (hq : gJ true .plain ss h0 e = true) :
    (∃ v,e={ val:=v }∧(v=.undef∨v=.qY []∨∃ x,v=.p x)) ∧
    ∀ env' h',(∀ t∈vI all o,∀ u:AV,u.Tc=true→env.getD t .undef=u→env'.getD t .undef=u)→CV T C all o env' h'=some e:=by
  have _:=h;simp only[gJ,qBa,List.isEmpty_iff]at hq;obtain⟨q1,q2,q3,q4,q5⟩:=hq;obtain⟨ev,ec,en,eu,ef⟩:=e;simp only at q1 q2 q3 q4 q5;subst q1 q2 q3 q4;refine⟨⟨ev,rfl,.inr (abl q5)⟩,fun env' h' hk=>?_⟩;have hs:∀ {e':Eff},(fG T C env hh o).run some=some e'→e'.val.Tc=true→(fG T C env' h' o).run some=some e':=fun h1 h2 =>Yp hc h1 h2 env' h' fun t ht=>hk t (List.mem_append_left _ ht);unfold CV Bf at he ⊢;cases hg:o.guard with
  | none =>
   rw[hg]at he;simp only at he ⊢;cases hr:(fG T C env hh o).run some with
   | none=>rw[hr]at he;simp at he
   | some e' =>rw[hr]at he;simp only[Option.map_some,Option.getD_some,qOa]at he;subst he;rw[hs hr q5];rfl
  | some gw =>
   obtain⟨g,want⟩:=gw;rw[hg]at he;simp only at he ⊢;cases hd:uO all g with
   | none=>rw[hd]at he;simp at he
   | some t =>
    rw[hd]at he;simp only at he ⊢;have hl:=guard_looks hg hd;by_cases hx:∃ b,env.getD t .undef=.p (.bool b)
    · obtain⟨b,hb⟩:=hx;rw[hk t hl _ rfl hb];rw[hb]at he;simp only at he ⊢;split at he
      · next hbw =>
        rw[if_pos hbw];cases hr:(fG T C env hh o).run some with
        | none=>rw[hr]at he;simp at he
        | some e' =>rw[hr]at he;simp only[Option.map_some,Option.getD_some,qOa]at he;subst he;rw[hs hr q5];rfl
      · next hbw=>rw[if_neg hbw];exact he
    · by_cases hh':env.getD t .undef=.qY []
      · rw[hk t hl _ rfl hh'];rw[hh']at he;exact he
      · split at he
        · rename_i b hb;exact absurd ⟨b,hb⟩ hx
        all_goals (first | exact absurd ⟨_,‹_›⟩ hx | exact absurd ‹_› hh' | simp at he)
def Facts (o:List Nat) (e:Eff):Cls→Prop
 | .read=>(∀ x∈keysOf e.qI,x∈o)∧(∀ x∈e.new,x∈o)
 | .own t=>(∀ x∈keysOf e.qI,x∈[t])∧e.new=[]
 | .store=>e.new=[]
 | _=>e.qI=[]∧e.new=[]
def RN:Cls→Bool
 | .heavy=>false
 | _=>true
theorem N7 {cls : Cls} {o : List Nat} {h : Heap} {e : Eff} (hq : gJ true cls o h e = true) (hc : RN cls = true) :
    e.cut=[]∧e.Ed=[]∧present h e.new=[] ∧
    Facts o e cls:=by
  cases cls with
  | heavy=>cases hc
  | read =>simp only[gJ,qBa,List.isEmpty_iff]at hq;exact⟨hq.1,hq.2.1,hq.2.2.2.2,fun x hx=>JG hq.2.2.1 x hx,fun x hx=>Yw hq.2.2.2.1 x hx⟩
  | own t =>simp only[gJ,qBa,List.isEmpty_iff]at hq;exact⟨hq.1,hq.2.1,by rw[hq.2.2.2];rfl,fun x hx=>JG hq.2.2.1 x hx,hq.2.2.2⟩
  | store =>simp only[gJ,qBa,List.isEmpty_iff]at hq;exact⟨hq.1,hq.2.1,by rw[hq.2.2];rfl,hq.2.2⟩
  | pure =>simp only[gJ,qBa,List.isEmpty_iff]at hq;exact⟨hq.1,hq.2.1,by rw[hq.2.2.2];rfl,hq.2.2.1,hq.2.2.2⟩
  | const =>simp only[gJ,qBa,List.isEmpty_iff]at hq;exact⟨hq.1,hq.2.1,by rw[hq.2.2.2];rfl,hq.2.2.1,hq.2.2.2⟩
  | plain =>simp only[gJ,qBa,List.isEmpty_iff]at hq;exact⟨hq.1,hq.2.1,by rw[hq.2.2.2.1];rfl,hq.2.2.1,hq.2.2.2.1⟩
theorem quiet_move {cls:Cls} {o:List Nat} {h h':Heap} {e:Eff} (hq:gJ true cls o h e=true) (hp:present h' e.new=[]):gJ true cls o h' e=true:=by
 cases cls with
 | read =>simp only[gJ,qBa,List.isEmpty_iff]at hq ⊢;exact⟨hq.1,hq.2.1,hq.2.2.1,hq.2.2.2.1,hp⟩
 | _=>exact hq
theorem swap {all : List Oper} {hx ho : List Nat} {x o : Oper} {st st1 st2 : St} (h1 : step1 T C true hx all x st = some st1) (h2 : step1 T C true ho all o st1 = some st2) (hcl : zM T all hx ho x o = true)
    (s1:∀ s∈iK all x,s∈ho) (s2:∀ s∈iK all o,s∈hx):∃ st1' st2',step1 T C true ho all o st=some st1'∧step1 T C true hx all x st1'=some st2'∧Same st2' st2:=by
  obtain⟨ex,x1,x2,x3,rfl⟩:=jE.1 h1;obtain⟨eo,o1,o2,o3,rfl⟩:=jE.1 h2;unfold zM at hcl;simp only[qBa]at hcl;obtain⟨hap,hno,hcls⟩:=hcl;obtain⟨a1,a2,a3⟩:=Yy hap;have hno:=RI hno;by_cases hcx:dH T all x=.const
  · -- the first one is constant
    obtain⟨⟨v,rfl,hv⟩,hk⟩:=RJ hcx x1;have e1:st.apply x.dst { val:=v }=⟨setEnv st.env x.dst v,st.heap⟩:=je rfl rfl rfl;rw[e1]at o1 o3 ⊢;have o1':CV T C all o st.env (lI ho (look st.heap))=some eo:=by rw[← o1];exact wW fun t ht=>(lM fun e=>a1 t e ht).symm
    refine⟨st.apply o.dst eo,_,jE.2 ⟨eo,o1',o2,o3,rfl⟩,jE.2 ⟨{ val:=v },hk _ _ fun g want t u hg hd hu hb=>?_,x2,by rw[hcx];rfl,rfl⟩,?_⟩
    · rw[kT];simp only;rw[lM fun e=>a3 t e (guard_looks hg hd),Iw hu,Iw hu];exact hb
    · rw[je rfl rfl rfl,kT,kT];refine⟨?_,rfl⟩;simp only;rw[oL hv,oL hv];exact yD fun d hd e=>a2 d e hd
  · by_cases hco:dH T all o=.const
    · -- the second one is constant
      obtain⟨⟨v,rfl,hv⟩,hk⟩:=RJ hco o1;have o1':CV T C all o st.env (lI ho (look st.heap))=some { val:=v }:=by refine hk _ _ fun g want t u hg hd hu hb=>?_;rw[kT]at hb;simp only at hb;rwa[lM fun e=>a1 t e (guard_looks hg hd),Iw hu,Iw hu]at hb
      have e1:st.apply o.dst { val:=v }=⟨setEnv st.env o.dst v,st.heap⟩:=je rfl rfl rfl;refine⟨st.apply o.dst { val:=v },st.apply o.dst { val:=v } |>.apply x.dst ex,jE.2 ⟨{ val:=v },o1',o2,by rw[hco];rfl,rfl⟩,jE.2 ⟨ex,?_,x2,by rw[e1];exact x3,rfl⟩,?_⟩
      · rw[e1,← x1];exact wW fun t ht=>lM fun e=>a3 t e ht
      · rw[e1,je (st:=st.apply x.dst ex) rfl rfl rfl,kT,kT];refine⟨?_,rfl⟩;simp only;rw[oL hv,oL hv];exact(yD fun d hd e=>a2 d hd e).symm
    · by_cases aeM:dH T all x=.plain
      · -- the first one is a calculation
        rw[aeM]at x3;obtain⟨⟨v,rfl,hv⟩,hk⟩:=UA (h:=[]) aeM x1 x3;have e1:st.apply x.dst { val:=v }=⟨setEnv st.env x.dst v,st.heap⟩:=je rfl rfl rfl;rw[e1]at o1 o3 ⊢;have o1':CV T C all o st.env (lI ho (look st.heap))=some eo:=by rw[← o1];exact wW fun t ht=>(lM fun e=>a1 t e ht).symm
        refine⟨st.apply o.dst eo,_,jE.2 ⟨eo,o1',o2,o3,rfl⟩,jE.2 ⟨{ val:=v },hk _ _ fun t ht u hu hb=>?_,x2,by rw[aeM];exact x3,rfl⟩,?_⟩
        · rw[kT];simp only;rw[lM fun e=>a3 t e ht,Iy hu,Iy hu];exact hb
        · rw[je rfl rfl rfl,kT,kT];refine⟨?_,rfl⟩;simp only;rw[oL hv,oL hv];exact yD fun d hd e=>a2 d e hd
      · by_cases Z7:dH T all o=.plain
        · -- the second one is a calculation
          rw[Z7]at o3;obtain⟨⟨v,rfl,hv⟩,hk⟩:=UA (h:=[]) Z7 o1 o3;have o1':CV T C all o st.env (lI ho (look st.heap))=some { val:=v }:=by refine hk _ _ fun t ht u hu hb=>?_;rw[kT]at hb;simp only at hb;rwa[lM fun e=>a1 t e ht,Iy hu,Iy hu]at hb
          have e1:st.apply o.dst { val:=v }=⟨setEnv st.env o.dst v,st.heap⟩:=je rfl rfl rfl;refine⟨st.apply o.dst { val:=v },st.apply o.dst { val:=v } |>.apply x.dst ex,jE.2 ⟨{ val:=v },o1',o2,by rw[Z7];exact o3,rfl⟩,jE.2 ⟨ex,?_,x2,by rw[e1];exact x3,rfl⟩,?_⟩
          · rw[e1,← x1];exact wW fun t ht=>lM fun e=>a3 t e ht
          · rw[e1,je (st:=st.apply x.dst ex) rfl rfl rfl,kT,kT];refine⟨?_,rfl⟩;simp only;rw[oL hv,oL hv];exact(yD fun d hd e=>a2 d hd e).symm
        · -- neither: both only write slots and lay blocks
          have cx:RN (dH T all x)=true:=by
           cases hx':dH T all x<;>rw[hx']at hcls<;>first | rfl | skip
           cases ho':dH T all o<;>rw[ho']at hcls<;>simp at hcls
           · exact absurd ho' hco
           · exact absurd ho' Z7
          have co:RN (dH T all o)=true:=by
           cases ho':dH T all o<;>rw[ho']at hcls<;>first | rfl | skip
           cases hx':dH T all x<;>rw[hx']at hcls<;>simp at hcls
           · exact absurd hx' hcx
           · exact absurd hx' aeM
          obtain⟨p1,p2,p3,p4⟩:=N7 x3 cx;obtain⟨q1,q2,q3,q4⟩:=N7 o3 co;have e1:=je (d:=x.dst) p1 p2 p3;rw[e1]at o1 o3 q3 ⊢;rw[je q1 q2 q3];simp only at o1 o3 q3 ⊢;have facts:(dH T all o=.pure∨∀ s∈keysOf ex.qI,s∈ho)∧(dH T all x=.pure∨∀ s∈keysOf eo.qI,s∈hx)∧(∀ s∈keysOf ex.qI,s ∉ keysOf eo.qI)∧(∀ s∈ex.new,s ∉ keysOf eo.qI):=by
           cases hx':dH T all x with
           | const=>exact absurd hx' hcx
           | plain=>exact absurd hx' aeM
           | heavy=>rw[hx']at cx;cases cx
           | pure =>rw[hx']at p4;simp only[Facts]at p4;refine⟨.inr ?_,.inl rfl,?_,?_⟩<;>simp[p4.1,p4.2,keysOf]
           | read =>
            rw[hx']at p4 hcls;simp only[Facts]at p4;cases ho':dH T all o with
            | const=>exact absurd ho' hco
            | plain=>exact absurd ho' Z7
            | heavy=>rw[ho']at co;cases co
            | pure =>rw[ho']at q4;simp only[Facts]at q4;refine⟨.inl rfl,.inr ?_,?_,?_⟩<;>simp[q4.1,keysOf]
            | read =>rw[ho']at q4;simp only[Facts]at q4;exact⟨.inr fun s hs=>s1 s (p4.1 s hs),.inr fun s hs=>s2 s (q4.1 s hs),fun s h1 h2=>hno s (q4.1 s h2) (p4.1 s h1),fun s h1 h2=>hno s (q4.1 s h2) (p4.2 s h1)⟩
            | own t =>
             rw[ho']at q4 hcls;simp only[Facts,qBa,qBb]at q4 hcls;have ht:∀ s∈keysOf eo.qI,s∈hx∧s ∉ iK all x:=fun s hs=>by have:=q4.1 s hs;simp at this;subst this;exact⟨mW.1 hcls.1,gG.1 hcls.2⟩
             exact⟨.inr fun s hs=>s1 s (p4.1 s hs),.inr fun s hs=>(ht s hs).1,fun s h1 h2=>(ht s h2).2 (p4.1 s h1),fun s h1 h2=>(ht s h2).2 (p4.2 s h1)⟩
            | store=>rw[ho']at hcls;simp at hcls
           | own t =>
            rw[hx']at p4 hcls;simp only[Facts]at p4;cases ho':dH T all o with
            | const=>exact absurd ho' hco
            | plain=>exact absurd ho' Z7
            | heavy=>rw[ho']at co;cases co
            | pure =>rw[ho']at q4;simp only[Facts]at q4;refine⟨.inl rfl,.inr ?_,?_,?_⟩<;>simp[q4.1,keysOf]
            | read =>
             rw[ho']at q4 hcls;simp only[Facts,qBa,qBb]at q4 hcls;have ht:∀ s∈keysOf ex.qI,s∈ho∧s ∉ iK all o:=fun s hs=>by have:=p4.1 s hs;simp at this;subst this;exact⟨mW.1 hcls.1,gG.1 hcls.2⟩
             exact⟨.inr fun s hs=>(ht s hs).1,.inr fun s hs=>s2 s (q4.1 s hs),fun s h1 h2=>(ht s h1).2 (q4.1 s h2),fun s h1=>by rw[p4.2]at h1;simp at h1⟩
            | own t=>rw[ho']at hcls;simp at hcls
            | store=>rw[ho']at hcls;simp at hcls
           | store =>
            rw[hx']at p4 hcls;simp only[Facts]at p4;cases ho':dH T all o with
            | const=>exact absurd ho' hco
            | plain=>exact absurd ho' Z7
            | heavy=>rw[ho']at co;cases co
            | pure =>rw[ho']at q4;simp only[Facts]at q4;refine⟨.inl rfl,.inr ?_,?_,?_⟩<;>simp[q4.1,keysOf]
            | read=>rw[ho']at hcls;simp at hcls
            | own t=>rw[ho']at hcls;simp at hcls
            | store=>rw[ho']at hcls;simp at hcls
          obtain⟨f1,f2,f3,f4⟩:=facts;have n1:present st.heap eo.new=[]:=by
           rw[CX]at q3 ⊢;intro s hs;have:=q3 s hs;rw[oG]at this;split at this
           · cases this
           · exact this
          have o1':CV T C all o st.env (lI ho (look st.heap))=some eo:=by
           rw[wW fun t ht=>lM fun e=>a1 t e ht]at o1;rcases f1 with f1 | f1
           · rw[← o1];exact Ux f1
           · rwa[Yx f1]at o1
          have n2:present (fC st.heap eo.qI) ex.new=[]:=by rw[CX]at p3 ⊢;intro s hs;rw[oG,yC (f4 s hs)];exact p3 s hs
          refine⟨⟨setEnv st.env o.dst eo.val,fC st.heap eo.qI⟩,⟨setEnv (setEnv st.env o.dst eo.val) x.dst ex.val,fC (fC st.heap eo.qI) ex.qI⟩,jE.2 ⟨eo,o1',o2,quiet_move o3 n1,(je q1 q2 n1).symm⟩,jE.2 ⟨ex,?_,x2,quiet_move x3 n2,(je (st:=⟨setEnv st.env o.dst eo.val,fC st.heap eo.qI⟩) p1 p2 n2).symm⟩,?_⟩
          · simp only;rw[wW fun t ht=>lM fun e=>a3 t e ht];rcases f2 with f2 | f2
            · rw[← x1];exact Ux f2
            · rw[Yx f2];exact x1
          · exact⟨(yD fun d hd e=>a2 d hd e).symm,(Yv (fun s h1=>f3 s h1) st.heap).symm⟩
end
end Go.Skm
