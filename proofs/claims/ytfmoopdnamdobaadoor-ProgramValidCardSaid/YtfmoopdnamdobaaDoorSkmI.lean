import Derived.Test.YtfmoopdnamdobaaDoorSkmH
import Derived.Test.YtfmoopdnamdobaaDoorSkmG
import Derived.Shelf.LaysM
import Derived.Shelf.LaysC
import Derived.Shelf.Strconv.Itoa3
import Derived.Shelf.Strconv.AtoiAll
import Derived.Shelf.Strings.Split
import Derived.Shelf.SlicesE.Clone
import Derived.Laws.OwnMore
import Derived.Test.YtfmoopdnamdobaaDoorSkmC
import Derived.Test.YtfmoopdnamdobaaDoorSkmB
import Derived.Shelf.Strings.BuilderK
namespace Go.Skm
open Go Go.Proofs Go.Shelf Go.RowKit Go.Sort
section
variable {P:Program} {T:Tab} {gl:Option (List (Nat × Obj))} {ρ:Ren} {fi:FI} {c:Code}
end
end Go.Skm
namespace Go.Skm
open Go Go.Proofs Go.Shelf Go.RowKit Go.Lib
variable {P:Program} {ρ:Ren}
set_option maxHeartbeats 2000000 in
set_option maxRecDepth 100000 in
theorem VB (L : SlLaysE0.n41 P ρ) (i0 : TypeInfo) (z : Value) (size bytes : Nat) (hi : P.info? (ρ.t 23) = some i0) (hz0 : i0.zero = some z) (hz1 : i0.size = size) (hz2 : i0.bytes = bytes) (hzs : z.cells.size = size) (hsz : 0 < size)
    (z23:∀ w,(Go.sizeOf (ρ.t 23)).run P w=.ok size w) (a:Addr) (c:Nat) (w:World) :
    Calls P (ρ.f 41) #[.slice (some a) 0 c] w fun e w'=>∃ v',e=.returned v'∧w'.ownsRow w.heap.size (ρ.t 23) size v' 0 []∧Below w.heap.size w w':=by
  have mixed:=L.mixed;have t4:=L.t4;have a4:=L.a4;have z4:=L.z4;have v4:=L.v4;have t22:=L.t22;have a22:=L.a22;have z22:=L.z22;have v22:=L.v22
  have q22:∀ (w:World) (a:Option Addr) (n c n' c':Nat),(binOp .eql (ρ.t 22) (.slice a n c) (.slice none n' c')).run P w=.ok (.bool a.isNone) w:=fun w a n c n' c'=>Lib.run_eql_slice_nil w _ _ a n c n' c' L.t22
  have u22:∀ w,Sem.run P (underlying (ρ.t 22)) w=.ok (TypeDesc.slice (ρ.t 23)) w:=run_underlying t22
  obtain⟨_,_,FG⟩:=L.f41
  go_enter FG,SlBodyN.n41_ntmps ρ
  go_wp2_with (at_builtin;refine wpList_append_own _ rfl _ _ (ρ.t 22) rfl w.heap.size (ρ.t 23) i0 z size bytes t22 hi hz0 hz1 hz2 hzs hsz _ _ _ rfl (World.ownsRow_made w #[] 0 (Nat.le_refl _) (Nat.zero_le _) (by simp)) a 0 c [] rfl ?qc1 ?qc2 ?qc3 ?qc4 ?qc5 ?qc6 ?_)
  case qc1=>simp
  case qc2 =>
   intro j u hj
   simp at hj
  case qc3=>intro u hu;simp at hu
  case qc4=>simp
  case qc5=>simp
  case qc6=>simp
  intro v' w1 hown hgrow hnil
  go_wp2
  go_ret
  refine⟨v',rfl,by simpa using hown,?_⟩
  exact((Below.refl _ w).alloc (Nat.le_refl _) _).grown hgrow (by simp) (by intro k hk;simp[Value.ownBlock]at hk;omega)
section
variable {T:Tab} {fi:FI} {β:Nat→Option (Nat × Nat)}
theorem Py {t e el : TypeId} {a : Bool} {ks : List Kd} {w' : World} {v' : Value} {base : Nat} {h : Nat → Option aJ} (hr : fi.cfg.rets = [.fresh]) (ht : fi.fn.resultTypes = #[t]) (hu : und T t = some (.slice e)) (hsh : ay T e = (a,ks))
    (ho:w'.ownsRow base el ks.length v' 0 []):∃ ps,(∀ M:Nat→Prop,sD T w' M β h fi.cfg.rets fi.fn.resultTypes.toList [.fresh a ks []] [v'] ps)∧∀ b o,some (b,o)∈ps→b<w'.heap.size∧base≤b:=by
  have e1:(ay T e).1=a:=by rw[hsh]
  have e2:(ay T e).2=ks:=by rw[hsh]
  obtain⟨-,⟨rfl,-⟩ | ⟨g,cap,cur,rfl,hb,hg,-,-,hsz,-⟩⟩:=ho
  · refine⟨[none],fun M=>?_,fun b o h=>by simp at h⟩
    rw[hr,ht]
    refine .cons _ _ _ _ _ _ _ _ _ ?_ (.nil _) (fun b o o' _ h=>by cases h)
    have key:=qZ.fresh (T:=T) (w:=w') (M:=M) (β:=β) (h:=h) t e [] (.slice none 0 0) none hu
    rw[e1,e2]at key
    exact key (.gY _ _) (.sliceE 0 0 a ks [] none rfl (Nat.le_refl _))
  · refine⟨[some (g,0)],fun M=>?_,fun b o h=>?_⟩
    · rw[hr,ht]
      refine .cons _ _ _ _ _ _ _ _ _ ?_ (.nil _) (fun b o o' _ h=>by cases h)
      have key:=qZ.fresh (T:=T) (w:=w') (M:=M) (β:=β) (h:=h) t e [] (.slice (some ⟨g,0,none⟩) 0 cap) (some (g,0)) hu
      rw[e1,e2]at key
      refine key (.gY _ _) ?_
      have k2:=AR.slice (w:=w') (M:=M) (β:=fun _=>some (g,0)) (h:=fun _=>some (.arr a ks [])) 0 0 0 a ks [] g 0 cap rfl (by simp) rfl (Nat.zero_le _) ⟨cur,el,(0,0),hg,by simp;omega,fun _=>.inl rfl⟩
      simpa using k2
    · simp only[List.mem_singleton,qOa,Prod.mk.injEq]at h
      obtain⟨rfl,rfl⟩:=h
      exact⟨(qAa.1 hg).1,hb⟩
end
end Go.Skm
namespace Go.Skm
open Go Go.Proofs Go.Shelf Go.RowKit Go.Lib
variable {P:Program} {ρ:Ren} {T:Tab}
theorem ady {w:World} {M:Nat→Prop} {v:PV} {c:Value} (h:VR w M v c) (hl:v.leaf=true):c.oneCell'=true:=by
 cases h<;>first | rfl | (simp[PV.leaf]at hl)
def rowOf (f:Nat→Nat→Value) (n W:Nat):List Value:=(List.range (n*W)).map fun q=>f (q / W) (q%W)
theorem yw (f:Nat→Nat→Value) (n W:Nat):(rowOf f n W).length=n*W:=by simp[rowOf]
theorem yx {f:Nat→Nat→Value} {n W i j:Nat} (hi:i<n) (hj:j<W):(rowOf f n W)[i*W+j]?=some (f i j):=by
 have h1:i*W+j<n*W:=by
  have:(i+1)*W≤n*W:=Nat.mul_le_mul_right W hi
  rw[Nat.succ_mul]at this;omega
 have h2:(i*W+j) / W=i:=by
  rw[Nat.mul_comm,Nat.mul_add_div (by omega),Nat.div_eq_of_lt hj];omega
 have h3:(i*W+j)%W=j:=by rw[Nat.mul_comm,Nat.mul_add_mod,Nat.mod_eq_of_lt hj]
 rw[rowOf,List.getElem?_map,List.getElem?_range h1,Option.map_some,h2,h3]
theorem GZ {q n W:Nat} (h:q<n*W) (hW:0<W):q / W<n∧q%W<W∧q / W*W+q%W=q :=
 ⟨Nat.div_lt_of_lt_mul (by rw[Nat.mul_comm];exact h),Nat.mod_lt _ hW,by rw[Nat.mul_comm];exact Nat.div_add_mod q W⟩
structure qK (w w':World) (M:Nat→Prop) (a:Bool) (ks:List Kd) (xs:List PV) (e:TypeId) (v':Value):Prop where
 below:Below w.heap.size w w'
 row:(xs=[]∧w'.ownsRow w.heap.size e ks.length v' 0 [])∨∃ f,(∀ (i:Nat) (x:PV) (j:Nat) (c:PV),xs[i]?=some x→x.cells[j]?=some c→VR w M c (f i j))∧(∀ x∈xs,au a ks x=true)∧w'.ownsRow w.heap.size e ks.length v' xs.length (rowOf f xs.length ks.length)
theorem pF (L : SlLaysE0.n41 P ρ) {ks : List Kd} {a : Bool} {i0 : TypeInfo} {z : Value} (hi : P.info? (ρ.t 23) = some i0) (hz0 : i0.zero = some z) (hz1 : i0.size = ks.length) (hzs : z.cells.size = ks.length) (hby : i0.bytes ≤ 1000) (hsz : 0 < ks.length)
    (z23:∀ w,(Go.sizeOf (ρ.t 23)).run P w=.ok ks.length w) {w:World} {M:Nat→Prop} {xs:List PV} {c:Value} (hv:VR w M (.list a ks xs) c) (hn:xs.length≤100000) :
    Calls P (ρ.f 41) #[c] w fun e w'=>∃ v',e=.returned v'∧qK w w' M a ks xs (ρ.t 23) v':=by
  generalize hys:xs=ys at hv
  cases hv with
  | list _ _ _ b o cap f hM hcap hc Nq hs =>
   subst hys
   have hnb:xs.length*i0.bytes≤140737488355328:=by
    have:=Nat.mul_le_mul hn hby
    omega
   refine(AnyE.slices_Clone L i0 z ks.length i0.bytes hi hz0 hz1 rfl hzs hsz z23 b o xs.length cap (rowOf f xs.length ks.length) w (yw _ _ _) (Nat.le_trans hn (by decide)) hnb (fun q u hq=>?_) (fun u hu=>?_)).mono fun e w' ⟨v',he,ho,_,hb⟩=>⟨v',he,hb,.inr ⟨f,Nq,hs,ho⟩⟩
   · have hql:q<xs.length*ks.length:=by rw[← yw f];exact(qLa.1 hq).1
     obtain⟨h1,h2,h3⟩:=GZ hql hsz
     have hx:xs[q / ks.length]?=some xs[q / ks.length]:=qLd h1
     have hl:xs[q / ks.length].cells.length=ks.length:=bM (hs _ (List.getElem_mem h1))
     have hcc:=hc _ _ _ _ hx (qLd (by rw[hl];exact h2))
     have h4:=yx (f:=f) h1 h2
     rw[h3]at h4
     rw[h4]at hq
     rw[Nat.add_assoc,h3]at hcc
     rw[hcc];exact hq
   · obtain⟨q,hq,rfl⟩:=List.mem_map.1 hu
     obtain⟨h1,h2,h3⟩:=GZ (List.mem_range.1 hq) hsz
     have hx:xs[q / ks.length]?=some xs[q / ks.length]:=qLd h1
     have hsx:=hs _ (List.getElem_mem h1)
     obtain⟨c,hc1,hc2,_⟩:=qc hsx (qLd h2)
     exact ady (Nq _ _ _ _ hx hc1) (iC hc2)
  | kZ _ _ base cap =>
   subst hys
   cases base with
   | none=>exact(AnyE.slices_Clone_nil L 0 cap w).mono fun e w' ⟨he,hw⟩=>⟨_,he,hw▸Below.refl _ _,.inl ⟨rfl,by simp,.inl ⟨rfl,rfl⟩⟩⟩
   | some ad=>exact(VB L i0 z ks.length i0.bytes hi hz0 hz1 rfl hzs hsz z23 ad cap w).mono fun e w' ⟨v',he,ho,hb⟩=>⟨v',he,hb,.inl ⟨rfl,ho⟩⟩
section
variable {gl:Option (List (Nat × Obj))} {fi:FI} {w w':World} {M:Nat→Prop} {β:Nat→Option (Nat × Nat)} {aF:Array Value} {a:Bool} {ks:List Kd} {xs:List PV} {el:TypeId} {v':Value}
theorem J5 {args : List AV} (hsh : fi.cfg.shares = true) (_al2 : tX w M β args [] aF) (hb : Below w.heap.size w w') (hdr : iH gl w.drawn w'.drawn) {rs : List AV} {cs : List Value} {ps : List (Option (Nat × Nat))} {M' : Nat → Prop}
    (hm:∀ b,M b→M' b) (hm2:∀ b,M' b→M b∨w.heap.size≤b) (hm3:∀ b,M' b→b<w'.heap.size)
    (hres:sD T w' M' β (look (dM 0 [])) fi.cfg.rets fi.fn.resultTypes.toList rs cs ps) (hown:∀ b o,some (b,o)∈ps→¬ M' b∧b<w'.heap.size∧w.heap.size≤b):zi gl T fi w M β [] rs [] w' M' cs ps:=by
  refine⟨hres,hown,fun _ h=>?_,hm,hm2,hm3,fun b h _=>hb.block b h,?_,hb.size,hb.os,hb.tape,hb.output,hdr,rfl,?_⟩
  · rw[hsh]at h;cases h
  · intro b n h hr
    obtain⟨C,e,fr,h1,h2,h3⟩:=hr
    exact⟨C,e,fr,by rw[hb.block b h];exact h1,h2,h3⟩
  · intro i b0 b1 h;simp at h
theorem Uc (hcp : qK w w' M a ks xs el v') (hlt : ∀ b,M b → b < w.heap.size) (_hsz : 0 < ks.length) :
    ∃ M':Nat→Prop,(∀ b,M b→M' b)∧(∀ b,M' b→M b∨w.heap.size≤b)∧(∀ b,M' b→b<w'.heap.size)∧VR w' M' (.list a ks xs) v':=by
  have hold:∀ b,M b→b<w'.heap.size:=fun b h=>Nat.lt_of_lt_of_le (hlt b h) hcp.below.size
  have empty:xs=[]→(v'=.slice none 0 0∨∃ g cap,v'=.slice (some ⟨g,0,none⟩) 0 cap)→∃ M':Nat→Prop,(∀ b,M b→M' b)∧(∀ b,M' b→M b∨w.heap.size≤b)∧(∀ b,M' b→b<w'.heap.size)∧VR w' M' (.list a ks xs) v':=by
   rintro rfl h
   refine⟨M,fun _ h=>h,fun _ h=>.inl h,hold,?_⟩
   rcases h with rfl | ⟨g,cap,rfl⟩<;>exact .kZ _ _ _ _
  rcases hcp.row with ⟨h1,-,h2⟩ | ⟨f,hv,hs,ho⟩
  · refine empty h1 ?_
    rcases h2 with ⟨h,_⟩ | ⟨g,cap,_,h,_⟩
    · exact .inl h
    · exact .inr ⟨g,cap,h⟩
  · rcases ho.2 with ⟨h,h0⟩ | ⟨g,cap,cur,h,hg0,hg,hcap,_⟩
    · exact empty (List.length_eq_zero_iff.1 h0) (.inl h)
    · subst h
      refine⟨fun b=>M b∨b=g,fun b h=>.inl h,fun b h=>h.imp id fun (e:b=g)=>e▸hg0,fun b h=>h.elim (hold b) fun (e:b=g)=>e▸(qAa.1 hg).1,?_⟩
      refine .list a ks xs g 0 cap f (.inr rfl) hcap (fun i x j c hx hc=>?_) (fun i x j c hx hc=>(hv i x j c hx hc).mono fun b hb=>⟨.inl hb,hcp.below.block b (hlt b hb)⟩) hs
      have hi:i<xs.length:=(qLa.1 hx).1
      have hxm:xs[i]=x:=(qLa.1 hx).2
      have hj:j<ks.length:=by
       rw[← bM (hs x (hxm▸List.getElem_mem hi))];exact(qLa.1 hc).1
      have hq:i*ks.length+j<xs.length*ks.length:=by
       have:(i+1)*ks.length≤xs.length*ks.length:=Nat.mul_le_mul_right _ hi
       rw[Nat.succ_mul]at this;omega
      rw[Nat.zero_add,ho.cellAt _ hq,yx hi hj]
theorem QW {t e : TypeId} {h : Nat → Option aJ} (hcp : qK w w' M a ks xs el v') (hlt : ∀ b,M b → b < w.heap.size) (hr : fi.cfg.rets = [.fresh]) (ht : fi.fn.resultTypes = #[t]) (hu : und T t = some (.slice e)) (hsh : ay T e = (a,ks)) :
    ∃ ps,sD T w' M β h fi.cfg.rets fi.fn.resultTypes.toList [.fresh a ks xs] [v'] ps∧∀ b o,some (b,o)∈ps→b<w'.heap.size∧w.heap.size≤b:=by
  rcases hcp.row with ⟨rfl,ho⟩ | ⟨f,hv,hs,ho⟩
  · obtain⟨ps,p1,p2⟩:=Py (β:=β) (h:=h) hr ht hu hsh ho
    exact⟨ps,p1 M,p2⟩
  · by_cases h0:xs=[]
    · subst h0
      have ho':w'.ownsRow w.heap.size el ks.length v' 0 []:=by
       have:rowOf f ([]:List PV).length ks.length=[]:=List.length_eq_zero_iff.1 (by rw[yw];simp)
       rw[this]at ho;exact ho
      obtain⟨ps,p1,p2⟩:=Py (β:=β) (h:=h) hr ht hu hsh ho'
      exact⟨ps,p1 M,p2⟩
    · have e1:(ay T e).1=a:=by rw[hsh]
      have e2:(ay T e).2=ks:=by rw[hsh]
      obtain⟨-,⟨-,hz⟩ | ⟨g,cap,cur,rfl,hb,hg,hcap,-,hsz,htk⟩⟩:=id ho
      · exact absurd (List.length_eq_zero_iff.1 hz) h0
      · refine⟨[some (g,0)],?_,fun b o h=>?_⟩
        · rw[hr,ht]
          refine .cons _ _ _ _ _ _ _ _ _ ?_ (.nil _) (fun b o o' _ h=>by cases h)
          have hopen:Open cur (0,0):=.inl rfl
          have key:=qZ.fresh (T:=T) (w:=w') (M:=M) (β:=β) (h:=h) t e xs (.slice (some ⟨g,0,none⟩) xs.length cap) (some (g,0)) hu
          rw[e1,e2]at key
          have hle:xs.length*ks.length≤cur.size:=by rw[hsz];exact Nat.mul_le_mul_right _ hcap
          refine key ?_ ?_
          · refine .arr a ks xs g 0 cur el (0,0) rfl hg (by omega) hopen hs fun i x j c hx hc=>?_
            have hi:i<xs.length:=(qLa.1 hx).1
            have hxm:xs[i]=x:=(qLa.1 hx).2
            have hj:j<ks.length:=by
             rw[← bM (hs x (hxm▸List.getElem_mem hi))];exact(qLa.1 hc).1
            have hq:i*ks.length+j<xs.length*ks.length:=by
             have:(i+1)*ks.length≤xs.length*ks.length:=Nat.mul_le_mul_right _ hi
             rw[Nat.succ_mul]at this;omega
            have hcell:=ho.cellAt _ hq
            rw[yx hi hj]at hcell
            have hd:cur.getD (0+i*ks.length+j) undef=f i j:=by
             have hlt2:i*ks.length+j<cur.size:=by omega
             simp only[World.cell?,hg,Option.isSome_none,Bool.false_eq_true,if_false]at hcell
             rw[Nat.zero_add,qAb,hcell];rfl
            rw[hd]
            exact(hv i x j c hx hc).mono fun b hb=>⟨hb,hcp.below.block b (hlt b hb)⟩
          · have key2:=AR.slice (w:=w') (M:=M) (β:=fun _=>some (g,0)) (h:=fun _=>some (.arr a ks xs)) 0 0 xs.length a ks xs g 0 cap rfl (by simp) rfl hcap (.mk hg (by rw[hsz];simp) hopen)
            simpa using key2
        · simp only[List.mem_singleton,qOa,Prod.mk.injEq]at h
          obtain⟨rfl,rfl⟩:=h
          exact⟨(qAa.1 hg).1,hb⟩
end
def nM (a:Bool) (ks:List Kd):J4:=fun args bl=>match args,bl with
 | [.p (.list a' ks' xs)],[]=>if(a'==a&&(Kd.xB ks' ks&&decide (xs.length≤100000)))=true then some ([.p (.list a ks xs)],[]) else none
 | _,_=>none
def Bf (a:Bool) (ks:List Kd):J4:=fun args bl=>match args,bl with
 | [.p (.list a' ks' xs)],[]=>if(a'==a&&(Kd.xB ks' ks&&decide (xs.length≤100000)))=true then some ([.fresh a ks xs],[]) else none
 | _,_=>none
structure CS (P:Program) (T:Tab) (ρ:Ren) (f:Nat) (fi:FI) (t e:TypeId) (a:Bool) (ks:List Kd):Prop where
 L:SlLaysE0.n41 P ρ
 hf:ρ.f 41=f
 hfi:bI T.funcs f=some fi
 hb:∃ c,fi.fn.body=some c
 hs:fi.cfg.shares=true
 ht:fi.fn.resultTypes=#[t]
 hu:und T t=some (.slice e)
 hsh:ay T e=(a,ks)
 info:∃ i0 z,P.info? (ρ.t 23)=some i0∧i0.zero=some z∧i0.size=ks.length∧z.cells.size=ks.length∧i0.bytes≤1000
 hsz:0<ks.length
 z23:∀ w,(Go.sizeOf (ρ.t 23)).run P w=.ok ks.length w
theorem Bg {gl:Option (List (Nat × Obj))} (hne:gl≠none) {f:Nat} {fi:FI} {t e:TypeId} {a:Bool} {ks:List Kd} (A:CS P T ρ f fi t e a ks) (hr:fi.cfg.rets=[.deep]) (hst:ay T t=(false,[.slice a ks])):PS P T gl f (nM a ks):=by
 intro fi' args bl rs pG Rj h
 have:fi'=fi:=by rw[A.hfi]at Rj;exact(Option.some.inj Rj).symm
 subst this
 unfold nM at h
 split at h
 · next a' ks' xs =>
   split at h
   · next hc =>
     simp only[qBa,beq_iff_eq,qDa]at hc
     obtain⟨rfl,hk,hn⟩:=hc
     have hk:=Kd.mY _ _ hk
     subst hk
     cases h
     refine⟨A.hb,by simp,fun w M β aF hgl hpre=>?_⟩
     obtain⟨v,rfl,hv⟩:=G6 hpre
     obtain⟨i0,z,k1,k2,k3,k4,k5⟩:=A.info
     have call:=pF A.L k1 k2 k3 k4 k5 A.hsz A.z23 hv hn
     rw[A.hf]at call
     refine call.mono fun e' w' ⟨v',he,hcp⟩=>?_
     obtain⟨M',m1,m2,m3,hv'⟩:=Uc hcp hpre.fB A.hsz
     refine⟨[v'],[none],M',he,J5 A.hs hpre hcp.below (fun e=>absurd e hne) m1 m2 m3 ?_ (fun b o h=>by simp at h)⟩
     rw[hr,A.ht]
     exact .cons _ _ _ _ _ _ _ _ _ (.deep _ _ _ (by rw[hst];simp[au,kindOk,Kd.jy]) hv') (.nil _) (fun b o o' h=>by cases h)
   · cases h
 · cases h
theorem RN {gl:Option (List (Nat × Obj))} (hne:gl≠none) {f:Nat} {fi:FI} {t e:TypeId} {a:Bool} {ks:List Kd} (A:CS P T ρ f fi t e a ks) (hr:fi.cfg.rets=[.fresh]):PS P T gl f (Bf a ks):=by
 intro fi' args bl rs pG Rj h
 have:fi'=fi:=by rw[A.hfi]at Rj;exact(Option.some.inj Rj).symm
 subst this
 unfold Bf at h
 split at h
 · next a' ks' xs =>
   split at h
   · next hc =>
     simp only[qBa,beq_iff_eq,qDa]at hc
     obtain⟨rfl,hk,hn⟩:=hc
     have hk:=Kd.mY _ _ hk
     subst hk
     cases h
     refine⟨A.hb,by simp,fun w M β aF hgl hpre=>?_⟩
     obtain⟨v,rfl,hv⟩:=G6 hpre
     obtain⟨i0,z,k1,k2,k3,k4,k5⟩:=A.info
     have call:=pF A.L k1 k2 k3 k4 k5 A.hsz A.z23 hv hn
     rw[A.hf]at call
     refine call.mono fun e' w' ⟨v',he,hcp⟩=>?_
     obtain⟨ps,p1,p2⟩:=QW (β:=β) (h:=look (dM 0 [])) hcp hpre.fB hr A.ht A.hu A.hsh
     refine⟨[v'],ps,M,he,J5 A.hs hpre hcp.below (fun e=>absurd e hne) (fun _ h=>h) (fun _ h=>.inl h) (fun b h=>Nat.lt_of_lt_of_le (hpre.fB b h) hcp.below.size) p1 (fun b o h=>⟨fun hM=>?_,p2 b o h⟩)⟩
     have:=hpre.fB b hM
     have:=(p2 b o h).2
     omega
   · cases h
 · cases h
end Go.Skm
namespace Go.Skm
open Go Go.Proofs Go.Shelf Go.RowKit
variable {P:Program} {ρ:Ren}
def VD:Value→PV
 | .int .u8 n=>.int .u8 n
 | _=>.nil
theorem aal {cs:List Value} (h:∀ c∈cs,∃ n,c=.int .u8 n):(cs.map VD).map iL=cs:=by
 rw[List.map_map]
 conv=>rhs;rw[← List.map_id cs]
 refine List.map_congr_left fun c hc=>?_
 obtain⟨n,rfl⟩:=h c hc
 rfl
theorem VE {cs:List Value} (h:∀ c∈cs,∃ n,c=.int .u8 n):∀ x∈cs.map VD,au false [.int .u8] x=true:=by
 intro x hx
 obtain⟨c,hc,rfl⟩:=List.mem_map.1 hx
 obtain⟨n,rfl⟩:=h c hc
 rfl
structure VF (e:TypeId) (w:World) (q:Option (Nat × Nat)) (cs:List Value) (v':Value) (w':World):Prop where
 row:∃ q',wR e w' v' q' cs∧∀ g o,q'=some (g,o)→(∃ o',q=some (g,o'))∨w.heap.size≤g
 keep:∀ k,k<w.heap.size→(∀ o,q≠some (k,o))→w'.heap[k]?=w.heap[k]?
 size:w.heap.size≤w'.heap.size
 os:w'.os=w.os
 tape:w'.tape=w.tape
 output:w'.output=w.output
 drawn:w.drawn≤w'.drawn
theorem Y8 {e:TypeId} {w:World} {v:Value} {q:Option (Nat × Nat)} {cs:List Value} (h:wR e w v q cs) {g o:Nat} (hq:q=some (g,o)):g<w.heap.size:=by
 rcases h with ⟨rfl,_⟩ | ⟨b,cap,C,fr,rfl,_,_,_,h4,_⟩
 · cases hq
 · cases hq;exact(qAa.1 h4).1
theorem WU {w:World} {M:Nat→Prop} {x c:PV} {v:Value} (hx:au false [.int .u8] x=true) (hc:x.cells[0]?=some c) (h:VR w M c v):v=iL x:=by
 obtain⟨n,rfl⟩:=zV hx
 cases hc
 cases h;rfl
theorem zZ {x:PV} (hx:au false [.int .u8] x=true):x.cells[0]?=some x:=by
 obtain⟨n,rfl⟩:=zV hx
 rfl
theorem VG {e:TypeId} {w:World} {v:Value} {q:Option (Nat × Nat)} {xs:List PV} (hr:wR e w v q (xs.map iL)) (hxs:∀ x∈xs,au false [.int .u8] x=true):LK P w (fun _=>False) false [.int .u8] xs.length xs v:=by
 rcases hr with ⟨_,h2,rfl⟩ | ⟨b,cap,C,fr,_,rfl,h3,h4,h5,h6,h7,h8⟩
 · have hx:xs=[]:=by simpa using h2
   subst hx
   exact mM none 0
 · rw[List.length_map]
   refine zh (P:=P) (w:=w) (M:=fun _=>False) (a:=false) (ks:=[.int .u8]) (xs:=xs) b 0 cap (fun i _=>C.getD i undef) (fun i x j c h1 h2=>?_) (fun i x j c h1 h2=>?_) hxs
   all_goals
    obtain⟨n,hn⟩:=zV (hxs x (qLe h1))
    subst hn
    have hj:j=0∧c=.int .u8 n:=by
     match j,h2 with
     | 0,h2=>cases h2;exact⟨rfl,rfl⟩
     | j+1,h2=>simp[PV.cells]at h2
    obtain⟨rfl,rfl⟩:=hj
   · have hi : i < C.size := by
       have:=(qLa.1 h1).1
       simp only[List.length_map]at h3
       omega
     simp only[World.cell?,h5,Option.isSome_none,Bool.false_eq_true,if_false]
     have:0+i*[Kd.int IntKind.u8].length+0=i:=by simp
     rw[this,qAd hi]
     simp[Array.getD,hi]
   · rw[h8 i (.int .u8 n) (by rw[List.getElem?_map,h1];rfl)]
     exact .int _ _
theorem AA {P : Program} {b o : Nat} {e : TypeId} {fr : Nat × Nat} : ∀ (vs : List Value) (i : Nat) (w : World) (C : Array Value),w.heap[b]? = some (.cells C e fr) → Past (o + i) fr → o + i + vs.length ≤ C.size →
    (∀ v∈vs,v.oneCell'=true)→(storeCells ⟨b,o,none⟩ vs i).run P w=.ok () (eH w b (dK C (o+i) vs) e fr)
  | [],i,w,C,hw,_,hl,_=>by
   have:dK C (o+i) []=C:=by simp[dK,patch]
   rw[this,IW hw];rfl
  | v::r,i,w,C,hw,ho,hl,h1=>by
   simp only[List.length_cons]at hl
   have hcell:w.cell? ⟨b,o+i,none⟩=some (C.getD (o+i) undef):=qj hw (by omega)
   have hfr:w.frozen? ⟨b,o+i,none⟩=false:=by
    simp only[World.frozen?,hw]
    simp only[Bool.and_eq_false_iff,decide_eq_false_iff_not]
    rcases ho with ho | ho<;>omega
   have hb:=(qAa.1 hw).1
   simp only[storeCells,Sem.run_bind,addr_add,run_store P w _ v .plain (h1 v (by simp)),hcell,hfr,Bool.false_eq_true,if_false,qRa,setCell_eq hw]
   rw[AA r (i+1) _ (C.setIfInBounds (o+i) v) (rH hw) (ho.mono (by omega)) (by simp;omega) (fun u hu=>h1 u (by simp[hu])),D5]
   congr 2
   rw[← Nat.add_assoc]
   exact OU (by simp;omega)
theorem abJ {ts : Array TypeId} {ty t t2 e : TypeId} {i : TypeInfo} {v0 : Value} (h0 : ts[0]? = some t) (h1 : ts[1]? = some t2) (hu : P.underlying t = some (.slice e)) (hi : P.info? e = some i) (hz : i.zero = some v0) (hsz : i.size = 1) (hby : i.bytes ≤ 16384) (hzs : v0.cells.size = 1)
    {w:World} {v:Value} {q:Option (Nat × Nat)} {cs:List Value} (hr:wR e w v q cs) (hb:∀ c∈cs,∃ n,c=.int .u8 n) {m:Nat} {ys:List PV} {cy:Value} (hys:∀ y∈ys,au false [.int .u8] y=true)
    (hB:vS P w (fun _=>False) t2 v0 false [.int .u8] m ys cy) (hB':vS P w.drew (fun _=>False) t2 v0 false [.int .u8] m ys cy) (hm:cs.length+m≤2147483648) :
    ∃ v' w',(Builtin.append_ ts ty #[v,cy]).run P w=.ok v' w'∧VF e w q (cs++ys.map iL) v' w':=by
  have hym:ys.length=m:=hB.1
  let xs:=cs.map VD
  have hxl:xs.length=cs.length:=by simp[xs]
  have hxv:xs.map iL=cs:=aal hb
  have hxs:=VE hb
  obtain⟨zeros,td,CB,b3,b4,b5,b6,b7,b8⟩:=hB.both hB'
  have one:∀ u∈CB.toList,u.oneCell'=true:=hB.one CB b5 b6
  have hCB:∀ (j:Nat) (y:PV),ys[j]?=some y→CB.getD j undef=iL y:=fun j y hy=>by
   have hs:=hys y (qLe hy)
   have:=b6 j y 0 y hy (zZ hs)
   have e1:j*[Kd.int IntKind.u8].length+0=j:=by simp
   rw[e1]at this
   exact WU hs (zZ hs) this
  have afs:CB.size=m:=by simpa using b5
  have grow:∀ (base:Option Addr) (cap:Nat),v=.slice base cs.length cap→cap<cs.length+m→0<cs.length+m→(∀ g o,q=some (g,o)→g<w.heap.size)→∃ v' w',(Builtin.append_ ts ty #[v,cy]).run P w=.ok v' w'∧VF e w q (cs++ys.map iL) v' w':=by
   intro base cap hv hgr hpos hq
   have hrd:wR e w.drew v q (xs.map iL):=by rw[hxv];exact hr
   have hA:LK P w.drew (fun _=>False) false [.int .u8] xs.length xs v:=VG hrd hxs
   rw[hv,hxl]at hA
   obtain⟨D,qH,g1,g2,g3,g4,g5,g6⟩:=zU (ty:=ty) (ks:=[.int .u8]) h0 h1 hu hi hz hsz hby hzs hm hA hB hB' hgr
   refine⟨_,_,by rw[hv];exact g1,⟨⟨some (w.heap.size,0),.inr ⟨w.heap.size,qH,D,(0,0),rfl,?_,?_,?_,kE (w:=w.drew),?_,Or.inl rfl,fun j c hj=>?_⟩,fun g o hg=>by cases hg;exact .inr (Nat.le_refl _)⟩,fun k hk _=>alloc_old (w:=w.drew) hk,by simp,rfl,rfl,rfl,Nat.le_succ _⟩⟩
   · simp[hym]
   · simp[hym];exact g2
   · simp[hym];omega
   · simp at g3;omega
   · have hc:cs++ys.map iL=(xs++ys).map iL:=by rw[List.map_append,hxv]
     rw[hc,List.getElem?_map]at hj
     cases hy:(xs++ys)[j]? with
     | none=>rw[hy]at hj;simp at hj
     | some y =>
      rw[hy]at hj
      simp only[Option.map_some,qOa]at hj
      subst hj
      have hs:=g4 y (qLe hy)
      have:=g6 j y 0 y hy (zZ hs)
      have e1:j*[Kd.int IntKind.u8].length+0=j:=by simp
      rw[e1]at this
      exact WU hs (zZ hs) this
  have fits:∀ (base:Option Addr) (len cap:Nat) (w1:World),len+m≤2147483648→len+m≤cap→ZE P base (len*1) CB w w1→(Builtin.append_ ts ty #[.slice base len cap,cy]).run P w=.ok (.slice base (len+m) cap) w1:=by
   intro base len cap w1 hm hcap hst
   exact EL (ks:=[.int .u8]) h0 h1 hu hi hz hsz hby b3 b4 hm (C:=CB) b7 b8 (fun _=>⟨rfl,by simpa using hst⟩) (fun h=>by omega)
  rcases hr with ⟨rfl,rfl,rfl⟩ | ⟨b,cap,C,fr,rfl,rfl,h3,h4,h5,h6,h7,h8⟩
  · by_cases hm0:m=0
    · subst hm0
      have hy0:ys=[]:=by simpa using hym
      subst hy0
      have hrun:=fits none 0 0 w (by decide) (Nat.le_refl _) rfl
      exact⟨.slice none 0 0,w,hrun,⟨⟨none,.inl ⟨rfl,rfl,rfl⟩,fun g o h=>by cases h⟩,fun _ _ _=>rfl,Nat.le_refl _,rfl,rfl,rfl,Nat.le_refl _⟩⟩
    · exact grow none 0 rfl (by simp;omega) (by simp;omega) fun g o h=>by cases h
  · by_cases hfit:cs.length+m≤cap
    · have hroom:0+cs.length*1+CB.toList.length≤C.size:=by simp[afs];omega
      have hst:=AA (P:=P) (b:=b) (o:=0+cs.length*1) (e:=e) (fr:=fr) CB.toList 0 w C h5 (h7.mono (by omega)) (by simpa using hroom) one
      rw[Nat.add_zero]at hst
      have hrun:=fits (some ⟨b,0,none⟩) cs.length cap (eH w b (dK C (0+cs.length*1) CB.toList) e fr) hm hfit (by simp only[ZE,addr_add];simpa using hst)
      have hlt:b<w.heap.size:=(qAa.1 h5).1
      have hset:=rH (C':=dK C (0+cs.length*1) CB.toList) h5
      have hsz:=iD (vs:=CB.toList) hroom
      have hget:=fun j=>qG (vs:=CB.toList) hroom j
      have hoth:∀ k,k≠b→(eH w b (dK C (0+cs.length*1) CB.toList) e fr).heap[k]?=w.heap[k]?:=fun k hkb=>by simp only[eH];rw[qAe (fun e=>hkb e.symm)]
      have hws:(eH w b (dK C (0+cs.length*1) CB.toList) e fr).heap.size=w.heap.size:=by simp[eH]
      have ho1:(eH w b (dK C (0+cs.length*1) CB.toList) e fr).os=w.os:=rfl
      have ho2:(eH w b (dK C (0+cs.length*1) CB.toList) e fr).tape=w.tape:=rfl
      have ho3:(eH w b (dK C (0+cs.length*1) CB.toList) e fr).output=w.output:=rfl
      have ho4:(eH w b (dK C (0+cs.length*1) CB.toList) e fr).drawn=w.drawn:=rfl
      generalize eH w b (dK C (0+cs.length*1) CB.toList) e fr=w2 at *
      generalize dK C (0+cs.length*1) CB.toList=C2 at *
      refine⟨_,w2,hrun,⟨⟨some (b,0),.inr ⟨b,cap,C2,fr,rfl,?_,?_,?_,hset,?_,h7.mono (by simp),fun j c hj=>?_⟩,fun g o h=>by cases h;exact .inl ⟨0,rfl⟩⟩,fun k hk hne=>?_,?_,ho1,ho2,ho3,?_⟩⟩
      · simp[hym]
      · simp[hym];exact hfit
      · simp;omega
      · rw[hsz];exact h6
      · rw[hget]
        by_cases hjl:j<cs.length
        · rw[if_neg (by omega)]
          rw[List.getElem?_append_left hjl]at hj
          exact h8 j c hj
        · rw[List.getElem?_append_right (by omega),List.getElem?_map]at hj
          cases hy:ys[j-cs.length]? with
          | none=>rw[hy]at hj;simp at hj
          | some y =>
           rw[hy]at hj
           simp only[Option.map_some,qOa]at hj
           subst hj
           have hjm:=(qLa.1 hy).1
           rw[if_pos (by simp[afs];omega)]
           have e1:j-(0+cs.length*1)=j-cs.length:=by omega
           rw[e1]
           have:=hCB _ y hy
           simpa using this
      · exact hoth k fun e=>hne 0 (by rw[e])
      · rw[hws];exact Nat.le_refl _
      · rw[ho4];exact Nat.le_refl _
    · exact grow _ cap rfl (by omega) (by omega) fun g o h=>by cases h;exact(qAa.1 h5).1
theorem aam (w:World):Rel ⟨w,0,Nat.zero_le _,none⟩ (fun _=>False) (fun _=>False) (fun _=>False) (fun _=>none) { env:=[],heap:=[] } { tmps:=#[],defers:=[] } w :=
 ⟨Nat.le_refl _,fun t v h=>by simp at h,fun s blk hs=>by simp[look]at hs,fun s b o hs=>by simp[look]at hs,fun s s' b o o' hs=>by simp[look]at hs,fun b h=>h.elim,fun b h=>h.elim,fun b h=>h.elim,fun _ _ _=>rfl,fun b n h=>by simp at h,Nat.le_refl _,rfl,rfl,rfl,fun p hp=>by simp at hp⟩
theorem Ud {t2:TypeId} (h:P.underlying t2=some .string) (v0:Value) (x:ByteArray) (w:World):vS P w (fun _=>False) t2 v0 false [.int .u8] x.size (uX x) (.string x) :=
 vS.U4 h rfl (BN (P:=P) (aam w) (h':=look []) (fun _ _ h=>h) (y:=.p (.str x)) (c:=.string x) (.p _ _ (.str x)) (s2:=some (false,[.int .u8])) rfl rfl)
theorem VH {ops : Array Oper} {rest : List Oper} {o : Oper} {a : Act} {w : World} {Q : Exit → Act → World → Prop} (hgd : o.guard = none) (sl x : Operand) (t t2 : TypeId)
    (ho:o.op=.call { callee:=.builtin .append,args:=#[sl,x],argTypes:=#[t,t2] })
    {e:TypeId} {i:TypeInfo} {v0:Value} (hu:P.underlying t=some (.slice e)) (hi:P.info? e=some i) (hz:i.zero=some v0) (hsz:i.size=1) (hby:i.bytes≤16384) (hzs:v0.cells.size=1)
    {v:Value} {q:Option (Nat × Nat)} {cs:List Value} (hs:a.eval sl=v) (hr:wR e w v q cs) (hb:∀ c∈cs,∃ n,c=.int .u8 n) {m:Nat} {ys:List PV} {cy:Value} (hx:a.eval x=cy) (hys:∀ y∈ys,au false [.int .u8] y=true)
    (hB:vS P w (fun _=>False) t2 v0 false [.int .u8] m ys cy) (hB':vS P w.drew (fun _=>False) t2 v0 false [.int .u8] m ys cy) (hm:cs.length+m≤2147483648)
    (h:∀ v' w',VF e w q (cs++ys.map iL) v' w'→wpList P ops Q rest (a.put o.dst v') w'):wpList P ops Q (o::rest) a w:=by
  refine wpList_plain hgd fun K hK=>?_
  obtain⟨v',w',hr,h2⟩:=abJ (P:=P) (ty:=o.type) (ts:=#[t,t2]) rfl rfl hu hi hz hsz hby hzs hr hb hys hB hB' hm
  unfold Oper.wp execOp
  simp only[ho,resolve,invoke,builtin,Sem.run_bind,Sem.run_pure,qRa,List.map_toArray,List.map_cons,List.map_nil,hs,hx,hr]
  exact hK _ _ (h v' w' h2)
theorem Pz {w:World} {t:TypeId} {b:Nat} {q:Option (Nat × Nat)} {cs:List Value} {C:Array Value} {fr:Nat × Nat} {e:TypeId} (h:Am e w t b q cs C fr):C=#[C.getD 0 undef,C.getD 1 undef]:=by
 have:=h.hn
 apply Array.ext
 · simpa using this
 · intro i h1 h2
   have:i=0∨i=1:=by simp at h2;omega
   rcases this with rfl | rfl<;>simp[Array.getD,h1]
theorem Jo {w:World} {b:Nat} {C:Array Value} {t:TypeId} {fr:Nat × Nat} (hw:w.heap[b]?=some (.cells C t fr)) (ho:Open C fr) {j:Nat} (hj:j<C.size):w.frozen? ⟨b,j,none⟩=false:=by
 have:=ho.at j hj
 obtain⟨lo,hi⟩:=fr
 simp only[World.frozen?,hw]
 simp only[Bool.and_eq_false_iff,decide_eq_false_iff_not]
 simp only[not_and,Nat.not_lt]at this
 by_cases hlo:lo≤j
 · right;have:=this hlo;omega
 · left;exact hlo
set_option maxHeartbeats 1000000 in
set_option maxRecDepth 100000 in
theorem Jw (L : Lays.n240 P ρ) (X : Builder.X72 P ρ) (b : Nat) (w : World) {t : TypeId} (h0 : w.cell? ⟨b,0,none⟩ = some (.pointer none)) (hsh : w.shape? b = some (t,2)) (hfz : w.frozen? ⟨b,0,none⟩ = false)
    (hl:liesAt P P.depth t (2 / P.cellsOf t) 0 (ρ.t 72) 1=true) :
    Calls P (ρ.f 240) #[.pointer (some ⟨b,0,none⟩)] w fun e w'=>e=.returned (.tuple #[])∧w'=w.setCell ⟨b,0,none⟩ (.pointer (some ⟨b,0,none⟩)):=by
  obtain⟨j,hj,hjs⟩:=Option.map_eq_some_iff.1 X.sizeBuilder
  have mixed:=L.mixed
  have t72:=L.t72;have a72:=L.a72;have z72:=L.z72;have v72:=L.v72;have u72:=run_underlying L.t72
  have t70:=L.t70;have a70:=L.a70;have z70:=L.z70;have v70:=L.v70;have u70:=run_underlying L.t70
  have t9:=L.t9;have a9:=L.a9;have z9:=L.z9;have v9:=L.v9;have u9:=run_underlying L.t9
  have t4:=L.t4;have a4:=L.a4;have z4:=L.z4;have v4:=L.v4;have u4:=run_underlying L.t4
  have t164:=L.t164;have a164:=L.a164;have z164:=L.z164;have v164:=L.v164;have u164:=run_underlying L.t164
  go_enter L.f240,Body.n240_ntmps ρ
  go_wp2
  rw[Lib.run_to_unsafe w ⟨b,0,none⟩ L.t70 L.t164 hj (by rw[hjs];decide) hsh (Nat.zero_lt_succ 1)]
  simp only[Result.andThen]
  rw[Oper.upon_value]
  go_wp2
  rw[run_callFunc_extern L.f276 (by kernel_rfl) (by kernel_rfl) (by kernel_rfl) (e:=Extern.AbiNoEscape.same) (by kernel_rfl)]
  rw[Lib.run_noEscape]
  simp only[Result.andThen]
  rw[Oper.upon_value]
  go_wp2
  rw[Lib.run_from_unsafe w ⟨b,0,none⟩ L.t164 L.t70 hj hsh hl]
  simp only[Result.andThen]
  rw[Oper.upon_value]
  go_wp2
  go_end0
  exact⟨rfl,rfl⟩
theorem Ue (L : Lays.n240 P ρ) (X : Builder.X72 P ρ) {w : World} {b : Nat} {q : Option (Nat × Nat)} {cs : List Value} {C : Array Value} {fr : Nat × Nat} {e : TypeId} {t : TypeId} (h : Am e w t b q cs C fr) (hl : liesAt P P.depth t (2 / P.cellsOf t) 0 (ρ.t 72) 1 = true) :
    Calls P (ρ.f 240) #[.pointer (some ⟨b,0,none⟩)] w fun e w'=>e=.returned (.tuple #[])∧w'.heap[b]?=some (.cells #[.pointer (some ⟨b,0,none⟩),C.getD 1 undef] t fr)∧(∀ k,k≠b→w'.heap[k]?=w.heap[k]?)∧w'.heap.size=w.heap.size∧w'.os=w.os∧w'.tape=w.tape∧w'.output=w.output∧w'.drawn=w.drawn:=by
  have hC:=Pz h
  have hlt:b<w.heap.size:=(qAa.1 h.hw).1
  have c0:w.cell? ⟨b,0,none⟩=some (C.getD 0 undef):=by
   simp only[World.cell?,h.hw]
   rw[hC];rfl
  rcases h.h0 with e | e
  · rw[e]at c0
    refine(Jw L X b w c0 (by simp only[World.shape?,h.hw];rw[h.hn]) (Jo h.hw h.ho (by rw[h.hn];decide)) hl).mono ?_
    rintro e1 w' ⟨rfl,rfl⟩
    refine⟨rfl,?_,fun k hk=>?_,by simp[World.setCell],rfl,rfl,rfl,rfl⟩
    · simp only[World.setCell,Array.getElem?_modify,h.hw,Option.map_some]
      rw[hC];rfl
    · simp only[World.setCell,Array.getElem?_modify]
      rw[if_neg (Ne.symm hk)]
  · rw[e]at c0
    refine(Any.Builder_copyCheck_used L X b w c0).mono ?_
    rintro e1 w' ⟨rfl,rfl⟩
    refine⟨rfl,?_,fun _ _=>rfl,rfl,rfl,rfl,rfl,rfl⟩
    rw[h.hw]
    congr 2
    rw[← e];exact hC
theorem Et {e:TypeId} {w w':World} {v:Value} {q:Option (Nat × Nat)} {cs:List Value} (h:wR e w v q cs) (hk:∀ g o,q=some (g,o)→w'.heap[g]?=w.heap[g]?):wR e w' v q cs:=by
 rcases h with h | ⟨b,cap,C,fr,h1,h2,h3,h4,h5,h6⟩
 · exact .inl h
 · exact .inr ⟨b,cap,C,fr,h1,h2,h3,h4,(hk b 0 h1).trans h5,h6⟩
set_option maxHeartbeats 2000000 in
set_option maxRecDepth 100000 in
theorem aa6 {G:Bool→World→Prop} (L:Lays.n166 P ρ) (X:Builder.Extra P ρ) (ts:List TypeId) (hlies:∀ t∈ts,liesAt P P.depth t (2 / P.cellsOf t) 0 (ρ.t 72) 1=true):KF P G (ρ.f 166) ts (ρ.t 5) .aa5:=by
 intro t ht w b q cs C fr x hB hm
 obtain⟨i0,hi,hz0,hz1,hz2⟩:=info_parts X.infoByte
 have mixed:=L.mixed
 have t72:=L.t72;have a72:=L.a72;have z72:=L.z72;have v72:=L.v72;have u72:=run_underlying L.t72
 have t70:=L.t70;have a70:=L.a70;have z70:=L.z70;have v70:=L.v70;have u70:=run_underlying L.t70
 have t37:=L.t37;have a37:=L.a37;have z37:=L.z37;have v37:=L.v37;have u37:=run_underlying L.t37
 have t3:=L.t3;have a3:=L.a3;have z3:=L.z3;have v3:=L.v3;have u3:=run_underlying L.t3
 have t9:=L.t9;have a9:=L.a9;have z9:=L.z9;have v9:=L.v9;have u9:=run_underlying L.t9
 have t4:=L.t4;have a4:=L.a4;have z4:=L.z4;have v4:=L.v4;have u4:=run_underlying L.t4
 have t164:=L.t164;have a164:=L.a164;have z164:=L.z164;have v164:=L.v164;have u164:=run_underlying L.t164
 have t5:=X.t5;have a5:=X.a5;have z5:=X.z5;have v5:=X.v5;have u5:=run_underlying X.t5
 have e240:∀ args w,(callFunc (ρ.f 240) args).run P w=.ok (.enter (ρ.f 240) args) w:=enters_of L.f240 (by kernel_rfl) rfl
 go_enter L.f166,Body.n166_ntmps ρ
 go_wp2_with (go_at_fn (ρ.f 240);refine(Ue { L with } X.toX72 hB (hlies t ht)).mono ?_)
 rintro e w1 ⟨rfl,hbk,hoth,hsz,hos,htp,hop,hdr⟩
 have hrow:wR (ρ.t 5) w1 (C.getD 1 undef) q cs:=Et hB.h1 fun g o h=>hoth g fun e=>hB.ne o (e▸h)
 generalize C.getD 1 undef=v at hbk hrow
 have c0:w1.cell? ⟨b,0,none⟩=some (.pointer (some ⟨b,0,none⟩)):=by rw[Lib.cell_of_heap hbk];rfl
 have c1:w1.cell? ⟨b,1,none⟩=some v:=by rw[Lib.cell_of_heap hbk];rfl
 go_wp2_with (at_builtin;refine VH rfl _ _ (ρ.t 37) (ρ.t 9) rfl L.t37 hi hz0 hz1 (by rw[hz2];decide) rfl rfl hrow hB.bytes rfl (Gi x) (Ud L.t9 _ x _) (Ud L.t9 _ x _) hm ?_)
 intro v' w2 hput
 rw[L6]at hput
 obtain⟨q',hq1,hq2⟩:=hput.row
 have hlt:b<w1.heap.size:=(qAa.1 hbk).1
 have hb2:w2.heap[b]?=some (.cells #[.pointer (some ⟨b,0,none⟩),v] t fr):=by
  rw[hput.keep b hlt hB.ne];exact hbk
 have hop2:Open #[Value.pointer (some ⟨b,0,none⟩),v] fr:=hB.ho.size (by rw[hB.hn];rfl)
 have d0:w2.cell? ⟨b,0,none⟩=some (.pointer (some ⟨b,0,none⟩)):=by rw[Lib.cell_of_heap hb2];rfl
 have d1:w2.cell? ⟨b,1,none⟩=some v:=by rw[Lib.cell_of_heap hb2];rfl
 have f1:w2.frozen? ⟨b,1,none⟩=false:=Jo hb2 hop2 (by simp)
 obtain⟨ao,n',cap,rfl⟩:∃ ao n' cap,v'=.slice ao n' cap:=by
  obtain⟨base,cap,h⟩:=XT hq1
  exact⟨_,_,_,h⟩
 go_wp2
 go_ret2
 refine⟨rfl,⟨fun k hk hkb hkq=>?_,?_,?_,?_,?_,?_⟩,.slice ao n' cap,q',?_,?_,fun g o hg=>?_⟩
 · simp only[World.setCell,Array.getElem?_modify]
   rw[if_neg (Ne.symm hkb),hput.keep k (by omega) hkq,hoth k hkb]
 · have:=hput.size;simp[World.setCell];omega
 · exact hput.os.trans hos
 · exact hput.tape.trans htp
 · exact hput.output.trans hop
 · intro _;have:=hput.drawn;show w.drawn≤w2.drawn;omega
 · simp only[World.setCell,Array.getElem?_modify,hb2,Option.map_some]
   rfl
 · refine Et hq1 fun g o hg=>?_
   have hgb:g≠b:=by
    rintro rfl
    rcases hq2 g o hg with ⟨o',h⟩ | h
    · exact hB.ne o' h
    · omega
   simp only[World.setCell,Array.getElem?_modify]
   rw[if_neg (Ne.symm hgb)]
 · have hgb : g ≠ b := by
     rintro rfl
     rcases hq2 g o hg with ⟨o',h⟩ | h
     · exact hB.ne o' h
     · omega
   refine⟨hgb,(hq2 g o hg).imp id fun h=>by omega⟩
set_option maxHeartbeats 1000000 in
set_option maxRecDepth 100000 in
theorem acV {G:Bool→World→Prop} (L:Lays.n169 P ρ) (X:Builder.Extra P ρ) (ts:List TypeId):KF P G (ρ.f 169) ts (ρ.t 5) .str:=by
 intro t ht w b q l C fr hB hLen
 have hC:=Pz hB
 have c1:w.drew.cell? ⟨b,1,none⟩=some (C.getD 1 undef):=by
  have hb2:w.drew.heap[b]?=some (.cells #[C.getD 0 undef,C.getD 1 undef] t fr):=by rw[← hC];exact hB.hw
  rw[Lib.cell_of_heap hb2];rfl
 have mixed:=L.mixed
 have t72:=L.t72;have a72:=L.a72;have z72:=L.z72;have v72:=L.v72;have u72:=run_underlying L.t72
 have t70:=L.t70;have a70:=L.a70;have z70:=L.z70;have v70:=L.v70;have u70:=run_underlying L.t70
 have t37:=L.t37;have a37:=L.a37;have z37:=L.z37;have v37:=L.v37;have u37:=run_underlying L.t37
 have t127:=L.t127;have a127:=L.a127;have z127:=L.z127;have v127:=L.v127;have u127:=run_underlying L.t127
 have t3:=L.t3;have a3:=L.a3;have z3:=L.z3;have v3:=L.v3;have u3:=run_underlying L.t3
 have t9:=L.t9;have a9:=L.a9;have z9:=L.z9;have v9:=L.v9;have u9:=run_underlying L.t9
 have t5:=X.t5;have a5:=X.a5;have z5:=X.z5;have v5:=X.v5;have u5:=run_underlying X.t5
 have aan:F9 True w b q w.drew:=⟨fun _ _ _ _=>rfl,Nat.le_refl _,rfl,rfl,rfl,fun _=>Nat.le_succ _⟩
 have an7:=Any.unsafeString_none L X
 have hb1:=hB.h1
 have hbne:=hB.ne
 clear hB hC
 generalize C.getD 1 undef=v at c1 hb1
 rcases hb1 with ⟨rfl,h2,rfl⟩ | ⟨g,cap,D,fz,rfl,rfl,h4,h5,h6,h7,h8,h9⟩
 · have hl:l=[]:=by simpa [sU] using h2
   subst hl
   have hSD:(Builtin.unsafeSliceData_ #[(ρ.t 37)] (ρ.t 127) #[.slice none 0 0]).run P w.drew=.ok (.pointer none) w.drew:=rfl
   go_enter L.f169,Body.n169_ntmps ρ
   go_wp2
   go_region_o
   all_goals (go_wp2;go_ret;exact⟨rfl,aan,rfl,fun g o h=>by cases h⟩)
 · have hlen:(sU l).length=l.length:=by simp[sU]
   rw[hlen]at c1 h4 h5
   have h0:l≠[]:=fun e=>by subst e;simp at h5
   have hSD:(Builtin.unsafeSliceData_ #[(ρ.t 37)] (ρ.t 127) #[.slice (some ⟨g,0,none⟩) l.length cap]).run P w.drew=.ok (.pointer (some ⟨g,0,none⟩)) w.drew :=
    Lib.run_unsafeSliceData_row _ _ _ _ _ _ (by omega)
   have hUS:(Builtin.unsafeString_ #[(ρ.t 127),(ρ.t 3)] (ρ.t 9) #[.pointer (some ⟨g,0,none⟩),.int .i64 l.length]).run P w.drew=.ok (.string ⟨l.toArray⟩) (w.drew.freeze ⟨g,0,none⟩ l.length):=by
    refine Lib.run_unsafeString_row w.drew (ρ.t 127) (ρ.t 3) (ρ.t 9) (ρ.t 5) L.t127 X.cellsByte g D.size (by have hg':w.drew.heap[g]?=some (.cells D (ρ.t 5) fz):=h6;simp[World.shape?,hg']) l h0 (by omega) (by omega) ?_
    intro j x hx
    have hj:j<l.length:=(qLa.1 hx).1
    have hD:=h9 j (.int .u8 x.toNat) (by simp[sU,hx])
    have hg':w.drew.heap[g]?=some (.cells D (ρ.t 5) fz):=h6
    have hjD:j<D.size:=by omega
    have e1:((⟨g,0,none⟩:Addr).add j)=⟨g,j,none⟩:=by simp[Addr.add];intro h;exact h.symm
    rw[e1]
    simp only[World.cell?,hg',Option.isSome_none,Bool.false_eq_true,if_false]
    rw[qAd hjD]
    have:D.getD j undef=D[j]:=by simp[Array.getD,hjD]
    rw[← this,hD]
   have aft:F9 True w b (some (g,0)) (w.drew.freeze ⟨g,0,none⟩ l.length):=by
    have hf:∀ k,k≠g→(w.drew.freeze ⟨g,0,none⟩ l.length).heap[k]?=w.heap[k]?:=fun k hk=>by
     unfold World.freeze
     split
     · rfl
     · simp only[Array.getElem?_modify]
       rw[if_neg (Ne.symm hk)];rfl
    have hs:(w.drew.freeze ⟨g,0,none⟩ l.length).heap.size=w.heap.size:=by
     unfold World.freeze
     split
     · rfl
     · simp
    have hd:(w.drew.freeze ⟨g,0,none⟩ l.length).drawn=w.drawn+1:=by unfold World.freeze;split<;>rfl
    have ho:(w.drew.freeze ⟨g,0,none⟩ l.length).os=w.os:=by unfold World.freeze;split<;>rfl
    have ht:(w.drew.freeze ⟨g,0,none⟩ l.length).tape=w.tape:=by unfold World.freeze;split<;>rfl
    have hp:(w.drew.freeze ⟨g,0,none⟩ l.length).output=w.output:=by unfold World.freeze;split<;>rfl
    exact⟨fun k hk hkb hkq=>hf k fun e=>hkq 0 (by rw[e]),by rw[hs];exact Nat.le_refl _,ho,ht,hp,fun _=>by rw[hd];exact Nat.le_succ _⟩
   have afu:(w.drew.freeze ⟨g,0,none⟩ l.length).heap[b]?=w.heap[b]?:=by
    have hbg:b≠g:=fun e=>hbne 0 (by rw[e])
    unfold World.freeze
    split
    · rfl
    · simp only[Array.getElem?_modify]
      rw[if_neg (Ne.symm hbg)];rfl
   have afv:∀ g' o,some (g,0)=some (g',o)→∃ C e fr fr',w.heap[g']?=some (.cells C e fr)∧(w.drew.freeze ⟨g,0,none⟩ l.length).heap[g']?=some (.cells C e fr')∧Past l.length fr':=by
    intro g' o h
    cases h
    have h8':Past l.length fz:=by simpa [sU] using h8
    refine⟨D,ρ.t 5,fz,(if fz.1==fz.2 then(0,0+l.length) else(min fz.1 0,max fz.2 (0+l.length))),h6,?_,?_⟩
    · unfold World.freeze
      rw[if_neg (by omega)]
      simp only[Array.getElem?_modify]
      rw[show w.drew.heap[g]?=some (.cells D (ρ.t 5) fz) from h6]
      rfl
    · split
      · exact .inr (by simp)
      · next hne =>
        rcases h8' with h | h
        · exact absurd (by simpa using h) hne
        · exact .inr (by simp;omega)
   clear h9 h8 h7 h6 h5 h4
   go_enter L.f169,Body.n169_ntmps ρ
   go_wp2
   go_region_o
   all_goals (go_wp2;go_ret;exact⟨rfl,aft,afu,afv⟩)
end Go.Skm
