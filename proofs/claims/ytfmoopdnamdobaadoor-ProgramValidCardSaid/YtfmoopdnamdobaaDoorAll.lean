import Derived.Test.YtfmoopdnamdobaaDoorAll4
import Derived.Test.YtfmoopdnamdobaaDoorAll5
import Derived.Deep.OwnRows
import Derived.RangeFuncLeaves
import Derived.RangeFuncBox
namespace Go.Skm.Prg
open Go Go.Skm Go.Proofs Go.RowKit Go.Maps Go.Sort Go.Shelf
theorem Yq (rd:Option Nat):(FW rd).round=rd:=rfl
attribute [local go_sem] Oper.semAt_some Yq
def JR (p:Pg) (k t:Int):List PV:=[.ref [.list false [.str] (eN p.names),.list true bZ (bF p.homes),.list true dD (fM p.acts)],.ref [.int .i64 k],.ref [.int .i64 t]]
theorem ajb:bI tab.funcs 38=some WY:=by kernel_rfl
theorem ajc:bI tab.funcs 59=some Yr:=by kernel_rfl
theorem aaC:jm Yr 3=true:=by kernel_rfl
section
variable {gl:Option (List (Nat × Obj))} {X:Ext} (hX:Mine X)
include hX
theorem acB (hC : fZ Tryd.prog tab gl (run tab X)) (p : Pg) (k t : Int) {W : World} {M : Nat → Prop} {v : Value} (hv : VR W M (eG p) v) (hgl : ∀ p ∈ gl.getD [],M p.1 ∧ W.heap[p.1]? = some p.2) (hM : ∀ b,M b → b < W.heap.size) :
    Calls Tryd.prog 38 #[v,.int .i64 k,.int .i64 t] W fun e w'=>∃ lb M',e=.returned (.func (.func 59) #[] lb)∧lb.size=3∧(∀ (i:Nat) (c:PV),(JR p k t)[i]?=some c→VR w' M' c (lb.getD i undef))∧(∀ b,M b→M' b)∧(∀ b,M' b→M b∨W.heap.size≤b)∧(∀ b,M' b→b<w'.heap.size) ∧
     (∀ b,b<W.heap.size→w'.heap[b]?=W.heap[b]?)∧W.heap.size≤w'.heap.size∧w'.os=W.os∧w'.tape=W.tape∧w'.output=W.output:=by
  obtain⟨_,h⟩:=hC.plain 38 WY [.p (eG p),.p (.int .i64 k),.p (.int .i64 t)] [] _ _ ajb (by simp) (c38 X hX p k t)
  refine(h W M (fun _=>none) #[v,.int .i64 k,.int .i64 t] hgl ⟨rfl,fun i u hu=>?_,fun i b h=>by simp at h,fun i b o h=>by simp at h,fun i j b o o' h=>by simp at h,hM⟩).mono fun e w' ⟨cs,ps,M',he,hp⟩=>?_
  · match i,hu with
    | 0,hu=>cases hu;exact .p _ _ hv
    | 1,hu=>cases hu;exact .p _ _ (.int _ _)
    | 2,hu=>cases hu;exact .p _ _ (.int _ _)
  · have hr:=hp.res
    have hts:WY.fn.resultTypes.toList=[82]:=by kernel_rfl
    rw[hts]at hr
    generalize WY.cfg.rets=ms at hr
    cases hr with
    | cons _ _ _ _ _ c cs' p' ps' h1 h2 h3 =>
     cases h2
     generalize hx:(AV.p (.fn 59 [.ref [.list false [.str] (eN p.names),.list true bZ (bF p.homes),.list true dD (fM p.acts)],.ref [.int .i64 k],.ref [.int .i64 t]]))=x at h1
     generalize ms.headD dO.deep=mo at h1
     have Nq:VR w' M' (.fn 59 (JR p k t)) c:=by
      cases h1<;>cases hx<;>assumption
     cases Nq with
     | fn _ _ vs hn hc =>
      refine⟨vs,M',he,hn,hc,hp.fB,hp.jQ,hp.mlt,fun b hb=>hp.keep b hb (fun i o h=>by simp at h),hp.size,hp.os,hp.tape,hp.output⟩
theorem aeb (hS:Fe Tryd.prog tab gl (run tab X)) (hC:jI X) (p:Pg) (hp:Small p) (hv:dV p=true) (k:Nat) (hk:k<p.acts.length):Ui Tryd.prog gl 59 (JR p k (jq (p.acts.take k))) ((rU p k).map JU):=by
 obtain⟨q1,q2,q3,q4,q5,q6⟩:=Uj hv hk
 have h:=c59 X hX hC p hp k hk (jq (p.acts.take k)) (by omega)
 have:=(hS 59 Yr (JR p k (jq (p.acts.take k))) _ ajc aaC h).2
 rw[← q6]
 exact this
end
theorem Q5 (a b:List Ac):jq (a++b)=jq a+jq b:=by
 induction a with
 | nil=>simp[jq]
 | cons x r ih=>simp only[List.cons_append,jq,ih];omega
theorem WZ (zs:List Ac) {k:Nat} (h:k<zs.length):jq (zs.take k)+zs[k].len=jq (zs.take (k+1)):=by
 rw[List.take_succ_eq_append_getElem h,Q5]
 simp[jq]
theorem Fg {α:Type} {n j:Nat} {a v:α} (h:(List.replicate n a)[j]?=some v):v=a:=by
 rw[List.getElem?_replicate]at h
 split at h
 · cases h;rfl
 · cases h
theorem Nr (v:Value) (n:Nat):madeCells #[v] n=(List.replicate n v).toArray:=by
 apply Array.ext
 · rw[size_madeCells];simp
 · intro i h1 h2
   simp[madeCells,Nat.mod_one]
theorem Uk {w : World} {M : Nat → Prop} {p : Pg} {a0 v1 : Value} {PL : Option Addr} {m c2 : Nat} (h : VR w M (eG p) (.agg #[a0,v1,.slice PL m c2])) {k : Nat} (hk : k < p.acts.length) :
    ∃ b o s0 al ll cl,PL=some ⟨b,o,none⟩∧M b∧w.cell? ⟨b,o+k*3,none⟩=some (.string s0)∧w.cell? ⟨b,o+k*3+1,none⟩=some (.int .i64 p.acts[k].len)∧w.cell? ⟨b,o+k*3+2,none⟩=some (.slice al ll cl):=by
  cases h with
  | agg _ _ hn hl hc =>
   have h2:=hc 2 _ rfl
   have h2:VR w M (.list true dD (fM p.acts)) (.slice PL m c2):=h2
   generalize hxs:fM p.acts=xs at h2
   cases h2 with
   | kZ=>rw[show p.acts=[] by simpa [fM] using hxs]at hk;simp at hk
   | list _ _ _ b o cap f hM hcap hcc hvv hs =>
    subst hxs
    have hx:(fM p.acts)[k]?=some (eA p.acts[k]):=by rw[fM,List.getElem?_map,qLd hk];rfl
    have c0:=hcc k _ 0 _ hx rfl
    have c1:=hcc k _ 1 _ hx rfl
    have c2:=hcc k _ 2 _ hx rfl
    have v0:=hvv k _ 0 _ hx rfl
    have v1:=hvv k _ 1 _ hx rfl
    have v2:=hvv k _ 2 _ hx rfl
    have e1:f k 1=.int .i64 p.acts[k].len:=Jy v1
    rw[e1]at c1
    have e0:f k 0=.string (ba p.acts[k].name):=VL v0
    rw[e0]at c0
    obtain⟨al,ll,cl,e2⟩:∃ al ll cl,f k 2=.slice al ll cl:=by
     have v2:VR w M (.list true kR (qw p.acts[k].iw)) (f k 2):=v2
     generalize f k 2=y at v2
     generalize qw p.acts[k].iw=ys at v2
     cases v2<;>exact⟨_,_,_,rfl⟩
    rw[e2]at c2
    exact⟨b,o,_,al,ll,cl,rfl,hM,c0,c1,c2⟩
set_option maxRecDepth 100000 in
set_option maxHeartbeats 4000000 in
theorem all_walk {gl : Option (List (Nat × Obj))} (hne : gl ≠ none) {X : Ext} (hX : Mine X) (hC : fZ Tryd.prog tab gl (run tab X)) (hS : Fe Tryd.prog tab gl (run tab X)) (hCl : jI X) (p : Pg) (hp : Small p) (hv : dV p = true) (w : World) (M : Nat → Prop) (hM : ∀ b,M b → b < w.heap.size) (hgl : ∀ p ∈ gl.getD [],M p.1 ∧ w.heap[p.1]? = some p.2)
    (Ns:Option Addr) (n c0:Nat) (v1:Value) (PL:Option Addr) (m c2:Nat) (hn:n=p.names.length) (hm:m=p.acts.length) (Nq:VR w M (eG p) (.agg #[.slice Ns n c0,v1,.slice PL m c2]))
    (R:Ending→World→Prop) (hR:∀ (Mx:Nat→Prop) (vs:List Value) (ds:List Nat) (w1 w':World),Held w M (w.heap.size+2) (w.heap.size+1) Mx vs (lN p p.acts.length) w1→(∀ D∈ds,¬ Mx D∧w.heap.size+3≤D∧w1.heap[D]?=some (.deferred (some [])))→(∀ b,b ∉ ds→w'.heap[b]?=w1.heap[b]?)→w'.heap.size=w1.heap.size→w'.os=w1.os→w'.tape=w1.tape→w'.output=w1.output →
      R (.returned (.slice (some ⟨w.heap.size+1,0,none⟩) vs.length vs.length)) w') :
    Calls Tryd.prog 47 #[.agg #[.slice Ns n c0,v1,.slice PL m c2]] w R:=by
  have aml:n≤64:=by rw[hn];exact(yt hv).1.2.1
  have amm:m≤60:=by rw[hm];exact(yt hv).2.1
  have HN:Hid (n=p.names.length):=hn
  have HM:Hid (m=p.acts.length):=hm
  have HV:Hid (dV p=true):=hv
  clear hn hm hv
  refine lX (rd:=none) (n:=0) (callsIn_of_wp_marks Tryd.func47 rfl trivial ?_)
  simp only[Tryd.ntmps47,List.size_toArray,List.length_cons,List.length_nil,Nat.reduceAdd,Nat.reduceSub,Array.replicate_succ,Array.replicate_zero,List.push_toArray,List.append_toArray,List.nil_append,List.cons_append]
  have hmk:=run_make_row' (P:=Tryd.prog) 63 60 (.slice none 0 0) 24 Tryd.underlying63 Yt rfl .i64 .i64 n (by omega) (by omega)
  gi_wp2
  rename_i K hK
  obtain⟨W0,hW0⟩:∃ W0,(((w.alloc (Obj.cells #[Value.slice Ns n c0,v1,Value.slice PL m c2] 27)).alloc (Obj.cells (madeCells #[Value.slice none 0 0] n) 60)).alloc (Obj.cells #[Value.slice (some { block:=w.heap.size+1,off:=0 }) n n] 63))=W0:=⟨_,rfl⟩
  rw[hW0]
  have hs0:W0.heap.size=w.heap.size+3:=by rw[← hW0];simp
  have aec:∀ b,b<w.heap.size→W0.heap[b]?=w.heap[b]?:=fun b hb=>by
   rw[← hW0,Below.heap_alloc _ _ _ (by simp;omega),Below.heap_alloc _ _ _ (by simp;omega),Below.heap_alloc _ _ _ hb]
  have hp0:W0.heap[w.heap.size]?=some (.cells #[.slice Ns n c0,v1,.slice PL m c2] 27 (0,0)):=by
   rw[← hW0,Below.heap_alloc _ _ _ (by simp;omega),Below.heap_alloc _ _ _ (by simp)]
   exact World.alloc_heap_new w _
  have hr0:W0.heap[w.heap.size+1]?=some (.cells (List.replicate n (.slice none 0 0)).toArray 60 (0,0)):=by
   rw[← hW0,Below.heap_alloc _ _ _ (by simp)]
   have:=World.alloc_heap_new (w.alloc (Obj.cells #[Value.slice Ns n c0,v1,Value.slice PL m c2] 27)) (Obj.cells (madeCells #[Value.slice none 0 0] n) 60)
   rw[World.size_alloc]at this
   rw[this,Nr]
  have hl0:W0.heap[w.heap.size+2]?=some (.cells #[.slice (some ⟨w.heap.size+1,0,none⟩) n n] 63 (0,0)):=by
   rw[← hW0]
   have:=World.alloc_heap_new ((w.alloc (Obj.cells #[Value.slice Ns n c0,v1,Value.slice PL m c2] 27)).alloc (Obj.cells (madeCells #[Value.slice none 0 0] n) 60)) (Obj.cells #[Value.slice (some { block:=w.heap.size+1,off:=0 }) n n] 63)
   rw[World.size_alloc,World.size_alloc]at this
   exact this
  have H0:Held w M (w.heap.size+2) (w.heap.size+1) M (List.replicate n (.slice none 0 0)) (lN p 0) W0:=by
   have hb0:Below w.heap.size w W0:=by rw[← hW0];exact(((Below.refl _ w).alloc (Nat.le_refl _) _).alloc (by simp) _).alloc (by simp;omega) _
   refine⟨by rw[List.length_replicate];exact hl0,hr0,by rw[lG,List.length_replicate,HN.out],fun j v q hv hq=>?_,fun i j v u g hv hu hg=>?_,hb0,fun b hb=>⟨by have:=hM b hb;omega,.inl hb⟩,fun j v g hv hg=>?_,⟨fun h=>by have:=hM _ h;omega,fun h=>by have:=hM _ h;omega⟩,⟨by omega,by omega⟩⟩
   · rw[Ul]at hq
     have hv:=Fg hv
     have hq:=Fg hq
     subst hv hq
     exact⟨[],⟨rfl,.inl ⟨rfl,rfl⟩⟩,rfl,fun t c v h=>by simp[yu]at h⟩
   · have hv:=Fg hv
     subst hv
     cases hg
   · have hv:=Fg hv
     subst hv
     cases hg
  clear hW0 hmk
  refine wpIn_loop (fun a wr => ∃ (k : Nat) (t : Int) (Mx : Nat → Prop) (vs : List Value) (ds : List Nat) (u : Nat → Value),k ≤ m ∧ a = { tmps := #[.agg #[.slice Ns n c0,v1,.slice PL m c2],.pointer (some ⟨w.heap.size,0,none⟩),.slice none 0 0,.pointer (some ⟨w.heap.size + 1 + 1,0,none⟩),.int .i64 t,u 5,u 6,u 7,undef,.pointer (some ⟨w.heap.size,0,none⟩),.slice Ns n c0,.int .i64 n,.slice (some ⟨w.heap.size + 1,0,none⟩) n n,.pointer (some ⟨w.heap.size,2,none⟩),.slice PL m c2,.int .i64 m,.int .i64 k,u 17,u 18,u 19,u 20,u 21,u 22,u 23,u 24,undef,undef,undef,undef,undef,undef,undef,undef,undef,undef,undef,undef,undef,u 38,u 39,u 40,u 41,u 42,undef],defers := ds.map rV } ∧
      t=jq (p.acts.take k)∧Held w M (w.heap.size+2) (w.heap.size+1) Mx vs (lN p k) wr∧ds.Nodup∧(∀ D∈ds,¬ Mx D∧w.heap.size+3≤D∧wr.heap[D]?=some (.deferred (some [])))∧w.heap.size+3≤wr.heap.size∧wr.heap[w.heap.size]?=some (.cells #[.slice Ns n c0,v1,.slice PL m c2] 27 (0,0)))
    (fun a _=>m-(intOf (a.tmps.getD 16 undef)).toNat) ?_ ?_
  · exact⟨0,0,M,_,[],fun _=>undef,Nat.zero_le _,rfl,rfl,H0,List.nodup_nil,fun D h=>by simp at h,by omega,hp0⟩
  clear H0 hl0 hr0 hp0 aec hs0
  rintro a wr ⟨k,t,Mx,vs,ds,u,hk,rfl,ht,H,hnd,hds,hsz,hpb⟩
  have HT:Hid (t=jq (p.acts.take k)):=ht
  have HH:Hid (Held w M (w.heap.size+2) (w.heap.size+1) Mx vs (lN p k) wr):=H
  have HD:Hid (∀ D∈ds,¬ Mx D∧w.heap.size+3≤D∧wr.heap[D]?=some (.deferred (some []))):=hds
  clear ht H hds
  by_cases hkm:k<m
  · obtain⟨b,o,s0,al,ll,cl,rfl,hMb,c0',c1',c2'⟩:=Uk Nq (k:=k) (by rw[← HM.out];exact hkm)
    have hbw:=hM b hMb
    have hcell:∀ i v,w.cell? ⟨b,i,none⟩=some v→wr.cell? ⟨b,i,none⟩=some v:=fun i v h=>(HH.out.below.cell (p:=⟨b,i,none⟩) hbw).trans h
    have d0:=hcell _ _ c0'
    have d1:=hcell _ _ c1'
    have d2:=hcell _ _ c2'
    obtain⟨len,hlen⟩:∃ len,(p.acts[k]'(by rw[← HM.out];exact hkm)).len=len:=⟨_,rfl⟩
    have hwB:w.heap.size<wr.heap.size:=by omega
    rw[hlen]at d1
    clear c0' c1' c2' hcell
    have q0:wr.cell? ⟨w.heap.size,0,none⟩=some (.slice Ns n c0):=by simp[World.cell?,hpb]
    have q1:wr.cell? ⟨w.heap.size,1,none⟩=some v1:=by simp[World.cell?,hpb]
    have q2:wr.cell? ⟨w.heap.size,2,none⟩=some (.slice (some ⟨b,o,none⟩) m c2):=by simp[World.cell?,hpb]
    have hcall : ∀ W : World,Below w.heap.size w W → Calls Tryd.prog 38 #[.agg #[.slice Ns n c0,v1,.slice (some ⟨b,o,none⟩) m c2],.int .i64 k,.int .i64 t] W fun e w' => ∃ lb M',e = .returned (.func (.func 59) #[] lb) ∧ lb.size = 3 ∧ (∀ (i : Nat) (c : PV),(JR p k t)[i]? = some c → VR w' M' c (lb.getD i undef)) ∧ (∀ b,M b → M' b) ∧ (∀ b,M' b → M b ∨ W.heap.size ≤ b) ∧ (∀ b,M' b → b < w'.heap.size) ∧
        (∀ b,b<W.heap.size→w'.heap[b]?=W.heap[b]?)∧W.heap.size≤w'.heap.size∧w'.os=W.os∧w'.tape=W.tape∧w'.output=W.output:=fun W hW=>by
      exact acB hX hC p k t (Nq.mono fun b hb=>⟨hb,hW.block b (hM b hb)⟩) (fun x hx=>⟨(hgl x hx).1,(hW.block _ (hM _ (hgl x hx).1)).trans (hgl x hx).2⟩) (fun b hb=>Nat.lt_of_lt_of_le (hM b hb) hW.size)
    have ajd : Hid (∀ W : World,Below w.heap.size w W → Calls Tryd.prog 38 #[.agg #[.slice Ns n c0,v1,.slice (some ⟨b,o,none⟩) m c2],.int .i64 k,.int .i64 t] W fun e w' => ∃ lb M',e = .returned (.func (.func 59) #[] lb) ∧ lb.size = 3 ∧ (∀ (i : Nat) (c : PV),(JR p k t)[i]? = some c → VR w' M' c (lb.getD i undef)) ∧ (∀ b,M b → M' b) ∧ (∀ b,M' b → M b ∨ W.heap.size ≤ b) ∧ (∀ b,M' b → b < w'.heap.size) ∧
        (∀ b,b<W.heap.size→w'.heap[b]?=W.heap[b]?)∧W.heap.size≤w'.heap.size∧w'.os=W.os∧w'.tape=W.tape∧w'.output=W.output):=hcall
    clear hcall
    have hfn:(FW none).fn 38:=trivial
    gi_wp2
    refine⟨rfl,(dJ none (ajd.out _ ((HH.out.below.alloc (by omega) _).alloc (by simp;omega) _))).mono ?_⟩
    rintro e W2 ⟨lb,M',rfl,hlb,hlv,hm1,hm2,hm3,hk2,hs2,ho2,ht2,Xa⟩
    obtain⟨W1,hW1⟩:∃ W1,(wr.alloc (Obj.cells #[Value.string s0,Value.int IntKind.i64 len,Value.slice al ll cl] 37)).alloc (Obj.cells #[Value.int IntKind.i64 0] 3)=W1:=⟨_,rfl⟩
    rw[hW1]at hm2 hk2 hs2 ho2 ht2 Xa
    have HL:Hid (lb.size=3∧(∀ (i:Nat) (c:PV),(JR p k t)[i]?=some c→VR W2 M' c (lb.getD i undef))∧(∀ b,M b→M' b)∧(∀ b,M' b→M b∨W1.heap.size≤b)∧(∀ b,M' b→b<W2.heap.size)∧(∀ b,b<W1.heap.size→W2.heap[b]?=W1.heap[b]?)∧W1.heap.size≤W2.heap.size∧W2.os=W1.os∧W2.tape=W1.tape∧W2.output=W1.output):=⟨hlb,hlv,hm1,hm2,hm3,hk2,hs2,ho2,ht2,Xa⟩
    clear hlb hlv hm1 hm2 hm3 hk2 hs2 ho2 ht2 Xa
    dsimp only
    gi_wp2
    have hkp:k<p.acts.length:=by rw[← HM.out];exact hkm
    obtain⟨hlb,hlv,hm1,hm2,hm3,hk2,hs2,ho2,ht2,Xa⟩:=HL.out
    have hs1:W1.heap.size=wr.heap.size+2:=by rw[← hW1];simp
    have hk1:∀ b,b<wr.heap.size→W1.heap[b]?=wr.heap[b]?:=fun b hb=>by
     rw[← hW1,Below.heap_alloc _ _ _ (by simp;omega),Below.heap_alloc _ _ _ hb]
    have ha1:W1.heap[wr.heap.size]?=some (.cells #[.string s0,.int .i64 len,.slice al ll cl] 37 (0,0)):=by
     rw[← hW1,Below.heap_alloc _ _ _ (by simp)]
     exact World.alloc_heap_new wr _
    have hb1:W1.heap[wr.heap.size+1]?=some (.cells #[.int .i64 0] 3 (0,0)):=by
     rw[← hW1]
     have:=World.alloc_heap_new (wr.alloc (Obj.cells #[Value.string s0,Value.int IntKind.i64 len,Value.slice al ll cl] 37)) (Obj.cells #[Value.int IntKind.i64 0] 3)
     rw[World.size_alloc]at this
     exact this
    have ho1:W1.os=wr.os∧W1.tape=wr.tape∧W1.output=wr.output:=by rw[← hW1];exact⟨rfl,rfl,rfl⟩
    have hkk:∀ b,b<wr.heap.size→W2.heap[b]?=wr.heap[b]?:=fun b hb=>(hk2 b (by omega)).trans (hk1 b hb)
    have H2:Held w M (w.heap.size+2) (w.heap.size+1) Mx vs (lN p k) W2:=HH.out.grow (by omega) hkk (ho2.trans ho1.1) (ht2.trans ho1.2.1) (Xa.trans ho1.2.2)
    have hown:∀ (j:Nat) (v:Value) (g:Nat),vs[j]?=some v→v.ownBlock=some g→w.heap.size≤g∧g<wr.heap.size:=fun j v g hv hg=>by
     obtain⟨q,_,hr⟩:=HH.out.at_ hv
     exact hr.lt g hg
    have aje:=HH.out.lt
    have hact:=Uj HV.out hkp
    have hit:=aeb hX hS hCl p hp HV.out k hkp
    rw[← HT.out]at hit
    have pay : ∀ (D : Nat) (W3 : World) (Nu : Nat → Prop) (vs' : List Value),Held w M (w.heap.size + 2) (w.heap.size + 1) Nu vs' (lN p (k + 1)) W3 → W3.heap[D]? = some (.deferred (some [])) → W2.heap.size ≤ D → ¬ Nu D → W2.heap.size ≤ W3.heap.size →
        (∀ b,b<W2.heap.size→b≠wr.heap.size+1→b≠w.heap.size+2→b≠w.heap.size+1→(∀ (j:Nat) (v:Value),vs[j]?=some v→v.ownBlock≠some b)→W3.heap[b]?=W2.heap[b]?)→(∀ b,Nu b→Mx b∨M' b∨W2.heap.size≤b) →
        (rV D::ds.map rV=(D::ds).map rV)∧Held w M (w.heap.size+2) (w.heap.size+1) Nu vs' (lN p (k+1)) W3∧(D::ds).Nodup∧(∀ D'∈D::ds,¬ Nu D'∧w.heap.size+3≤D'∧W3.heap[D']?=some (.deferred (some [])))∧w.heap.size+3≤W3.heap.size∧W3.heap[w.heap.size]?=some (.cells #[.slice Ns n c0,v1,.slice (some ⟨b,o,none⟩) m c2] 27 (0,0))∧W3.heap[wr.heap.size]?=some (.cells #[.string s0,.int .i64 len,.slice al ll cl] 37 (0,0)):=by
      intro D W3 Nu vs' H3 hD hD0 hMD hs3 hk3 hsub
      have hdl:∀ D'∈ds,D'<wr.heap.size:=fun D' hD'=>(qAa.1 (HD.out D' hD').2.2).1
      have hkeep:∀ x,x<wr.heap.size→x≠w.heap.size+2→x≠w.heap.size+1→(∀ (j:Nat) (v:Value),vs[j]?=some v→v.ownBlock≠some x)→W3.heap[x]?=wr.heap[x]?:=fun x hx n1 n2 n3=>(hk3 x (by omega) (by omega) n1 n2 n3).trans (hkk x hx)
      refine⟨rfl,H3,List.nodup_cons.2 ⟨fun h=>by have:=hdl D h;omega,hnd⟩,fun D' hD'=>?_,by omega,?_,?_⟩
      · rcases List.mem_cons.1 hD' with rfl | hD'
        · exact⟨hMD,by omega,hD⟩
        · obtain⟨e1,e2,e3⟩:=HD.out D' hD'
          have e4:=hdl D' hD'
          refine⟨fun h=>?_,e2,(hkeep D' e4 (by omega) (by omega) fun j v hv e=>?_).trans e3⟩
          · rcases hsub D' h with h | h | h
            · exact e1 h
            · rcases hm2 D' h with h | h
              · have:=hM D' h;omega
              · omega
            · omega
          · exact HH.out.own_ne hv e e3 (fun cur h=>by cases h) rfl
      · refine(hkeep _ hwB (by omega) (by omega) fun j v hv e=>?_).trans hpb
        exact HH.out.own_ne hv e hpb (fun cur h=>by have:=(Obj.cells.inj h).2.1;exact absurd this (by decide)) rfl
      · refine(hk3 _ (by omega) (by omega) (by omega) (by omega) fun j v hv e=>?_).trans ((hk2 _ (by omega)).trans ha1)
        have:=(hown j v _ hv e).2
        omega
    have PAY : Hid (∀ (D : Nat) (W3 : World) (Nu : Nat → Prop) (vs' : List Value),Held w M (w.heap.size + 2) (w.heap.size + 1) Nu vs' (lN p (k + 1)) W3 → W3.heap[D]? = some (.deferred (some [])) → W2.heap.size ≤ D → ¬ Nu D → W2.heap.size ≤ W3.heap.size →
        (∀ b,b<W2.heap.size→b≠wr.heap.size+1→b≠w.heap.size+2→b≠w.heap.size+1→(∀ (j:Nat) (v:Value),vs[j]?=some v→v.ownBlock≠some b)→W3.heap[b]?=W2.heap[b]?)→(∀ b,Nu b→Mx b∨M' b∨W2.heap.size≤b) →
        (rV D::ds.map rV=(D::ds).map rV)∧Held w M (w.heap.size+2) (w.heap.size+1) Nu vs' (lN p (k+1)) W3∧(D::ds).Nodup∧(∀ D'∈D::ds,¬ Nu D'∧w.heap.size+3≤D'∧W3.heap[D']?=some (.deferred (some [])))∧w.heap.size+3≤W3.heap.size∧W3.heap[w.heap.size]?=some (.cells #[.slice Ns n c0,v1,.slice (some ⟨b,o,none⟩) m c2] 27 (0,0))∧W3.heap[wr.heap.size]?=some (.cells #[.string s0,.int .i64 len,.slice al ll cl] 37 (0,0))):=pay
    clear pay
    refine Yu (w0:=w) (M0:=M) (Bl:=w.heap.size+2) (Br:=w.heap.size+1) (Bi:=wr.heap.size+1) (Mx:=Mx) (vs:=vs) (qs:=lN p k) (ps:=rU p k) hne hit NZ.symm ?_ rfl rfl rfl rfl (M1:=M') (by rw[hlb];rfl) hlv H2 ((hk2 _ (by omega)).trans hb1) (by omega) (fun h=>by have:=(HH.out.mlt _ h).1;omega) (fun x hx=>⟨hm3 x hx,?_,?_,?_,?_,fun j v hv e=>?_⟩) (fun x hx=>⟨hm1 _ (hgl x hx).1,?_⟩) (by rw[uI,lG];exact Nat.le_refl _) (Xb HV.out hkp) (fun j=>?_) (by rw[uI];have:=hp.names;omega) ?_
    · rw[round_eq,Q7];rfl
    · rcases hm2 x hx with h | h
      · exact .inl h
      · right;omega
    · rintro rfl
      rcases hm2 _ hx with h | h
      · have:=hM _ h;omega
      · omega
    · rintro rfl
      rcases hm2 _ hx with h | h
      · have:=hM _ h;omega
      · omega
    · rintro rfl
      rcases hm2 _ hx with h | h
      · have:=hM _ h;omega
      · omega
    · have h1:=hown j v x hv e
      rcases hm2 _ hx with h | h
      · have:=hM _ h;omega
      · omega
    · have:=hM _ (hgl x hx).1
      rw[hkk _ (by omega),HH.out.below.block _ this]
      exact(hgl x hx).2
    · have e1:=Yv p k (by omega) j
      have e2:=Xc p k j
      omega
    rw[Um p k hkp]
    intro D W3 Nu vs' H3 hD hD0 hMD hs3 hk3 hsub
    obtain⟨y1,y2,y3,y4,y5,y6,y7⟩:=PAY.out D W3 Nu vs' H3 hD hD0 hMD hs3 hk3 hsub
    have Y2:Hid _:=y2
    have Y4:Hid _:=y4
    have z1:W3.cell? ⟨wr.heap.size,1,none⟩=some (.int .i64 len):=by simp[World.cell?,y7]
    have hadd:IntKind.i64.wrap (t+len)=t+len:=wrap_eq (by have:=HT.out;omega) (by have:=HT.out;omega)
    have aaD:IntKind.i64.wrap ((k:Int)+1)=((k+1:Nat):Int):=bW k (by omega)
    clear H3 hD hD0 hMD hs3 hk3 hsub y2 y4 PAY HL hit H2 hown hact hkk ho1 hb1 ha1 hk1 hs1 hlb hlv hm1 hm2 hm3 hk2 hs2 ho2 ht2 Xa aje q0 q1 q2 d0 d1 d2 hW1
    gi_wp2
    refine⟨⟨k+1,t+len,Nu,vs',D::ds,fun
     | 5=>.int .i64 k
     | 6=>.pointer (some ⟨wr.heap.size,0,none⟩)
     | 7=>.pointer (some ⟨wr.heap.size+1,0,none⟩)
     | 17=>.bool true
     | 18=>.int .i64 k
     | 19=>.pointer (some ⟨b,o+k*3,none⟩)
     | 20=>.agg #[.string s0,.int .i64 len,.slice al ll cl]
     | 21=>.agg #[.slice Ns n c0,v1,.slice (some ⟨b,o,none⟩) m c2]
     | 22=>.int .i64 k
     | 23=>.int .i64 t
     | 24=>.func (.func 59) #[] lb
     | 38=>.int .i64 t
     | 39=>.pointer (some ⟨wr.heap.size,1,none⟩)
     | 40=>.int .i64 len
     | 41=>.int .i64 (t+len)
     | 42=>.int .i64 ((k+1:Nat):Int)
     | _=>undef,by omega,rfl,?_,Y2.out,y3,Y4.out,y5,y6⟩,?_⟩
    · rw[HT.out,← hlen,WZ p.acts hkp]
    · show m-((k:Int)+1).toNat<m-(k:Int).toNat
      omega
  · have ajf:k=p.acts.length:=by have:=HM.out;omega
    have l1:=(cell_of_box_a HH.out.lbox).1
    have l1:wr.cell? ⟨w.heap.size+1+1,0,none⟩=some (.slice (some ⟨w.heap.size+1,0,none⟩) vs.length vs.length):=l1
    have HH':Hid (Held w M (w.heap.size+2) (w.heap.size+1) Mx vs (lN p p.acts.length) wr):=by have:=HH.out;rw[ajf]at this;exact this
    gi_wp2
    show LeavesInM (FW none) 0 Tryd.prog Tryd.f47 _ R (ds.map rV) .returning wr
    refine pK ds wr hnd (fun D hD=>(HD.out D hD).2.2) fun w' k1 k2 k3 k4 k5 _=>?_
    refine⟨_,results_tmp rfl _ _ _,?_⟩
    exact hR Mx vs ds wr w' HH'.out HD.out k1 k2 k3 k4 k5
end Go.Skm.Prg
