/-
  The law returns true for all arguments, in the world of a row; condition: as the library's answers.
-/
import Derived.Test.YtipkmkmngcjdbaaGreatDoorMv5
import Derived.Test.YtipkmkmngcjdbaaGreatDoorExt
import Derived.Test.YtipkmkmngcjdbaaGreatDoorArgt
namespace Go.Skm.Fig
open Go Go.Skm Go.Proofs Go.RowKit Go.Shelf Go.Sort
theorem aaQ {w : World} {M : Nat → Prop} {l : List V3} {c : Value} (hv : VR w M (.list true kV (bJ l)) c) (hn : l.length ≤ 100000) :
    Calls Tryz.prog 48 #[c] w fun e w'=>∃ v',e=.returned v'∧w'.ownsRow w.heap.size 43 3 v' l.length (cells l)∧Below w.heap.size w w':=by
  obtain⟨i0,z,k1,k2,k3,k4⟩:=Qy (P:=Tryz.prog) (t:=Tryz.lX.t 23) (n:=3) (by kernel_rfl)
  have k5:i0.bytes=24:=by
   have:(Tryz.prog.info? (Tryz.lX.t 23)).map (·.bytes)=some 24:=by kernel_rfl
   rw[k1]at this
   exact Option.some.inj this
  generalize hys:bJ l=ys at hv
  cases hv with
  | list _ _ _ b o cap g hM hcap hcc TA hsh =>
   subst hys
   rw[aQ]at hcap ⊢
   refine(AnyE.slices_Clone Tryz.laysClone i0 z 3 i0.bytes k1 k2 k3 rfl k4 (by decide) (fun w=>Tryz.sizeOf43 w) b o l.length cap (cells l) w (kM l) (by show l.length≤maxLen;exact Nat.le_trans hn (by decide)) (by rw[k5];omega) (fun j u hj=>?_) (fun u hu=>?_)).mono fun e w' ⟨v',he,ho,_,hb⟩=>⟨v',he,ho,hb⟩
   · have hjl:j<l.length*3:=by rw[← kM];exact(List.getElem?_eq_some_iff.1 hj).1
     have hi:j / 3<l.length:=by omega
     have hm:j%3<3:=by omega
     have h1:=x9 l (j / 3) (j%3) hm hi
     rw[show j / 3*3+j%3=j by omega]at h1
     rw[h1]at hj
     have hx:(bJ l)[j / 3]?=some (eV l[j / 3]):=by rw[nT,List.getElem?_eq_getElem hi];rfl
     have hr:j%3=0∨j%3=1∨j%3=2:=by omega
     have hpos:∀ r,j%3=r→o+j / 3*kV.length+r=o+j:=fun r hr=>by show o+j / 3*3+r=_;omega
     rcases hr with hr | hr | hr<;>rw[hr]at hj
     · have a1:=hcc _ _ 0 _ hx rfl
       have a2:=fZ (TA _ _ 0 _ hx rfl)
       rw[hpos 0 hr,a2]at a1
       rw[a1];exact hj
     · have a1:=hcc _ _ 1 _ hx rfl
       have a2:=fZ (TA _ _ 1 _ hx rfl)
       rw[hpos 1 hr,a2]at a1
       rw[a1];exact hj
     · have a1:=hcc _ _ 2 _ hx rfl
       have a2:=fZ (TA _ _ 2 _ hx rfl)
       rw[hpos 2 hr,a2]at a1
       rw[a1];exact hj
   · obtain⟨x,hx,hu⟩:=List.mem_flatMap.1 hu
     exact Jz x u hu
  | kD _ _ base cap =>
   have hl0:l=[]:=by cases l with | nil=>rfl | cons _ _=>cases hys
   subst hl0
   cases base with
   | none =>
    refine(AnyE.slices_Clone_nil Tryz.laysClone 0 cap w).mono fun e w' ⟨he,hw⟩=>?_
    subst hw
    exact⟨_,he,⟨rfl,.inl ⟨rfl,rfl⟩⟩,Below.refl _ _⟩
   | some a =>
    exact(JA Tryz.laysClone i0 z 3 i0.bytes k1 k2 k3 rfl k4 (by decide) (fun w=>Tryz.sizeOf43 w) a cap w).mono fun e w' ⟨v',he,ho,hb⟩=>⟨v',he,ho,hb⟩
section
variable {H:Type} {enc:TypeId × Value→H} {P:Program}
theorem Ub {f : Nat} {fn : Func} {tb : TypeId} (hres : fn.resultTypes = #[tb]) (hub : P.underlying tb = some .bool) {s : ChangeSpec} (hvars : s.vars = []) {W : World} {args : Array Value} {ds gs : List (DataW H)} {before : List MemPlace} {b0 : Nat}
    (hval:∀ (j:Nat) t v,fn.params[j]?=some t→args[j]?=some v→Value.okWide P W .any b0 t v) (hW:DataW.Whole enc P fn.params.toList s.vars false W args.toList ds gs before)
    (hpar:fn.params.toList.all (QW P 8)=true) (hs:s.fn H ds={ results:=[.lit (.bool true)],args:=ds })
    (hcall:∀ xs,uZ P W (fun b=>b<W.heap.size) fn.params.toList args.toList xs→Calls P f args W fun e W'=>e=.returned (.bool true)∧Below W.heap.size W W') :
    Calls P f args W fun e W'=>∃ v,e=.returned v∧s.post enc P fn false true false false W args v W':=by
  have hW0:=hW
  obtain⟨p,q,hA,hV,hbef,hz,hn⟩:=hW
  have hall:∀ t∈fn.params.toList,kN P 8 t=true:=fun t ht=>BI P 8 t (List.all_eq_true.1 hpar t ht)
  rw[hvars]at hV
  cases gs with
  | cons g gr=>exact hV.elim
  | nil =>
   obtain⟨xs,hxs⟩:=NM (M:=fun b=>b<W.heap.size) (fun _ h=>h) hA hall (base:=0) (fun j t v h1 h2=>by
    exact hval j t v (by simpa using h1) (by simpa using h2))
   refine Calls.mono (hcall xs hxs) fun e W' hpost=>?_
   obtain⟨rfl,post⟩:=hpost
   have hkeep:∀ b,b<W.heap.size→W'.heap[b]?=W.heap[b]?:=post.block
   refine⟨.bool true,rfl,ds,[],before,[],p,[],hW0,?_,?_,?_,?_,fun h=>by cases h⟩
   · rw[List.append_nil,hs,hres]
     exact⟨[],[],⟨1,by simp[DataW.trod,Value.cells,hub]⟩,rfl,rfl⟩
   · rw[List.append_nil,hs]
     exact CZ hkeep hA hall
   · rw[List.append_nil,hs,hvars];rfl
   · refine⟨post.os,post.output,fun i hi=>?_⟩
     rw[hkeep i hi]
     cases hh:W.heap[i]? with
     | none=>simp
     | some o=>cases o<;>simp
end
section
variable {gl:Option (List (Nat × Obj))} {X:Ext} {w:World}
theorem I7 (hC : gX Tryz.prog tab gl (run tab X)) (hgl : ∀ p ∈ gl.getD [],p.1 < w.heap.size ∧ w.heap[p.1]? = some p.2) {f : Nat} {fi : FI} (hf : bG tab.funcs f = some fi) {t : TypeId} (ht : fi.fn.resultTypes.toList = [t]) (hr : fi.cfg.rets = []) {xs : List PV} {b : Bool} (h : run tab X f (xs.map .p) [] = some ([.p (.bool b)],[]))
    {args:Array Value} (hn:args.size=xs.length) (hv:∀ (i:Nat) x,xs[i]?=some x→VR w (fun b=>b<w.heap.size) x (args.getD i undef)):tJ w f args b:=fun _W hW =>
  xY hC hf ht hr h (M:=fun b=>b<w.heap.size) (fun p hp=>⟨(hgl p hp).1,(hW.block _ (hgl p hp).1).trans (hgl p hp).2⟩) (fun _b hb=>Nat.lt_of_lt_of_le hb hW.size) hn fun i x hx=>(hv i x hx).mono fun b hb=>⟨hb,hW.block b hb⟩
theorem hvs {M:Nat→Prop} {x:PV} {v:Value} (h:VR w M x v):∀ (i:Nat) (y:PV),[x][i]?=some y→VR w M y (#[v].getD i undef):=by
 intro i y hy
 match i,hy with
 | 0,hy=>cases hy;exact h
 | i+1,hy=>simp at hy
theorem aaR {M:Nat→Prop} {x y:PV} {v u:Value} (h:VR w M x v) (k:VR w M y u):∀ (i:Nat) (z:PV),[x,y][i]?=some z→VR w M z (#[v,u].getD i undef):=by
 intro i z hz
 match i,hz with
 | 0,hz=>cases hz;exact h
 | 1,hz=>cases hz;exact k
 | i+2,hz=>simp at hz
theorem QX (b:V3):∀ (f acc:List Sh),(sO b acc f).1.length≤acc.length+f.length∧∀ s∈(sO b acc f).1,s∈acc∨∃ t∈f,s.c.length=t.c.length
 | [],acc=>⟨by simp[sO],fun s h=>.inl h⟩
 | t::r,acc=>by
  unfold sO
  split
  · obtain⟨h1,h2⟩:=QX b r (acc++[xW b t])
    refine⟨by simp at h1 ⊢;omega,fun s hs=>?_⟩
    rcases h2 s hs with h | ⟨u,hu,he⟩
    · rcases List.mem_append.1 h with h | h
      · exact .inl h
      · simp only[List.mem_cons,List.not_mem_nil,or_false]at h
        subst h
        exact .inr ⟨t,by simp,by simp[xW]⟩
    · exact .inr ⟨u,by simp[hu],he⟩
  · exact⟨by simp,fun s h=>by simp at h⟩
theorem Y9 (f:List Sh) (b:V3) {n m:Nat} (hf:f.length≤n) (hs:∀ s∈f,s.c.length≤m):(qK f b).1.length≤n∧∀ s∈(qK f b).1,s.c.length≤m:=by
 unfold qK
 split
 · obtain⟨h1,h2⟩:=QX b f []
   refine⟨by simp at h1;omega,fun s hs'=>?_⟩
   rcases h2 s hs' with h | ⟨t,ht,he⟩
   · simp at h
   · rw[he];exact hs t ht
 · exact⟨by simp,fun s h=>by simp at h⟩
theorem ajs (hC : gX Tryz.prog tab gl (run tab X)) (hX : Mine X) (hKn : Known X) (hgl : ∀ p ∈ gl.getD [],p.1 < w.heap.size ∧ w.heap[p.1]? = some p.2) (f : List Sh) (hf : f.length ≤ 9223372036854775807) (b : V3) {v u : Value} (hv : VR w (LT w) (.list true kS (dh f)) v) (hu : VR w (LT w) (fB b) u) :
    Calls Tryz.prog 6 #[v,u] w fun e W'=>e=.returned (.bool true)∧Below w.heap.size w W':=by
  obtain⟨ao,cap,rfl⟩:=yQ hv
  have e:=YZ hu
  subst e
  rw[bg]at *
  have k12:tJ w 12 #[] true:=I7 hC hgl (fi:=acQ) (by kernel_rfl) (t:=4) (by kernel_rfl) rfl (xs:=[]) hKn rfl fun i x h=>by simp at h
  obtain⟨sm,h10,hsm⟩:=c10 X hX f hf
  have k10:tJ w 10 #[.slice ao f.length cap] sm:=I7 hC hgl (fi:=acR) (by kernel_rfl) (t:=4) (by kernel_rfl) rfl (xs:=[.list true kS (dh f)]) h10 rfl (hvs hv)
  cases sm with
  | false=>exact Y8 k10 k12 w (Below.refl _ _)
  | true =>
   obtain⟨hl,hcl⟩:=hsm rfl
   have hfit:Fits f:=⟨by omega,fun s hs=>by have:=hcl s hs;omega⟩
   obtain⟨hg,hgs⟩:=Y9 f b hl hcl
   have up:∀ {W:World} {M:Nat→Prop} {x:PV} {c:Value},Below w.heap.size w W→VR w (LT w) x c→(∀ b,b<W.heap.size→M b)→VR W M x c:=fun {W M x c} hW h hM=>h.mono fun b hb=>⟨hM b (Nat.lt_of_lt_of_le hb hW.size),hW.block b hb⟩
   have gW:∀ {W:World},Below w.heap.size w W→∀ p∈gl.getD [],LT W p.1∧W.heap[p.1]?=some p.2:=fun hW p hp=>⟨Nat.lt_of_lt_of_le (hgl p hp).1 hW.size,(hW.block _ (hgl p hp).1).trans (hgl p hp).2⟩
   have same:∀ g,Fits g→Pn w g:=fun g hgf W u v hW hu hv=>by
    have h:=c21 X hX g g hgf
    rw[decide_eq_true rfl]at h
    exact xY hC (f:=21) (fi:=acS) (by kernel_rfl) (t:=4) (by kernel_rfl) rfl (xs:=[.list true kS (dh g),.list true kS (dh g)]) h (gW hW) (fun b hb=>hb) rfl (aaR hu hv)
   refine Xe (f:=f) hv (by omega) (fun s hs=>by have:=hcl s hs;omega) (by omega) (fun s hs=>by have:=hgs s hs;omega) k10 k12
    (I7 hC hgl (fi:=acT) (by kernel_rfl) (t:=4) (by kernel_rfl) rfl (xs:=[.list true kS (dh f)]) (c14 X hX f hfit) rfl (hvs hv))
    (I7 hC hgl (fi:=acU) (by kernel_rfl) (t:=4) (by kernel_rfl) rfl (xs:=[fB b]) (c23 X hX b) rfl (hvs hu)) ?_ (same f hfit) (same _ ⟨by omega,fun s hs=>by have:=hgs s hs;omega⟩) ?_ _ fun W hb=>⟨rfl,hb⟩
   · -- Move
     intro W vo hW hvo
     obtain⟨aoo,ajt,rfl⟩:=yQ hvo
     rw[bg]at *
     have k28:tJ W 28 #[.slice aoo f.length ajt] (uV f):=fun W2 hW2 =>
      xY hC (f:=28) (fi:=acV) (by kernel_rfl) (t:=4) (by kernel_rfl) rfl (xs:=[.list true kS (dh f)]) (c28 X hX f hfit) (M:=LT W) (fun p hp=>⟨(gW hW p hp).1,(hW2.block _ (gW hW p hp).1).trans (gW hW p hp).2⟩) (fun b hb=>Nat.lt_of_lt_of_le hb hW2.size) rfl (hvs (hvo.mono fun b hb=>⟨hb,hW2.block b hb⟩))
     have k47:tJ W 47 #[vV b] (oM 16777216 b):=fun W2 hW2 =>
      xY hC (f:=47) (fi:=acW) (by kernel_rfl) (t:=4) (by kernel_rfl) rfl (xs:=[fB b]) (c47 X hX b) (M:=LT W) (fun p hp=>⟨(gW hW p hp).1,(hW2.block _ (gW hW p hp).1).trans (gW hW p hp).2⟩) (fun b hb=>Nat.lt_of_lt_of_le hb hW2.size) rfl (hvs (DC _ _ _))
     by_cases hok:uV f=true∧oM 16777216 b=true
     · obtain⟨aju,hsh⟩:=uX hok.1
       have em:qK f b=sO b [] f:=by unfold qK;rw[if_pos hok]
       rw[hok.1]at k28
       rw[hok.2]at k47
       rw[em]
       refine Y4 (M:=LT W) (fun _ h=>h) hvo aju hsh k28 k47 (fun _ _ _ _ h hn=>aaQ h hn) ?_ ?_ hok.2 _ fun vv W2 hb hm=>⟨vv,rfl,hb,hm⟩
       · intro W2 c b2 hW2 hc hb2
         have hWW:=hW.trans (hW2.mono hW.size)
         have h49:=c49 X hX hc hb2
         cases hin:oM 16777216 (gV c b2) with
         | true =>
          rw[hin,if_pos rfl]at h49
          refine(QT hC (f:=49) (fi:=aaS) (by kernel_rfl) (t:=43) (u:=27) (by kernel_rfl) rfl (xs:=[fB c,fB b2]) h49 (gW hWW) (fun _ h=>h) rfl (aaR (DC _ _ _) (DC _ _ _))).mono ?_
          rintro e W3 ⟨x,y,M3,rfl,hx,hy,hb3⟩
          have ex:=YZ hx
          have ey:=fZ hy
          subst ex ey
          exact⟨_,_,rfl,hb3,.inl ⟨rfl,rfl,rfl⟩⟩
         | false =>
          rw[hin,if_neg (by decide)]at h49
          refine(QT hC (f:=49) (fi:=aaS) (by kernel_rfl) (t:=43) (u:=27) (by kernel_rfl) rfl (xs:=[fB c,fB b2]) h49 (gW hWW) (fun _ h=>h) rfl (aaR (DC _ _ _) (DC _ _ _))).mono ?_
          rintro e W3 ⟨x,y,M3,rfl,hx,hy,hb3⟩
          have ex:=YZ hx
          have ey:=fZ hy
          subst ex ey
          exact⟨_,_,rfl,hb3,.inr ⟨rfl,rfl⟩⟩
       · intro W2 c hW2
         exact xY hC (f:=31) (fi:=acX) (by kernel_rfl) (t:=4) (by kernel_rfl) rfl (xs:=[fB c]) (c31 X hX c) (gW (hW.trans (hW2.mono hW.size))) (fun _ h=>h) rfl (hvs (DC _ _ _))
     · have hno : uV f = false ∨ oM 16777216 b = false := by
         cases h1:uV f with
         | false=>exact .inl rfl
         | true=>cases h2:oM 16777216 b with
          | false=>exact .inr rfl
          | true=>exact absurd ⟨h1,h2⟩ hok
       have em:qK f b=([],2):=by unfold qK;rw[if_neg hok]
       rw[em]
       exact aaN hno k28 k47 _ fun W2 hb=>⟨_,rfl,hb,nN.nil _ _ _⟩
   · -- the document's Move
     intro hfb hbm W hW
     refine(Xc hC (f:=24) (fi:=acY) (by kernel_rfl) (t:=23) (u:=3) (by kernel_rfl) rfl (xs:=[.list true kS (dh f),fB b]) (c24 X hX f hfb b hbm) (gW hW) (fun _ h=>h) rfl (aaR (up hW hv fun _ h=>h) (DC _ _ _))).mono ?_
     rintro e W2 ⟨c,d,M2,rfl,hc,hd,_,hlt,hb⟩
     have ed:=fZ hd
     subst ed
     exact⟨c,rfl,hc.mono fun b hb=>⟨hlt b hb,rfl⟩,hb⟩
theorem Xa (hC : gX Tryz.prog tab gl (run tab X)) (hX : Mine X) (hKn : Known X) (hgl : ∀ p ∈ gl.getD [],p.1 < w.heap.size ∧ w.heap[p.1]? = some p.2) {args : Array Value} {xs : List PV} (h : uZ Tryz.prog w (fun b => b < w.heap.size) [23,43] args.toList xs) :
    Calls Tryz.prog 6 args w fun e W'=>e=.returned (.bool true)∧Below w.heap.size w W':=by
  have hlen:=h.length
  obtain⟨x0,xs0,y0,vs0,rfl,a0,b0,c0,r0⟩:=NP h
  obtain⟨x1,xs1,y1,vs1,rfl,a1,b1,c1,r1⟩:=NP r0
  have hn:=Za r1
  subst hn
  obtain⟨f,rfl,hf⟩:=X9 (by kernel_rfl) a0 b0 c0
  obtain⟨b,rfl⟩:=aah (by kernel_rfl) b1
  obtain⟨v,hv1,hv2⟩:=h.get 0 _ rfl
  obtain⟨u,hu1,hu2⟩:=h.get 1 _ rfl
  have:args=#[v,u]:=by
   apply Array.ext'
   match hl:args.toList,hlen,hv1,hu1 with
   | [a,b],_,hv1,hu1=>cases hv1;cases hu1;rfl
  subst this
  exact ajs hC hX hKn hgl f hf b hv2 hu2
end
end Go.Skm.Fig
