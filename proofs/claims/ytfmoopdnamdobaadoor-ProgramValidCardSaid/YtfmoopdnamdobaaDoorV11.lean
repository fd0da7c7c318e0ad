import Derived.Test.YtfmoopdnamdobaaDoorV10
import Derived.Test.YtfmoopdnamdobaaDoorP15
import Derived.Test.YtfmoopdnamdobaaDoorArgs
namespace Go.Skm.Prg
open Go Go.Skm Go.Proofs Go.RowKit Go.Shelf
section
variable {H:Type} {enc:TypeId × Value→H} {P:Program}
theorem UC {f : Nat} {fn : Func} {tb : TypeId} (hres : fn.resultTypes = #[tb]) (hub : P.underlying tb = some .bool) {s : ChangeSpec} (hvars : s.vars = []) {W : World} {args : Array Value} {ds gs : List (DataW H)} {before : List MemPlace} {b0 : Nat}
    (hval:∀ (j:Nat) t v,fn.params[j]?=some t→args[j]?=some v→Value.okWide P W .any b0 t v) (hW:DataW.Whole enc P fn.params.toList s.vars false W args.toList ds gs before)
    (hpar:fn.params.toList.all (Ub P 8)=true) (hs:s.fn H ds={ results:=[.lit (.bool true)],args:=ds })
    (hcall:∀ xs,vZ P W (fun b=>b<W.heap.size) fn.params.toList args.toList xs→Calls P f args W fun e W'=>e=.returned (.bool true)∧Below W.heap.size W W') :
    Calls P f args W fun e W'=>∃ v,e=.returned v∧s.post enc P fn false true false false W args v W':=by
  have hW0:=hW
  obtain⟨p,q,hA,hV,hbef,hz,hn⟩:=hW
  have hall:∀ t∈fn.params.toList,kJ P 8 t=true:=fun t ht=>Dy P 8 t (List.all_eq_true.1 hpar t ht)
  rw[hvars]at hV
  cases gs with
  | cons g gr=>exact hV.elim
  | nil =>
   obtain⟨xs,hxs⟩:=Pv (M:=fun b=>b<W.heap.size) (fun _ h=>h) hA hall (base:=0) (fun j t v h1 h2=>by
    exact hval j t v (by simpa using h1) (by simpa using h2))
   refine Calls.mono (hcall xs hxs) fun e W' hpost=>?_
   obtain⟨rfl,post⟩:=hpost
   have hkeep:∀ b,b<W.heap.size→W'.heap[b]?=W.heap[b]?:=post.block
   refine⟨.bool true,rfl,ds,[],before,[],p,[],hW0,?_,?_,?_,?_,fun h=>by cases h⟩
   · rw[List.append_nil,hs,hres]
     exact⟨[],[],⟨1,by simp[DataW.trod,Value.cells,hub]⟩,rfl,rfl⟩
   · rw[List.append_nil,hs]
     exact Ee hkeep hA hall
   · rw[List.append_nil,hs,hvars];rfl
   · refine⟨post.os,post.output,fun i hi=>?_⟩
     rw[hkeep i hi]
     cases hh:W.heap[i]? with
     | none=>simp
     | some o=>cases o<;>simp
end
section
variable {gl:Option (List (Nat × Obj))} {X:Ext} {w:World}
theorem Aa (hC : fZ Tryd.prog tab gl (run tab X)) (hgl : ∀ p ∈ gl.getD [],p.1 < w.heap.size ∧ w.heap[p.1]? = some p.2) {f : Nat} {fi : FI} (hf : bI tab.funcs f = some fi) {t : TypeId} (ht : fi.fn.resultTypes.toList = [t]) (hr : fi.cfg.rets = []) {xs : List PV} {b : Bool} (h : run tab X f (xs.map .p) [] = some ([.p (.bool b)],[]))
    {args:Array Value} (hn:args.size=xs.length) (hv:∀ (i:Nat) x,xs[i]?=some x→VR w (fun b=>b<w.heap.size) x (args.getD i undef)):wo w f args b:=fun _W hW =>
  PD hC hf ht hr h (M:=fun b=>b<w.heap.size) (fun p hp=>⟨(hgl p hp).1,(hW.block _ (hgl p hp).1).trans (hgl p hp).2⟩) (fun _b hb=>Nat.lt_of_lt_of_le hb hW.size) hn fun i x hx=>(hv i x hx).mono fun b hb=>⟨hb,hW.block b hb⟩
theorem hvs {x:PV} {v:Value} (h:VR w (fun b=>b<w.heap.size) x v):∀ (i:Nat) (y:PV),[x][i]?=some y→VR w (fun b=>b<w.heap.size) y (#[v].getD i undef):=by
 intro i y hy
 match i,hy with
 | 0,hy=>cases hy;exact h
 | i+1,hy=>simp at hy
theorem abO {M:Nat→Prop} {x y:PV} {v u:Value} (h:VR w M x v) (k:VR w M y u):∀ (i:Nat) (z:PV),[x,y][i]?=some z→VR w M z (#[v,u].getD i undef):=by
 intro i z hz
 match i,hz with
 | 0,hz=>cases hz;exact h
 | 1,hz=>cases hz;exact k
 | i+2,hz=>simp at hz
theorem alk {M:Nat→Prop} {x y z:PV} {v u t:Value} (h:VR w M x v) (k:VR w M y u) (l:VR w M z t):∀ (i:Nat) (o:PV),[x,y,z][i]?=some o→VR w M o (#[v,u,t].getD i undef):=by
 intro i o ho
 match i,ho with
 | 0,ho=>cases ho;exact h
 | 1,ho=>cases ho;exact k
 | 2,ho=>cases ho;exact l
 | i+3,ho=>simp at ho
theorem Ym {p:Pg} (hp:Small p) {p0 p1 p2:Value} (hv:VR w (fun b=>b<w.heap.size) (eG p) (.agg #[p0,p1,p2])):WV w p (.agg #[p0,p1,p2]):=fun W hW=>by
 have hv':VR W (fun b=>b<w.heap.size) (eG p) (.agg #[p0,p1,p2]):=hv.mono fun b hb=>⟨hb,hW.block b hb⟩
 have hM:∀ b,b<w.heap.size→b<W.heap.size:=fun b hb=>Nat.lt_of_lt_of_le hb hW.size
 refine Yn p hp W _ hM p0 p1 p2 hv' _ fun x0 x1 x2 W' hb r0 r1 r2=>?_
 obtain⟨mv,ml,hct,hml⟩:=abP hp r0 r1 r2
 exact⟨x0,x1,x2,mv,ml,rfl,hb,abQ hM hb r0 r1 r2,hct,hml⟩
theorem aaq (hC:fZ Tryd.prog tab gl (run tab X)) (hX:Mine X) (hgl:∀ p∈gl.getD [],p.1<w.heap.size∧w.heap[p.1]?=some p.2) {p:Pg} (hp:Small p) {v:Value} (hv:VR w (fun b=>b<w.heap.size) (eG p) v):aap w p v:=fun W M c hW hM1 hM2 hc=>by
 have h:=c21 X hX p p hp
 rw[decide_eq_true rfl]at h
 exact PD hC (f:=21) (fi:=abK) (by kernel_rfl) (t:=4) (by kernel_rfl) rfl (xs:=[eG p,eG p]) h (M:=M) (fun q hq=>⟨hM1 _ (hgl q hq).1,(hW.block _ (hgl q hq).1).trans (hgl q hq).2⟩) hM2 rfl (abO hc (hv.mono fun b hb=>⟨hM1 b hb,hW.block b hb⟩))
theorem aiC {M:Nat→Prop} {p:Pg} {v:Value} (h:VR w M (eG p) v):∃ p0 p1 p2,v=.agg #[p0,p1,p2]:=by
 cases h with
 | agg _ vs hn hl hc =>
  have hn:vs.size=3:=hn
  exact⟨vs.getD 0 undef,vs.getD 1 undef,vs.getD 2 undef,congrArg Value.agg (aar vs hn)⟩
theorem alm (hC : fZ Tryd.prog tab gl (run tab X)) (hX : Mine X) (hCl : jI X) (hKn : Known X) (hgl : ∀ p ∈ gl.getD [],p.1 < w.heap.size ∧ w.heap[p.1]? = some p.2) (p q : Pg) (hfp : Fits p) (hfq : Fits q) {v u : Value} (hv : VR w (fun b => b < w.heap.size) (eG p) v) (hu : VR w (fun b => b < w.heap.size) (eG q) u) :
    Calls Tryd.prog 7 #[v,u] w fun e W'=>e=.returned (.bool true)∧Below w.heap.size w W':=by
  obtain⟨p0,p1,p2,rfl⟩:=aiC hv
  obtain⟨q0,q1,q2,rfl⟩:=aiC hu
  have k8:wo w 8 #[] true:=Aa hC hgl (fi:=fi8) (by kernel_rfl) (t:=4) (by kernel_rfl) rfl (xs:=[]) hKn rfl fun i x h=>by simp at h
  have few:∀ (r:Pg) (z:Value),Fits r→VR w (fun b=>b<w.heap.size) (eG r) z→wo w 11 #[z,.int .i64 8,.int .i64 6] (NG r 8 6):=fun r z hr hz =>
   Aa hC hgl (fi:=adA) (by kernel_rfl) (t:=4) (by kernel_rfl) rfl (xs:=[eG r,.int .i64 8,.int .i64 6]) (c11 X hX r hr 8 6 (by decide)) rfl (alk hz (.int _ _) (.int _ _))
  cases hfw:(NG p 8 6&&NG q 8 6) with
  | false =>
   refine aao ?_ (few p _ hfp hv) (few q _ hfq hu) k8 w (Below.refl _ _)
   exact Bool.and_eq_false_iff.1 hfw
  | true =>
   simp only[qBa]at hfw
   have hp:=OH (by decide) (by decide) hfp hfw.1
   have hq:=OH (by decide) (by decide) hfq hfw.2
   have kp:=few p _ hfp hv
   have kq:=few q _ hfq hu
   rw[hfw.1]at kp
   rw[hfw.2]at kq
   have s31:=c31 X hX p p hp
   rw[decide_eq_true rfl]at s31
   exact Yj hp (b:=dV p) (b':=decide (p=q)) kp kq k8
    (Aa hC hgl (fi:=adz) (by kernel_rfl) (t:=4) (by kernel_rfl) rfl (xs:=[eG p]) (c10 X hX hCl p hp) rfl (hvs hv))
    (Aa hC hgl (fi:=adB) (by kernel_rfl) (t:=4) (by kernel_rfl) rfl (xs:=[eG p]) (c15 X hX p hp) rfl (hvs hv))
    (Aa hC hgl (fi:=abL) (by kernel_rfl) (t:=4) (by kernel_rfl) rfl (xs:=[eG p,eG q]) (c31 X hX p q hp) rfl (abO hv hu))
    (Aa hC hgl (fi:=abK) (by kernel_rfl) (t:=4) (by kernel_rfl) rfl (xs:=[eG p,eG q]) (c21 X hX p q hp) rfl (abO hv hu))
    (Aa hC hgl (fi:=abL) (by kernel_rfl) (t:=4) (by kernel_rfl) rfl (xs:=[eG p,eG p]) s31 rfl (abO hv hv))
    (Ym hp hv) (aaq hC hX hgl hp hv) _ fun W hb=>⟨rfl,hb⟩
theorem Xp (hC : fZ Tryd.prog tab gl (run tab X)) (hX : Mine X) (hCl : jI X) (hKn : Known X) (hgl : ∀ p ∈ gl.getD [],p.1 < w.heap.size ∧ w.heap[p.1]? = some p.2) {args : Array Value} {xs : List PV} (h : vZ Tryd.prog w (fun b => b < w.heap.size) [27,27] args.toList xs) :
    Calls Tryd.prog 7 args w fun e W'=>e=.returned (.bool true)∧Below w.heap.size w W':=by
  have hlen:=h.length
  obtain⟨x0,xs0,y0,vs0,rfl,a0,b0,c0,r0⟩:=Px h
  obtain⟨x1,xs1,y1,vs1,rfl,a1,b1,c1,r1⟩:=Px r0
  have hn:=aak r1
  subst hn
  obtain⟨p,rfl,hfp⟩:=YE (by kernel_rfl) a0 b0 c0
  obtain⟨q,rfl,hfq⟩:=YE (by kernel_rfl) a1 b1 c1
  obtain⟨v,hv1,hv2⟩:=h.get 0 _ rfl
  obtain⟨u,hu1,hu2⟩:=h.get 1 _ rfl
  have:args=#[v,u]:=by
   apply Array.ext'
   match hl:args.toList,hlen,hv1,hu1 with
   | [a,b],_,hv1,hu1=>cases hv1;cases hu1;rfl
  subst this
  exact alm hC hX hCl hKn hgl p q hfp hfq hv2 hu2
end
end Go.Skm.Prg
