/-
  A machine that runs this program's functions on pure values, and the proof that what it returns is true of the program; no condition beside the hypotheses of each.
-/
import Derived.Test.YtipkmkmngcjdbaaGreatDoorSkmC
import Derived.LoopNIn
import Derived.Scope
import Derived.RangeFuncNested
namespace Go.Skm
section
variable {P:Program} {T:Tab} {w0:Base} {Pr M0 M:Nat→Prop} {β:Nat→Option (Nat × Nat)} {st:St} {a:Act} {w:World} {o:Oper}
theorem Rel.jw (r:Rel w0 Pr M0 M β st a w):∀ (l:List Operand),kW w M β (look st.heap) (Skm.jw st.env l) (l.map a.eval)
 | []=>⟨rfl,fun i x c h=>by simp[Skm.jw]at h⟩
 | x::l=>by
  obtain⟨h1,h2⟩:=r.jw l
  refine⟨by simp[Skm.jw,h1],fun i y c hy hc=>?_⟩
  cases i with
  | zero=>simp[Skm.jw]at hy hc;subst hy hc;exact r.aU x
  | succ i=>simp only[Skm.jw,List.map_cons,List.getElem?_cons_succ]at hy hc;exact h2 i y c hy hc
theorem Rel.Cj (r:Rel w0 Pr M0 M β st a w) (l:Array Operand):kW w M β (look st.heap) (Skm.jw st.env l.toList) (l.map a.eval).toList:=by
 rw[Array.toList_map];exact r.jw l.toList
theorem Rel.iw (r:Rel w0 Pr M0 M β st a w):∀ (l:List (Nat × Operand)),KD w M β (look st.heap) (Skm.iw st.env l) (l.map fun (i,x)=>(i,a.eval x))
 | []=>⟨rfl,fun i x c h=>by simp[Skm.iw]at h⟩
 | (n,x)::l=>by
  obtain⟨h1,h2⟩:=r.iw l
  refine⟨by simp[Skm.iw,h1],fun i y c hy hc=>?_⟩
  cases i with
  | zero=>simp[Skm.iw]at hy hc;subst hy hc;exact⟨rfl,r.aU x⟩
  | succ i=>simp only[Skm.iw,List.map_cons,List.getElem?_cons_succ]at hy hc;exact h2 i y c hy hc
theorem Rel.Lp (r:Rel w0 Pr M0 M β st a w) (l:Array (Nat × Operand)):KD w M β (look st.heap) (Skm.iw st.env l.toList) (l.map fun (i,x)=>(i,a.eval x)).toList:=by
 rw[Array.toList_map];exact r.iw l.toList
theorem Rel.iV (r:Rel w0 Pr M0 M β st a w) (x:Option Operand):IY w M β (look st.heap) (Skm.iV st.env x) (x.map a.eval):=by
 cases x with
 | none=>exact True.intro
 | some x=>exact r.aU x
theorem dI.fail:dI P w0 Pr M0 β st a w o .fail:=⟨fun _ _ _ _ hk=>by simp[DT.run]at hk⟩
theorem dI.val (r:Rel w0 Pr M0 M β st a w) {D:DT} {sem:Sem Value} (h:aj P w M β (look st.heap) D sem) (e:execOp a.eval o=(do pure (.value (← sem)))):dI P w0 Pr M0 β st a w o D :=
 aO.op (by rw[e];exact aO.KJ r h)
theorem aO.XG {d:Option Nat} {D:DT} {s1 s2:Sem Next} (h:aO P w0 Pr M0 β st a w d D s1) (e:s2.run P w=s1.run P w):aO P w0 Pr M0 β st a w d D s2 :=
 ⟨fun α k q hk=>by rw[e];exact h.Zl α k q hk⟩
theorem dI.of {D:DT} {sem:Sem Next} (h:aO P w0 Pr M0 β st a w o.dst D sem) (e:execOp a.eval o=sem):dI P w0 Pr M0 β st a w o D :=
 aO.op (by rw[e];exact h)
theorem aa7 (ok : bP P T) {h : Nat → Option aI} {t : TypeId} {x : AV} {c : Value} {ts : Array TypeId} {ty : TypeId} (ht : ts[0]? = some t) (hx : AR w M β h x c) :
    aj P w M β h (PD T t x) (Builtin.cap_ ts ty #[c]):=by
  unfold PD
  split
  · rename_i e hu
    have hu:=ok.und hu
    have hc:c=.slice none 0 0:=by cases hx;rename_i hv;cases hv;rfl
    subst hc
    refine aj.ret (.int _ _) ?_
    simp[Builtin.cap_,ht,aZ hu,goInt]
  · exact aj.fail
theorem aa8 (r : Rel w0 Pr M0 M β st a w) {d : Nat} {sa : Bool} {ks : List Kd} :
    aO P w0 Pr M0 β st a w (some d) (.ret { val:=.slice d ks.length 0 0,lJ:=[(d,.arr sa ks [])],new:=[d] }) (pure (.value (.slice none 0 0))):=by
  refine aO.ret (nv:=.value (.slice none 0 0)) (c:=.slice none 0 0) (w':=w) (M':=M) (β':=fun x=>if x=d then none else β x) (by simp) (.inl rfl) (fun _=>?_) (fun hf=>oG (ss:=[]) hf)
  have r1:Rel w0 Pr M0 M β (st.strike (present st.heap [d]++[])) a w:=r.strike _ (fun b h=>h) fun b h=>.inl h
  have h0:look (st.strike (present st.heap [d]++[])).heap d=none:=wF (by simp)
  rw[Dj]
  generalize st.strike (present st.heap [d]++[])=st1 at r1 h0
  have r2:=r1.lay (s:=d) (blk:=.arr sa ks []) h0 (p:=none) (fun b o h=>by cases h) (.fM _ _)
  refine r2.setEnv (some d) ?_
  exact .sliceE d 0 sa ks [] none (by simp[aV]) (by simp)
theorem Lr (ok : bP P T) {C : aF} (hC : gX P T w0.gl C) (r : Rel w0 Pr M0 M β st a w) {h' : Nat → Option aI} (hsub : ∀ s b,h' s = some b → look st.heap s = some b) {f : Nat} {args : List AV} {aG : Array Value}
    (hargs:kW w M β (look st.heap) args aG.toList) (he:(execOp a.eval o).run P w=(callFunc f aG).run P w):dI P w0 Pr M0 β st a w o (vG T C h' o.dst f args):=by
  unfold vG
  cases hp:(iZ T f).zT.is with
  | true=>exact ZC (C:=C) ok r hsub hp hargs he
  | false =>
  simp only[cond_false]
  cases Qa:(iZ T f).vcall with
  | true=>exact aa6 ok hC r hsub Qa hargs he
  | false =>
  simp only[cond_false]
  cases hd:o.dst with
  | none=>simp only[nI];exact dI.fail
  | some d =>
   cases hf:bG T.funcs f with
   | none=>simp only[nI,hf];exact dI.fail
   | some fi =>
    rw[← hd]
    cases hm:fi.cfg.zD with
    | false=>exact Xz ok hC r hsub hd hf hm hargs he
    | true=>exact XA ok hC r hsub hd hf hm hargs he
theorem lN {ρ : Operand → Value} {dst : Option Tmp} {b : Builtin} {args : Array Operand} {ts : Array TypeId} {type : TypeId} {pos : String} {after : Array Edge} {guard : Option (Nat × Bool)} :
    execOp ρ ⟨dst,.call ⟨.builtin b,args,ts⟩,type,pos,after,guard⟩=builtin b ts type (args.map fun | .const _=>true | _=>false) (args.map ρ):=rfl
theorem Ls {ρ : Operand → Value} {dst : Option Tmp} {fo : Operand} {args : Array Operand} {ts : Array TypeId} {type : TypeId} {pos : String} {after : Array Edge} {guard : Option (Nat × Bool)} {f : Nat} {vs : Array Value} (h : ρ fo = .func (.func f) #[] vs) :
    (execOp ρ ⟨dst,.call ⟨.value fo,args,ts⟩,type,pos,after,guard⟩)=callFunc f (args.map ρ++vs):=by
  simp only[execOp,resolve,h,Deferred.ofValue]
  simp[invoke]
theorem kW.append {w:World} {M:Nat→Prop} {β:Nat→Option (Nat × Nat)} {h:Nat→Option aI}:∀ {xs ys:List AV} {cs ds:List Value},kW w M β h xs cs→kW w M β h ys ds→kW w M β h (xs++ys) (cs++ds)
 | [],ys,[],ds,_,h2=>h2
 | x::xs,ys,c::cs,ds,h1,h2=>by
  obtain⟨g1,g2⟩:=h1.cons
  obtain⟨k1,k2⟩:=g2.append h2
  refine⟨by simp[k1],fun i y e hy he=>?_⟩
  cases i with
  | zero=>simp at hy he;subst hy he;exact g1
  | succ i=>simp at hy he;exact k2 i y e hy he
 | [],_,_::_,_,h1,_=>by have:=h1.1;simp at this
 | _::_,_,[],_,h1,_=>by have:=h1.1;simp at this
theorem adb (ok : bP P T) {C : aF} (hC : gX P T w0.gl C) (r : Rel w0 Pr M0 M β st a w) {h' : Nat → Option aI} (hsub : ∀ s b,h' s = some b → look st.heap s = some b) :
    dI P w0 Pr M0 β st a w o (cO T C st.env h' o):=by
  have hh:=r.heap
  obtain⟨dst,op,type,pos,after,guard⟩:=o
  cases op with
  | move x=>exact dI.of (sem:=pure (.value (a.eval x))) (aO.ret (nv:=.value (a.eval x)) (by simp) (.inl rfl) (fun _=>r.setEnv dst (r.aU x)) (fun _ _ _=>rfl) (fun _=>BX)) rfl
  | assign x =>
   have plain:aO P w0 Pr M0 β st a w dst (.ret { val:=Skm.aU st.env x }) (pure (.value (a.eval x))) :=
    aO.ret (nv:=.value (a.eval x)) (by simp) (.inl rfl) (fun _=>r.setEnv dst (r.aU x)) (fun _ _ _=>rfl) (fun _=>BX)
   simp only[cO]
   split
   · exact dI.of (aa8 r) rfl
   · exact dI.of plain rfl
  | pick c x y=>
   refine dI.of ((aO.KJ r (Zn (r.aU c) (r.aU x) (r.aU y))).XG (s2:=do pure (.value (if ← asBool (a.eval c) then a.eval x else a.eval y))) ?_) rfl
   simp only[Sem.run_bind]
   cases (asBool (a.eval c)).run P w<;>simp
  | alloc t=>exact dI.of (Xo ok r) rfl
  | box t v=>exact dI.of (aa0 r (r.aU v)) rfl
  | build t ps=>exact dI.val r (Xl ok (r.Lp ps)) rfl
  | buildSlice t len ps=>exact dI.of (KL ok r hsub (r.Lp ps)) rfl
  | load t x=>exact dI.val r (Rk ok hsub hh (r.aU x)) rfl
  | store t x v=>exact dI.of (Xr ok r hsub (r.aU x) (r.aU v)) rfl
  | binOp op t x y _=>exact dI.val r (aaY ok x y (r.aU x) (r.aU y)) rfl
  | unOp op _ x=>exact dI.val r (ac4 (r.aU x)) rfl
  | convert s t x=>exact dI.of (Rx ok r hsub (r.aU x)) rfl
  | makeFunc fn first caps=>exact dI.val r (PZ (r.Cj first) (r.Cj caps)) rfl
  | makeSlice t l c=>exact dI.of (MP ok r (r.aU l) (r.aU c)) rfl
  | makeMap t x=>exact dI.of (RI ok r (r.iV x)) rfl
  | mapUpdate t m k v=>exact dI.of (MV ok r hsub (r.aU m) (r.aU k) (r.aU v)) rfl
  | slice t x lo hi mx =>
   simp only[cO]
   split
   · rename_i n e hu
     exact dI.val r (PW ok hsub hu (r.aU x) (r.iV lo) (r.iV hi) (r.iV mx)) rfl
   · split
     · exact dI.fail
     · rename_i hmh
       refine dI.val r (Xm ok (r.aU x) (r.iV lo) (r.iV hi) (r.iV mx) ?_) rfl
       intro h
       cases mx with
       | none=>simp[Skm.iV]at h
       | some m =>
        cases hi with
        | none=>exact absurd rfl (hmh m rfl)
        | some _=>rfl
  | fieldAddr t x f=>exact dI.val r (MN ok (r.aU x)) rfl
  | field t x f=>exact dI.val r (Xk ok (r.aU x)) rfl
  | indexAddr t x i=>exact dI.val r (MO ok (r.aU x) (r.aU i)) rfl
  | index t x i=>exact dI.val r (Xn ok (r.aU x) (r.aU i)) rfl
  | extract x i=>exact dI.val r (Ri (r.aU x)) rfl
  | nilCheck x =>
   have hx:=r.aU x
   refine dI.of (sem:=execOp a.eval ⟨dst,.nilCheck x,type,pos,after,guard⟩) ?_ rfl
   simp only[cO]
   generalize hv:Skm.aU st.env x=v at hx
   have key:(∃ s i o,v=.ptr s i o)∨(∃ sa ks y o,v=.mO sa ks y o)∨(∃ cs,v=.p (.ref cs))∨(∃ f cs,v=.p (.fn f cs))∨(∃ f cs,v=.fn f cs)→aO P w0 Pr M0 β st a w dst (.ret { val:=v }) (execOp a.eval ⟨dst,.nilCheck x,type,pos,after,guard⟩):=by
    intro h
    refine aO.ret (nv:=.value (a.eval x)) (c:=a.eval x) ?_ (.inl rfl) (fun _=>r.setEnv dst hx) (fun _ _ _=>rfl) (fun _=>BX)
    simp only[execOp]
    generalize a.eval x=c at hx
    rcases h with ⟨s,i,o,rfl⟩ | ⟨sa,ks,y,o,rfl⟩ | ⟨cs,rfl⟩ | ⟨f,cs,rfl⟩ | ⟨f,cs,rfl⟩
    · cases hx<;>rfl
    · cases hx<;>rfl
    · cases hx;rename_i hv;cases hv;rfl
    · cases hx;rename_i hv;cases hv;rfl
    · cases hx;rfl
   unfold EP
   split
   · exact key (.inl ⟨_,_,_,rfl⟩)
   · exact key (.inr (.inl ⟨_,_,_,_,rfl⟩))
   · exact key (.inr (.inr (.inl ⟨_,rfl⟩)))
   · exact key (.inr (.inr (.inr (.inl ⟨_,_,rfl⟩))))
   · exact key (.inr (.inr (.inr (.inr ⟨_,_,rfl⟩))))
   · exact aO.fail
  | call c =>
   obtain⟨callee,args,argTypes⟩:=c
   simp only[cO]
   split
   · -- len
     split
     · rename_i x t ts h1 h2
       have e1:args=#[x]:=by rw[← Array.toList_inj];exact h1
       have e2:argTypes[0]?=some t:=by rw[← Array.getElem?_toList,h2];rfl
       subst e1
       exact dI.val r (aaZ ok hsub hh e2 (ty:=type) (r.aU x)) (by rw[lN];simp[builtin])
     · exact dI.fail
   · split
     · rename_i x t ts h1 h2
       have e1:args=#[x]:=by rw[← Array.toList_inj];exact h1
       have e2:argTypes[0]?=some t:=by rw[← Array.getElem?_toList,h2];rfl
       subst e1
       exact dI.val r (aa7 ok e2 (r.aU x) (ty:=type)) (by rw[lN];simp[builtin])
     · exact dI.fail
   · exact dI.val r (KG (g:=Builtin.min2) (r.Cj args) (fun j x y=>by simp[Builtin.min2,abE])) lN
   · exact dI.val r (KG (g:=Builtin.max2) (r.Cj args) (fun j x y=>by simp[Builtin.max2,abG])) lN
   · -- append
     split
     · rename_i x y t t2 h1 h2
       have e1:args=#[x,y]:=by rw[← Array.toList_inj];exact h1
       have e2:argTypes=#[t,t2]:=by rw[← Array.toList_inj];exact h2
       subst e1 e2
       exact dI.of (Ut ok r hsub (ty:=type) (ts:=#[t,t2]) rfl rfl (r.aU x) (r.aU y)) (by rw[lN];simp[builtin])
     · exact dI.fail
   · split
     · rename_i x y t ts h1 h2
       have e1:args=#[x,y]:=by rw[← Array.toList_inj];exact h1
       have e2:argTypes[0]?=some t:=by rw[← Array.getElem?_toList,h2];rfl
       subst e1
       exact dI.of (Zw ok r hsub e2 (ty:=type) (r.aU x) (r.aU y)) (by rw[lN];simp[builtin])
     · exact dI.fail
   · split
     · rename_i x t ts h1 h2
       have e1:args=#[x]:=by rw[← Array.toList_inj];exact h1
       have e2:argTypes[0]?=some t:=by rw[← Array.getElem?_toList,h2];rfl
       subst e1
       exact dI.of (Xt ok r hsub e2 (ty:=type) (r.aU x)) (by rw[lN];simp[builtin])
     · exact dI.fail
   · rename_i fo
     have hfo:=r.aU fo
     split
     · rename_i f caps hv
       rw[hv]at hfo
       have:∃ vs:Array Value,a.eval fo=.func (.func f) #[] vs∧kW w M β (look st.heap) (caps.map .p) vs.toList:=by
        generalize a.eval fo=c at hfo
        cases hfo with
        | p _ _ hv =>
         cases hv with
         | fn _ _ vs hn hc =>
          refine⟨vs,rfl,by simp[hn],fun i x c hx hy=>?_⟩
          simp only[List.getElem?_map,Option.map_eq_some_iff]at hx
          obtain⟨y,hx,rfl⟩:=hx
          have:=hc i y hx
          rw[Array.getElem?_toList]at hy
          rw[Array.getD_eq_getD_getElem?,hy]at this
          exact .p _ _ this
       obtain⟨vs,h1,h2⟩:=this
       refine Lr (o:=⟨dst,.call ⟨.value fo,args,argTypes⟩,type,pos,after,guard⟩) ok hC r hsub (aG:=args.map a.eval++vs) ?_ (by rw[Ls h1])
       rw[Array.toList_append]
       exact(r.Cj args).append h2
     · rename_i f caps hv
       rw[hv]at hfo
       have:∃ vs:Array Value,a.eval fo=.func (.func f) #[] vs∧kW w M β (look st.heap) caps vs.toList:=by
        generalize a.eval fo=c at hfo
        cases hfo with
        | fn _ _ vs hn hc =>
         refine⟨vs,rfl,by simp[hn],fun i x c hx hy=>?_⟩
         have:=hc i x hx
         rw[Array.getElem?_toList]at hy
         rw[Array.getD_eq_getD_getElem?,hy]at this
         exact this
       obtain⟨vs,h1,h2⟩:=this
       refine Lr (o:=⟨dst,.call ⟨.value fo,args,argTypes⟩,type,pos,after,guard⟩) ok hC r hsub (aG:=args.map a.eval++vs) ?_ (by rw[Ls h1])
       rw[Array.toList_append]
       exact(r.Cj args).append h2
     · exact dI.fail
   · exact dI.fail
  | _=>exact dI.fail
end
end Go.Skm
namespace Go.Skm
section
variable {α:Type}
theorem rZ (m:Nat) (k:Nat→Option α):nU m k=k m:=by cases m<;>rfl
theorem RN (n:Int) (k:Int→Option α):J6 n k=k n:=by cases n<;>simp[J6,rZ]
mutual
theorem Ea (b:Bool):∀ (v:PV) (k:PV→Option α),jf b v k=k v
 | .bool c,k=>by cases b<;>cases c<;>simp[jf]
 | .int j n,k=>by cases b<;>simp[jf,RN]
 | .str s,k=>by simp[jf]
 | .agg cs,k=>by simp[jf,jl b cs]
 | .list a ks xs,k=>by cases b<;>simp[jf,jl _ xs]
 | .full a ks xs,k=>by cases b<;>simp[jf,jl _ xs]
 | .nil,k=>by simp[jf]
 | .fn f cs,k=>by cases b<;>simp[jf,jl _ cs]
 | .ref cs,k=>by simp[jf,jl b cs]
 | .zS,k=>by simp[jf]
 | .jL,k=>by simp[jf]
 | .Xf,k=>by simp[jf]
 | .oO,k=>by simp[jf]
 | .zX ks vs,k=>by simp[jf]
 | .Po,k=>by simp[jf]
theorem jl (b:Bool):∀ (v:List PV) (k:List PV→Option α),kP b v k=k v
 | [],k=>by simp[kP]
 | v::r,k=>by simp[kP,Ea b v,jl b r]
end
mutual
theorem Eb (b:Bool):∀ (v:AV) (k:AV→Option α),jM b v k=k v
 | .undef,k=>by simp[jM]
 | .p v,k=>by cases b<;>simp[jM,Ea]
 | .slice s z o l,k=>by cases b<;>simp[jM,rZ]
 | .bslice s o l,k=>by cases b<;>simp[jM,rZ]
 | .ptr s i o,k=>by cases b<;>simp[jM,rZ]
 | .mO a ks x o,k=>by cases b<;>simp[jM,rZ,Ea]
 | .fn f cs,k=>by simp[jM,fH b cs]
 | .agg cs,k=>by simp[jM,fH b cs]
 | .mG cs,k=>by simp[jM,fH b cs]
 | .fresh a ks xs,k=>by cases b<;>simp[jM,jl]
 | .sJ,k=>by simp[jM]
 | .mref s,k=>by simp[jM]
theorem fH (b:Bool):∀ (v:List AV) (k:List AV→Option α),lU b v k=k v
 | [],k=>by simp[lU]
 | v::r,k=>by simp[lU,Eb b v,fH b r]
end
theorem RP:∀ (v:List AV) (k:List AV→Option α),spine v k=k v
 | [],k=>rfl
 | v::r,k=>by simp[spine,RP r]
theorem Ij (b:Bool):∀ (v:aI) (k:aI→Option α),qc b v k=k v
 | .box cs,k=>by simp[qc,fH]
 | .arr a ks xs,k=>by cases b<;>simp[qc,jl]
 | .log on xs,k=>by cases b<;>simp[qc,jl]
 | .tb t c0 c1,k=>by simp[qc,Eb]
 | .mp t es,k=>by simp[qc]
 | .br e xs,k=>by cases b<;>simp[qc,jl]
theorem iH (b:Bool):∀ (v:List aI) (k:List aI→Option α),qM b v k=k v
 | [],k=>rfl
 | v::r,k=>by simp[qM,Ij,iH b r]
theorem Ik (b:Bool):∀ (v:List (Nat × aI)) (k:List (Nat × aI)→Option α),ET b v k=k v
 | [],k=>rfl
 | (s,x)::r,k=>by simp[ET,Ij,Ik b r]
theorem Og:∀ (v:Heap) (k:Heap→Option α),PE v k=k v
 | [],k=>rfl
 | (s,x)::r,k=>by simp[PE,Og r]
theorem aH (st:St) (k:St→Option α):fC st k=k st:=by simp[fC,RP,Og]
theorem RQ (b:Bool) (st:St) (d:Option Nat) (e:Eff) (k:St→Option α):EU b st d e k=k (st.apply d e):=by
 simp[EU,Eb,Ik,aH]
theorem DT.run_bind:∀ (D:DT) (k:Eff→Option α),D.run k=(D.run some).bind k
 | .fail,k=>rfl
 | .ret e,k=>rfl
 | .ite c x y,k=>by cases c<;>simp[DT.run,DT.run_bind x k,DT.run_bind y k]
 | .call o f,k=>by
  cases o with
  | none=>rfl
  | some r=>simp only[DT.run];exact DT.run_bind (f r) k
end
section
variable (T:Tab) (C:aF)
def vX (all:List Oper) (o:Oper) (env:List AV) (h:Nat→Option aI):Option (Option Eff) :=
 match o.guard with
 | none=>((cO T C env h o).run some).map some
 | some (g,want) =>
  match oQ all g with
  | none=>none
  | some t =>
   match env.getD t .undef with
   | .p (.bool b)=>if b=want then((cO T C env h o).run some).map some else some none
   | .mG []=>some none
   | _=>none
def step1 (draw:Bool) (hd:List Nat) (all:List Oper) (o:Oper) (st:St):Option St :=
 match vX T C all o st.env (jk hd (look st.heap)) with
 | none=>none
 | some none=>some { st with env:=setEnv st.env o.dst (.mG []) }
 | some (some e)=>if(fU (e.new++e.wP)&&dO draw (aS T all o) (fG all o) st.heap e)=true then some (st.apply o.dst e) else none
theorem set_self {env:List AV} {t:Nat} {v:AV} (h:env.getD t .undef=v) (hv:v≠.undef):env.set t v=env:=by
 apply List.ext_getElem?
 intro i
 by_cases hi:i=t
 · subst hi
   by_cases hl:i<env.length
   · have : env[i]? = some v := by
       rw[List.getD_eq_getElem?_getD,List.getElem?_eq_getElem hl]at h
       simp at h;simp[hl,h]
     rw[this];simp[hl]
   · rw[List.getD_eq_getElem?_getD,List.getElem?_eq_none (by omega)]at h
     exact absurd h.symm hv
 · rw[List.getElem?_set_ne (Ne.symm hi)]
def guardOf (all:List Oper) (o:Oper) (env:List AV):Option Bool :=
 match o.guard with
 | none=>some true
 | some (g,want) =>
  match oQ all g with
  | none=>none
  | some t =>
   match env.getD t .undef with
   | .p (.bool b)=>some (b==want)
   | .mG []=>some false
   | _=>none
theorem Lu (all : List Oper) (o : Oper) (env : List AV) (h : Nat → Option aI) : vX T C all o env h = (match guardOf all o env with
    | none=>none
    | some false=>some none
    | some true=>((cO T C env h o).run some).map some):=by
  unfold vX guardOf
  cases o.guard with
  | none=>rfl
  | some gw =>
   obtain⟨g,want⟩:=gw
   simp only
   cases oQ all g with
   | none=>rfl
   | some t =>
    simp only
    split
    · rename_i b hb
      cases b<;>cases want<;>rfl
    · rfl
    · rfl
theorem Oh {α : Type} {draw : Bool} {hd : List (List Nat)} {all : List Oper} {o : Oper} {rest : List Oper} {j : Nat} {st : St} {k : St → Option α} :
    dW T C draw hd all (o::rest) j st k=(match guardOf all o st.env with
     | none=>none
     | some false=>dW T C draw hd all rest (j+1) { st with env:=setEnv st.env o.dst (.mG []) } k
     | some true=>match nJ draw st o with
      | some (xs,vs)=>fork (dW T C draw hd all rest (j+1) (iY st o.dst xs vs false) k) (dW T C draw hd all rest (j+1) (iY st o.dst xs vs true) k)
      | none=>((cO T C st.env (jk (hd.getD j []) (look st.heap)) o).run some).bind fun e =>
       if(fU (e.new++e.wP)&&dO draw (aS T all o) (fG all o) st.heap e)=true then dW T C draw hd all rest (j+1) (st.apply o.dst e) k else none):=by
  have go : ∀ st : St, (match nJ draw st o with
        | some (xs,vs)=>fork (fC (iY st o.dst xs vs false) fun st=>dW T C draw hd all rest (j+1) st k) (fC (iY st o.dst xs vs true) fun st=>dW T C draw hd all rest (j+1) st k)
        | none=>(cO T C st.env (jk (hd.getD j []) (look st.heap)) o).run fun e =>
        bif fU (e.new++e.wP)&&dO draw (aS T all o) (fG all o) st.heap e then EU T.strict st o.dst e fun st=>dW T C draw hd all rest (j+1) st k else none) =
      (match nJ draw st o with
        | some (xs,vs)=>fork (dW T C draw hd all rest (j+1) (iY st o.dst xs vs false) k) (dW T C draw hd all rest (j+1) (iY st o.dst xs vs true) k)
        | none=>((cO T C st.env (jk (hd.getD j []) (look st.heap)) o).run some).bind fun e =>
         if(fU (e.new++e.wP)&&dO draw (aS T all o) (fG all o) st.heap e)=true then dW T C draw hd all rest (j+1) (st.apply o.dst e) k else none):=by
    intro st
    cases nJ draw st o with
    | some p=>obtain⟨xs,vs⟩:=p;simp only[aH]
    | none =>
     simp only
     rw[DT.run_bind]
     congr 1
     funext e
     simp only[RQ]
     cases fU (e.new++e.wP)&&dO draw (aS T all o) (fG all o) st.heap e<;>simp
  rw[dW]
  unfold guardOf
  cases hg:o.guard with
  | none=>exact go st
  | some gw =>
   obtain⟨g,want⟩:=gw
   simp only
   cases hd':oQ all g with
   | none=>rfl
   | some t =>
    simp only
    by_cases hx:∃ b,st.env.getD t .undef=.p (.bool b)
    · obtain⟨b,hb⟩:=hx
      have hs:=set_self hb (by simp)
      rw[hb]
      cases b
      · simp only[cond_false]
        rw[hs]
        cases want
        · simp only[cond_false];exact go st
        · simp only[cond_true,aH];rfl
      · simp only[cond_true]
        rw[hs]
        cases want
        · simp only[cond_false,aH];rfl
        · simp only[cond_true];exact go st
    · by_cases hh:st.env.getD t .undef=.mG []
      · rw[hh]
        simp only[aH]
      · split
        · rename_i b hb;exact absurd ⟨b,hb⟩ hx
        · rename_i hb;exact absurd hb hh
        · have : (match st.env.getD t .undef with
            | .p (.bool b)=>some (b==want)
            | .mG []=>some false
            | _=>none:Option Bool)=none:=by
            split
            · rename_i b hb;exact absurd ⟨b,hb⟩ hx
            · rename_i hb;exact absurd hb hh
            · rfl
          rw[this]
theorem mY {α : Type} {draw : Bool} {hd : List (List Nat)} {all : List Oper} {o : Oper} {rest : List Oper} {j : Nat} {st : St} {k : St → Option α} (hy : nJ draw st o = none) :
    dW T C draw hd all (o::rest) j st k=(step1 T C draw (hd.getD j []) all o st).bind fun st'=>dW T C draw hd all rest (j+1) st' k:=by
  rw[Oh,hy]
  unfold step1
  rw[Lu]
  cases guardOf all o st.env with
  | none=>rfl
  | some b =>
   cases b with
   | false=>rfl
   | true =>
    simp only
    cases (cO T C st.env (jk (hd.getD j []) (look st.heap)) o).run some with
    | none=>rfl
    | some e =>
     simp only[Option.bind_some,Option.map_some]
     cases fU (e.new++e.wP)&&dO draw (aS T all o) (fG all o) st.heap e<;>simp
theorem nK {α : Type} {draw : Bool} {hd : List (List Nat)} {all : List Oper} {o : Oper} {rest : List Oper} {j : Nat} {st : St} {k : St → Option α} {xs vs : List PV} (hy : nJ draw st o = some (xs,vs)) :
    dW T C draw hd all (o::rest) j st k=(match guardOf all o st.env with
     | none=>none
     | some false=>dW T C draw hd all rest (j+1) { st with env:=setEnv st.env o.dst (.mG []) } k
     | some true=>fork (dW T C draw hd all rest (j+1) (iY st o.dst xs vs false) k) (dW T C draw hd all rest (j+1) (iY st o.dst xs vs true) k)):=by
  rw[Oh,hy]
theorem Cm {α:Type} {no yes:Option α} {x:α} (h:fork no yes=some x):∃ r,no=some r∧yes=some x:=by
 cases no with
 | none=>cases h
 | some r=>exact⟨r,rfl,h⟩
theorem VW {α:Type} {no yes:Option α} {x r:α} (h1:no=some r) (h3:yes=some x):fork no yes=some x:=by
 subst h1 h3;rfl
end
structure Cx where
 w0:Base
 Pr:Nat→Prop
 M0:Nat→Prop
 Qd:Nat→Option (Nat × Nat)
 hp0:Heap
 Wr:Nat→Prop
 t0:Array Value
 rd:Option Nat
 L0:List (Nat × Obj)
 nm:Nat
 Ys:Nat→Prop:=fun _=>False
 yv:Value:=undef
def lC (β:Nat→Option (Nat × Nat)) (hp:Heap) (b:Nat):Prop:=∃ s o,(look hp s).isSome=true∧β s=some (b,o)
def UG (D:Nat):Deferred:={ target:=.collected D,args:=#[] }
def yG (hp:Heap):Prop:=∀ xs,look hp ah≠some (.log true xs)
structure Fix (cx:Cx) (M:Nat→Prop) (β:Nat→Option (Nat × Nat)) (hp:Heap) (a:Act) (w:World) (L:List (Nat × Obj)) (ds:List Nat):Prop where
 lies:∀ p∈L,w.heap[p.1]?=some p.2∧¬ lC β hp p.1∧¬ M p.1
 sub:∀ p∈cx.L0,p∈L
 marks:a.defers=ds.map UG
 nodup:ds.Nodup
 mark:∀ D∈ds,(D,Obj.deferred (some []))∈L∧cx.nm≤D
 rd:∀ l,cx.rd=some l→∃ r,(l,Obj.loop r)∈L
 size:a.tmps.size=cx.t0.size
 tmps:∀ t,¬ cx.Wr t→a.tmps.getD t undef=cx.t0.getD t undef
 one:¬ yG cx.hp0→ds=[]
 yl:∀ t,cx.Ys t→a.tmps.getD t undef=cx.yv∨a.tmps.getD t undef=undef
 nml:cx.nm≤cx.w0.heap.size
def zM (cx:Cx) (o:Oper):Prop:=(∀ t,o.dst=some t→cx.Wr t)∧∀ t,o.dst=some t→cx.Ys t→∃ s,cx.Ys s∧(o.op=.move (.tmp s)∨o.op=.assign (.tmp s))
def Inv (cx:Cx) (st:St) (a:Act) (w:World):Prop :=
 ∃ M β L ds,Rel cx.w0 cx.Pr cx.M0 M β st a w∧(∀ s,ah≤s→β s=cx.Qd s)∧iM cx.hp0 st.heap∧gZ cx.w0.gl cx.w0.drawn w.drawn∧Fix cx M β st.heap a w L ds
section
variable {w0:Base} {Pr M0 M M':Nat→Prop} {β β':Nat→Option (Nat × Nat)} {st st':St} {a a':Act} {w w':World}
theorem Rel.ZH (r:Rel w0 Pr M0 M β st a w):Rel ⟨w,w0.n0,Nat.le_trans w0.le' r.size,w0.gl⟩ (lC β st.heap) M M β st a w :=
 ⟨r.lV,r.env,r.heap,fun s b o hs hb=>⟨(r.own s b o hs hb).1,(r.own s b o hs hb).2.1,.inr ⟨s,o,hs,hb⟩,(r.own s b o hs hb).2.2.2⟩,r.inj,r.fJ,fun _ h=>.inl h,fun _ h=>h,fun _ _ _=>rfl,fun _ _ _ _ h=>h,Nat.le_refl _,rfl,rfl,rfl,r.lK⟩
theorem Rel.UH (r:Rel w0 Pr M0 M β st a w) {le:w0.n0≤w.heap.size} (r':Rel ⟨w,w0.n0,le,w0.gl⟩ (lC β st.heap) M M' β' st' a' w'):Rel w0 Pr M0 M' β' st' a' w':=by
 have hown:∀ b,lC β st.heap b→w0.heap.size≤b∨Pr b:=fun b ⟨s,o,hs,hb⟩=>(r.own s b o hs hb).2.2.1
 have hk:∀ b,b<w.heap.size→¬ lC β st.heap b→w'.heap[b]?=w.heap[b]?:=r'.keep
 have hsz:w.heap.size≤w'.heap.size:=r'.size
 refine⟨r'.lV,r'.env,r'.heap,fun s b o hs hb=>?_,r'.inj,r'.fJ,fun b h=>?_,fun b h=>r'.oJ b (r.oJ b h),fun b h1 h2=>?_,fun b n h1 h2 h3=>?_,Nat.le_trans r.size hsz,r'.os.trans r.os,r'.tape.trans r.tape,r'.output.trans r.output,r'.lK⟩
 · obtain⟨g1,g2,g3,g4⟩:=r'.own s b o hs hb
   refine⟨g1,g2,?_,g4⟩
   rcases g3 with h | h
   · have h:w.heap.size≤b:=h
     have:=r.size;left;omega
   · exact hown b h
 · rcases r'.jX b h with h | ⟨h,h'⟩
   · exact r.jX b h
   · refine .inr ⟨h,?_⟩
     rcases h' with h' | h'
     · have h':w.heap.size≤b:=h'
       have:=r.size;left;omega
     · exact hown b h'
 · have hb:b<w.heap.size:=by have:=r.size;omega
   rw[hk b hb fun h=>?_,r.keep b h1 h2]
   rcases hown b h with h | h
   · omega
   · exact h2 h
 · have hb:b<w.heap.size:=by have:=r.size;omega
   have hr:=r.room b n h1 h2 h3
   by_cases ho:lC β st.heap b
   · exact r'.room b n h1 ho hr
   · exact hr.of_block (hk b hb ho)
end
theorem put_defers (a:Act) (d:Option Nat) (c:Value):(a.put d c).defers=a.defers:=by cases d<;>rfl
theorem RS (a:Act) (d:Option Nat) (c:Value):(a.put d c).tmps.size=a.tmps.size:=by cases d<;>simp[Act.put]
theorem Qe {a:Act} {d:Option Nat} {c:Value} {t:Nat} (h:d≠some t):(a.put d c).tmps.getD t undef=a.tmps.getD t undef:=by
 cases d with
 | none=>rfl
 | some d =>
  have:d≠t:=fun e=>h (by rw[e])
  simp[Act.put,Array.getD_eq_getD_getElem?,Array.getElem?_setIfInBounds_ne this]
section
variable {P:Program} {T:Tab} {cx:Cx} {st st':St} {a:Act} {w:World} {o:Oper}
theorem Fix.put {M:Nat→Prop} {β:Nat→Option (Nat × Nat)} {hp:Heap} {L:List (Nat × Obj)} {ds:List Nat} (f:Fix cx M β hp a w L ds) {d:Option Nat} (hd:∀ t,d=some t→cx.Wr t) (c:Value) (hy:∀ t,d=some t→cx.Ys t→c=cx.yv∨c=undef):Fix cx M β hp (a.put d c) w L ds :=
 ⟨f.lies,f.sub,by rw[put_defers];exact f.marks,f.nodup,f.mark,f.rd,by rw[RS];exact f.size,fun t ht=>by rw[Qe fun e=>ht (hd t e)];exact f.tmps t ht,f.one,fun t ht=>by
   by_cases e:d=some t
   · subst e
     by_cases hl:t<a.tmps.size
     · have:(a.put (some t) c).tmps.getD t undef=c:=by simp[Act.put,hl]
       rw[this];exact hy t rfl ht
     · right
       simp[Act.put,Nat.le_of_not_lt hl]
   · rw[Qe e];exact f.yl t ht,f.nml⟩
theorem Fix.move {M M':Nat→Prop} {β β':Nat→Option (Nat × Nat)} {hp hp':Heap} {w':World} {L:List (Nat × Obj)} {ds:List Nat} (f:Fix cx M β hp a w L ds) (h:∀ p∈L,w'.heap[p.1]?=w.heap[p.1]?∧¬ lC β' hp' p.1∧¬ M' p.1):Fix cx M' β' hp' a w' L ds :=
 ⟨fun p hp=>⟨(h p hp).1.trans (f.lies p hp).1,(h p hp).2⟩,f.sub,f.marks,f.nodup,f.mark,f.rd,f.size,f.tmps,f.one,f.yl,f.nml⟩
theorem Fix.less {M:Nat→Prop} {β β':Nat→Option (Nat × Nat)} {hp hp':Heap} {w':World} {L:List (Nat × Obj)} {ds:List Nat} (f:Fix cx M β hp a w L ds) (h:∀ p∈L,w'.heap[p.1]?=w.heap[p.1]?) (ho:∀ b,lC β' hp' b→lC β hp b):Fix cx M β' hp' a w' L ds :=
 f.move fun p hp=>⟨h p hp,fun h'=>(f.lies p hp).2.1 (ho _ h'),(f.lies p hp).2.2⟩
theorem Fix.step {β β' : Nat → Option (Nat × Nat)} {w0 : Base} {Pr M0 M M' : Nat → Prop} {w' : World} {a' : Act} {L : List (Nat × Obj)} {ds : List Nat} (f : Fix cx M β st.heap a w L ds) (_r : Rel w0 Pr M0 M β st a w) {le : w0.n0 ≤ w.heap.size}
    (r':Rel ⟨w,w0.n0,le,w0.gl⟩ (lC β st.heap) M M' β' st' a' w'):Fix cx M' β' st'.heap a w' L ds:=by
  refine f.move fun p hp=>?_
  obtain⟨h1,h2,h3⟩:=f.lies p hp
  have hlt:p.1<w.heap.size:=(Array.getElem?_eq_some_iff.1 h1).1
  refine⟨r'.keep p.1 hlt h2,fun ⟨s,o,hs,hb⟩=>?_,fun hm=>?_⟩
  · rcases(r'.own s p.1 o hs hb).2.2.1 with h | h
    · have h:w.heap.size≤p.1:=h
      omega
    · exact h2 h
  · rcases r'.jX p.1 hm with h | ⟨_,h | h⟩
    · exact h3 h
    · have h:w.heap.size≤p.1:=h
      omega
    · exact h2 h
theorem ZI {U:List Nat} {h:Nat→Option aI} {s:Nat} {b:aI} (hh:jk U h s=some b):h s=some b:=by
 unfold jk at hh
 split at hh
 · exact hh
 · simp only at hh
   cases hm:dZ s U with
   | true=>rw[hm]at hh;cases hh
   | false=>rw[hm]at hh;exact hh
theorem LC {all:List Oper} {ops:Array Oper} (he:ops.toList=all) {g t:Nat} (hd:oQ all g=some t) (i:Inv cx st a w) {b:Bool} (hb:st.env.getD t .undef=.p (.bool b)):yielded ops a.tmps g=some b:=by
 obtain⟨M,β,L,ds,r,_⟩:=i
 subst he
 have h1:=r.slot t
 rw[hb]at h1
 have h2:=h1.zf
 unfold yielded
 unfold oQ at hd
 rw[Array.getElem?_toList]at hd
 rw[hd]
 have hlt:t<a.tmps.size:=by
  have:t<st.env.length:=by
   by_cases h:t<st.env.length
   · exact h
   · rw[List.getD_eq_getElem?_getD,List.getElem?_eq_none (by omega)]at hb;cases hb
  have:=r.lV;omega
 have:a.tmps[t]?=some (.bool b):=by
  rw[Array.getD_eq_getD_getElem?,Array.getElem?_eq_getElem hlt]at h2
  rw[Array.getElem?_eq_getElem hlt];simpa using h2
 simp[this]
theorem Fp {all:List Oper} {ops:Array Oper} (he:ops.toList=all) {g t:Nat} (hd:oQ all g=some t) (i:Inv cx st a w) (hb:st.env.getD t .undef=.mG []):yielded ops a.tmps g=none:=by
 obtain⟨M,β,L,ds,r,_⟩:=i
 subst he
 have h1:=r.slot t
 rw[hb]at h1
 unfold yielded
 unfold oQ at hd
 rw[Array.getElem?_toList]at hd
 rw[hd]
 simp only[Option.bind_some]
 cases hx:a.tmps[t]? with
 | none=>rfl
 | some c =>
  rw[Array.getD_eq_getD_getElem?,hx]at h1
  simp only[Option.getD_some]at h1
  cases h1 with
  | mG _ vs hn _=>rfl
theorem Qg {C:aF} {env:List AV} {h:Nat→Option aI} {e:Eff} (h1:(cO T C env h o).run some=some e):∀ c,o.op≠.defer c:=by
 intro c hc
 obtain⟨dst,op,type,pos,after,guard⟩:=o
 subst hc
 simp[cO,DT.run]at h1
theorem XH {s:Nat} (hop:o.op=.move (.tmp s)∨o.op=.assign (.tmp s)) {rd:Option Nat} {n:Nat} {K:Act→World→Prop} {Q:Exit→Act→World→Prop}:o.wpIn (FW rd) n P a w K Q↔K (a.put o.dst (a.tmps.getD s undef)) w:=by
 have hnd:∀ c,o.op≠.defer c:=fun c hc=>by rcases hop with h | h<;>rw[h]at hc<;>cases hc
 have he:(execOp a.eval o).run P w=.ok (.value (a.tmps.getD s undef)) w:=by
  obtain⟨dst,op,type,pos,after,guard⟩:=o
  rcases hop with h | h<;>(simp only at h;subst h;simp[execOp,Act.eval])
 constructor
 · intro h
   have h2:=h.2
   rw[Oper.semAt_plain (FW rd) a.eval o hnd,he]at h2
   exact h2
 · intro h
   refine qP hnd ?_
   rw[he];exact h
theorem adf (ok : bP P T) {C : aF} (hC : gX P T cx.w0.gl C) {draw : Bool} {hd : List Nat} {all : List Oper} {ops : Array Oper} (he : ops.toList = all) (hw : zM cx o) (i : Inv cx st a w)
    (h:step1 T C draw hd all o st=some st') {rd:Option Nat} {n:Nat} {K:Act→World→Prop} (hK:∀ a' w',Inv cx st' a' w'→K a' w') {Q:Exit→Act→World→Prop} :
    if Region.wanted o (yielded ops a.tmps) then o.wpIn (FW rd) n P a w K Q else K (a.put o.dst undef) w:=by
  have key:∀ e,((cO T C st.env (jk hd (look st.heap)) o).run some)=some e→fU (e.new++e.wP)=true→st'=st.apply o.dst e→o.wpIn (FW rd) n P a w K Q:=by
   intro e h1 h2 h3
   obtain⟨M,β,L,ds,r,i1,i2,i3,fx⟩:=i
   have hs:=(adb (w0:=⟨w,cx.w0.n0,Nat.le_trans cx.w0.le' r.size,cx.w0.gl⟩) (o:=o) ok hC r.ZH (h':=jk hd (look st.heap)) fun s b=>ZI).Zl (Qg h1) Eff some e h1 rd n Q
   by_cases hys:∃ t,o.dst=some t∧cx.Ys t
   · obtain⟨t,ht,hyt⟩:=hys
     obtain⟨s,hys,hop⟩:=hw.2 t ht hyt
     rw[XH hop]at hs ⊢
     obtain⟨_,e',M',β',h5,hdr,h6⟩:=hs
     cases h5
     obtain⟨g1,g2,g3⟩:=h6 h2
     exact hK _ w ⟨M',β',L,ds,by rw[h3];exact r.UH g1,fun s hs=>(g2 s hs).trans (i1 s hs),by rw[h3];exact i2.trans g3,i3.trans hdr,by rw[h3];exact(fx.step r g1).put hw.1 _ fun _ _ _=>fx.yl s hys⟩
   · refine Oper.wpIn_mono (fun a' w' h4=>?_) hs
     obtain⟨⟨c,rfl⟩,e',M',β',h5,hdr,h6⟩:=h4
     cases h5
     obtain⟨g1,g2,g3⟩:=h6 h2
     exact hK _ w' ⟨M',β',L,ds,by rw[h3];exact r.UH g1,fun s hs=>(g2 s hs).trans (i1 s hs),by rw[h3];exact i2.trans g3,i3.trans hdr,by rw[h3];exact(fx.step r g1).put hw.1 c fun t h1 h2=>absurd ⟨t,h1,h2⟩ hys⟩
  have skip:st'={ st with env:=setEnv st.env o.dst (.mG []) }→K (a.put o.dst undef) w:=by
   intro h3
   obtain⟨M,β,L,ds,r,i1,i2,i3,fx⟩:=i
   exact hK _ _ ⟨M,β,L,ds,by rw[h3];exact r.setEnv o.dst (.mG [] #[] rfl fun i c h=>by simp at h),i1,by rw[h3];exact i2,i3,by rw[h3];exact fx.put hw.1 _ fun _ _ _=>.inr rfl⟩
  have go : ∀ x : Option Eff, x = ((cO T C st.env (jk hd (look st.heap)) o).run some) → (match x.map some with
        | none=>none
        | some none=>some { st with env:=setEnv st.env o.dst (.mG []) }
        | some (some e)=>if(fU (e.new++e.wP)&&dO draw (aS T all o) (fG all o) st.heap e)=true then some (st.apply o.dst e) else none:Option St)=some st'→o.wpIn (FW rd) n P a w K Q:=by
    intro x hx h
    cases x with
    | none=>simp at h
    | some e =>
     simp only[Option.map_some]at h
     split at h
     · rename_i hc
       simp only[Bool.and_eq_true]at hc
       exact key e hx.symm hc.1 (by simpa using h.symm)
     · cases h
  unfold step1 vX at h
  cases hg:o.guard with
  | none =>
   rw[hg]at h
   simp only[Region.wanted,hg,if_true]
   exact go _ rfl h
  | some gw =>
   obtain⟨g,want⟩:=gw
   rw[hg]at h
   simp only at h
   cases hd':oQ all g with
   | none=>rw[hd']at h;simp at h
   | some t =>
    rw[hd']at h
    simp only at h
    cases hv:st.env.getD t .undef with
    | p v =>
     cases v with
     | bool b =>
      rw[hv]at h
      simp only at h
      have hy:=LC he hd' i hv
      simp only[Region.wanted,hg,hy]
      by_cases hb:b=want
      · subst hb
        rw[if_pos rfl]at h
        simp only[beq_self_eq_true,if_true]
        exact go _ rfl h
      · rw[if_neg hb]at h
        simp only at h
        have:(some b==some want)=false:=by simpa using hb
        rw[this]
        simp only[Bool.false_eq_true,if_false]
        exact skip (by simpa using h.symm)
     | _=>rw[hv]at h;simp at h
    | mG cs =>
     cases cs with
     | cons x r=>rw[hv]at h;simp at h
     | nil =>
      rw[hv]at h
      simp only at h
      have hy:=Fp he hd' i hv
      simp only[Region.wanted,hg,hy]
      have:((none:Option Bool)==some want)=false:=rfl
      rw[this]
      simp only[Bool.false_eq_true,if_false]
      exact skip (by simpa using h.symm)
    | _=>rw[hv]at h;simp at h
theorem UJ {hp hp':Heap} (h:yG hp) (hl:iM hp hp'):yG hp':=by
 intro xs he
 obtain⟨blk,h1,h2⟩:=hl ah (Nat.le_refl _) _ he
 cases blk with
 | box=>exact h2.elim
 | arr=>exact h2.elim
 | tb=>exact h2.elim
 | mp=>exact h2.elim
 | br=>exact h2.elim
 | log on ys=>exact h ys (by rw[h1];cases (show on=true from h2);rfl)
theorem yG.yield (h:yG st.heap) (draw:Bool):nJ draw st o=none:=by
 cases draw with
 | true=>rfl
 | false =>
  show yieldOf st o=none
  unfold yieldOf
  split
  · split
    · split
      · split
        · rename_i h1 _;exact absurd h1 (h _)
        · rfl
      · rfl
    · rfl
  · rfl
theorem Inv.aeR (i:Inv cx st a w) (h:yG cx.hp0):yG st.heap:=by
 obtain⟨M,β,L,ds,r,i1,i2,i3,fx⟩:=i
 exact UJ h i2
theorem RU (ok : bP P T) {C : aF} (hC : gX P T cx.w0.gl C) {α : Type} {draw : Bool} {hd : List (List Nat)} {ops : Array Oper} (hn : yG cx.hp0) {rd : Option Nat} {n : Nat} {Q : Exit → Act → World → Prop} {k : St → Option α} {x : α} (hQ : ∀ st' a' w',k st' = some x → Inv cx st' a' w' → Q .normal a' w') :
    ∀ (l:List Oper) (j:Nat) (st:St) (a:Act) (w:World),(∀ o∈l,zM cx o)→dW T C draw hd ops.toList l j st k=some x→Inv cx st a w→wpListIn (FW rd) n P ops Q l a w
  | [],j,st,a,w,_,h,i=>hQ st a w h i
  | o::rest,j,st,a,w,hw,h,i=>by
   rw[mY _ _ ((i.aeR hn).yield draw)]at h
   cases h1:step1 T C draw (hd.getD j []) ops.toList o st with
   | none=>rw[h1]at h;cases h
   | some st1 =>
    rw[h1]at h
    have:=adf ok hC rfl (hw o (by simp)) i h1 (rd:=rd) (n:=n) (K:=wpListIn (FW rd) n P ops Q rest) (fun a' w' i'=>RU ok hC hn hQ rest (j+1) st1 a' w' (fun o ho=>hw o (by simp[ho])) h i') (Q:=Q)
    unfold wpListIn
    split
    · rename_i hw;rw[if_pos hw]at this;exact this
    · rename_i hw;rw[if_neg hw]at this;exact⟨fun _ _=>trivial,this⟩
end
end Go.Skm
namespace Go.Skm
section
variable {T:Tab} {C:aF}
theorem um {env env':List AV}:∀ {l:List Operand},(∀ x∈l,aU env x=aU env' x)→jw env l=jw env' l
 | [],_=>rfl
 | x::r,h=>by
  have:=um (l:=r) fun y hy=>h y (List.mem_cons_of_mem _ hy)
  simp[jw,h x (by simp),this]
theorem sU {env env':List AV}:∀ {l:List (Nat × Operand)},(∀ x∈l,aU env x.2=aU env' x.2)→iw env l=iw env' l
 | [],_=>rfl
 | (i,x)::r,h=>by
  have:=sU (l:=r) fun y hy=>h y (List.mem_cons_of_mem _ hy)
  simp[iw,h (i,x) (by simp),this]
theorem qZ {env env':List AV} {x:Option Operand} (h:∀ y,x=some y→aU env y=aU env' y):iV env x=iV env' x:=by
 cases x with
 | none=>rfl
 | some y=>simp[iV,h y rfl]
theorem Qh {env env':List AV} {h:Nat→Option aI} {o:Oper} (he:∀ x∈o.op.operands,aU env x=aU env' x):cO T C env h o=cO T C env' h o:=by
 obtain⟨dst,op,type,pos,after,guard⟩:=o
 cases op with
 | call c =>
  obtain⟨callee,args,ts⟩:=c
  simp only[Op.operands,Call.operands]at he
  have ha:∀ x∈args.toList,aU env x=aU env' x:=fun x hx=>he x (by simp[Array.mem_toList_iff.1 hx])
  have hl:=um ha
  simp only[cO]
  split
  · split
    · rename_i x t r h1 h2
      rw[ha x (by rw[h1];simp)]
    · rfl
  · split
    · rename_i x t r h1 h2
      rw[ha x (by rw[h1];simp)]
    · rfl
  · rw[hl]
  · rw[hl]
  · split
    · rename_i x y t t2 h1 h2
      rw[ha x (by rw[h1];simp),ha y (by rw[h1];simp)]
    · rfl
  · split
    · rename_i x y t ts h1 h2
      rw[ha x (by rw[h1];simp),ha y (by rw[h1];simp)]
    · rfl
  · split
    · rename_i x t ts h1 h2
      rw[ha x (by rw[h1];simp)]
    · rfl
  · rename_i f
    rw[he f (by simp),hl]
  · rfl
 | build t ps =>
  simp only[Op.operands]at he
  simp only[cO]
  rw[sU fun x hx=>he x.2 (by simp;exact⟨x.1,by simpa using hx⟩)]
 | buildSlice t n ps =>
  simp only[Op.operands]at he
  simp only[cO]
  rw[sU fun x hx=>he x.2 (by simp;exact⟨x.1,by simpa using hx⟩)]
 | makeFunc fn first caps =>
  simp only[Op.operands]at he
  simp only[cO]
  rw[um fun x hx=>he x (by simp[Array.mem_toList_iff.1 hx]),um (l:=caps.toList) fun x hx=>he x (by simp[Array.mem_toList_iff.1 hx])]
 | slice t x lo hi mx =>
  simp only[Op.operands]at he
  simp only[cO]
  rw[he x (by simp),qZ (x:=lo) fun y hy=>he y (by simp[hy]),qZ (x:=hi) fun y hy=>he y (by simp[hy]),qZ (x:=mx) fun y hy=>he y (by simp[hy])]
 | makeMap t x =>
  simp only[Op.operands]at he
  simp only[cO]
  rw[qZ (x:=x) fun y hy=>he y (by simp[hy])]
 | assign x =>
  simp only[Op.operands]at he
  have hx:=he x (by simp)
  simp only[cO]
  split
  · rfl
  · rw[hx]
 | _ =>
  simp only[Op.operands]at he
  simp only[cO]
  try simp at he
  try simp only[he]
theorem Ec {t:Nat}:∀ {l:List Operand},Operand.tmp t∈l→t∈tmpsOf l
 | [],h=>by simp at h
 | x::r,h=>by
  rcases List.mem_cons.1 h with rfl | h
  · simp[tmpsOf]
  · have:=Ec h
    cases x<;>simp[tmpsOf,this]
def xq (T:Tab) (C:aF) (all:List Oper) (o:Oper) (env:List AV) (h:Nat→Option aI):Option Eff:=(vX T C all o env h).map fun x=>x.getD { val:=.mG [] }
theorem UK {all:List Oper} {o:Oper} {env env':List AV} {h:Nat→Option aI} (he:∀ t∈qg all o,env.getD t .undef=env'.getD t .undef):vX T C all o env h=vX T C all o env' h:=by
 have hs:cO T C env h o=cO T C env' h o:=Qh fun x hx=>by
  cases x with
  | tmp t =>
   show env.getD t .undef=env'.getD t .undef
   exact he t (by unfold qg;exact List.mem_append_left _ (Ec (by simpa using hx)))
  | _=>rfl
 unfold vX
 rw[hs]
 cases hg:o.guard with
 | none=>rfl
 | some gw =>
  obtain⟨g,want⟩:=gw
  simp only
  cases hd:oQ all g with
  | none=>rfl
  | some t =>
   simp only
   rw[he t (by unfold qg;unfold oQ at hd;rw[hg];simp[hd])]
theorem qQ {all:List Oper} {o:Oper} {env env':List AV} {h:Nat→Option aI} (he:∀ t∈qg all o,env.getD t .undef=env'.getD t .undef):xq T C all o env h=xq T C all o env' h:=by
 unfold xq;rw[UK he]
theorem Qi {t:TypeId} {x:AV} {h h':Nat→Option aI} (hm:Gw T t=false):BL T h t x=BL T h' t x:=by
 unfold Gw at hm
 unfold BL
 cases hu:und T t with
 | none=>rfl
 | some d =>
  rw[hu]at hm
  cases d<;>first | (simp at hm;done) | (cases x<;>first | rfl | (rename_i v;cases v<;>rfl))
theorem RV {all:List Oper} {o:Oper} {env:List AV} {h h':Nat→Option aI} (hc:aS T all o=.pure):cO T C env h o=cO T C env h' o:=by
 obtain⟨dst,op,type,pos,after,guard⟩:=o
 cases op with
 | call c =>
  obtain⟨callee,args,ts⟩:=c
  cases callee with
  | builtin b =>
   by_cases hlen:b=.len
   · subst hlen
     simp only[aS]at hc
     cases hm:ts.toList.any (Gw T) with
     | true=>rw[hm]at hc;cases hc
     | false =>
      simp only[cO]
      split
      · rename_i x t r h1 h2
        refine Qi ?_
        have:=List.any_eq_false.1 hm t (by rw[h2];simp)
        simpa using this
      · rfl
   · cases b<;>first | rfl | (exact absurd rfl hlen) | (simp only[aS]at hc;cases hb:EW args.toList all<;>rw[hb]at hc<;>simp at hc;done) | (simp[aS]at hc)
  | value f =>
   cases f with
   | func f =>
    simp only[aS]at hc
    cases hb:(iZ T f).zD||(((iZ T f).shares&&!(iZ T f).quiet)||(iZ T f).zT.writes)<;>rw[hb]at hc<;>simp at hc
   | tmp t =>
    simp only[aS]at hc
    cases ho:Zg T dst<;>rw[ho]at hc<;>simp at hc
   | _=>simp[aS]at hc
  | invoke r n=>simp[aS]at hc
 | slice t x lo hi mx =>
  simp only[aS]at hc
  simp only[cO]
  split
  · rename_i n e hu
    rw[hu]at hc;simp at hc
  · rfl
 | store t p v =>
  simp only[aS]at hc
  split at hc<;>first | (rename_i t' _;cases hl:yj T all t' v<;>rw[hl]at hc<;>simp at hc;done) | simp_all
  all_goals (try (rename_i t' _ _;cases hl:yj T all t' v<;>simp_all))
 | assign x =>
  simp only[aS]at hc
  rfl
 | move x=>rfl
 | _=>first | rfl | (simp[aS]at hc)
theorem Oi {all:List Oper} {o:Oper} {env:List AV} {h h':Nat→Option aI} (hc:aS T all o=.pure):xq T C all o env h=xq T C all o env h':=by
 unfold xq vX;rw[RV hc (h':=h')]
theorem Qj {all:List Oper} {o:Oper} (hc:aS T all o=.const):∃ v,(v=.undef∨∃ x,v=.p x)∧∀ env h,cO T C env h o=.ret { val:=v }:=by
 have val:∀ x,rX x=true→∃ v,(v=.undef∨∃ y,v=.p y)∧∀ env,aU env x=v:=by
  intro x hx
  cases x with
  | tmp t=>simp[rX]at hx
  | global g=>simp[rX]at hx
  | func f=>exact⟨.p (.fn f []),.inr ⟨_,rfl⟩,fun _=>rfl⟩
  | const v =>
   cases hv:ofValue v with
   | none=>exact⟨.undef,.inl rfl,fun env=>by simp[aU,hv]⟩
   | some y=>exact⟨.p y,.inr ⟨_,rfl⟩,fun env=>by simp[aU,hv]⟩
 obtain⟨dst,op,type,pos,after,guard⟩:=o
 cases op with
 | move x =>
  simp only[aS]at hc
  cases hx:rX x with
  | false =>
   rw[hx]at hc
   simp only[cond_false,VG]at hc
   split at hc
   · rename_i u d
     cases hm:dZ (1000*d+u) T.calcs<;>rw[hm]at hc<;>cases hc
   · cases hc
  | true =>
   obtain⟨v,h1,h2⟩:=val x hx
   exact⟨v,h1,fun env h=>by simp[cO,h2]⟩
 | assign x =>
  simp only[aS]at hc
  split at hc
  · cases hc
  · rename_i y hy hne
    cases hne
    cases hx:rX x with
    | false=>rw[hx]at hc;simp at hc
    | true =>
     obtain⟨v,h1,h2⟩:=val x hx
     refine⟨v,h1,fun env h=>?_⟩
     simp only[cO]
     split
     · exact(hy rfl).elim
     · rw[h2]
  all_goals (first | (rename_i h;cases h;done) | cases hc)
 | call c =>
  obtain⟨callee,args,ts⟩:=c
  cases callee with
  | builtin b =>
   by_cases hlen:b=.len
   · subst hlen
     simp only[aS]at hc
     cases hm:ts.toList.any (Gw T)<;>rw[hm]at hc<;>cases hc
   · cases b<;>first | (exact absurd rfl hlen) | (simp only[aS]at hc;cases hb:EW args.toList all<;>rw[hb]at hc<;>simp at hc;done) | (simp[aS]at hc)
  | value f =>
   cases f with
   | func f =>
    simp only[aS]at hc
    cases hb:(iZ T f).zD||(((iZ T f).shares&&!(iZ T f).quiet)||(iZ T f).zT.writes)<;>rw[hb]at hc<;>simp at hc
   | tmp t =>
    simp only[aS]at hc
    cases ho:Zg T dst<;>rw[ho]at hc<;>simp at hc
   | _=>simp[aS]at hc
  | invoke r n=>simp[aS]at hc
 | slice t x lo hi mx =>
  simp only[aS]at hc
  split at hc<;>cases hc
 | store t p v =>
  simp only[aS]at hc
  split at hc<;>simp_all
  all_goals (rename_i t' _ _;cases hl:yj T all t' v<;>simp_all)
 | _=>simp[aS]at hc
theorem VX {v:AV} (h:v.ML=true):v=.mG []∨∃ x,v=.p x:=by
 cases v with
 | p x=>exact .inr ⟨x,rfl⟩
 | mG l=>cases l with
  | nil=>exact .inl rfl
  | cons a l=>simp[AV.ML]at h
 | _=>simp[AV.ML]at h
theorem UL {op:BinOp} {t:TypeId} {x y:AV} {e:Eff} (h:(yh T op t x y).run some=some e):∃ p q,x=.p p∧y=.p q:=by
 cases x with
 | p p=>cases y with
  | p q=>exact⟨p,q,rfl,rfl⟩
  | _=>cases p<;>simp[yh,DT.run]at h
 | _=>simp[yh,DT.run]at h
theorem GR {op:BinOp} {t:TypeId} {kc:Bool} {x:AV} {q:PV} {e:Eff} (h:(yU T op t kc x (.p q)).run some=some e):∃ p,x=.p p:=by
 cases x with
 | p p=>exact⟨p,rfl⟩
 | _=>cases q<;>simp[yU,DT.run]at h
theorem XI {op:BinOp} {t:TypeId} {kc:Bool} {x y:AV} {e:Eff} (h:(EO T op t kc x y).run some=some e):∃ p q,x=.p p∧y=.p q:=by
 unfold EO at h
 split at h
 · obtain⟨p,rfl⟩:=GR h;exact⟨p,_,rfl,rfl⟩
 · obtain⟨p,rfl⟩:=GR h;exact⟨p,_,rfl,rfl⟩
 · obtain⟨p,rfl⟩:=GR h;exact⟨p,_,rfl,rfl⟩
 · exact UL h
theorem ZJ {op:UnOp} {x:AV} {e:Eff} (h:(JW op x).run some=some e):∃ p,x=.p p:=by
 cases x with
 | p p=>exact⟨p,rfl⟩
 | _=>cases op<;>simp[JW,DT.run]at h
theorem RX {all : List Oper} {o : Oper} (hc : aS T all o = .plain) {env : List AV} {h : Nat → Option aI} {e : Eff} (he : (cO T C env h o).run some = some e) (hp : e.val.ML = true) (env' : List AV) (h' : Nat → Option aI)
    (hk:∀ t∈tmpsOf o.op.operands.toList,∀ u:AV,u.ML=true→env.getD t .undef=u→env'.getD t .undef=u):(cO T C env' h' o).run some=some e:=by
  have ev:∀ x∈o.op.operands,∀ u:AV,u.ML=true→aU env x=u→aU env' x=u:=by
   intro x hx u hu hxu
   cases x with
   | tmp t=>exact hk t (Ec (by simpa using hx)) u hu hxu
   | _=>exact hxu
  obtain⟨dst,op,type,pos,after,guard⟩:=o
  cases op with
  | move x =>
   simp only[cO,DT.run,Option.some.injEq]at he ⊢
   subst he
   simp only at hp
   rw[ev x (by simp[Op.operands]) _ hp rfl]
  | binOp op t x y z =>
   simp only[cO]at he ⊢
   obtain⟨p,q,h1,h2⟩:=XI he
   rw[ev x (by simp[Op.operands]) (.p p) rfl h1,ev y (by simp[Op.operands]) (.p q) rfl h2]
   rw[h1,h2]at he
   exact he
  | unOp op t x =>
   simp only[cO]at he ⊢
   obtain⟨p,h1⟩:=ZJ he
   rw[ev x (by simp[Op.operands]) (.p p) rfl h1]
   rw[h1]at he
   exact he
  | call c =>
   obtain⟨callee,args,ts⟩:=c
   cases callee with
   | builtin b =>
    by_cases hlen:b=.len
    · subst hlen
      simp only[aS]at hc
      cases hm:ts.toList.any (Gw T)<;>rw[hm]at hc<;>cases hc
    · cases b<;>first | (exact absurd rfl hlen) | (simp only[aS]at hc;cases hb:EW args.toList all<;>rw[hb]at hc<;>simp at hc;done) | (simp[aS]at hc)
   | value f =>
    cases f with
    | func f =>
     simp only[aS]at hc
     cases hb:(iZ T f).zD||(((iZ T f).shares&&!(iZ T f).quiet)||(iZ T f).zT.writes)<;>rw[hb]at hc<;>simp at hc
    | tmp t =>
     simp only[aS]at hc
     cases ho:Zg T dst<;>rw[ho]at hc<;>simp at hc
    | _=>simp[aS]at hc
   | invoke r n=>simp[aS]at hc
  | slice t x lo hi mx =>
   simp only[aS]at hc
   split at hc<;>cases hc
  | store t p v =>
   simp only[aS]at hc
   split at hc<;>simp_all
   all_goals (rename_i t' _ _;cases hl:yj T all t' v<;>simp_all)
  | assign x =>
   simp only[aS]at hc
   split at hc
   · cases hc
   · rename_i y hy hne
     cases hne
     cases hx:rX x<;>rw[hx]at hc<;>simp at hc
   all_goals (first | (rename_i h;cases h;done) | cases hc)
  | _=>simp[aS]at hc
end
end Go.Skm
namespace Go.Skm
def Same (s t:St):Prop:=s.env=t.env∧look s.heap=look t.heap
theorem Same.refl (s:St):Same s s:=⟨rfl,rfl⟩
theorem Same.trans {s t u:St} (h1:Same s t) (h2:Same t u):Same s u:=⟨h1.1.trans h2.1,h1.2.trans h2.2⟩
theorem Same.symm {s t:St} (h:Same s t):Same t s:=⟨h.1.symm,h.2.symm⟩
mutual
theorem LD:∀ (v:AV),AV.refers [] v=false
 | .undef | .p _ | .mO _ _ _ _ | .fresh _ _ _ | .sJ=>rfl
 | .slice _ _ _ _ | .bslice _ _ _ | .ptr _ _ _ | .mref _=>rfl
 | .fn _ cs | .agg cs | .mG cs=>by simp only[AV.refers];exact Dl cs
theorem Dl:∀ (l:List AV),AV.fK [] l=false
 | []=>rfl
 | v::r=>by simp[AV.fK,LD v,Dl r]
end
theorem o8:∀ (l:List AV),fP [] l=l
 | []=>rfl
 | v::r=>by simp[fP,AV.kill,LD,o8 r]
def Il (ss:List Nat) (hp:Heap):Heap:=match ss with | []=>hp | ss=>fD ss hp
def wG (ss:List Nat) (hp:Heap):Heap:=match ss with | []=>hp | ss=>l9 (fD ss hp) ss
theorem aa9 (ss:List Nat) (st:St):st.kill ss=⟨fP ss st.env,Il ss st.heap⟩:=by
 cases ss with
 | nil=>simp[St.kill,Il,o8]
 | cons s r=>rfl
theorem XJ (ss:List Nat) (st:St):st.strike ss=⟨fP ss st.env,wG ss st.heap⟩:=by
 cases ss with
 | nil=>simp[St.strike,wG,o8]
 | cons s r=>rfl
theorem jc (st : St) (d : Option Nat) (e : Eff) : st.apply d e =
    ⟨setEnv (fP e.cut (fP (present st.heap e.new++e.wP) st.env)) d e.val,cZ (Il e.cut (wG (present st.heap e.new++e.wP) st.heap)) e.lJ⟩:=by
  simp only[St.apply,aa9,XJ]
theorem xu {h1 h2:Heap} (h:look h1=look h2):∀ (l:List Nat),present h1 l=present h2 l
 | []=>rfl
 | s::r=>by simp only[present,h,xu h r]
theorem RY {h1 h2:Heap} (h:look h1=look h2) (ss:List Nat):look (Il ss h1)=look (Il ss h2):=by
 cases ss with
 | nil=>exact h
 | cons s r=>funext x;simp only[Il,fA,h]
theorem MW {h1 h2:Heap} (h:look h1=look h2) (ss:List Nat):look (wG ss h1)=look (wG ss h2):=by
 cases ss with
 | nil=>exact h
 | cons s r=>funext x;simp only[wG,qm,fA,h]
theorem XK {h1 h2:Heap} (h:look h1=look h2) (s:Nat) (b:aI):look (put h1 s b)=look (put h2 s b):=by
 funext x;simp only[aV,h]
theorem Fq:∀ {c:List (Nat × aI)} {h1 h2:Heap},look h1=look h2→look (cZ h1 c)=look (cZ h2 c)
 | [],_,_,h=>h
 | (s,b)::r,_,_,h=>Fq (c:=r) (XK h s b)
theorem RZ {s t:St} (h:Same s t) (d:Option Nat) (e:Eff):Same (s.apply d e) (t.apply d e):=by
 rw[jc,jc,xu h.2,h.1]
 exact⟨rfl,Fq (RY (MW h.2 _) _)⟩
section
variable {T:Tab} {C:aF}
theorem o9 {h1 h2:Heap} (h:look h1=look h2):∀ c:List (Nat × aI),mQ h1 c=mQ h2 c
 | []=>rfl
 | (s,.log _ _)::r=>rfl
 | (s,.box _)::r=>by simp only[mQ,h,o9 h r]
 | (s,.arr _ _ _)::r=>by simp only[mQ,h,o9 h r]
 | (s,.tb _ _ _)::r=>by simp only[mQ,h,o9 h r]
 | (s,.mp _ _)::r=>by simp only[mQ,h,o9 h r]
 | (s,.br _ _)::r=>by simp only[mQ,h,o9 h r]
theorem Si {draw:Bool} {cls:Cls} {o:List Nat} {h1 h2:Heap} (h:look h1=look h2) (e:Eff):dO draw cls o h1 e=dO draw cls o h2 e:=by
 unfold dO;rw[xu h,o9 h]
theorem ZK {draw : Bool} {hd : List Nat} {all : List Oper} {o : Oper} {st : St} :
    step1 T C draw hd all o st=(xq T C all o st.env (jk hd (look st.heap))).bind fun e=>if(fU (e.new++e.wP)&&dO draw (aS T all o) (fG all o) st.heap e)=true then some (st.apply o.dst e) else none:=by
  unfold step1 xq
  cases vX T C all o st.env (jk hd (look st.heap)) with
  | none=>rfl
  | some x =>
   cases x with
   | none =>
    simp only[Option.map_some,Option.getD_none,Option.bind_some]
    have:dO draw (aS T all o) (fG all o) st.heap { val:=.mG [] }=true:=by
     cases draw with
     | false=>rfl
     | true=>cases aS T all o<;>rfl
    rw[if_pos (by simp[fU,this]),jc]
    simp[present,o8,Il,wG,cZ]
   | some e=>rfl
theorem gG {draw : Bool} {hd : List Nat} {all : List Oper} {o : Oper} {st st' : St} : step1 T C draw hd all o st = some st' ↔
    ∃ e,xq T C all o st.env (jk hd (look st.heap))=some e∧fU (e.new++e.wP)=true∧dO draw (aS T all o) (fG all o) st.heap e=true∧st'=st.apply o.dst e:=by
  rw[ZK]
  cases h:xq T C all o st.env (jk hd (look st.heap)) with
  | none=>simp
  | some e =>
   simp only[Option.bind_some,Option.some.injEq,exists_eq_left']
   constructor
   · intro h
     split at h
     · rename_i hc
       simp only[Bool.and_eq_true]at hc
       exact⟨hc.1,hc.2,by simpa using h.symm⟩
     · cases h
   · rintro ⟨h1,h2,rfl⟩
     rw[if_pos (by simp[h1,h2])]
theorem Sj {draw:Bool} {hd:List Nat} {all:List Oper} {o:Oper} {s t s':St} (h:Same s t) (h1:step1 T C draw hd all o s=some s'):∃ t',step1 T C draw hd all o t=some t'∧Same s' t':=by
 obtain⟨e,g1,g2,g3,rfl⟩:=gG.1 h1
 refine⟨t.apply o.dst e,gG.2 ⟨e,?_,g2,?_,rfl⟩,RZ h _ _⟩
 · rw[← h.1,← h.2];exact g1
 · rw[← Si h.2];exact g3
def lastOf:List (Nat × aI)→Nat→Option aI
 | [],_=>none
 | (s,b)::r,x=>match lastOf r x with
  | some c=>some c
  | none=>if x=s then some b else none
theorem kY:∀ (c:List (Nat × aI)) (hp:Heap) (x:Nat),look (cZ hp c) x=match lastOf c x with | some b=>some b | none=>look hp x
 | [],hp,x=>rfl
 | (s,b)::r,hp,x=>by
  show look (cZ (put hp s b) r) x=_
  rw[kY r]
  simp only[lastOf]
  cases lastOf r x with
  | some c=>rfl
  | none =>
   simp only[aV]
   by_cases h:x=s<;>simp[h]
theorem su {x:Nat}:∀ {c:List (Nat × aI)},x ∉ keysOf c→lastOf c x=none
 | [],_=>rfl
 | (s,b)::r,h=>by
  simp only[keysOf,List.mem_cons,not_or]at h
  simp[lastOf,su h.2,h.1]
theorem Sl {c1 c2:List (Nat × aI)} (h:∀ x,x∈keysOf c1→x ∉ keysOf c2) (hp:Heap):look (cZ (cZ hp c1) c2)=look (cZ (cZ hp c2) c1):=by
 funext x
 simp only[kY]
 by_cases h1:x∈keysOf c1
 · rw[su (h x h1)]
 · rw[su h1]
theorem Ed {ss:List Nat}:∀ {c:List (Nat × aI)},J8 ss c=true→∀ x∈keysOf c,x∈ss
 | [],_,x,h=>by simp[keysOf]at h
 | (k,b)::r,h,x,hx=>by
  simp only[J8,Bool.and_eq_true]at h
  simp only[keysOf,List.mem_cons]at hx
  rcases hx with rfl | hx
  · exact jP.1 h.1
  · exact Ed h.2 x hx
theorem Sm {ss:List Nat}:∀ {l:List Nat},aaT ss l=true→∀ x∈l,x∈ss
 | [],_,x,h=>by simp at h
 | y::r,h,x,hx=>by
  simp only[aaT,Bool.and_eq_true]at h
  rcases List.mem_cons.1 hx with rfl | hx
  · exact jP.1 h.1
  · exact Sm h.2 x hx
theorem Sr {U:List Nat} {c:List (Nat × aI)} (h:∀ x∈keysOf c,x∈U) (hp:Heap):jk U (look (cZ hp c))=jk U (look hp):=by
 cases U with
 | nil =>
  cases c with
  | nil=>rfl
  | cons p r=>obtain⟨k,b⟩:=p;exact absurd (h k (by simp[keysOf])) (by simp)
 | cons s r =>
  funext x
  simp only[jk]
  cases hm:dZ x (s::r) with
  | true=>rfl
  | false =>
   simp only[cond_false]
   rw[kY,su fun hx=>dK.1 hm (h x hx)]
theorem xw {hp:Heap}:∀ {l:List Nat},present hp l=[]↔∀ s∈l,look hp s=none
 | []=>by simp[present]
 | s::r=>by
  simp only[present,List.mem_cons,forall_eq_or_imp]
  cases h:look hp s with
  | some b=>simp
  | none=>simp[xw]
theorem sD {env:List AV} {d1 d2:Option Nat} {v1 v2:AV} (h:∀ d,d1=some d→d2≠some d):setEnv (setEnv env d1 v1) d2 v2=setEnv (setEnv env d2 v2) d1 v1:=by
 cases d1 with
 | none=>rfl
 | some a =>
  cases d2 with
  | none=>rfl
  | some b=>exact List.set_comm _ _ fun e=>h a rfl (by rw[e])
theorem jm {env:List AV} {d:Option Nat} {v:AV} {t:Nat} (h:d≠some t):(setEnv env d v).getD t .undef=env.getD t .undef:=by
 cases d with
 | none=>rfl
 | some a =>
  have:a≠t:=fun e=>h (by rw[e])
  simp only[setEnv,List.getD_eq_getElem?_getD,List.getElem?_set_ne this]
theorem lD {ss:List Nat} {env:List AV} {d:Option Nat} {v:AV} (h:v=.undef∨v=.mG []∨∃ x,v=.p x):fP ss (setEnv env d v)=setEnv (fP ss env) d v:=by
 have hk:AV.kill ss v=v:=by
  rcases h with rfl | rfl | ⟨x,rfl⟩<;>rfl
 cases d with
 | none=>rfl
 | some a =>
  apply List.ext_getElem?
  intro i
  simp only[setEnv,gQ]
  by_cases hi:a=i
  · subst hi
    by_cases hl:a<env.length
    · simp[hl,kT,hk]
    · rw[List.getElem?_eq_none (by simp;omega),List.getElem?_eq_none (by simp[kT];omega)];rfl
  · rw[List.getElem?_set_ne hi,List.getElem?_set_ne hi,gQ]
theorem Oj {ss:List Nat} {env:List AV} {t:Nat} {v:PV}:(fP ss env).getD t .undef=.p v↔env.getD t .undef=.p v:=by
 simp only[List.getD_eq_getElem?_getD,gQ]
 cases env[t]? with
 | none=>simp
 | some u =>
  simp only[Option.map_some,Option.getD_some]
  unfold AV.kill
  cases h:AV.refers ss u with
  | false=>simp
  | true =>
   simp only[cond_true]
   constructor
   · intro h';cases h'
   · rintro rfl;simp[AV.refers]at h
theorem Fv {ss:List Nat} {env:List AV} {t:Nat}:(fP ss env).getD t .undef=.mG []↔env.getD t .undef=.mG []:=by
 simp only[List.getD_eq_getElem?_getD,gQ]
 cases env[t]? with
 | none=>simp
 | some u =>
  simp only[Option.map_some,Option.getD_some]
  unfold AV.kill
  cases h:AV.refers ss u with
  | false=>simp
  | true =>
   simp only[cond_true]
   constructor
   · intro h';cases h'
   · rintro rfl;simp[AV.refers,AV.fK]at h
def IsG (v:AV):Prop:=(∃ b,v=.p (.bool b))∨v=.mG []
theorem CG {ss:List Nat} {env:List AV} {t:Nat} {v:AV} (hv:IsG v):(fP ss env).getD t .undef=v↔env.getD t .undef=v:=by
 rcases hv with ⟨b,rfl⟩ | rfl
 · exact Oj
 · exact Fv
theorem CJ {ss:List Nat} {env:List AV} {t:Nat} {v:AV} (hv:v.ML=true):(fP ss env).getD t .undef=v↔env.getD t .undef=v:=by
 rcases VX hv with rfl | ⟨x,rfl⟩
 · exact Fv
 · exact Oj
end
end Go.Skm
namespace Go.Skm
section
variable {T:Tab} {C:aF}
theorem LG {ss:List Nat}:∀ {l:List Nat},PG ss l=true→∀ x∈l,x ∉ ss
 | [],_,x,h=>by simp at h
 | y::r,h,x,hx=>by
  simp only[PG,Bool.and_eq_true,Bool.not_eq_true']at h
  rcases List.mem_cons.1 hx with rfl | hx
  · exact dK.1 h.1
  · exact LG h.2 x hx
theorem Sv {all : List Oper} {x y : Oper} (h : Uh all x y = true) :
    (∀ d,x.dst=some d→d ∉ qg all y)∧(∀ d,x.dst=some d→y.dst≠some d)∧(∀ d,y.dst=some d→d ∉ qg all x):=by
  unfold Uh at h
  simp only[Bool.and_eq_true]at h
  refine⟨fun d hd=>?_,fun d hd=>?_,fun d hd=>?_⟩
  · have:=h.1;rw[hd]at this;simp only[Bool.and_eq_true,Bool.not_eq_true']at this;exact dK.1 this.1
  · have:=h.1;rw[hd]at this;simp only[Bool.and_eq_true,Bool.not_eq_true']at this;simpa using this.2
  · have:=h.2;rw[hd]at this;simp only[Bool.not_eq_true']at this;exact dK.1 this
theorem fQ {st:St} {d:Option Nat} {e:Eff} (h1:e.cut=[]) (h2:e.wP=[]) (h3:present st.heap e.new=[]):st.apply d e=⟨setEnv st.env d e.val,cZ st.heap e.lJ⟩:=by
 rw[jc,h1,h2,h3]
 simp[o8,Il,wG]
theorem LH {all : List Oper} {o : Oper} (hc : aS T all o = .const) {env : List AV} {h : Nat → Option aI} {e : Eff} (he : xq T C all o env h = some e) :
    (∃ v,e={ val:=v }∧(v=.undef∨v=.mG []∨∃ x,v=.p x)) ∧
    ∀ env' h',(∀ g want t v,o.guard=some (g,want)→oQ all g=some t→IsG v→env.getD t .undef=v→env'.getD t .undef=v)→xq T C all o env' h'=some e:=by
  obtain⟨v,hv,hs⟩:=Qj (C:=C) hc
  have hv':v=.undef∨v=.mG []∨∃ x,v=.p x:=hv.imp id .inr
  unfold xq vX at he ⊢
  simp only[hs]at he ⊢
  cases hg:o.guard with
  | none =>
   rw[hg]at he
   simp only[DT.run,Option.map_some,Option.getD_some,Option.some.injEq]at he
   subst he
   exact⟨⟨v,rfl,hv'⟩,fun env' h' _=>rfl⟩
  | some gw =>
   obtain⟨g,want⟩:=gw
   rw[hg]at he
   simp only at he ⊢
   cases hd:oQ all g with
   | none=>rw[hd]at he;simp at he
   | some t =>
    rw[hd]at he
    simp only at he ⊢
    by_cases hx:∃ b,env.getD t .undef=.p (.bool b)
    · obtain⟨b,hb⟩:=hx
      rw[hb]at he
      simp only at he
      refine⟨?_,fun env' h' hk=>?_⟩
      · split at he
        · simp[DT.run]at he;subst he;exact⟨v,rfl,hv'⟩
        · simp at he;subst he;exact⟨.mG [],rfl,.inr (.inl rfl)⟩
      · rw[hk g want t _ rfl hd (.inl ⟨b,rfl⟩) hb]
        exact he
    · by_cases hh:env.getD t .undef=.mG []
      · rw[hh]at he
        simp only[Option.map_some,Option.getD_none,Option.some.injEq]at he
        subst he
        refine⟨⟨.mG [],rfl,.inr (.inl rfl)⟩,fun env' h' hk=>?_⟩
        rw[hk g want t _ rfl hd (.inr rfl) hh]
        rfl
      · split at he
        · rename_i b hb;exact absurd ⟨b,hb⟩ hx
        all_goals (first | exact absurd ⟨_,‹_›⟩ hx | exact absurd ‹_› hh | simp at he)
theorem guard_looks {all:List Oper} {o:Oper} {g t:Nat} {want:Bool} (hg:o.guard=some (g,want)) (hd:oQ all g=some t):t∈qg all o:=by
 unfold qg
 unfold oQ at hd
 rw[hg]
 simp[hd]
theorem Ol {all : List Oper} {o : Oper} (hc : aS T all o = .plain) {env : List AV} {h h0 : Heap} {hh : Nat → Option aI} {ss : List Nat} {e : Eff} (he : xq T C all o env hh = some e) (hq : dO true .plain ss h0 e = true) :
    (∃ v,e={ val:=v }∧(v=.undef∨v=.mG []∨∃ x,v=.p x)) ∧
    ∀ env' h',(∀ t∈qg all o,∀ u:AV,u.ML=true→env.getD t .undef=u→env'.getD t .undef=u)→xq T C all o env' h'=some e:=by
  have _:=h
  simp only[dO,Bool.and_eq_true,List.isEmpty_iff]at hq
  obtain⟨q1,q2,q3,q4,q5⟩:=hq
  obtain⟨ev,ec,en,eu,ef⟩:=e
  simp only at q1 q2 q3 q4 q5
  subst q1 q2 q3 q4
  refine⟨⟨ev,rfl,.inr (VX q5)⟩,fun env' h' hk=>?_⟩
  have hs:∀ {e':Eff},(cO T C env hh o).run some=some e'→e'.val.ML=true→(cO T C env' h' o).run some=some e':=fun h1 h2 =>
   RX hc h1 h2 env' h' fun t ht=>hk t (List.mem_append_left _ ht)
  unfold xq vX at he ⊢
  cases hg:o.guard with
  | none =>
   rw[hg]at he
   simp only at he ⊢
   cases hr:(cO T C env hh o).run some with
   | none=>rw[hr]at he;simp at he
   | some e' =>
    rw[hr]at he
    simp only[Option.map_some,Option.getD_some,Option.some.injEq]at he
    subst he
    rw[hs hr q5];rfl
  | some gw =>
   obtain⟨g,want⟩:=gw
   rw[hg]at he
   simp only at he ⊢
   cases hd:oQ all g with
   | none=>rw[hd]at he;simp at he
   | some t =>
    rw[hd]at he
    simp only at he ⊢
    have hl:=guard_looks hg hd
    by_cases hx:∃ b,env.getD t .undef=.p (.bool b)
    · obtain⟨b,hb⟩:=hx
      rw[hk t hl _ rfl hb]
      rw[hb]at he
      simp only at he ⊢
      split at he
      · next hbw =>
        rw[if_pos hbw]
        cases hr:(cO T C env hh o).run some with
        | none=>rw[hr]at he;simp at he
        | some e' =>
         rw[hr]at he
         simp only[Option.map_some,Option.getD_some,Option.some.injEq]at he
         subst he
         rw[hs hr q5];rfl
      · next hbw=>rw[if_neg hbw];exact he
    · by_cases hh':env.getD t .undef=.mG []
      · rw[hk t hl _ rfl hh']
        rw[hh']at he
        exact he
      · split at he
        · rename_i b hb;exact absurd ⟨b,hb⟩ hx
        all_goals (first | exact absurd ⟨_,‹_›⟩ hx | exact absurd ‹_› hh' | simp at he)
def Facts (o:List Nat) (e:Eff):Cls→Prop
 | .read=>(∀ x∈keysOf e.lJ,x∈o)∧(∀ x∈e.new,x∈o)
 | .own t=>(∀ x∈keysOf e.lJ,x∈[t])∧e.new=[]
 | .store=>e.new=[]
 | _=>e.lJ=[]∧e.new=[]
def LJ:Cls→Bool
 | .heavy=>false
 | _=>true
theorem Io {cls : Cls} {o : List Nat} {h : Heap} {e : Eff} (hq : dO true cls o h e = true) (hc : LJ cls = true) :
    e.cut=[]∧e.wP=[]∧present h e.new=[] ∧
    Facts o e cls:=by
  cases cls with
  | heavy=>cases hc
  | read =>
   simp only[dO,Bool.and_eq_true,List.isEmpty_iff]at hq
   exact⟨hq.1,hq.2.1,hq.2.2.2.2,fun x hx=>Ed hq.2.2.1 x hx,fun x hx=>Sm hq.2.2.2.1 x hx⟩
  | own t =>
   simp only[dO,Bool.and_eq_true,List.isEmpty_iff]at hq
   exact⟨hq.1,hq.2.1,by rw[hq.2.2.2];rfl,fun x hx=>Ed hq.2.2.1 x hx,hq.2.2.2⟩
  | store =>
   simp only[dO,Bool.and_eq_true,List.isEmpty_iff]at hq
   exact⟨hq.1,hq.2.1,by rw[hq.2.2];rfl,hq.2.2⟩
  | pure =>
   simp only[dO,Bool.and_eq_true,List.isEmpty_iff]at hq
   exact⟨hq.1,hq.2.1,by rw[hq.2.2.2];rfl,hq.2.2.1,hq.2.2.2⟩
  | const =>
   simp only[dO,Bool.and_eq_true,List.isEmpty_iff]at hq
   exact⟨hq.1,hq.2.1,by rw[hq.2.2.2];rfl,hq.2.2.1,hq.2.2.2⟩
  | plain =>
   simp only[dO,Bool.and_eq_true,List.isEmpty_iff]at hq
   exact⟨hq.1,hq.2.1,by rw[hq.2.2.2.1];rfl,hq.2.2.1,hq.2.2.2.1⟩
theorem quiet_move {cls:Cls} {o:List Nat} {h h':Heap} {e:Eff} (hq:dO true cls o h e=true) (hp:present h' e.new=[]):dO true cls o h' e=true:=by
 cases cls with
 | read =>
  simp only[dO,Bool.and_eq_true,List.isEmpty_iff]at hq ⊢
  exact⟨hq.1,hq.2.1,hq.2.2.1,hq.2.2.2.1,hp⟩
 | _=>exact hq
theorem swap {all : List Oper} {hx ho : List Nat} {x o : Oper} {st st1 st2 : St} (h1 : step1 T C true hx all x st = some st1) (h2 : step1 T C true ho all o st1 = some st2) (hcl : uz T all hx ho x o = true)
    (s1:∀ s∈fG all x,s∈ho) (s2:∀ s∈fG all o,s∈hx):∃ st1' st2',step1 T C true ho all o st=some st1'∧step1 T C true hx all x st1'=some st2'∧Same st2' st2:=by
  obtain⟨ex,x1,x2,x3,rfl⟩:=gG.1 h1
  obtain⟨eo,o1,o2,o3,rfl⟩:=gG.1 h2
  unfold uz at hcl
  simp only[Bool.and_eq_true]at hcl
  obtain⟨hap,hno,hcls⟩:=hcl
  obtain⟨a1,a2,a3⟩:=Sv hap
  have hno:=LG hno
  by_cases hcx:aS T all x=.const
  · -- the first one is constant
    obtain⟨⟨v,rfl,hv⟩,hk⟩:=LH hcx x1
    have e1:st.apply x.dst { val:=v }=⟨setEnv st.env x.dst v,st.heap⟩:=fQ rfl rfl rfl
    rw[e1]at o1 o3 ⊢
    have o1':xq T C all o st.env (jk ho (look st.heap))=some eo:=by
     rw[← o1];exact qQ fun t ht=>(jm fun e=>a1 t e ht).symm
    refine⟨st.apply o.dst eo,_,gG.2 ⟨eo,o1',o2,o3,rfl⟩,gG.2 ⟨{ val:=v },hk _ _ fun g want t u hg hd hu hb=>?_,x2,by rw[hcx];rfl,rfl⟩,?_⟩
    · rw[jc]
      simp only
      rw[jm fun e=>a3 t e (guard_looks hg hd),CG hu,CG hu]
      exact hb
    · rw[fQ rfl rfl rfl,jc,jc]
      refine⟨?_,rfl⟩
      simp only
      rw[lD hv,lD hv]
      exact sD fun d hd e=>a2 d e hd
  · by_cases hco:aS T all o=.const
    · -- the second one is constant
      obtain⟨⟨v,rfl,hv⟩,hk⟩:=LH hco o1
      have o1':xq T C all o st.env (jk ho (look st.heap))=some { val:=v }:=by
       refine hk _ _ fun g want t u hg hd hu hb=>?_
       rw[jc]at hb
       simp only at hb
       rwa[jm fun e=>a1 t e (guard_looks hg hd),CG hu,CG hu]at hb
      have e1:st.apply o.dst { val:=v }=⟨setEnv st.env o.dst v,st.heap⟩:=fQ rfl rfl rfl
      refine⟨st.apply o.dst { val:=v },st.apply o.dst { val:=v } |>.apply x.dst ex,gG.2 ⟨{ val:=v },o1',o2,by rw[hco];rfl,rfl⟩,gG.2 ⟨ex,?_,x2,by rw[e1];exact x3,rfl⟩,?_⟩
      · rw[e1,← x1];exact qQ fun t ht=>jm fun e=>a3 t e ht
      · rw[e1,fQ (st:=st.apply x.dst ex) rfl rfl rfl,jc,jc]
        refine⟨?_,rfl⟩
        simp only
        rw[lD hv,lD hv]
        exact(sD fun d hd e=>a2 d hd e).symm
    · by_cases ZL:aS T all x=.plain
      · -- the first one is a calculation
        rw[ZL]at x3
        obtain⟨⟨v,rfl,hv⟩,hk⟩:=Ol (h:=[]) ZL x1 x3
        have e1:st.apply x.dst { val:=v }=⟨setEnv st.env x.dst v,st.heap⟩:=fQ rfl rfl rfl
        rw[e1]at o1 o3 ⊢
        have o1':xq T C all o st.env (jk ho (look st.heap))=some eo:=by
         rw[← o1];exact qQ fun t ht=>(jm fun e=>a1 t e ht).symm
        refine⟨st.apply o.dst eo,_,gG.2 ⟨eo,o1',o2,o3,rfl⟩,gG.2 ⟨{ val:=v },hk _ _ fun t ht u hu hb=>?_,x2,by rw[ZL];exact x3,rfl⟩,?_⟩
        · rw[jc]
          simp only
          rw[jm fun e=>a3 t e ht,CJ hu,CJ hu]
          exact hb
        · rw[fQ rfl rfl rfl,jc,jc]
          refine⟨?_,rfl⟩
          simp only
          rw[lD hv,lD hv]
          exact sD fun d hd e=>a2 d e hd
      · by_cases UM:aS T all o=.plain
        · -- the second one is a calculation
          rw[UM]at o3
          obtain⟨⟨v,rfl,hv⟩,hk⟩:=Ol (h:=[]) UM o1 o3
          have o1':xq T C all o st.env (jk ho (look st.heap))=some { val:=v }:=by
           refine hk _ _ fun t ht u hu hb=>?_
           rw[jc]at hb
           simp only at hb
           rwa[jm fun e=>a1 t e ht,CJ hu,CJ hu]at hb
          have e1:st.apply o.dst { val:=v }=⟨setEnv st.env o.dst v,st.heap⟩:=fQ rfl rfl rfl
          refine⟨st.apply o.dst { val:=v },st.apply o.dst { val:=v } |>.apply x.dst ex,gG.2 ⟨{ val:=v },o1',o2,by rw[UM];exact o3,rfl⟩,gG.2 ⟨ex,?_,x2,by rw[e1];exact x3,rfl⟩,?_⟩
          · rw[e1,← x1];exact qQ fun t ht=>jm fun e=>a3 t e ht
          · rw[e1,fQ (st:=st.apply x.dst ex) rfl rfl rfl,jc,jc]
            refine⟨?_,rfl⟩
            simp only
            rw[lD hv,lD hv]
            exact(sD fun d hd e=>a2 d hd e).symm
        · -- neither: both only write slots and lay blocks
          have cx:LJ (aS T all x)=true:=by
           cases hx':aS T all x<;>rw[hx']at hcls<;>first | rfl | skip
           cases ho':aS T all o<;>rw[ho']at hcls<;>simp at hcls
           · exact absurd ho' hco
           · exact absurd ho' UM
          have co:LJ (aS T all o)=true:=by
           cases ho':aS T all o<;>rw[ho']at hcls<;>first | rfl | skip
           cases hx':aS T all x<;>rw[hx']at hcls<;>simp at hcls
           · exact absurd hx' hcx
           · exact absurd hx' ZL
          obtain⟨p1,p2,p3,p4⟩:=Io x3 cx
          obtain⟨q1,q2,q3,q4⟩:=Io o3 co
          have e1:=fQ (d:=x.dst) p1 p2 p3
          rw[e1]at o1 o3 q3 ⊢
          rw[fQ q1 q2 q3]
          simp only at o1 o3 q3 ⊢
          have facts:(aS T all o=.pure∨∀ s∈keysOf ex.lJ,s∈ho)∧(aS T all x=.pure∨∀ s∈keysOf eo.lJ,s∈hx)∧(∀ s∈keysOf ex.lJ,s ∉ keysOf eo.lJ)∧(∀ s∈ex.new,s ∉ keysOf eo.lJ):=by
           cases hx':aS T all x with
           | const=>exact absurd hx' hcx
           | plain=>exact absurd hx' ZL
           | heavy=>rw[hx']at cx;cases cx
           | pure =>
            rw[hx']at p4
            simp only[Facts]at p4
            refine⟨.inr ?_,.inl rfl,?_,?_⟩<;>simp[p4.1,p4.2,keysOf]
           | read =>
            rw[hx']at p4 hcls
            simp only[Facts]at p4
            cases ho':aS T all o with
            | const=>exact absurd ho' hco
            | plain=>exact absurd ho' UM
            | heavy=>rw[ho']at co;cases co
            | pure =>
             rw[ho']at q4
             simp only[Facts]at q4
             refine⟨.inl rfl,.inr ?_,?_,?_⟩<;>simp[q4.1,keysOf]
            | read =>
             rw[ho']at q4
             simp only[Facts]at q4
             exact⟨.inr fun s hs=>s1 s (p4.1 s hs),.inr fun s hs=>s2 s (q4.1 s hs),fun s h1 h2=>hno s (q4.1 s h2) (p4.1 s h1),fun s h1 h2=>hno s (q4.1 s h2) (p4.2 s h1)⟩
            | own t =>
             rw[ho']at q4 hcls
             simp only[Facts,Bool.and_eq_true,Bool.not_eq_true']at q4 hcls
             have ht:∀ s∈keysOf eo.lJ,s∈hx∧s ∉ fG all x:=fun s hs=>by
              have:=q4.1 s hs
              simp at this;subst this
              exact⟨jP.1 hcls.1,dK.1 hcls.2⟩
             exact⟨.inr fun s hs=>s1 s (p4.1 s hs),.inr fun s hs=>(ht s hs).1,fun s h1 h2=>(ht s h2).2 (p4.1 s h1),fun s h1 h2=>(ht s h2).2 (p4.2 s h1)⟩
            | store=>rw[ho']at hcls;simp at hcls
           | own t =>
            rw[hx']at p4 hcls
            simp only[Facts]at p4
            cases ho':aS T all o with
            | const=>exact absurd ho' hco
            | plain=>exact absurd ho' UM
            | heavy=>rw[ho']at co;cases co
            | pure =>
             rw[ho']at q4
             simp only[Facts]at q4
             refine⟨.inl rfl,.inr ?_,?_,?_⟩<;>simp[q4.1,keysOf]
            | read =>
             rw[ho']at q4 hcls
             simp only[Facts,Bool.and_eq_true,Bool.not_eq_true']at q4 hcls
             have ht:∀ s∈keysOf ex.lJ,s∈ho∧s ∉ fG all o:=fun s hs=>by
              have:=p4.1 s hs
              simp at this;subst this
              exact⟨jP.1 hcls.1,dK.1 hcls.2⟩
             exact⟨.inr fun s hs=>(ht s hs).1,.inr fun s hs=>s2 s (q4.1 s hs),fun s h1 h2=>(ht s h1).2 (q4.1 s h2),fun s h1=>by rw[p4.2]at h1;simp at h1⟩
            | own t=>rw[ho']at hcls;simp at hcls
            | store=>rw[ho']at hcls;simp at hcls
           | store =>
            rw[hx']at p4 hcls
            simp only[Facts]at p4
            cases ho':aS T all o with
            | const=>exact absurd ho' hco
            | plain=>exact absurd ho' UM
            | heavy=>rw[ho']at co;cases co
            | pure =>
             rw[ho']at q4
             simp only[Facts]at q4
             refine⟨.inl rfl,.inr ?_,?_,?_⟩<;>simp[q4.1,keysOf]
            | read=>rw[ho']at hcls;simp at hcls
            | own t=>rw[ho']at hcls;simp at hcls
            | store=>rw[ho']at hcls;simp at hcls
          obtain⟨f1,f2,f3,f4⟩:=facts
          have n1:present st.heap eo.new=[]:=by
           rw[xw]at q3 ⊢
           intro s hs
           have:=q3 s hs
           rw[kY]at this
           split at this
           · cases this
           · exact this
          have o1':xq T C all o st.env (jk ho (look st.heap))=some eo:=by
           rw[qQ fun t ht=>jm fun e=>a1 t e ht]at o1
           rcases f1 with f1 | f1
           · rw[← o1];exact Oi f1
           · rwa[Sr f1]at o1
          have n2:present (cZ st.heap eo.lJ) ex.new=[]:=by
           rw[xw]at p3 ⊢
           intro s hs
           rw[kY,su (f4 s hs)]
           exact p3 s hs
          refine⟨⟨setEnv st.env o.dst eo.val,cZ st.heap eo.lJ⟩,⟨setEnv (setEnv st.env o.dst eo.val) x.dst ex.val,cZ (cZ st.heap eo.lJ) ex.lJ⟩,gG.2 ⟨eo,o1',o2,quiet_move o3 n1,(fQ q1 q2 n1).symm⟩,gG.2 ⟨ex,?_,x2,quiet_move x3 n2,(fQ (st:=⟨setEnv st.env o.dst eo.val,cZ st.heap eo.lJ⟩) p1 p2 n2).symm⟩,?_⟩
          · simp only
            rw[qQ fun t ht=>jm fun e=>a3 t e ht]
            rcases f2 with f2 | f2
            · rw[← x1];exact Oi f2
            · rw[Sr f2];exact x1
          · exact⟨(sD fun d hd e=>a2 d hd e).symm,(Sl (fun s h1=>f3 s h1) st.heap).symm⟩
end
end Go.Skm
namespace Go.Skm
section
variable {T:Tab} {C:aF} {hd:List (List Nat)} {all:List Oper}
def LK (T:Tab) (C:aF) (hd:List (List Nat)) (all:List Oper):List (Nat × Oper)→St→St→Prop
 | [],st,fin=>Same st fin
 | (j,o)::r,st,fin=>∃ st1,step1 T C true (hd.getD j []) all o st=some st1∧LK T C hd all r st1 fin
def num:Nat→List Oper→List (Nat × Oper)
 | _,[]=>[]
 | k,o::r=>(k,o)::num (k+1) r
theorem Ip:∀ {l:List (Nat × Oper)} {s t fin:St},Same s t→LK T C hd all l s fin→LK T C hd all l t fin
 | [],s,t,fin,h,h1=>h.symm.trans h1
 | (j,o)::r,s,t,fin,h,h1=>by
  obtain⟨s1,h2,h3⟩:=h1
  obtain⟨t1,h4,h5⟩:=Sj h h2
  exact⟨t1,h4,Ip h5 h3⟩
theorem LM {α:Type} {k:St→Option α} {x:α}:∀ {l:List Oper} {j:Nat} {st:St},dW T C true hd all l j st k=some x→∃ fin,LK T C hd all (num j l) st fin∧k fin=some x
 | [],j,st,h=>⟨st,Same.refl st,h⟩
 | o::r,j,st,h=>by
  rw[mY _ _ rfl]at h
  cases h1:step1 T C true (hd.getD j []) all o st with
  | none=>rw[h1]at h;cases h
  | some st1 =>
   rw[h1]at h
   obtain⟨fin,h2,h3⟩:=LM (l:=r) (j:=j+1) (st:=st1) h
   exact⟨fin,⟨st1,h1,h2⟩,h3⟩
theorem front {i : Nat} {o : Oper} {R2 : List (Nat × Oper)} : ∀ {R1 : List (Nat × Oper)} {st fin : St},LK T C hd all (R1 ++ (i,o)::R2) st fin →
    (∀ p∈R1,uz T all (hd.getD p.1 []) (hd.getD i []) p.2 o=true∧(∀ s∈fG all p.2,s∈hd.getD i [])∧(∀ s∈fG all o,s∈hd.getD p.1 [])) →
    ∃ st1,step1 T C true (hd.getD i []) all o st=some st1∧LK T C hd all (R1++R2) st1 fin
  | [],st,fin,h,_=>h
  | (j,x)::R1,st,fin,h,hp=>by
   obtain⟨s1,h1,h2⟩:=h
   obtain⟨s2,h3,h4⟩:=front (R1:=R1) h2 fun p hp'=>hp p (by simp[hp'])
   obtain⟨c1,c2,c3⟩:=hp (j,x) (by simp)
   obtain⟨t1,t2,h5,h6,h7⟩:=swap h1 h3 c1 c2 c3
   exact⟨t1,h5,t2,h6,Ip h7.symm h4⟩
def xA (listed:Array Bool) (l:List (Nat × Oper)):List (Nat × Oper):=l.filter fun p=>!listed.getD p.1 true
theorem VY {listed:Array Bool} {i:Nat}:∀ {l:List Oper} {k:Nat},i<k→xA (listed.setIfInBounds i true) (num k l)=xA listed (num k l)
 | [],_,_=>rfl
 | o::r,k,h=>by
  have h1:=VY (listed:=listed) (l:=r) (k:=k+1) (i:=i) (by omega)
  unfold xA at h1 ⊢
  simp only[num,List.filter_cons,h1,getD_set_ne true (show i≠k by omega)]
theorem Ee {listed : Array Bool} {i : Nat} {o : Oper} (hi : listed.getD i true = false) : ∀ {l : List Oper} {k : Nat},k ≤ i → l[i - k]? = some o →
    ∃ R1 R2,xA listed (num k l)=R1++(i,o)::R2∧xA (listed.setIfInBounds i true) (num k l)=R1++R2∧∀ p∈R1,k≤p.1∧p.1<i∧l[p.1-k]?=some p.2∧listed.getD p.1 true=false
  | [],k,_,h=>by simp at h
  | x::r,k,hk,h=>by
   by_cases he:k=i
   · subst he
     simp at h;subst h
     refine⟨[],xA listed (num (k+1) r),?_,?_,by simp⟩
     · simp only[xA,num,List.filter_cons,hi];simp
     · have:=VY (listed:=listed) (l:=r) (k:=k+1) (i:=k) (by omega)
       have h2:(listed.setIfInBounds k true).getD k true=true:=by
        have hlt:k<listed.size:=by
         rcases Nat.lt_or_ge k listed.size with h' | h'
         · exact h'
         · simp[Array.getElem?_eq_none h']at hi
        simp[hlt]
       unfold xA at this ⊢
       simp only[num,List.filter_cons,h2,this];simp
   · have h' : r[i - (k + 1)]? = some o := by
       have:i-k=(i-(k+1))+1:=by omega
       rw[this]at h;simpa using h
     obtain⟨R1,R2,g1,g2,g3⟩:=Ee hi (l:=r) (k:=k+1) (by omega) h'
     have hne:(listed.setIfInBounds i true).getD k true=listed.getD k true:=getD_set_ne true (Ne.symm he)
     have up:∀ p∈R1,k≤p.1∧p.1<i∧(x::r)[p.1-k]?=some p.2∧listed.getD p.1 true=false:=fun p hp=>by
      obtain⟨q1,q2,q3,q4⟩:=g3 p hp
      refine⟨by omega,q2,?_,q4⟩
      have:p.1-k=(p.1-(k+1))+1:=by omega
      rw[this];simpa using q3
     cases hl:listed.getD k true with
     | true =>
      refine⟨R1,R2,?_,?_,up⟩
      · rw[← g1];simp only[xA,num,List.filter_cons,hl];simp
      · rw[← g2];simp only[xA,num,List.filter_cons,hne,hl];simp
     | false =>
      refine⟨(k,x)::R1,R2,?_,?_,fun p hp=>?_⟩
      · rw[List.cons_append,← g1];simp only[xA,num,List.filter_cons,hl];simp
      · rw[List.cons_append,← g2];simp only[xA,num,List.filter_cons,hne,hl];simp
      · rcases List.mem_cons.1 hp with rfl | hp
        · exact⟨Nat.le_refl _,by simp only;omega,by simp,hl⟩
        · exact up p hp
theorem Ef {x:Nat}:∀ {l acc:List Nat},x∈wX acc l↔x∈acc∨x∈l
 | [],acc=>by simp[wX]
 | y::r,acc=>by
  simp only[wX,Ef (l:=r),List.mem_cons]
  cases h:dZ y acc with
  | true =>
   have:=jP.1 h
   simp only[cond_true]
   constructor
   · rintro (h | h)<;>simp[h]
   · rintro (h | rfl | h)<;>simp[*]
  | false =>
   simp only[cond_false,List.mem_cons]
   constructor
   · rintro ((h | h) | h)<;>simp[h]
   · rintro (h | h | h)<;>simp[h]
theorem Om {done : List (List Nat)} {x : Nat} : ∀ {l : List Edge} {acc : List Nat},x ∈ l.foldl (fun acc e => match e.ground with
    | .textOnly _=>acc
    | .gcOnly _=>acc
    | _=>wX (wX acc [e.on]) (done.getD e.on [])) acc→x∈acc∨∃ e∈l,Region.binds .any e=true∧(x=e.on∨x∈done.getD e.on [])
  | [],acc,h=>.inl h
  | e::r,acc,h=>by
   simp only[List.foldl_cons]at h
   rcases Om h with h | ⟨e',h1,h2⟩
   · have hb : (∀ d,e.ground ≠ .textOnly d) → (∀ d,e.ground ≠ .gcOnly d) → Region.binds .any e = true := by
       intro g1 g2
       unfold Region.binds
       cases hg:e.ground<;>simp_all
     have sub:x∈wX (wX acc [e.on]) (done.getD e.on [])→x∈acc∨(x=e.on∨x∈done.getD e.on []):=by
      intro h
      rw[Ef,Ef]at h
      simp only[List.mem_singleton]at h
      rcases h with (h | h) | h
      · exact .inl h
      · exact .inr (.inl h)
      · exact .inr (.inr h)
     cases hg:e.ground with
     | textOnly d=>rw[hg]at h;exact .inl h
     | gcOnly d=>rw[hg]at h;exact .inl h
     | _ =>
      rw[hg]at h
      rcases sub h with h | h
      · exact .inl h
      · exact .inr ⟨e,by simp,hb (by simp[hg]) (by simp[hg]),h⟩
   · exact .inr ⟨e',by simp[h1],h2⟩
theorem Dn : ∀ {l : List Oper} {acc : List (List Nat)},(∀ n,n < acc.length → (dY l acc)[n]? = acc[n]?) ∧
    ∀ n o,l[n]?=some o→∃ done,(dY l acc)[acc.length+n]?=some (BO done o)∧∀ m,done.getD m []=[]∨done.getD m []=(dY l acc).getD m []
  | [],acc=>⟨fun n _=>rfl,fun n o h=>by simp at h⟩
  | x::r,acc=>by
   obtain⟨h1,h2⟩:=Dn (l:=r) (acc:=acc++[BO acc x])
   have e:dY (x::r) acc=dY r (acc++[BO acc x]):=rfl
   rw[e]
   have pre:∀ n,n<acc.length→(dY r (acc++[BO acc x]))[n]?=acc[n]?:=fun n hn=>by
    rw[h1 n (by simp;omega),List.getElem?_append_left hn]
   refine⟨pre,fun n o hn=>?_⟩
   cases n with
   | zero =>
    simp at hn;subst hn
    refine⟨acc,?_,fun m=>?_⟩
    · rw[Nat.add_zero,h1 acc.length (by simp)];simp
    · by_cases hm:m<acc.length
      · right;rw[List.getD_eq_getElem?_getD,List.getD_eq_getElem?_getD,pre m hm]
      · left;rw[List.getD_eq_getElem?_getD,List.getElem?_eq_none (by omega)];rfl
   | succ n =>
    simp at hn
    obtain⟨done,h3,h4⟩:=h2 n o hn
    refine⟨done,?_,h4⟩
    rw[← h3]
    congr 1
    simp only[List.length_append,List.length_singleton];omega
theorem VZ {i x:Nat} {o:Oper} (ho:all[i]?=some o) (hx:x∈(dY all []).getD i []):∃ e∈o.after,Region.binds .any e=true∧(x=e.on∨x∈(dY all []).getD e.on []):=by
 obtain⟨_,h⟩:=Dn (l:=all) (acc:=[])
 obtain⟨done,h1,h2⟩:=h i o ho
 simp only[List.length_nil,Nat.zero_add]at h1
 rw[List.getD_eq_getElem?_getD,h1]at hx
 simp only[Option.getD_some]at hx
 unfold BO at hx
 rcases Om hx with h3 | ⟨e,h3,h4,h5⟩
 · simp at h3
 · refine⟨e,by simpa using h3,h4,h5.imp id fun h5=>?_⟩
   rcases h2 e.on with h6 | h6
   · rw[h6]at h5;simp at h5
   · rw[h6]at h5;exact h5
theorem zk {tab:List (List Nat)}:∀ {l:List Oper} {k:Nat},DK T all tab hd k l=true→∀ n o,l[n]?=some o→BP (k+n) o=true∧J9 T all hd (tab.getD (k+n) []) (k+n) o 0 all=true
 | [],k,_,n,o,h=>by simp at h
 | x::r,k,h,n,o,ho=>by
  simp only[DK,Bool.and_eq_true]at h
  cases n with
  | zero=>simp at ho;subst ho;exact⟨h.1.1,h.1.2⟩
  | succ n =>
   simp at ho
   have:=zk h.2 n o ho
   rw[show k+1+n=k+(n+1) from by omega]at this
   exact this
theorem LP {Q8:List Nat} {j:Nat} {o:Oper}:∀ {l:List Oper} {k:Nat},J9 T all hd Q8 j o k l=true→∀ n x,l[n]?=some x→k+n<j→k+n ∉ Q8→uz T all (hd.getD (k+n) []) (hd.getD j []) x o=true
 | [],k,_,n,x,h=>by simp at h
 | y::r,k,h,n,x,hx=>by
  intro hlt hp
  have hkj:Nat.ble j k=false:=by
   cases hb:Nat.ble j k with
   | false=>rfl
   | true=>have:=Nat.le_of_ble_eq_true hb;omega
  simp only[J9,hkj,cond_false,Bool.and_eq_true]at h
  cases n with
  | zero =>
   simp at hx;subst hx
   have h1:=h.1
   rw[dK.2 (by simpa using hp)]at h1
   simpa using h1
  | succ n =>
   simp at hx
   have e:k+(n+1)=k+1+n:=by omega
   rw[e]at hlt hp ⊢
   exact LP h.2 n x hx hlt hp
theorem V4 {j:Nat} {o:Oper} (h:BP j o=true) {e:Edge} (he:e∈o.after) (hb:Region.binds .any e=true):e.on<j:=by
 unfold BP at h
 have:=List.all_eq_true.1 h e (by simpa using he)
 unfold Region.binds at hb
 split at this
 · rename_i hg;rw[hg]at hb;simp at hb
 · rename_i hg;rw[hg]at hb;simp at hb
 · exact Nat.le_of_ble_eq_true this
theorem xB {all:List Oper} {tab:List (List Nat)} {j s:Nat} {x:Oper}:∀ {l:List Oper} {k n:Nat},l[n]?=some x→k+n≠j→k+n ∉ tab.getD j []→j ∉ tab.getD (k+n) []→s∈fG all x→s∈uD T all tab j k l
 | [],k,n,h=>by simp at h
 | y::r,k,n,h=>by
  intro h1 h2 h3 h4
  simp only[uD]
  cases n with
  | zero =>
   simp at h;subst h
   have:(k==j||dZ k (tab.getD j [])||dZ j (tab.getD k []))=false:=by
    have e1:(k==j)=false:=by simpa using h1
    rw[e1,dK.2 (by simpa using h2),dK.2 (by simpa using h3)];rfl
   rw[this]
   simp[h4]
  | succ n =>
   simp at h
   have e:k+(n+1)=k+1+n:=by omega
   rw[e]at h1 h2 h3
   have:=xB (k:=k+1) h h1 h2 h3 h4
   cases (k==j||dZ k (tab.getD j [])||dZ j (tab.getD k []))<;>simp[this]
theorem Iq:∀ {a b:List (List Nat)},qj a b=true→a=b
 | [],[],_=>rfl
 | x::xs,y::ys,h=>by
  simp only[qj,Bool.and_eq_true,beq_iff_eq]at h
  rw[h.1,Iq h.2]
 | [],_::_,h=>by simp[qj]at h
 | _::_,[],h=>by simp[qj]at h
section
variable (hok:DK T all (dY all []) hd 0 all=true)
include hok
theorem pred_lt:∀ {i x:Nat} {o:Oper},all[i]?=some o→x∈(dY all []).getD i []→x<i:=by
 intro i
 induction i using Nat.strongRecOn with
 | _ i ih =>
  intro x o ho hx
  obtain⟨e,h1,h2,h3⟩:=VZ ho hx
  have hb:=(zk hok i o ho).1
  rw[Nat.zero_add]at hb
  have hlt:=V4 hb h1 h2
  rcases h3 with rfl | h3
  · exact hlt
  · have hl : e.on < all.length := by
      have:=(List.getElem?_eq_some_iff.1 ho).1
      omega
    have:=ih e.on hlt (x:=x) (o:=all[e.on]) (by simp) h3
    omega
theorem open_pair (hhd : qj hd (EX T all) = true) {i j : Nat} {o x : Oper} (hi : all[i]? = some o) (hj : all[j]? = some x) (hlt : j < i) (hp : j ∉ (dY all []).getD i []) :
    uz T all (hd.getD j []) (hd.getD i []) x o=true∧(∀ s∈fG all x,s∈hd.getD i [])∧(∀ s∈fG all o,s∈hd.getD j []):=by
  have hh:=Iq hhd
  have hget:∀ n,n<all.length→hd.getD n []=uD T all (dY all []) n 0 all:=by
   intro n hn
   rw[hh]
   simp[EX,hn]
  have hil:=(List.getElem?_eq_some_iff.1 hi).1
  have hjl:=(List.getElem?_eq_some_iff.1 hj).1
  have hij:i ∉ (dY all []).getD j []:=fun h=>by have:=pred_lt hok hj h;omega
  refine⟨?_,fun s hs=>?_,fun s hs=>?_⟩
  · have:=LP (zk hok i o hi).2 j x hj (by omega) (by simpa using hp)
    simpa using this
  · rw[hget i hil]
    exact xB (k:=0) (n:=j) hj (by omega) (by simpa using hp) (by simpa using hij) hs
  · rw[hget j hjl]
    exact xB (k:=0) (n:=i) hi (by omega) (by simpa using hij) (by simpa using hp) hs
end
end
end Go.Skm
namespace Go.Skm
section
variable {P:Program} {T:Tab} {C:aF} {cx:Cx} {st st':St} {a:Act} {w:World}
theorem Inv.same (i:Inv cx st a w) (h:Same st st'):Inv cx st' a w:=by
 obtain⟨M,β,L,ds,r,i1,i2,i3,fx⟩:=i
 have r':=r.congr (hp:=st'.heap) fun s=>by rw[h.2]
 have e:({ st with heap:=st'.heap }:St)=st':=by
  cases st;cases st';simp only[St.mk.injEq,and_true];exact h.1
 rw[e]at r'
 refine⟨M,β,L,ds,r',i1,fun s hs b hb=>i2 s hs b ?_,i3,fx.less (fun p hp=>rfl) fun b ho=>?_⟩
 · rw[h.2];exact hb
 · obtain⟨s,o,hs,hb⟩:=ho
   exact⟨s,o,by rw[h.2];exact hs,hb⟩
theorem Inv.drew (i:Inv cx st a w):Inv cx st a { w with drawn:=w.drawn+1 }:=by
 obtain⟨M,β,L,ds,r,i1,i2,i3,fx⟩:=i
 exact⟨M,β,L,ds,r.world (w':={ w with drawn:=w.drawn+1 }) (Nat.le_refl _) rfl rfl rfl (fun _ _ _=>rfl) (fun b n _ _ _ h=>h) (fun b h=>h) (fun b h=>.inl h),i1,i2,i3.trans fun _=>Nat.le_succ _,fx.less (fun p hp=>rfl) fun _ h=>h⟩
theorem Fz {β:Nat→Option (Nat × Nat)} {ss:List Nat} {b:Nat} (h:lC β (st.strike ss).heap b):lC β st.heap b:=by
 obtain⟨s,o,hs,hb⟩:=h
 refine⟨s,o,?_,hb⟩
 rw[bQ]at hs
 by_cases hm:s∈ss
 · rw[if_pos hm]at hs;cases hs
 · rw[if_neg hm]at hs;simpa using hs
theorem Inv.strike (i:Inv cx st a w) (ss:List Nat):Inv cx (st.strike ss) a w:=by
 obtain⟨M,β,L,ds,r,i1,i2,i3,fx⟩:=i
 exact⟨M,β,L,ds,r.strike ss (fun b h=>h) fun b h=>.inl h,i1,i2.trans (wC st ss),i3,fx.less (fun p hp=>rfl) fun _ ho=>Fz ho⟩
theorem abd (ok : bP P T) (hC : gX P T cx.w0.gl C) {ops : Array Oper} {hd : List (List Nat)} (hok : DK T ops.toList (dY ops.toList []) hd 0 ops.toList = true) (hhd : qj hd (EX T ops.toList) = true)
    {Q:Exit→Act→World→Prop} {fin:St} (hQ:∀ a w,Inv cx fin a w→Q .normal a w) (hw:∀ o∈ops.toList,zM cx o) {rd:Option Nat} {n:Nat} :
    ∀ (fuel:Nat) (listed:Array Bool) (st:St) (a:Act) (w:World),fuel=(xA listed (num 0 ops.toList)).length →
     (∀ q,listed.getD q false=true→∀ p∈(dY ops.toList []).getD q [],listed.getD p false=true)→listed.size=ops.size →
     LK T C hd ops.toList (xA listed (num 0 ops.toList)) st fin→Inv cx st a w→wpAnyIn (FW rd) n P .any ops Q fuel listed a w:=by
  intro fuel
  induction fuel with
  | zero =>
   intro listed st a w hf hcl hsz hr i
   have h0:xA listed (num 0 ops.toList)=[]:=List.length_eq_zero_iff.1 hf.symm
   rw[h0]at hr
   refine⟨?_,hQ a w (i.same hr)⟩
   rw[List.eq_nil_iff_forall_not_mem]
   intro j hj
   obtain⟨h1,o,h2,_⟩:=mem_ready.1 hj
   obtain⟨R1,R2,g1,_⟩:=Ee h1 (l:=ops.toList) (k:=0) (o:=o) (by omega) (by simpa using h2)
   rw[h0]at g1
   simp at g1
  | succ fuel ih =>
   intro listed st a w hf hcl hsz hr i
   refine⟨fun hnil=>?_,fun j hj=>?_⟩
   · -- the first that is not listed is ready
     exfalso
     cases hL:xA listed (num 0 ops.toList) with
     | nil=>rw[hL]at hf;simp at hf
     | cons p r =>
      have hex:∃ n,n<ops.size∧listed.getD n true=false:=by
       have hp:p∈xA listed (num 0 ops.toList):=by rw[hL];simp
       unfold xA at hp
       rw[List.mem_filter]at hp
       have h1:listed.getD p.1 true=false:=by simpa using hp.2
       refine⟨p.1,?_,h1⟩
       rcases Nat.lt_or_ge p.1 listed.size with h' | h'
       · omega
       · simp[Array.getElem?_eq_none h']at h1
      have hmin:∃ n,(n<ops.size∧listed.getD n true=false)∧∀ m,m<n→¬ (m<ops.size∧listed.getD m true=false):=by
       obtain⟨n,hn⟩:=hex
       induction n using Nat.strongRecOn with
       | _ n ihn =>
        by_cases hm:∃ m,m<n∧(m<ops.size∧listed.getD m true=false)
        · obtain⟨m,h1,h2⟩:=hm;exact ihn m h1 h2
        · exact⟨n,hn,fun m h1 h2=>hm ⟨m,h1,h2⟩⟩
      obtain⟨n,⟨h1,h2⟩,h3⟩:=hmin
      have:n∈Region.ready .any ops listed:=by
       rw[mem_ready]
       refine⟨h2,ops[n],by simp,fun e he hb=>?_⟩
       have hlt:=V4 (zk hok n ops[n] (by simp)).1 he hb
       rw[Nat.zero_add]at hlt
       have:=h3 e.on hlt
       have hl:e.on<ops.size:=by omega
       have hl':e.on<listed.size:=by omega
       cases hb':listed.getD e.on true with
       | false=>exact absurd ⟨hl,hb'⟩ this
       | true=>simpa [hl'] using hb'
      rw[hnil]at this;simp at this
   · obtain⟨h1,o,h2,h3⟩:=mem_ready.1 hj
     have h2':ops.toList[j]?=some o:=by simpa using h2
     obtain⟨R1,R2,g1,g2,g3⟩:=Ee h1 (l:=ops.toList) (k:=0) (o:=o) (by omega) (by simpa using h2)
     have hpre:∀ p∈(dY ops.toList []).getD j [],listed.getD p false=true:=by
      intro p hp
      obtain⟨e,q1,q2,q3⟩:=VZ h2' hp
      rcases q3 with rfl | q3
      · exact h3 e q1 q2
      · exact hcl e.on (h3 e q1 q2) p q3
     rw[g1]at hr hf
     obtain⟨st1,k1,k2⟩:=front hr fun p hp=>by
      obtain⟨q1,q2,q3,q4⟩:=g3 p hp
      refine open_pair hok hhd h2' (by simpa using q3) q2 fun hm=>?_
      have:=hpre p.1 hm
      have hl:p.1<listed.size:=by
       have:=(List.getElem?_eq_some_iff.1 q3).1
       simp at this;omega
      simp[hl]at q4 this
      rw[q4]at this;cases this
     have hs:=adf ok hC rfl (hw o (List.mem_of_getElem? h2')) i k1 (rd:=rd) (n:=n) (K:=wpAnyIn (FW rd) n P .any ops Q fuel (listed.setIfInBounds j true)) (fun a' w' i'=>ih (listed.setIfInBounds j true) st1 a' w' (by
      rw[g2];simp only[List.length_append,List.length_cons]at hf ⊢;omega) (fun q hq p hp=>by
      by_cases hjq:j=q
      · subst hjq;exact getD_set_true (hpre p hp)
      · rw[getD_set_ne false hjq]at hq
        exact getD_set_true (hcl q hq p hp)) (by simpa using hsz) (by rw[g2];exact k2) i') (Q:=Q)
     unfold wpOpIn
     rw[h2]
     simp only
     split
     · rename_i hw;rw[if_pos hw]at hs;exact hs
     · rename_i hw;rw[if_neg hw]at hs;exact⟨fun _ _=>trivial,hs⟩
theorem LQ:∀ (l:List Oper) (k:Nat),(num k l).length=l.length
 | [],_=>rfl
 | o::r,k=>by simp[num,LQ r]
theorem Oo {n:Nat}:∀ {l:List Oper} {k:Nat},k+l.length≤n→xA (Array.replicate n false) (num k l)=num k l
 | [],_,_=>rfl
 | o::r,k,h=>by
  simp only[List.length_cons]at h
  have:=Oo (n:=n) (l:=r) (k:=k+1) (by omega)
  unfold xA at this ⊢
  have hk:(Array.replicate n false).getD k true=false:=by
   have:k<n:=by omega
   simp[this]
  simp only[num,List.filter_cons,hk,this];simp
theorem Sz (ok : bP P T) (hC : gX P T cx.w0.gl C) {α : Type} {id : Nat} {ops : Array Oper} {hd : List (List Nat)} (hok : DK T ops.toList (dY ops.toList []) hd 0 ops.toList = true) (hhd : qj hd (EX T ops.toList) = true)
    {rd:Option Nat} {n:Nat} {Q:Exit→Act→World→Prop} {k:St→Option α} {x:α} (hr:dW T C true hd ops.toList ops.toList 0 st k=some x) (hw:∀ o∈ops.toList,zM cx o) (i:Inv cx st a w)
    (hQ:∀ st' a' w',k st'=some x→Inv cx st' a' w'→Q .normal a' w'):(Code.region id ops true).wpIn (FW rd) n P Q a w:=by
  obtain⟨fin,h1,h2⟩:=LM hr
  have e:xA (Array.replicate ops.size false) (num 0 ops.toList)=num 0 ops.toList:=Oo (by simp)
  refine wpIn_region_any ok.mixed (abd ok hC hok hhd (fun a w i=>hQ fin a w h2 i) hw ops.size (Array.replicate ops.size false) st a _ ?_ ?_ (by simp) (by rw[e];exact h1) i.drew)
  · rw[e,LQ];simp
  · intro q hq
    by_cases hl:q<ops.size<;>simp[hl]at hq
theorem SA (ok : bP P T) (hC : gX P T cx.w0.gl C) {α : Type} {id : Nat} {ops : Array Oper} {hd : List (List Nat)} (hn : yG cx.hp0) {rd : Option Nat} {n : Nat} {Q : Exit → Act → World → Prop} {k : St → Option α} {x : α} (hr : dW T C false hd ops.toList ops.toList 0 st k = some x)
    (hw:∀ o∈ops.toList,zM cx o) (i:Inv cx st a w)
    (hQ:∀ st' a' w',k st'=some x→Inv cx st' a' w'→Q .normal a' w'):(Code.region id ops false).wpIn (FW rd) n P Q a w :=
  wpIn_region_list (RU ok hC hn hQ ops.toList 0 st a w hw hr i)
end
end Go.Skm
namespace Go.Skm
theorem sF (s d:Nat):∀ (l:List AV) (i:Nat),(AV.CS s d l)[i]?=(l[i]?).map (AV.ren s d)
 | [],i=>by simp[AV.CS]
 | v::r,0=>by simp[AV.CS]
 | v::r,i+1=>by simp[AV.CS,sF s d r i]
theorem jQ (s d:Nat):∀ (l:List AV),(AV.CS s d l).length=l.length
 | []=>rfl
 | v::r=>by simp[AV.CS,jQ s d r]
theorem FB (s d:Nat) (v:AV):(AV.ren s d v).leaf=v.leaf:=by
 cases v<;>simp[AV.ren,AV.leaf]
theorem Jc {s d x:Nat} (h:x≠s):wQ s d x=x:=by
 have:(x==s)=false:=by simpa using h
 simp[wQ,this]
theorem qx {s d:Nat} (hne:s≠d) (x:Nat):∀ {hp:Heap},look hp d=none→look (oC s d hp) x=if x=d then(look hp s).map (aI.ren s d) else if x=s then none else(look hp x).map (aI.ren s d)
 | [],_=>by simp[oC,look]
 | (k,b)::r,h=>by
  have hk:k≠d:=by
   rintro rfl;simp[look]at h
  have hk':(k==d)=false:=by simpa using hk
  have hr:look r d=none:=by simpa [look,hk'] using h
  have ih:=qx hne x hr
  simp only[oC,look]
  by_cases hks:k=s
  · subst hks
    have e1:wQ k d k=d:=by simp[wQ]
    rw[e1]
    by_cases hx:x=d
    · subst hx;simp
    · have e2:(d==x)=false:=by simpa using fun e=>hx e.symm
      rw[e2,if_neg hx]
      simp only[cond_false]
      rw[ih,if_neg hx]
      by_cases hxs:x=k
      · rw[if_pos hxs,if_pos hxs]
      · rw[if_neg hxs,if_neg hxs]
        have e3:(k==x)=false:=by simpa using fun e=>hxs e.symm
        rw[e3];rfl
  · have e1:wQ s d k=k:=Jc hks
    rw[e1]
    by_cases hx:x=k
    · subst hx
      simp[hk,hks]
    · have e2:(k==x)=false:=by simpa using fun e=>hx e.symm
      rw[e2]
      simp only[cond_false]
      rw[ih]
      have e3:(k==s)=false:=by simpa using hks
      rw[e3];rfl
theorem AR.renamed {w : World} {M : Nat → Prop} {β β' : Nat → Option (Nat × Nat)} {h h' : Nat → Option aI} {s d : Nat} (hh : ∀ x blk,h x = some blk → h' (wQ s d x) = some (blk.ren s d) ∧ β' (wQ s d x) = β x)
    {v:AV} {c:Value} (hv:AR w M β h v c):AR w M β' h' (v.ren s d) c:=by
  induction hv with
  | undef c=>exact .undef c
  | p v c hv=>exact .p v c hv
  | slice x off len a ks xs b o cap h1 hl hb hcap hr=>exact .slice _ off len a ks xs b o cap (hh x _ h1).1 hl ((hh x _ h1).2.trans hb) hcap hr
  | sliceE x off a ks xs base h1 hl=>exact .sliceE _ off a ks xs base (hh x _ h1).1 hl
  | bslice x off len cs b o cap h1 hl hb hcap=>exact .bslice _ off len (AV.CS s d cs) b o cap (hh x _ h1).1 (by rw[jQ];exact hl) ((hh x _ h1).2.trans hb) hcap
  | bsliceE x off cs base h1 hl=>exact .bsliceE _ off (AV.CS s d cs) base (hh x _ h1).1 (by rw[jQ];exact hl)
  | ptrB x off cs b o h1 hb=>exact .ptrB _ off (AV.CS s d cs) b o (hh x _ h1).1 ((hh x _ h1).2.trans hb)
  | ptrA x idx off a ks xs b o h1 hi hb=>exact .ptrA _ idx off a ks xs b o (hh x _ h1).1 hi ((hh x _ h1).2.trans hb)
  | mO a ks x off b o f hM hx hc hv=>exact .mO a ks x off b o f hM hx hc hv
  | fn f cs vs hn _ ih =>
   refine .fn f _ vs (by rw[jQ];exact hn) fun i c hi=>?_
   rw[sF]at hi
   cases hx:cs[i]? with
   | none=>rw[hx]at hi;cases hi
   | some x=>rw[hx]at hi;cases hi;exact ih i x hx
  | agg cs vs hn hl _ ih =>
   refine .agg _ vs (by rw[jQ];exact hn) (fun c hc=>?_) fun i c hi=>?_
   · obtain⟨i,hi⟩:=List.mem_iff_getElem?.1 hc
     rw[sF]at hi
     cases hx:cs[i]? with
     | none=>rw[hx]at hi;cases hi
     | some x=>rw[hx]at hi;cases hi;rw[FB];exact hl x (List.mem_of_getElem? hx)
   · rw[sF]at hi
     cases hx:cs[i]? with
     | none=>rw[hx]at hi;cases hi
     | some x=>rw[hx]at hi;cases hi;exact ih i x hx
  | mG cs vs hn _ ih =>
   refine .mG _ vs (by rw[jQ];exact hn) fun i c hi=>?_
   rw[sF]at hi
   cases hx:cs[i]? with
   | none=>rw[hx]at hi;cases hi
   | some x=>rw[hx]at hi;cases hi;exact ih i x hx
  | sJ l=>exact .sJ l
  | ptrT x off t c0 c1 b h1 hb=>exact .ptrT _ off t (c0.ren s d) (c1.ren s d) b (hh x _ h1).1 ((hh x _ h1).2.trans hb)
  | Kr x t es b o h1 hb=>exact .Kr _ t es b o (hh x _ h1).1 ((hh x _ h1).2.trans hb)
  | Kt x e xs b cap h1 hb hcap h0 hr=>exact .Kt _ e xs b cap (hh x _ h1).1 ((hh x _ h1).2.trans hb) hcap h0 hr
  | AU x e h1=>exact .AU _ e (hh x _ h1).1
section
variable {P:Program} {T:Tab} {w0:Base} {Pr M0 M:Nat→Prop} {β Qd:Nat→Option (Nat × Nat)} {hp0:Heap} {st st':St} {a:Act} {w:World}
theorem Rel.rename (r : Rel w0 Pr M0 M β st a w) {s d : Nat} (hne : s ≠ d) (hd : look st.heap d = none) (hs : s < ah) :
    Rel w0 Pr M0 M (fun x=>if x=d then β s else β x) { env:=AV.CS s d st.env,heap:=oC s d st.heap } a w:=by
  have hlk:=fun x=>qx (s:=s) (d:=d) hne x hd
  have hh:∀ x blk,look st.heap x=some blk→look (oC s d st.heap) (wQ s d x)=some (blk.ren s d)∧(if wQ s d x=d then β s else β (wQ s d x))=β x:=by
   intro x blk hx
   have hxd:x≠d:=by rintro rfl;rw[hd]at hx;cases hx
   by_cases hxs:x=s
   · subst hxs
     have e:wQ x d x=d:=by simp[wQ]
     rw[e,hlk,if_pos rfl,hx]
     exact⟨rfl,by simp⟩
   · have e:wQ s d x=x:=Jc hxs
     rw[e,hlk,if_neg hxd,if_neg hxs,hx]
     exact⟨rfl,by simp[hxd]⟩
  have key:∀ {v:AV} {c:Value},AR w M β (look st.heap) v c→AR w M (fun x=>if x=d then β s else β x) (look (oC s d st.heap)) (v.ren s d) c:=fun h=>h.renamed hh
  have from_:∀ x blk',look (oC s d st.heap) x=some blk'→∃ y blk,look st.heap y=some blk∧blk'=blk.ren s d∧x=wQ s d y∧(if x=d then β s else β x)=β y:=by
   intro x blk' hx
   rw[hlk]at hx
   by_cases hxd:x=d
   · rw[if_pos hxd]at hx
     cases hy:look st.heap s with
     | none=>rw[hy]at hx;cases hx
     | some b=>rw[hy]at hx;cases hx;exact⟨s,b,hy,rfl,by simp[wQ,hxd],by simp[hxd]⟩
   · rw[if_neg hxd]at hx
     by_cases hxs:x=s
     · rw[if_pos hxs]at hx;cases hx
     · rw[if_neg hxs]at hx
       cases hy:look st.heap x with
       | none=>rw[hy]at hx;cases hx
       | some b=>rw[hy]at hx;cases hx;exact⟨x,b,hy,rfl,(Jc hxs).symm,by simp[hxd]⟩
  refine⟨by simp only[jQ];exact r.lV,fun t v hv=>?_,fun x blk' hx=>?_,fun x b o hx hb=>?_,fun x x' b o o' hx hx' hb hb'=>?_,r.fJ,r.jX,r.oJ,r.keep,r.room,r.size,r.os,r.tape,r.output,r.lK⟩
  · simp only[sF]at hv
    cases he:st.env[t]? with
    | none=>rw[he]at hv;cases hv
    | some u=>rw[he]at hv;cases hv;exact key (r.env t u he)
  · obtain⟨y,blk,g1,rfl,rfl,g4⟩:=from_ x blk' hx
    cases r.heap y blk g1 with
    | box cs b o C e fr k1 k2 k3 k4 k5 k6 =>
     refine .box _ b o C e fr (g4.trans k1) k2 (by rw[jQ];exact k3) k4 (fun c hc=>?_) fun j c hj=>?_
     · obtain⟨i,hi⟩:=List.mem_iff_getElem?.1 hc
       rw[sF]at hi
       cases hx:cs[i]? with
       | none=>rw[hx]at hi;cases hi
       | some x=>rw[hx]at hi;cases hi;rw[FB];exact k5 x (List.mem_of_getElem? hx)
     · rw[sF]at hj
       cases hx:cs[j]? with
       | none=>rw[hx]at hj;cases hj
       | some x=>rw[hx]at hj;cases hj;exact key (k6 j x hx)
    | fM a ks=>exact .fM a ks
    | log on ys=>exact .log on ys
    | arr a ks xs b o C e fr k1 k2 k3 k4 k5 k6=>exact .arr a ks xs b o C e fr (g4.trans k1) k2 k3 k4 k5 k6
    | tb t c0 c1 b C fr k1 k2 k3 k4 k5 k6 k7 k8=>exact .tb t _ _ b C fr (g4.trans k1) k2 k3 k4 (by rw[FB];exact k5) (by rw[FB];exact k6) (key k7) (key k8)
    | mp t es b o E k k1 k2 k3 k4=>exact .mp t es b o E k (g4.trans k1) k2 k3 k4
    | DR e=>exact .DR e
    | br e xs b C fr k1 k2 k3 k4 g5 g6=>exact .br e xs b C fr (g4.trans k1) k2 k3 k4 g5 g6
  · obtain⟨blk',hx⟩:=Option.isSome_iff_exists.1 hx
    obtain⟨y,blk,g1,_,g3,g4⟩:=from_ x blk' hx
    have hb:(if x=d then β s else β x)=some (b,o):=hb
    rw[g4]at hb
    obtain⟨o1,o2,o3⟩:=r.own y b o (by rw[g1];rfl) hb
    refine⟨o1,o2,o3.1,o3.2.imp id fun o3=>?_⟩
    have hys:y≠s:=by omega
    have:wQ s d y=y:=Jc hys
    rw[g3,this];exact o3
  · obtain⟨ajJ,hx⟩:=Option.isSome_iff_exists.1 hx
    obtain⟨aeS,hx'⟩:=Option.isSome_iff_exists.1 hx'
    obtain⟨y,b1,g1,_,g3,g4⟩:=from_ x ajJ hx
    obtain⟨y',b2,g1',_,g3',g4'⟩:=from_ x' aeS hx'
    have hb:(if x=d then β s else β x)=some (b,o):=hb
    have hb':(if x'=d then β s else β x')=some (b,o'):=hb'
    rw[g4]at hb
    rw[g4']at hb'
    rw[g3,g3',r.inj y y' b o o' (by rw[g1];rfl) (by rw[g1'];rfl) hb hb']
theorem aI.ZM (s d:Nat) (b:aI):Like b (b.ren s d):=by
 cases b with
 | box cs=>simp[aI.ren,Like,jQ]
 | arr=>exact Like.refl _
 | log=>exact Like.refl _
 | tb=>exact rfl
 | mp=>exact Like.refl _
 | br=>exact Like.refl _
theorem Qk {β:Nat→Option (Nat × Nat)} {hp:Heap} {s d:Nat} (hne:s≠d) (hd:look hp d=none) {b:Nat} (h:lC (fun x=>if x=d then β s else β x) (oC s d hp) b):lC β hp b:=by
 obtain⟨x,o,hx,hb⟩:=h
 rw[qx hne x hd]at hx
 by_cases hxd:x=d
 · rw[if_pos hxd]at hx
   simp only[hxd,if_true]at hb
   exact⟨s,o,by simpa using hx,hb⟩
 · rw[if_neg hxd]at hx
   simp only[if_neg hxd]at hb
   by_cases hxs:x=s
   · rw[if_pos hxs]at hx;cases hx
   · rw[if_neg hxs]at hx
     exact⟨x,o,by simpa using hx,hb⟩
theorem Inv.Au {cx:Cx} (i:Inv cx st a w) {s d:Nat} (hne:s≠d) (hs:s<ah) (hd:d<ah):Inv cx (st.Au s d) a w:=by
 have i1:=i.strike [d]
 have hn:look (st.strike [d]).heap d=none:=by rw[bQ];simp
 unfold St.Au
 generalize st.strike [d]=st1 at i1 hn
 obtain⟨M,β,L,ds,r,e1,e2,e3,fx⟩:=i1
 refine⟨M,_,L,ds,r.rename hne hn hs,fun x hx=>?_,fun x hx blk' hb=>?_,e3,fx.less (fun p hp=>rfl) fun _ ho=>Qk hne hn ho⟩
 · have:x≠d:=by omega
   simp only[if_neg this];exact e1 x hx
 · have h1:x≠d:=by omega
   have h2:x≠s:=by omega
   have hb':look (oC s d st1.heap) x=some blk':=hb
   rw[qx hne x hn,if_neg h1,if_neg h2]at hb'
   cases hy:look st1.heap x with
   | none=>rw[hy]at hb';cases hb'
   | some b =>
    rw[hy]at hb';cases hb'
    obtain⟨b0,g1,g2⟩:=e2 x hx b hy
    exact⟨b0,g1,g2.trans (aI.ZM s d b)⟩
theorem Inv.jO {cx:Cx} (nv:Nat) (hs:List Nat) (vW:nv≤ah):∀ (l:List Oper) {st:St},Inv cx st a w→Inv cx (Skm.jO nv hs l st) a w
 | [],st,i=>i
 | o::r,st,i=>by
  simp only[Skm.jO]
  split
  · rename_i d _ _
    split
    · rename_i s _ _ _ _
      cases hc:(Nat.ble nv s||(dZ d hs&&!(s==d)))&&(Nat.blt d nv&&Nat.blt s 100000) with
      | false=>exact Inv.jO nv hs vW r i
      | true =>
       simp only[Bool.and_eq_true]at hc
       have h2:d<nv:=Nat.le_of_ble_eq_true hc.2.1
       have h1:s≠d:=by
        intro e
        rcases(by simpa only[Bool.or_eq_true] using hc.1:Nat.ble nv s=true∨(dZ d hs&&!(s==d))=true) with h | h
        · exact absurd (Nat.le_of_ble_eq_true h) (Nat.not_le_of_lt (by rw[e];exact h2))
        · simp[e]at h
       have h3:s<100000:=Nat.le_of_ble_eq_true hc.2.2
       have ea:ah=100000:=rfl
       exact Inv.jO nv hs vW r (i.Au h1 h3 (Nat.lt_of_lt_of_le h2 vW))
    · exact Inv.jO nv hs vW r i
  · exact Inv.jO nv hs vW r i
theorem Inv.jy {cx:Cx} (hs:List Nat):∀ (l:List Oper) {st:St},Inv cx st a w→Inv cx (Skm.jy hs l st) a w
 | [],st,i=>i
 | o::r,st,i=>by
  simp only[Skm.jy]
  split
  · rename_i x _
    split
    · rename_i s _ _ _ _
      cases hc:dZ x hs&&(Nat.blt s 5000&&Nat.blt x 5000) with
      | false=>exact Inv.jy hs r i
      | true =>
       simp only[Bool.and_eq_true]at hc
       have h1:s<5000:=Nat.le_of_ble_eq_true hc.2.1
       have h2:x<5000:=Nat.le_of_ble_eq_true hc.2.2
       have k:∀ s y:Nat,s<5000→y<5000→s≠5000+y∧s<ah∧5000+y<ah:=fun s y h1 h2=>by
        have ea:ah=100000:=rfl
        omega
       obtain⟨k1,k2,k3⟩:=k s x h1 h2
       exact Inv.jy hs r (i.Au k1 k2 k3)
    · exact Inv.jy hs r i
  · exact Inv.jy hs r i
theorem Inv.abe {cx : Cx} (i : Inv cx st a w) {d : Nat} {x : PV} {ss : List Nat} (hd : deep (look st.heap) (st.env.getD d .undef) = some (x,ss)) (hf : fU ss = true) :
    Inv cx { (st.strike ss) with env:=(st.strike ss).env.set d (.p x) } a w:=by
  by_cases hlt:d<st.env.length
  · obtain⟨M,β,L,ds,r,i1,i2,i3,fx⟩:=i
    have hv:st.env[d]?=some (st.env.getD d .undef):=by rw[List.getD_eq_getElem?_getD,List.getElem?_eq_getElem hlt];rfl
    obtain⟨g1,g2⟩:=wz (fun s b h=>r.heap s b h) (fun s b h=>h) hd (r.env d _ hv)
    have r1:=r.ZH.freeze [] ss hf g2
    rw[List.nil_append]at r1
    have r2:Rel _ _ _ (aY M β ss) β { (st.strike ss) with env:=(st.strike ss).env.set d (.p x) } a w :=
     ⟨by simpa using r1.lV,fun t v h=>by
       simp only at h
       rw[List.getElem?_set]at h
       split at h
       · rename_i he
         split at h
         · cases h
           subst he
           exact .p _ _ g1
         · cases h
       · exact r1.env t v h,r1.heap,r1.own,r1.inj,r1.fJ,r1.jX,r1.oJ,r1.keep,r1.room,r1.size,r1.os,r1.tape,r1.output,r1.lK⟩
    refine⟨aY M β ss,β,L,ds,r.UH r2,i1,i2.trans (wC st ss),i3,fx.step r r2⟩
  · have e:st.env.getD d .undef=.undef:=by simp[List.getD,List.getElem?_eq_none (by omega:st.env.length≤d)]
    rw[e]at hd
    simp[deep,EN,HY]at hd
theorem Inv.freezes {cx:Cx} (ts:List Nat):∀ (l:List Oper) {st:St},Inv cx st a w→Inv cx (Skm.freezes ts l st) a w
 | [],st,i=>i
 | o::r,st,i=>by
  simp only[Skm.freezes]
  split
  · cases hm:dZ _ ts with
    | false=>exact Inv.freezes ts r i
    | true =>
     simp only[cond_true]
     split
     · rename_i v ss hd
       cases hf:fU ss with
       | false=>exact Inv.freezes ts r i
       | true=>exact Inv.freezes ts r (i.abe hd hf)
     · exact Inv.freezes ts r i
  · exact Inv.freezes ts r i
theorem Inv.settle {cx:Cx} {F:Aw} (i:Inv cx st a w) (vW:F.nvars≤ah) (l:List Oper):Inv cx (Skm.settle F l st) a w:=by
 unfold Skm.settle
 split
 · exact(i.jO _ _ vW l).freezes _ l
 · exact((i.jO _ _ vW l).jy _ l).freezes _ l
theorem Bf {live:List Nat}:∀ (l:List AV) (k i:Nat) (v:AV),(qW live k l)[i]?=some v→v=.undef∨l[i]?=some v
 | [],k,i,v,h=>by simp[qW]at h
 | u::r,k,0,v,h=>by
  simp only[qW,List.getElem?_cons_zero,Option.some.injEq]at h
  cases hm:dZ k live with
  | true=>rw[hm]at h;right;simpa using h
  | false=>rw[hm]at h;left;simpa using h.symm
 | u::r,k,i+1,v,h=>by
  simp only[qW,List.getElem?_cons_succ]at h
  simpa using Bf r (k+1) i v h
theorem vN {live:List Nat}:∀ (l:List AV) (k:Nat),(qW live k l).length=l.length
 | [],_=>rfl
 | u::r,k=>by simp[qW,vN r]
theorem Inv.forget {cx:Cx} (i:Inv cx st a w) (live sites:List Nat):Inv cx (st.forget live sites) a w:=by
 obtain⟨M,β,L,ds,r,e1,e2,e3,fx⟩:=i
 exact Inv.strike ⟨M,β,L,ds,r.VL (vN _ _) (fun t v h=>Bf _ _ _ _ h),e1,e2,e3,fx⟩ _
theorem Inv.aC {cx:Cx} (i:Inv cx st a w) (F:Aw) (c:Code):Inv cx (Skm.aC F c st) a w:=by
 unfold Skm.aC
 split
 · exact i
 · split
   · exact i
   · exact i.forget _ _
theorem Inv.tN {cx : Cx} (i : Inv cx st a w) {α : Type} {b : Option aI} (hb : ∀ on xs,b = some (.log on xs) → ∃ ys,look cx.hp0 ah = some (.log on ys)) {k : St → Option α} {x : α} (h : Skm.tN b st k = some x) : ∃ st',k st' = some x ∧ Inv cx st' a w ∧
    ∀ on xs,look st'.heap ah=some (.log on xs)→b=some (.log on xs):=by
  unfold Skm.tN at h
  split at h
  · rename_i on0 xs0 h0
    split at h
    · rename_i on xs
      refine⟨_,h,?_,fun on' xs' he=>?_⟩
      · obtain⟨ys,hy⟩:=hb on xs rfl
        obtain⟨M,β,L,ds,r,e1,e2,e3,fx⟩:=i
        have hlk:∀ s,look (put st.heap ah (.log on xs)) s=if s=ah then some (.log on xs) else look st.heap s:=fun s=>aV _ _ _ _
        have hon:on=on0:=by
         obtain⟨b0,g1,g2⟩:=e2 ah (Nat.le_refl _) _ h0
         rw[hy]at g1;cases g1
         exact g2
        have key:∀ {v:AV} {c:Value},AR w M β (look st.heap) v c→AR w M β (look (put st.heap ah (.log on xs))) v c:=by
         intro v c hv
         refine hv.mono (fun b hb=>⟨hb,rfl⟩) fun s blk _ hs=>?_
         by_cases e:s=ah
         · subst e
           rw[h0]at hs;cases hs
           exact⟨.log on xs,by rw[hlk,if_pos rfl],hon.symm,rfl,fun _ _ _ _ h=>h⟩
         · exact⟨blk,by rw[hlk,if_neg e];exact hs,Like.refl _,rfl,fun _ _ _ _ h=>h⟩
        have live:∀ s,(look (put st.heap ah (.log on xs)) s).isSome=true→(look st.heap s).isSome=true:=by
         intro s hs
         rw[hlk]at hs
         by_cases e:s=ah
         · subst e;rw[h0];rfl
         · rw[if_neg e]at hs;exact hs
        refine⟨M,β,L,ds,⟨r.lV,fun t v hv=>key (r.env t v hv),fun s blk hs=>?_,fun s b o hs hb=>r.own s b o (live s hs) hb,fun s s' b o o' hs hs'=>r.inj s s' b o o' (live s hs) (live s' hs'),r.fJ,r.jX,r.oJ,r.keep,r.room,r.size,r.os,r.tape,r.output,r.lK⟩,e1,fun s hs blk hb=>?_,e3,fx.less (fun p hp=>rfl) fun _ ⟨s,o,hs,hb⟩=>⟨s,o,live s hs,hb⟩⟩
        · have hs:look (put st.heap ah (.log on xs)) s=some blk:=hs
          rw[hlk]at hs
          by_cases e:s=ah
          · rw[if_pos e]at hs;cases hs;exact .log _ _
          · rw[if_neg e]at hs
            cases r.heap s blk hs with
            | box cs b o C e fr k1 k2 k3 k4 k5 k6=>exact .box cs b o C e fr k1 k2 k3 k4 k5 fun j c hj=>key (k6 j c hj)
            | fM a ks=>exact .fM a ks
            | log on ys=>exact .log on ys
            | arr a ks xs b o C e fr k1 k2 k3 k4 k5 k6=>exact .arr a ks xs b o C e fr k1 k2 k3 k4 k5 k6
            | tb t c0 c1 b C fr k1 k2 k3 k4 k5 k6 k7 k8=>exact .tb t _ _ b C fr k1 k2 k3 k4 k5 k6 (key k7) (key k8)
            | mp t es b o E k k1 k2 k3 k4=>exact .mp t es b o E k k1 k2 k3 k4
            | DR e=>exact .DR e
            | br e xs b C fr k1 k2 k3 k4 g5 g6=>exact .br e xs b C fr k1 k2 k3 k4 g5 g6
        · have hb:look (put st.heap ah (.log on xs)) s=some blk:=hb
          rw[hlk]at hb
          by_cases e:s=ah
          · rw[if_pos e]at hb;cases hb;subst e;exact⟨_,hy,rfl⟩
          · rw[if_neg e]at hb;exact e2 s hs blk hb
      · have he:look (put st.heap ah (.log on xs)) ah=_:=he
        rw[aV,if_pos rfl]at he
        cases he;rfl
    · cases h
  · rename_i hno
    exact⟨st,h,i,fun on xs he=>absurd he (hno on xs)⟩
def Ex.ZN:Ex→Exit
 | .normal=>.normal
 | .exit id=>.exit id
 | .ret=>.ret
end
end Go.Skm
namespace Go.Skm
section scopes
variable {E:Fence} {n:Nat} {P:Program} {Q:Exit→Act→World→Prop} {b:Frame} {a:Act} {k:List Item} {cs:List Frame} {w:World}
theorem pq {c:Code}:step P (lone (b.atR a (.code (.scope c)::k)) cs w)=.next (lone (b.atR a (.code c::.inScope c::k)) cs w) :=
 step_lone_go (by simp[stepG,stepG.exec,Frame.atR])
theorem MX {c:Code}:step P (lone (b.atR a (.inScope c::k)) cs w)=.next (lone (b.atR a k) cs w) :=
 step_lone_go (by simp[stepG,stepG.exec,Frame.atR])
theorem UN {c:Code} (h:c.wpIn E n P (Exit.noGoto Q) a w):(Code.scope c).wpIn E n P Q a w:=by
 intro b k cs hro hb hr
 have h0:(lone (b.atR a (.code (.scope c)::k)) cs w).fenced P E:=fenced_calm hb hr rfl
 obtain⟨e,a₁,w₁,hq,harr⟩:=h b (.inScope c::k) cs hro hb hr
 cases e with
 | normal=>exact⟨.normal,a₁,w₁,hq,.head h0 pq (StepsIn.trans harr (.one (fenced_calm hb hr rfl) MX))⟩
 | exit id =>
  have hx:exitTo id (.inScope c::k)=exitTo id k:=by simp[exitTo]
  exact⟨.exit id,a₁,w₁,hq,fun k' hk=>.head h0 pq (harr.1 k' (by rw[hx];exact hk)),
   fun hr' hk=>let ⟨k₁,h1,h2⟩:=harr.2 hr' (by rw[hx];exact hk);⟨k₁,h1,.head h0 pq h2⟩⟩
 | goto l=>exact hq.elim
 | ret=>exact⟨_,a₁,w₁,hq,.of_steps (.one h0 pq) harr⟩
 | panic ch=>exact⟨_,a₁,w₁,hq,.of_steps (.one h0 pq) harr⟩
 | outgrown=>exact⟨_,a₁,w₁,hq,.of_steps (.one h0 pq) harr⟩
end scopes
section
variable {α ι:Type} (T:Tab) (C:aF) (F:FI) (n:Nat)
def UO (z:Code) (k:Ex→St→Option α):Ex→St→Option α:=fun ex st' =>
 match ex with
 | .normal=>aK T C F n z (aC F.cfg z st') k
 | .exit id=>k (.exit id) st'
 | .ret=>k .ret st'
def GU (id:Nat) (k:Ex→St→Option α):Ex→St→Option α:=fun ex st' =>
 match ex with
 | .normal=>k .normal st'
 | .exit i=>bif i==id then k .normal st' else k (.exit i) st'
 | .ret=>k .ret st'
def LU (c:Code) (m:Nat) (k:Ex→St→Option α):Ex→St→Option α:=fun ex st' =>
 match ex with
 | .normal=>fC (aC F.cfg c st') fun st'=>mD (aC F.cfg c) (fun st' k'=>aK T C F n c st' k') m st' k
 | .exit id=>k (.exit id) st'
 | .ret=>k .ret st'
theorem wH (y z:Code) (st:St) (k:Ex→St→Option α):aK T C F n (.seq y z) st k=aK T C F n y st (UO T C F n z k):=rfl
theorem Dp (id:Nat) (c:Code) (st:St) (k:Ex→St→Option α):aK T C F n (.block id c) st k=aK T C F n c st (GU id k):=rfl
theorem Bg (c:Code) (m:Nat) (st:St) (k:Ex→St→Option α):mD (aC F.cfg c) (fun st' k'=>aK T C F n c st' k') (m+1) st k=aK T C F n c st (LU T C F n c m k):=rfl
structure Ql (P:Program) (m:Nat) (KP:(Ex→St→Option α)→Prop) (rd:ι→Option Nat) (Fit:ι→Oper→Prop) (I:ι→α→St→Act→World→Prop):Prop where
 reg:∀ (i:ι) (id:Nat) (ops:Array Oper) (draw:Bool) (st:St) (a:Act) (w:World) (k:Ex→St→Option α) (x:α) (Q:Exit→Act→World→Prop),KP k→aK T C F n (.region id ops draw) st k=some x →
  iD T F.hides (.region id ops draw)=true→(∀ o∈opsOf (.region id ops draw),Fit i o)→I i x st a w →
  (∀ x' st' a' w',k .normal st'=some x'→I i x' st' a' w'→Q .normal a' w')→(Code.region id ops draw).wpIn (FW (rd i)) m P Q a w
 forget:∀ (i:ι) (x:α) (st:St) (a:Act) (w:World) (c:Code),I i x st a w→I i x (aC F.cfg c st) a w
 cond:∀ (i:ι) (x:α) (st:St) (a:Act) (w:World) (c:Operand) (b:Bool),I i x st a w→aU st.env c=.p (.bool b)→a.eval c=.bool b
 kseq:∀ (z:Code) (k:Ex→St→Option α),KP k→KP (UO T C F n z k)
 kblock:∀ (id:Nat) (k:Ex→St→Option α),KP k→KP (GU id k)
 kloop:∀ (c:Code) (j:Nat) (k:Ex→St→Option α),KP k→KP (LU T C F n c j k)
def UQ (ng:Bool) (P:Program) (m:Nat) (KP:(Ex→St→Option α)→Prop) (rd:ι→Option Nat) (Fit:ι→Oper→Prop) (I:ι→α→St→Act→World→Prop) (c:Code):Prop :=
 ∀ (i:ι) (st:St) (a:Act) (w:World) (k:Ex→St→Option α) (x:α) (Q:Exit→Act→World→Prop),KP k→aK T C F n c st k=some x→iD T F.hides c=true→(ng=true→iW c=true)→(∀ o∈opsOf c,Fit i o)→I i x st a w →
  (∀ ex x' st' a' w',k ex st'=some x'→I i x' st' a' w'→Q ex.ZN a' w')→c.wpIn (FW (rd i)) m P Q a w
variable {T C F n}
theorem jG {ng : Bool} {P : Program} {m : Nat} {KP : (Ex → St → Option α) → Prop} {rd : ι → Option Nat} {Fit : ι → Oper → Prop} {I : ι → α → St → Act → World → Prop} (S : Ql T C F n P m KP rd Fit I)
    (MZ:ng=false→∀ f ps y z,UQ T C F n ng P m KP rd Fit I y→UQ T C F n ng P m KP rd Fit I z→UQ T C F n ng P m KP rd Fit I (.rangeFunc f ps y z)):∀ c:Code,UQ T C F n ng P m KP rd Fit I c
  | .skip=>fun _ st a w _ x _ _ h _ _ _ i hQ=>wpIn_skip (hQ .normal x st a w h i)
  | .region id ops draw=>fun i st a w k x Q hk h hd _ hw hi hQ=>S.reg i id ops draw st a w k x Q hk h hd hw hi fun x' st' a' w' h1 h2=>hQ .normal x' st' a' w' h1 h2
  | .seq y z=>fun i st a w k x Q hk h hd ZO hw hi hQ=>by
   rw[wH]at h
   simp only[iD,Bool.and_eq_true]at hd
   have ZP:ng=true→iW y=true∧iW z=true:=fun e=>by have:=ZO e;simpa [iW] using this
   refine wpIn_seq (jG S MZ y i st a w _ x _ (S.kseq z k hk) h hd.1 (fun e=>(ZP e).1) (fun o ho=>hw o (by simp[opsOf,ho])) hi fun ex x' st' a' w' h1 i'=>?_)
   cases ex with
   | normal=>exact jG S MZ z i _ a' w' k x' Q hk h1 hd.2 (fun e=>(ZP e).2) (fun o ho=>hw o (by simp[opsOf,ho])) (S.forget _ _ _ _ _ _ i') hQ
   | exit id=>exact hQ (.exit id) x' st' a' w' h1 i'
   | ret=>exact hQ .ret x' st' a' w' h1 i'
  | .cond c y z=>fun i st a w k x Q hk h hd ZO hw hi hQ=>by
   simp only[aK]at h
   simp only[iD,Bool.and_eq_true]at hd
   have ZP:ng=true→iW y=true∧iW z=true:=fun e=>by have:=ZO e;simpa [iW] using this
   cases hv:Skm.aU st.env c with
   | p v =>
    cases v with
    | bool b =>
     have hc:=S.cond i x st a w c b hi hv
     rw[hv]at h
     simp only at h
     refine wpIn_cond hc ?_
     cases b with
     | true=>exact jG S MZ y i st a w k x Q hk h hd.1 (fun e=>(ZP e).1) (fun o ho=>hw o (by simp[opsOf,ho])) hi hQ
     | false=>exact jG S MZ z i st a w k x Q hk h hd.2 (fun e=>(ZP e).2) (fun o ho=>hw o (by simp[opsOf,ho])) hi hQ
    | _=>rw[hv]at h;simp at h
   | _=>rw[hv]at h;simp at h
  | .block id c=>fun i st a w k x Q hk h hd ZO hw hi hQ=>by
   rw[Dp]at h
   simp only[iD]at hd
   refine wpIn_block (jG S MZ c i st a w _ x _ (S.kblock id k hk) h hd (fun e=>by simpa [iW] using ZO e) (fun o ho=>hw o (by simpa [opsOf] using ho)) hi fun ex x' st' a' w' h1 i'=>?_)
   cases ex with
   | normal=>exact hQ .normal x' st' a' w' h1 i'
   | exit j =>
    simp only[Ex.ZN,Exit.inBlock]
    simp only[GU]at h1
    by_cases hj:j=id
    · rw[if_pos hj]
      have:(j==id)=true:=by simpa using hj
      simp only[this,cond_true]at h1
      exact hQ .normal x' st' a' w' h1 i'
    · rw[if_neg hj]
      have:(j==id)=false:=by simpa using hj
      simp only[this,cond_false]at h1
      exact hQ (.exit j) x' st' a' w' h1 i'
   | ret=>exact hQ .ret x' st' a' w' h1 i'
  | .loop c=>fun i st a w k x Q hk h hd ZO hw hi hQ=>by
   simp only[aK]at h
   simp only[iD]at hd
   refine wpIn_loop_rounds n ?_
   have key:∀ (j:Nat) (st:St) (a:Act) (w:World) (x:α),mD (Skm.aC F.cfg c) (fun st' k'=>aK T C F n c st' k') j st k=some x→I i x st a w→Code.roundsIn (FW (rd i)) m P c Q j a w:=by
    intro j
    induction j with
    | zero=>intro st a w x h;simp[mD]at h
    | succ j ih =>
     intro st a w x h hi
     rw[Bg]at h
     rw[roundsIn_succ]
     refine jG S MZ c i st a w _ x _ (S.kloop c j k hk) h hd (fun e=>by simpa [iW] using ZO e) (fun o ho=>hw o (by simpa [opsOf] using ho)) hi fun ex x' st' a' w' h1 i'=>?_
     cases ex with
     | normal =>
      simp only[LU,aH]at h1
      exact ih _ a' w' x' h1 (S.forget _ _ _ _ _ _ i')
     | exit id=>exact hQ (.exit id) x' st' a' w' h1 i'
     | ret=>exact hQ .ret x' st' a' w' h1 i'
   exact key n _ a w x h (S.forget _ _ _ _ _ _ hi)
  | .exit id=>fun _ st a w _ x _ _ h _ _ _ i hQ=>wpIn_exit (hQ (.exit id) x st a w h i)
  | .ret=>fun _ st a w _ x _ _ h _ _ _ i hQ=>wpIn_ret (hQ .ret x st a w h i)
  | .label _=>fun _ st a w _ x _ _ h _ _ _ i hQ=>wpIn_label (hQ .normal x st a w h i)
  | .rangeFunc f ps y z=>by
   cases hn:ng with
   | false=>exact hn▸MZ hn f ps y z (jG S MZ y) (jG S MZ z)
   | true=>exact fun _ st a w _ x _ _ _ _ ZO _ _ _=>by have:=ZO rfl;simp[iW]at this
  | .scope c=>fun i st a w k x Q hk h hd ZO hw hi hQ=>by
   have h:aK T C F n c st k=some x:=h
   simp only[iD]at hd
   refine UN (jG S MZ c i st a w k x _ hk h hd (fun e=>by simpa [iW] using ZO e) (fun o ho=>hw o (by simpa [opsOf] using ho)) hi fun ex x' st' a' w' h1 i'=>?_)
   cases ex with
   | normal=>exact hQ .normal x' st' a' w' h1 i'
   | exit j=>exact hQ (.exit j) x' st' a' w' h1 i'
   | ret=>exact hQ .ret x' st' a' w' h1 i'
  | .goto ..=>fun _ st a w _ x _ _ h _ _ _ i hQ=>by simp[aK]at h
  | .refuse ..=>fun _ st a w _ x _ _ h _ _ _ i hQ=>by simp[aK]at h
end
section
variable {P:Program} {T:Tab} {C:aF} {F:FI} {n m:Nat} {α:Type}
abbrev CxN (gl:Option (List (Nat × Obj))):={ cx:Cx // yG cx.hp0∧cx.w0.gl=gl }
theorem Ir (ok:bP P T) {gl:Option (List (Nat × Obj))} (hC:gX P T gl C) (vW:F.cfg.nvars≤ah) (x0:α):Ql T C F n P m (fun _:Ex→St→Option α=>True) (fun i:CxN gl=>i.1.rd) (fun i=>zM i.1) (fun i x st a w=>x=x0∧Inv i.1 st a w) where
 reg:=by
  intro i id ops draw st a w k x Q _ h hd hw ⟨hx,hi⟩ hQ
  have hw':∀ o∈ops.toList,zM i.1 o:=hw
  have hC:gX P T i.1.w0.gl C:=by rw[i.2.2];exact hC
  have fin:∀ st' a' w',(fC (settle F.cfg ops.toList st') fun st'=>k .normal st')=some x→Inv i.1 st' a' w'→Q .normal a' w':=by
   intro st' a' w' h1 i'
   rw[aH]at h1
   exact hQ x _ a' w' h1 ⟨hx,i'.settle vW _⟩
  simp only[aK]at h
  obtain⟨h,-⟩:=iy h
  cases draw with
  | false =>
   exact SA ok hC i.2.1 h hw' hi fin
  | true =>
   simp only[iD]at hd
   cases hh:bG F.hides id with
   | none=>rw[hh]at h;cases h
   | some hid =>
    rw[hh]at h hd
    simp only[Bool.and_eq_true]at hd
    simp only[aH]at h
    have i0:=hi.strike (present st.heap (yt ops.toList ops.toList))
    refine Sz ok hC hd.1 hd.2 h hw' i0 fun st' a' w' h1 i'=>?_
    obtain⟨st2,h2,i2,_⟩:=i'.tN (fun on xs he=>by
     have i0':=i0
     obtain⟨M,β,L,ds,r,e1,e2,e3,fx⟩:=i0'
     obtain⟨b0,g1,g2⟩:=e2 ah (Nat.le_refl _) _ he
     cases b0 with
     | box=>exact g2.elim
     | arr=>exact g2.elim
     | tb=>exact g2.elim
     | mp=>exact g2.elim
     | br=>exact g2.elim
     | log o ys=>cases (show o=on from g2);exact⟨ys,g1⟩) h1
    exact hQ x _ a' w' h2 ⟨hx,i2.settle vW _⟩
 forget:=fun i _ st a w c h=>⟨h.1,h.2.aC _ _⟩
 cond:=by
  intro i x st a w c b hi hv
  obtain⟨_,M,β,L,ds,r,_⟩:=hi
  have hc:=r.aU c
  rw[hv]at hc
  exact hc.zf
 kseq:=fun _ _ _=>trivial
 kblock:=fun _ _ _=>trivial
 kloop:=fun _ _ _ _=>trivial
end
end Go.Skm
namespace Go.Skm
open Go.RowKit
structure Turns (gl:Option (List (Nat × Obj))) (O:Nat→Prop) (W W':World):Prop where
 size:W.heap.size≤W'.heap.size
 keep:∀ b,b<W.heap.size→¬ O b→W'.heap[b]?=W.heap[b]?
 os:W'.os=W.os
 tape:W'.tape=W.tape
 output:W'.output=W.output
 drawn:gZ gl W.drawn W'.drawn
abbrev sG (gl:Option (List (Nat × Obj))) (W W':World):Prop:=Turns gl (fun _=>False) W W'
theorem Turns.trans {gl:Option (List (Nat × Obj))} {O O':Nat→Prop} {A B C:World} (h:Turns gl O A B) (k:Turns gl O' B C) (hO:∀ b,b<A.heap.size→O' b→O b):Turns gl O A C :=
 ⟨Nat.le_trans h.size k.size,fun b hb ho=>by rw[k.keep b (by have:=h.size;omega) fun h'=>ho (hO b hb h'),h.keep b hb ho],k.os.trans h.os,k.tape.trans h.tape,k.output.trans h.output,h.drawn.trans k.drawn⟩
theorem sG.alloc {gl:Option (List (Nat × Obj))} (W:World) (o:Obj):sG gl W (W.alloc o) :=
 ⟨by simp,fun b hb _=>Below.heap_alloc W o b hb,rfl,rfl,rfl,.refl _ _⟩
theorem Turns.putObj {gl:Option (List (Nat × Obj))} (W:World) (l:Nat) (o:Obj):Turns gl (fun b=>b=l) W (W.putObj l o) :=
 ⟨by simp,fun b _ h=>World.putObj_heap_other h,rfl,rfl,rfl,.refl _ _⟩
def abK (P:Program) (gl:Option (List (Nat × Obj))) (l:Nat) (aG:Array Value) (W:World) (J:(Nat→Prop)→World→Prop) (Jx:World→Prop) (O:Nat→Prop):Prop :=
 YieldAt (FW none) 0 P l aG W fun e W'=>Turns gl O W W'∧((e=.returned (.bool true)∧∃ O',J O' W'∧∀ b,O' b→O b∨W.heap.size≤b)∨(e=.returned (.bool false)∧Jx W'))
def adg (P:Program) (gl:Option (List (Nat × Obj))) (g:Nat) (caps xs:List PV):Prop :=
 ∀ (W0:World) (M0:Nat→Prop) (l:Nat) (lb:Array Value) (J:List PV→(Nat→Prop)→World→Prop) (Jx:World→Prop) (O0:Nat→Prop),
  (∀ p∈gl.getD [],M0 p.1∧W0.heap[p.1]?=some p.2)→lb.size=caps.length→(∀ i c,caps[i]?=some c→VR W0 M0 c (lb.getD i undef))→(∀ b,M0 b→b<W0.heap.size∧¬ O0 b) →
  (∀ r O W W',J r O W→sG gl W W'→J r O W')→(∀ W W',Jx W→sG gl W W'→Jx W')→(∀ r O W,J r O W→∀ b,O b→b<W.heap.size) →
  (∀ vs r O W (M:Nat→Prop) aG,J (.agg vs::r) O W→W0.heap.size≤W.heap.size→(∀ b,M b→b<W.heap.size∧¬ O b∧(M0 b∨W0.heap.size≤b))→aG.size=vs.length→(∀ i c,vs[i]?=some c→VR W M c (aG.getD i undef)) →
    abK P gl l aG W (J r) Jx O) →
  J xs O0 W0→Calls P g (#[.func (.yield l) #[] #[]]++lb) W0 fun e W'=>(∃ v,e=.returned v)∧((∃ O,J [] O W')∨Jx W')
def SB (P:Program) (T:Tab) (gl:Option (List (Nat × Obj))) (C:aF):Prop :=
 ∀ g fi caps r,bG T.funcs g=some fi→jE fi caps.length=true→C g (.sJ::caps.map .p) [.log true []]=some r→P.funcs[g]?=some fi.fn∧adg P gl g caps (tu r.2)
section
variable {w0 w0':Base} {Pr Pr' M0 M0' M M':Nat→Prop} {β β':Nat→Option (Nat × Nat)} {st st':St} {a a':Act} {w w':World}
theorem Rel.to (r : Rel w0 Pr M0 M β st a w) (hgl : w0'.gl = w0.gl) (hM : ∀ b,M b → M' b ∧ w'.heap[b]? = w.heap[b]?)
    (hB:∀ s b o,(look st.heap s).isSome=true→β s=some (b,o)→w'.heap[b]?=w.heap[b]?∧¬ M' b∧b<w'.heap.size∧((w0'.heap.size≤b∨Pr' b)∧(w0'.n0≤b∨ah≤s)))
    (fJ:∀ b,M' b→b<w'.heap.size) (jX:∀ b,M' b→M0' b∨(w0'.n0≤b∧(w0'.heap.size≤b∨Pr' b))) (oJ:∀ b,M0' b→M' b)
    (keep:∀ b,b<w0'.heap.size→¬ Pr' b→w'.heap[b]?=w0'.heap[b]?) (room:∀ b n,b<w0'.n0→Pr' b→Room w0'.wd b n→Room w' b n)
    (size:w0'.heap.size≤w'.heap.size) (os:w'.os=w0'.os) (tape:w'.tape=w0'.tape) (output:w'.output=w0'.output):Rel w0' Pr' M0' M' β st a w':=by
  have key:∀ (v:AV) (c:Value),AR w M β (look st.heap) v c→AR w' M' β (look st.heap) v c:=fun v c h =>
   h.mono hM fun s blk _ hl=>⟨blk,hl,Like.refl _,rfl,fun b o n h3 hr=>hr.of_block (hB s b o (by rw[hl];rfl) h3).1⟩
  refine⟨r.lV,fun t v h=>key _ _ (r.env t v h),?_,fun s b o hs hb=>(hB s b o hs hb).2,r.inj,fJ,jX,oJ,keep,room,size,os,tape,output,fun p hp=>by rw[hgl]at hp;exact⟨(hM _ (r.lK p hp).1).1,(hM _ (r.lK p hp).1).2.trans (r.lK p hp).2⟩⟩
  intro s blk hl
  have hi:(look st.heap s).isSome=true:=by rw[hl];rfl
  cases r.heap s blk hl with
  | box cs b o C e fr g1 g2 g3 g4 g5 g6=>exact .box _ b o C e fr g1 (by rw[(hB s b o hi g1).1];exact g2) g3 g4 g5 fun j c hc=>key _ _ (g6 j c hc)
  | fM a ks=>exact .fM a ks
  | log on ys=>exact .log on ys
  | arr a ks xs b o C e fr g1 g2 g3 g4 g5 g6=>exact .arr a ks xs b o C e fr g1 (by rw[(hB s b o hi g1).1];exact g2) g3 g4 g5 fun i x j c hx hc=>(g6 i x j c hx hc).mono hM
  | tb t c0 c1 b C fr g1 g2 g3 g4 g5 g6 g7 g8=>exact .tb t c0 c1 b C fr g1 (by rw[(hB s b 0 hi g1).1];exact g2) g3 g4 g5 g6 (key _ _ g7) (key _ _ g8)
  | mp t es b o E k g1 g2 g3 g4=>exact .mp t es b o E k g1 (by rw[(hB s b o hi g1).1];exact g2) g3 fun i p e hi he=>⟨(g4 i p e hi he).1.mono hM,(g4 i p e hi he).2.mono hM⟩
  | DR e=>exact .DR e
  | br e xs b C fr g1 g2 g3 g4 g5 g6=>exact .br e xs b C fr g1 (by rw[(hB s b 0 hi g1).1];exact g2) g3 g4 g5 g6
theorem Rel.slots (r:Rel w0 Pr M0 M β st a w) {env:List AV} (hs:env.length≤a'.tmps.size) (h:∀ t v,env[t]?=some v→AR w M β (look st.heap) v (a'.tmps.getD t undef)):Rel w0 Pr M0 M β { st with env:=env } a' w :=
 ⟨hs,h,r.heap,r.own,r.inj,r.fJ,r.jX,r.oJ,r.keep,r.room,r.size,r.os,r.tape,r.output,r.lK⟩
theorem Rel.turns (r:Rel w0 Pr M0 M β st a w) (hd:gZ w0.gl w0.drawn w.drawn):Turns w0.gl Pr w0.wd w:=⟨r.size,r.keep,r.os,r.tape,r.output,hd⟩
end
theorem Iu {ws:List Nat}:∀ (l:List AV) (k i:Nat) (v:AV),(tZ ws k l)[i]?=some v→v=.undef∨(l[i]?=some v∧(k+i) ∉ ws)
 | [],k,i,v,h=>by simp[tZ]at h
 | u::r,k,0,v,h=>by
  simp only[tZ,List.getElem?_cons_zero,Option.some.injEq]at h
  cases hm:dZ k ws with
  | true=>rw[hm]at h;left;simpa using h.symm
  | false=>rw[hm]at h;right;exact⟨by simpa using h,fun hk=>by rw[jP.2 (show k∈ws from hk)]at hm;cases hm⟩
 | u::r,k,i+1,v,h=>by
  simp only[tZ,List.getElem?_cons_succ]at h
  have:=Iu r (k+1) i v h
  rw[show k+1+i=k+(i+1) from by omega]at this
  simpa using this
theorem Bh {ws:List Nat}:∀ (l:List AV) (k:Nat),(tZ ws k l).length=l.length
 | [],_=>rfl
 | u::r,k=>by simp[tZ,Bh r]
theorem XL {w:World} {M:Nat→Prop} {s:Bool × List Kd} {v:PV} {c:Value} (hk:aA s.1 s.2 v=true) (h:VR w M v c):VR w M (Ui s v) c:=by
 obtain⟨a,ks⟩:=s
 cases a with
 | true=>exact h.written hk
 | false =>
  match ks,hk with
  | [k],hk=>exact xg (by simpa [aA] using hk) h
  | [],hk=>simp[aA]at hk
  | _::_::_,hk=>simp[aA]at hk
theorem Oq:∀ {ss:List (Bool × List Kd)} {ps:List Nat} {vs:List PV} {i:Nat} {env env':List AV},zH ss ps (.agg vs) i env=some env'→vs.length=i+ps.length
 | [],[],vs,i,env,env',hs=>by
  simp only[zH]at hs
  cases hb:Nat.beq (PV.agg vs).cells.length i with
  | false=>rw[hb]at hs;cases hs
  | true=>exact Nat.eq_of_beq_eq_true hb
 | s::ss,t::ps,vs,i,env,env',hs=>by
  simp only[zH]at hs
  cases hb:aA s.1 s.2 ((PV.agg vs).cell i) with
  | false=>rw[hb]at hs;cases hs
  | true =>
   rw[hb]at hs
   have:=Oq hs
   simp only[List.length_cons];omega
 | [],_::_,vs,i,env,env',hs=>by simp[zH]at hs
 | _::_,[],vs,i,env,env',hs=>by simp[zH]at hs
theorem SC {w : World} {M : Nat → Prop} {β : Nat → Option (Nat × Nat)} {h : Nat → Option aI} : ∀ {ss : List (Bool × List Kd)} {ps : List Nat} {vs : List PV} {i : Nat} {env env' : List AV} {cs : List Value} {tmps : Array Value},
    zH ss ps (.agg vs) i env=some env'→cs.length=vs.length-i→i≤vs.length→(∀ j c,vs[i+j]?=some c→VR w M c (cs.getD j undef)) →
    env.length≤tmps.size→(∀ t v,env[t]?=some v→AR w M β h v (tmps.getD t undef)) →
    cs.length=ps.length∧env'.length=env.length∧(((ps.zip cs).foldl (fun tmps (t,a)=>tmps.setIfInBounds t a) tmps).size=tmps.size) ∧
    (∀ t v,env'[t]?=some v→AR w M β h v (((ps.zip cs).foldl (fun tmps (t,a)=>tmps.setIfInBounds t a) tmps).getD t undef)) ∧
    (∀ t,t ∉ ps→((ps.zip cs).foldl (fun tmps (t,a)=>tmps.setIfInBounds t a) tmps).getD t undef=tmps.getD t undef)
  | [],[],vs,i,env,env',cs,tmps,hs,hc,hi,hv,hl,he=>by
   simp only[zH]at hs
   cases hb:Nat.beq (PV.agg vs).cells.length i with
   | false=>rw[hb]at hs;cases hs
   | true =>
    rw[hb]at hs;cases hs
    have:vs.length=i:=Nat.eq_of_beq_eq_true hb
    have hc0:cs=[]:=List.length_eq_zero_iff.1 (by omega)
    subst hc0
    exact⟨rfl,rfl,rfl,he,fun _ _=>rfl⟩
  | s::ss,t::ps,vs,i,env,env',cs,tmps,hs,hc,hi,hv,hl,he=>by
   simp only[zH]at hs
   cases hb:aA s.1 s.2 ((PV.agg vs).cell i) with
   | false=>rw[hb]at hs;cases hs
   | true =>
    rw[hb]at hs
    simp only[cond_true]at hs
    have hlt:i<vs.length:=by have:=Oq hs;omega
    match cs,hc with
     | [],hc=>simp at hc;omega
     | c::cs,hc =>
      have hv0:=hv 0 vs[i] (by simp)
      simp only[List.getD_eq_getElem?_getD,List.getElem?_cons_zero,Option.getD_some]at hv0
      have hcell:(PV.agg vs).cell i=vs[i]:=by simp[PV.cell,List.getD,hlt]
      rw[hcell]at hs hb
      have hnew:AR w M β h (.p (Ui s vs[i])) c:=.p _ _ (XL hb hv0)
      obtain⟨g1,g2,g3,g4,g5⟩:=SC (w:=w) (M:=M) (β:=β) (h:=h) (cs:=cs) (tmps:=tmps.setIfInBounds t c) hs (by simp at hc;omega) (by omega) (fun j d hd=>by
       have:=hv (j+1) d (by rw[← hd];congr 1;omega)
       simpa using this) (by simpa using hl) (fun u v hu=>by
       by_cases e:u=t
       · subst e
         have hlt':u<env.length:=by have:=(List.getElem?_eq_some_iff.1 hu).1;simpa using this
         rw[List.getElem?_set_self hlt']at hu
         cases hu
         have:(tmps.setIfInBounds u c).getD u undef=c:=by
          have:u<tmps.size:=by omega
          simp[this]
         rw[this];exact hnew
       · rw[List.getElem?_set_ne (Ne.symm e)]at hu
         have:(tmps.setIfInBounds t c).getD u undef=tmps.getD u undef:=by
          simp[Array.getD_eq_getD_getElem?,Array.getElem?_setIfInBounds_ne (Ne.symm e)]
         rw[this];exact he u v hu)
      refine⟨by simp[g1],by simpa using g2,by simpa using g3,g4,fun u hu=>?_⟩
      simp only[List.mem_cons,not_or]at hu
      refine(g5 u hu.2).trans ?_
      simp[Array.getD_eq_getD_getElem?,Array.getElem?_setIfInBounds_ne (Ne.symm hu.1)]
  | [],_::_,vs,i,env,env',cs,tmps,hs,hc,hi,hv,hl,he=>by simp[zH]at hs
  | _::_,[],vs,i,env,env',cs,tmps,hs,hc,hi,hv,hl,he=>by simp[zH]at hs
end Go.Skm
namespace Go.Skm
open Go.RowKit
section
variable {w0:Base} {Pr M0 M:Nat→Prop} {β:Nat→Option (Nat × Nat)} {st:St} {a:Act} {w:World}
theorem FC (r:Rel w0 Pr M0 M β st a w) (F:Aw) (c:Code):Rel w0 Pr M0 M β (aC F c st) a w∧iM st.heap (aC F c st).heap∧∀ b,lC β (aC F c st).heap b→lC β st.heap b:=by
 unfold Skm.aC
 split
 · exact⟨r,fun s _ b h=>⟨b,h,Like.refl _⟩,fun _ h=>h⟩
 · split
   · exact⟨r,fun s _ b h=>⟨b,h,Like.refl _⟩,fun _ h=>h⟩
   · rename_i live sites _
     have r1:=r.VL (env:=qW live 0 st.env) (vN _ _) (fun t v h=>Bf _ _ _ _ h)
     exact⟨r1.strike _ (fun b h=>h) fun b h=>.inl h,wC _ _,fun b h=>Fz (st:={ st with env:=qW live 0 st.env }) h⟩
end
def Bj (cx:Cx) (a':Act) (Ln:List (Nat × Obj)) (LV:List Nat) (l:Nat) (W1:World) (st:St) (O:Nat→Prop) (W:World) (lp:Loop):Prop :=
 ∃ M β,Rel cx.w0 cx.Pr cx.M0 M β st a' W∧(∀ s,ah≤s→β s=cx.Qd s)∧iM cx.hp0 st.heap∧gZ cx.w0.gl cx.w0.drawn W.drawn∧Fix cx M β st.heap a' W Ln LV ∧
  (W.heap[l]?=some (.loop lp)∧¬ M l∧¬ lC β st.heap l∧(∀ p∈Ln,p.1≠l)∧cx.w0.heap.size≤l∧W1.heap.size≤W.heap.size)∧(∀ b,O b↔(lC β st.heap b∨b=l))
section
variable {cx:Cx} {a':Act} {Ln:List (Nat × Obj)} {LV:List Nat} {l:Nat} {W1 W W':World} {st:St} {O:Nat→Prop} {lp:Loop}
theorem Rel.oh {w0:Base} {Pr M0 M:Nat→Prop} {β:Nat→Option (Nat × Nat)} {a:Act} {w:World} (r:Rel w0 Pr M0 M β st a w) {b:Nat} (h:lC β st.heap b):¬ M b∧b<w.heap.size∧(w0.heap.size≤b∨Pr b):=by
 obtain⟨s,o,hs,hb⟩:=h
 obtain⟨g1,g2,g3,_⟩:=r.own s b o hs hb
 exact⟨g1,g2,g3⟩
theorem Bj.lt (i:Bj cx a' Ln LV l W1 st O W lp):∀ b,O b→b<W.heap.size:=by
 obtain⟨M,β,r,e1,e2,e3,fx,⟨h1,h2,h3,h4,h5,h6⟩,hO⟩:=i
 intro b hb
 rcases(hO b).1 hb with h | rfl
 · exact(r.oh h).2.1
 · exact(Array.getElem?_eq_some_iff.1 h1).1
theorem Bj.grows (i:Bj cx a' Ln LV l W1 st O W lp) (g:sG cx.w0.gl W W'):Bj cx a' Ln LV l W1 st O W' lp:=by
 obtain⟨M,β,r,e1,e2,e3,fx,⟨h1,h2,h3,h4,h5,h6⟩,hO⟩:=i
 have hk:∀ b,b<W.heap.size→W'.heap[b]?=W.heap[b]?:=fun b hb=>g.keep b hb fun h=>h
 have hl:l<W.heap.size:=(Array.getElem?_eq_some_iff.1 h1).1
 have hgs:=g.size
 have hrs:=r.size
 refine⟨M,β,r.to rfl (fun b hb=>⟨hb,hk b (r.fJ b hb)⟩) (fun s b o hs hb=>?_) (fun b hb=>Nat.lt_of_lt_of_le (r.fJ b hb) hgs) r.jX r.oJ (fun b hb hp=>?_) (fun b n hb hp hr=>?_) (Nat.le_trans r.size hgs) (g.os.trans r.os) (g.tape.trans r.tape) (g.output.trans r.output),
  e1,e2,e3.trans g.drawn,fx.less (fun p hp=>hk p.1 (Array.getElem?_eq_some_iff.1 (fx.lies p hp).1).1) fun _ h=>h,⟨(hk l hl).trans h1,h2,h3,h4,h5,Nat.le_trans h6 hgs⟩,hO⟩
 · obtain⟨g1,g2,g3⟩:=r.own s b o hs hb
   exact⟨hk b g2,g1,Nat.lt_of_lt_of_le g2 hgs,g3⟩
 · rw[hk b (by omega)];exact r.keep b hb hp
 · exact(r.room b n hb hp hr).of_block (hk b (by have:=cx.w0.le';omega))
theorem Bj.aC (i:Bj cx a' Ln LV l W1 st O W lp) (F:Aw) (c:Code):∃ O',Bj cx a' Ln LV l W1 (Skm.aC F c st) O' W lp∧∀ b,O' b→O b:=by
 obtain⟨M,β,r,e1,e2,e3,fx,⟨h1,h2,h3,h4,h5,h6⟩,hO⟩:=i
 obtain⟨r',a2,ho⟩:=FC r F c
 exact⟨fun b=>lC β (Skm.aC F c st).heap b∨b=l,⟨M,β,r',e1,e2.trans a2,e3,fx.less (fun _ _=>rfl) ho,⟨h1,h2,fun h=>h3 (ho l h),h4,h5,h6⟩,fun b=>Iff.rfl⟩,fun b hb=>(hO b).2 (hb.imp (ho b) id)⟩
theorem Bj.close (i:Bj cx a' Ln LV l W1 st O W lp) (o:Obj):Inv cx st a' (W.putObj l o):=by
 obtain⟨M,β,r,e1,e2,e3,fx,⟨h1,h2,h3,h4,h5,h6⟩,hO⟩:=i
 have hk:∀ b,b≠l→(W.putObj l o).heap[b]?=W.heap[b]?:=fun b hb=>World.putObj_heap_other hb
 have hsz:(W.putObj l o).heap.size=W.heap.size:=World.putObj_size
 have hrs:=r.size
 refine⟨M,β,Ln,LV,r.to rfl (fun b hb=>⟨hb,hk b fun e=>h2 (e▸hb)⟩) (fun s b o' hs hb=>?_) (fun b hb=>by rw[hsz];exact r.fJ b hb) r.jX r.oJ (fun b hb hp=>?_) (fun b n hb hp hr=>?_) (by rw[hsz];exact r.size) r.os r.tape r.output,
  e1,e2,e3,fx.less (fun p hp=>hk p.1 (h4 p hp)) fun _ h=>h⟩
 · obtain⟨g1,g2,g3⟩:=r.own s b o' hs hb
   exact⟨hk b fun e=>h3 (e▸⟨s,o',hs,hb⟩),g1,by rw[hsz];exact g2,g3⟩
 · rw[hk b (by omega)];exact r.keep b hb hp
 · exact(r.room b n hb hp hr).of_block (hk b (by have:=cx.w0.le';omega))
structure abL (cx Jd:Cx) (M:Nat→Prop) (a':Act) (Ln:List (Nat × Obj)) (ws:List Nat) (l:Nat) (W:World) (O:Nat→Prop):Prop where
 n0:Jd.w0.n0=cx.w0.n0
 gl:Jd.w0.gl=cx.w0.gl
 turns:Turns cx.w0.gl O W Jd.w0.wd
 pr:∀ b,Jd.Pr b→O b∨W.heap.size≤b
 jX:∀ b,Jd.M0 b→cx.M0 b∨(cx.w0.n0≤b∧(cx.w0.heap.size≤b∨cx.Pr b))
 room:∀ b n,b<cx.w0.n0→O b→Room W b n→Room Jd.w0.wd b n
 oJ:∀ b,M b→Jd.M0 b
 Qd:Jd.Qd=cx.Qd
 hp0:Jd.hp0=cx.hp0
 wr:Jd.Wr=fun t=>t∈ws
 size:Jd.t0.size=a'.tmps.size
 t0:∀ t,t ∉ ws→Jd.t0.getD t undef=a'.tmps.getD t undef
 L0:∀ p∈Ln,p∈Jd.L0
theorem Bj.round {M : Nat → Prop} {β : Nat → Option (Nat × Nat)} (r : Rel cx.w0 cx.Pr cx.M0 M β st a' W) (fx : Fix cx M β st.heap a' W Ln LV) (hcd : gZ cx.w0.gl cx.w0.drawn W.drawn) (h4 : ∀ p ∈ Ln,p.1 ≠ l) (h5 : cx.w0.heap.size ≤ l) (h6 : W1.heap.size ≤ W.heap.size)
    (hO:∀ b,O b↔(lC β st.heap b∨b=l)) {Jd:Cx} {ws:List Nat} (sb:abL cx Jd M a' Ln ws l W O) {lb:Obj} (hlb:(l,lb)∈Jd.L0) {st3:St} {a3:Act} {W3:World} (i:Inv Jd st3 a3 W3) (lp':Loop) :
    W3.heap[l]?=some lb∧∃ O',Bj cx a' Ln LV l W1 (back ws st3) O' (W3.putObj l (.loop lp')) lp'∧(∀ b,O' b→O b∨W.heap.size≤b)∧Turns cx.w0.gl O W (W3.putObj l (.loop lp')):=by
  obtain⟨M3,β3,L3,ds3,r3,i1,i2,i3,f3⟩:=i
  obtain⟨k1,k2,k3⟩:=f3.lies _ (f3.sub _ hlb)
  have hl3:l<W3.heap.size:=(Array.getElem?_eq_some_iff.1 k1).1
  have hk:∀ b,b≠l→(W3.putObj l (.loop lp')).heap[b]?=W3.heap[b]?:=fun b hb=>World.putObj_heap_other hb
  have hsz:(W3.putObj l (.loop lp')).heap.size=W3.heap.size:=World.putObj_size
  have hrs:=r.size
  have hts:=sb.turns.size
  have hr3:=r3.size
  have amH:W.heap.size≤Jd.w0.heap.size:=hts
  have ht3:Turns cx.w0.gl O W W3:=sb.turns.trans (sb.gl▸r3.turns i3) fun b hb hp=>by
   rcases sb.pr b hp with h | h
   · exact h
   · omega
  have htu:Turns cx.w0.gl O W (W3.putObj l (.loop lp')):=ht3.trans (Turns.putObj W3 l _) fun b _ hb=>(hO b).2 (.inr hb)
  have hown:∀ b,(Jd.w0.heap.size≤b∨Jd.Pr b)→O b∨W.heap.size≤b:=fun b h=>by
   rcases h with h | h
   · right;omega
   · exact sb.pr b h
  have hO':∀ b,O b→cx.w0.heap.size≤b∨cx.Pr b:=fun b h=>by
   rcases(hO b).1 h with h | rfl
   · exact(r.oh h).2.2
   · exact .inl h5
  have hup:∀ b,(Jd.w0.heap.size≤b∨Jd.Pr b)→cx.w0.heap.size≤b∨cx.Pr b:=fun b h=>by
   rcases hown b h with h | h
   · exact hO' b h
   · left;omega
  have rr:Rel cx.w0 cx.Pr cx.M0 M3 β3 st3 a3 (W3.putObj l (.loop lp')):=by
   refine r3.to sb.gl.symm (fun b hb=>⟨hb,hk b fun e=>k3 (e▸hb)⟩) (fun s b o hs hb=>?_) (fun b hb=>by rw[hsz];exact r3.fJ b hb) (fun b hb=>?_) (fun b hb=>r3.oJ b (sb.oJ b (r.oJ b hb))) (fun b hb hp=>?_) (fun b n hb hp hr=>?_) (by rw[hsz];omega)
    (ht3.os.trans r.os) (ht3.tape.trans r.tape) (ht3.output.trans r.output)
   · obtain⟨g1,g2,g3,g4⟩:=r3.own s b o hs hb
     exact⟨hk b fun e=>k2 (e▸⟨s,o,hs,hb⟩),g1,by rw[hsz];exact g2,hup b g3,by rw[← sb.n0];exact g4⟩
   · rcases r3.jX b hb with h | ⟨h,h'⟩
     · exact sb.jX b h
     · exact .inr ⟨by rw[← sb.n0];exact h,hup b h'⟩
   · have hno : ¬ O b := fun h => by
       rcases hO' b h with h | h
       · omega
       · exact hp h
     rw[hk b (by omega),ht3.keep b (by omega) hno]
     exact r.keep b hb hp
   · have h0:=r.room b n hb hp hr
     have hle:=cx.w0.le'
     have h1:Room Jd.w0.wd b n:=by
      by_cases ho:O b
      · exact sb.room b n hb ho h0
      · exact h0.of_block (sb.turns.keep b (by omega) ho)
     have h2:Room W3 b n:=by
      by_cases hp':Jd.Pr b
      · exact r3.room b n (by rw[sb.n0];exact hb) hp' h1
      · exact h1.of_block (r3.keep b (by omega) hp')
     exact h2.of_block (hk b (by omega))
  have hsize:a3.tmps.size=a'.tmps.size:=f3.size.trans sb.size
  have rs:=rr.slots (a':=a') (env:=tZ ws 0 st3.env) (by rw[Bh,← hsize];exact rr.lV) fun t v hv=>by
   rcases Iu _ _ _ _ hv with rfl | ⟨h1,h2⟩
   · exact .undef _
   · have h2:t ∉ ws:=by simpa using h2
     have e:a3.tmps.getD t undef=a'.tmps.getD t undef:=(f3.tmps t (by rw[sb.wr];exact h2)).trans (sb.t0 t h2)
     rw[← e];exact rr.env t v h1
  refine⟨k1,fun b=>lC β3 st3.heap b∨b=l,⟨M3,β3,rs,fun s hs=>(i1 s hs).trans (by rw[sb.Qd]),by rw[← sb.hp0];exact i2,hcd.trans ht3.drawn,⟨fun p hp=>?_,fx.sub,fx.marks,fx.nodup,fx.mark,fx.rd,fx.size,fx.tmps,fx.one,fx.yl,fx.nml⟩,
   ⟨World.putObj_heap_same hl3,k3,k2,h4,h5,Nat.le_trans h6 (by rw[hsz];omega)⟩,fun b=>Iff.rfl⟩,fun b hb=>?_,htu⟩
  · obtain⟨g1,g2,g3⟩:=f3.lies p (f3.sub p (sb.L0 p hp))
    exact⟨(hk p.1 (h4 p hp)).trans g1,g2,g3⟩
  · rcases hb with h | rfl
    · exact hown b (r3.oh h).2.2
    · exact .inl ((hO _).2 (.inr rfl))
end
end Go.Skm
namespace Go.Skm
open Go.RowKit
section
variable {T:Tab} {C:aF} {F:FI} {n:Nat} {α:Type}
theorem Qm:∀ c:Code,kQ c=true→∀ (st:St) (k k':Ex→St→Option α),k .normal=k' .normal→aK T C F n c st k=aK T C F n c st k'
 | .skip,_,st,k,k',h=>by simp only[aK,h]
 | .region id ops draw,_,st,k,k',h=>by cases draw<;>simp only[aK,h]
 | .seq y z,hp,st,k,k',h=>by
  simp only[kQ,Bool.and_eq_true]at hp
  rw[wH,wH]
  refine Qm y hp.1 st _ _ ?_
  funext st'
  exact Qm z hp.2 _ k k' h
 | .cond ..,hp,_,_,_,_ | .block ..,hp,_,_,_,_ | .loop ..,hp,_,_,_,_ | .exit ..,hp,_,_,_,_ | .ret,hp,_,_,_,_ | .label ..,hp,_,_,_,_
 | .rangeFunc ..,hp,_,_,_,_ | .scope ..,hp,_,_,_,_ | .goto ..,hp,_,_,_,_ | .refuse ..,hp,_,_,_,_=>by simp[kQ]at hp
def vO (T:Tab) (C:aF) (F:FI) (n:Nat) (y z:Code) (st:St) (k:Ex→St→Option α):Option α:=aK T C F n y st (UO T C F n z k)
def jW (ps:Array Tmp) (y z:Code):List Nat:=ps.toList++(fO y++fO z)
theorem ru {f : Operand} {ps : Array Tmp} {y z : Code} {st : St} {k : Ex → St → Option α} {x : α} (h : aK T C F n (.rangeFunc f ps y z) st k = some x) :
    ∃ g caps fi r,aU st.env f=.p (.fn g caps)∧bG T.funcs g=some fi∧kQ y=true∧jE fi caps.length=true∧C g (.sJ::caps.map .p) [.log true []]=some r ∧
     jg (aC F.cfg (.seq y z)) fi.cfg.yk ps.toList (jW ps y z) (vO T C F n y z) (tu r.2) (aC F.cfg (.seq y z) st) k=some x:=by
  simp only[aK]at h
  obtain⟨h,-⟩:=iy h
  split at h
  · rename_i g caps hv
    split at h
    · rename_i fi hf hp
      cases hb:jE fi caps.length with
      | false=>rw[hb]at h;cases h
      | true =>
       rw[hb]at h
       simp only[cond_true]at h
       split at h
       · rename_i r hr
         exact⟨g,caps,fi,r,hv,hf,hp,hb,hr,h⟩
       · cases h
    · cases h
  · cases h
theorem XM {ps:Array Tmp} {cs:Array Value} {t:Array Value}:(ps.zip cs).foldl (fun tmps (t,a)=>tmps.setIfInBounds t a) t=(ps.toList.zip cs.toList).foldl (fun tmps (t,a)=>tmps.setIfInBounds t a) t:=by
 rw[← Array.foldl_toList,Array.toList_zip]
end
section
variable {cx:Cx} {a':Act} {Ln:List (Nat × Obj)} {LV:List Nat} {l:Nat} {W1 W W':World} {st:St} {O:Nat→Prop} {lp:Loop} {P:Program}
def cx1 (cx:Cx) (le:cx.w0.n0≤W.heap.size) (O M1:Nat→Prop) (ws:List Nat) (tmps:Array Value) (l:Nat) (L0:List (Nat × Obj)):Cx :=
 { w0:=⟨W,cx.w0.n0,le,cx.w0.gl⟩,Pr:=O,M0:=M1,Qd:=cx.Qd,hp0:=cx.hp0,Wr:=fun t=>t∈ws,t0:=tmps,rd:=some l,L0:=L0,nm:=cx.nm }
theorem Inv.busy {zN : Cx} {st1 : St} {a1 : Act} {w1 : World} {lo : Obj} (i : Inv zN st1 a1 w1) (hl : (l,lo) ∈ zN.L0) (ho : ∀ ds,lo ≠ .deferred ds) (hrd : zN.rd = some l) (lp : Loop) (hLn : ∀ p ∈ Ln,p ∈ zN.L0 ∧ p.1 ≠ l) (ws : List Nat) (_hw : zN.Wr = fun t => t ∈ ws) (hpr : zN.Pr l) (hlt : l < zN.w0.heap.size) :
    w1.heap[l]?=some lo∧∃ SE:Cx,Inv SE st1 a1 (w1.putObj l (.loop lp))∧SE.w0.n0=zN.w0.n0∧SE.w0.gl=zN.w0.gl∧SE.w0.wd=w1.putObj l (.loop lp)∧Turns zN.w0.gl zN.Pr zN.w0.wd SE.w0.wd∧(∀ b,SE.Pr b→zN.w0.heap.size≤b∨zN.Pr b)∧(∀ b,SE.M0 b→zN.M0 b∨(zN.w0.n0≤b∧(zN.w0.heap.size≤b∨zN.Pr b))) ∧
     (∀ b n,b<zN.w0.n0→zN.Pr b→b≠l→Room zN.w0.wd b n→Room SE.w0.wd b n)∧(∀ b,zN.M0 b→SE.M0 b)∧SE.Qd=zN.Qd∧SE.hp0=zN.hp0∧SE.Wr=zN.Wr∧SE.t0=zN.t0∧SE.rd=some l∧(l,Obj.loop lp)∈SE.L0∧(∀ p∈Ln,p∈SE.L0)∧(SE.Ys=fun _=>False):=by
  obtain⟨M,β,L,ds,r,i1,i2,i3,fx⟩:=i
  obtain⟨k1,k2,k3⟩:=fx.lies _ (fx.sub _ hl)
  refine⟨k1,?_⟩
  have hl1:l<w1.heap.size:=(Array.getElem?_eq_some_iff.1 k1).1
  have hk:∀ b,b≠l→(w1.putObj l (.loop lp)).heap[b]?=w1.heap[b]?:=fun b hb=>World.putObj_heap_other hb
  have hsz:(w1.putObj l (.loop lp)).heap.size=w1.heap.size:=World.putObj_size
  have hrs:=r.size
  have hn:=zN.w0.le'
  have ht:Turns zN.w0.gl zN.Pr zN.w0.wd (w1.putObj l (.loop lp)):=(r.turns i3).trans (Turns.putObj w1 l _) fun b _ hb=>by rw[show b=l from hb];exact hpr
  let L2:List (Nat × Obj):=(l,.loop lp)::L.filter fun p=>p.1 != l
  have hmem:∀ p,p∈L→p.1≠l→p∈L2:=fun p hp hne=>List.mem_cons_of_mem _ (List.mem_filter.2 ⟨hp,by simpa using hne⟩)
  refine⟨{ w0:=⟨w1.putObj l (.loop lp),zN.w0.n0,by rw[hsz];omega,zN.w0.gl⟩,Pr:=fun b=>lC β st1.heap b∨b=l,M0:=M,Qd:=zN.Qd,hp0:=zN.hp0,Wr:=zN.Wr,t0:=zN.t0,rd:=some l,L0:=L2,nm:=zN.nm },?_,rfl,rfl,rfl,ht,fun b hb=>?_,r.jX,fun b n hb hp hne hr=>(r.room b n hb hp hr).of_block (hk b hne),r.oJ,rfl,rfl,rfl,rfl,rfl,by simp[L2],fun p hp=>?_,rfl⟩
  · refine⟨M,β,L2,ds,r.to rfl (fun b hb=>⟨hb,hk b fun e=>k3 (e▸hb)⟩) (fun s b o hs hb=>?_) (fun b hb=>by rw[hsz];exact r.fJ b hb) (fun b hb=>.inl hb) (fun b hb=>hb) (fun _ _ _=>rfl) (fun _ _ _ _ h=>h) (Nat.le_refl _) rfl rfl rfl,i1,i2,.refl _ _,⟨fun p hp=>?_,fun p hp=>hp,fx.marks,fx.nodup,fun D hD=>?_,fun l' hl'=>?_,fx.size,fx.tmps,fx.one,fun _ h=>h.elim,by show zN.nm≤(w1.putObj l (.loop lp)).heap.size;rw[hsz];have:=fx.nml;omega⟩⟩
    · obtain⟨g1,g2,g3,g4⟩:=r.own s b o hs hb
      exact⟨hk b fun e=>k2 (e▸⟨s,o,hs,hb⟩),g1,by rw[hsz];exact g2,.inr (.inl ⟨s,o,hs,hb⟩),g4⟩
    · rcases List.mem_cons.1 hp with rfl | hp
      · exact⟨World.putObj_heap_same hl1,k2,k3⟩
      · obtain⟨hp1,hp2⟩:=List.mem_filter.1 hp
        obtain⟨g1,g2,g3⟩:=fx.lies p hp1
        exact⟨(hk p.1 (by simpa using hp2)).trans g1,g2,g3⟩
    · obtain⟨g1,g2⟩:=fx.mark D hD
      refine⟨hmem _ g1 fun e=>?_,g2⟩
      have e:D=l:=e
      have:=(fx.lies _ g1).1
      rw[e]at this
      rw[show w1.heap[l]?=some lo from k1]at this
      exact ho _ (by cases this;rfl)
    · cases hl'
      exact⟨lp,by simp[L2]⟩
  · rcases hb with h | rfl
    · exact(r.oh h).2.2
    · exact .inr hpr
  · obtain⟨h1,h2⟩:=hLn p hp
    exact hmem p (fx.sub p h1) h2
end
end Go.Skm
namespace Go.Skm
open Go.RowKit
section
variable {P:Program} {T:Tab} {C:aF} {F:FI} {n m:Nat} {α:Type} {cx:Cx} {st:St} {a:Act} {w:World}
theorem kZ:∀ {c:Code} {o:Oper} {d:Nat},o∈opsOf c→o.dst=some d→d∈fO c
 | .region id ops draw,o,d,ho,hd=>by
  simp only[fO,List.mem_filterMap]
  exact⟨o,ho,hd⟩
 | .seq a b,o,d,ho,hd=>by
  simp only[opsOf,List.mem_append]at ho
  simp only[fO,List.mem_append]
  exact ho.imp (fun h=>kZ h hd) fun h=>kZ h hd
 | .cond _ a b,o,d,ho,hd=>by
  simp only[opsOf,List.mem_append]at ho
  simp only[fO,List.mem_append]
  exact ho.imp (fun h=>kZ h hd) fun h=>kZ h hd
 | .block _ c,o,d,ho,hd=>by
  simp only[opsOf]at ho
  simp only[fO]
  exact kZ ho hd
 | .loop c,o,d,ho,hd=>by
  simp only[opsOf]at ho
  simp only[fO]
  exact kZ ho hd
 | .scope c,o,d,ho,hd=>by
  simp only[opsOf]at ho
  simp only[fO]
  exact kZ ho hd
 | .rangeFunc _ ps a b,o,d,ho,hd=>by
  simp only[opsOf,List.mem_append]at ho
  simp only[fO,List.mem_append]
  exact .inr (ho.imp (fun h=>kZ h hd) fun h=>kZ h hd)
 | .skip,o,d,ho,_ | .exit _,o,d,ho,_ | .ret,o,d,ho,_ | .label _,o,d,ho,_ | .goto ..,o,d,ho,_ | .refuse ..,o,d,ho,_=>by simp[opsOf]at ho
theorem UR {M : Nat → Prop} {β : Nat → Option (Nat × Nat)} {L : List (Nat × Obj)} {ds : List Nat} (r : Rel cx.w0 cx.Pr cx.M0 M β st a w) (i1 : ∀ s,ah ≤ s → β s = cx.Qd s) (i2 : iM cx.hp0 st.heap) (i3 : gZ cx.w0.gl cx.w0.drawn w.drawn) (fx : Fix cx M β st.heap a w L ds) (hnl : yG cx.hp0) (fn : FuncId) (ps : Array Tmp) (y z : Code) :
    ∃ (l:Nat) (mark:List Deferred) (W1:World) (dB:Nat) (Ln:List (Nat × Obj)) (LV:List Nat),(Instr.enterLoop fn a.tmps ps y z cx.rd).run P w=.ok (l,mark) W1∧sG cx.w0.gl w W1 ∧
     ∀ (F:Aw) (c:Code),∃ O,Bj cx { a with defers:=mark++a.defers } Ln LV l W1 (aC F c st) O W1 { state:=.ready,pending:=none,fn,tmps:=a.tmps,params:=ps,assign:=y,body:=z,defers:=dB }∧(∀ b,M b→¬ O b)∧∀ p∈Ln,p.1<W1.heap.size∧¬ M p.1:=by
  have hrs:=r.size
  have hn:=cx.w0.le'
  have fin : ∀ (W1 : World) (l : Nat) (mark : List Deferred) (Ln : List (Nat × Obj)) (LV : List Nat) (lp : Loop),sG cx.w0.gl w W1 → w.heap.size ≤ l → W1.heap[l]? = some (.loop lp) → (∀ p ∈ Ln,W1.heap[p.1]? = some p.2 ∧ p.1 ≠ l ∧ (p ∈ L ∨ w.heap.size ≤ p.1)) → (∀ p ∈ L,p ∈ Ln) →
      mark++a.defers=LV.map UG→LV.Nodup→(∀ D∈LV,(D,Obj.deferred (some []))∈Ln∧cx.nm≤D)→∀ (F:Aw) (c:Code),∃ O,Bj cx { a with defers:=mark++a.defers } Ln LV l W1 (aC F c st) O W1 lp∧(∀ b,M b→¬ O b)∧∀ p∈Ln,p.1<W1.heap.size∧¬ M p.1:=by
    intro W1 l mark Ln LV lp g hl hlp hLn hsub hm hnd hmk F c
    have hgs:=g.size
    have hk:∀ b,b<w.heap.size→W1.heap[b]?=w.heap[b]?:=fun b hb=>g.keep b hb fun h=>h
    have rr:Rel cx.w0 cx.Pr cx.M0 M β st a W1:=by
     refine r.to rfl (fun b hb=>⟨hb,hk b (r.fJ b hb)⟩) (fun s b o hs hb=>?_) (fun b hb=>Nat.lt_of_lt_of_le (r.fJ b hb) hgs) r.jX r.oJ (fun b hb hp=>?_) (fun b n hb hp hr=>?_) (Nat.le_trans r.size hgs) (g.os.trans r.os) (g.tape.trans r.tape) (g.output.trans r.output)
     · obtain⟨g1,g2,g3⟩:=r.own s b o hs hb
       exact⟨hk b g2,g1,Nat.lt_of_lt_of_le g2 hgs,g3⟩
     · rw[hk b (by omega)];exact r.keep b hb hp
     · exact(r.room b n hb hp hr).of_block (hk b (by omega))
    have ra:=rr.slots (a':={ a with defers:=mark++a.defers }) (env:=st.env) rr.lV rr.env
    obtain⟨rf,af,hof⟩:=FC ra F c
    have hMl:¬ M l:=fun h=>by have:=r.fJ l h;omega
    have hOl:¬ lC β st.heap l:=fun h=>by have:=(r.oh h).2.1;omega
    refine⟨fun b=>lC β (aC F c st).heap b∨b=l,⟨M,β,rf,i1,i2.trans af,i3.trans g.drawn,⟨fun p hp=>?_,fun p hp=>hsub p (fx.sub p hp),hm,hnd,hmk,fun l' hl'=>?_,fx.size,fx.tmps,fun h=>absurd hnl h,fx.yl,fx.nml⟩,⟨hlp,hMl,fun h=>hOl (hof l h),fun p hp=>(hLn p hp).2.1,by omega,Nat.le_refl _⟩,fun b=>Iff.rfl⟩,fun b hb ho=>?_,fun p hp=>?_⟩
    · obtain⟨g1,g2,g3⟩:=hLn p hp
      rcases g3 with g3 | g3
      · obtain⟨k1,k2,k3⟩:=fx.lies p g3
        exact⟨g1,fun h=>k2 (hof _ h),k3⟩
      · exact⟨g1,fun h=>by have:=(r.oh (hof _ h)).2.1;omega,fun h=>by have:=r.fJ _ h;omega⟩
    · obtain⟨r0,hr0⟩:=fx.rd l' hl'
      exact⟨r0,hsub _ hr0⟩
    · rcases ho with h | rfl
      · exact(r.oh (hof b h)).1 hb
      · exact hMl hb
    · obtain⟨g1,g2,g3⟩:=hLn p hp
      refine⟨(Array.getElem?_eq_some_iff.1 g1).1,fun h=>?_⟩
      rcases g3 with g3 | g3
      · exact(fx.lies p g3).2.2 h
      · have:=r.fJ _ h;omega
  have hlt:∀ p∈L,p.1<w.heap.size:=fun p hp=>(Array.getElem?_eq_some_iff.1 (fx.lies p hp).1).1
  cases hrd:cx.rd with
  | none =>
   refine⟨_,_,_,w.heap.size,(w.heap.size,.deferred (some []))::L,w.heap.size::ds,run_enterLoop_outer fn a.tmps ps y z,(sG.alloc w _).trans (sG.alloc _ _) (fun _ _ h=>h),?_⟩
   refine fin _ _ _ _ _ _ ((sG.alloc w _).trans (sG.alloc _ _) (fun _ _ h=>h)) (by omega) ?_ (fun p hp=>?_) (fun p hp=>List.mem_cons_of_mem _ hp) (by rw[fx.marks];rfl) ?_ fun D hD=>?_
   · have:=World.alloc_heap_new (w.alloc (.deferred (some []))) (.loop { state:=.ready,pending:=none,fn,tmps:=a.tmps,params:=ps,assign:=y,body:=z,defers:=w.heap.size })
     rwa[World.size_alloc]at this
   · rcases List.mem_cons.1 hp with rfl | hp
     · exact⟨(Below.heap_alloc _ _ _ (by simp)).trans (World.alloc_heap_new w _),by simp,.inr (Nat.le_refl _)⟩
     · have:=hlt p hp
       refine⟨?_,by omega,.inl hp⟩
       rw[Below.heap_alloc _ _ _ (by simp;omega),Below.heap_alloc _ _ _ this]
       exact(fx.lies p hp).1
   · refine List.nodup_cons.2 ⟨fun h=>?_,fx.nodup⟩
     have:=hlt _ (fx.mark _ h).1
     exact absurd this (Nat.lt_irrefl _)
   · rcases List.mem_cons.1 hD with rfl | hD
     · exact⟨by simp,by have:=fx.nml;omega⟩
     · exact⟨List.mem_cons_of_mem _ (fx.mark D hD).1,(fx.mark D hD).2⟩
  | some l0 =>
   obtain⟨r0,hr0⟩:=fx.rd l0 hrd
   refine⟨_,_,_,r0.defers,L,ds,run_enterLoop_inner (fx.lies _ hr0).1 fn a.tmps ps y z,sG.alloc w _,?_⟩
   refine fin _ _ _ _ _ _ (sG.alloc w _) (Nat.le_refl _) (World.alloc_heap_new w _) (fun p hp=>?_) (fun p hp=>hp) (by rw[fx.marks];rfl) fx.nodup fx.mark
   have:=hlt p hp
   exact⟨(Below.heap_alloc _ _ _ this).trans (fx.lies p hp).1,by omega,.inl hp⟩
def Ex.code:Ex→Code
 | .normal=>.skip
 | .exit id=>.exit id
 | .ret=>.ret
theorem Ot (ok : bP P T) {gl : Option (List (Nat × Obj))} (hS : SB P T gl C) {x0 : α} {f : Operand} {ps : Array Tmp} {y z : Code}
    (hy:UQ T C F n false P 0 (fun _:Ex→St→Option α=>True) (fun i:CxN gl=>i.1.rd) (fun i=>zM i.1) (fun i x st a w=>x=x0∧Inv i.1 st a w) y)
    (hz:UQ T C F n false P 0 (fun _:Ex→St→Option α=>True) (fun i:CxN gl=>i.1.rd) (fun i=>zM i.1) (fun i x st a w=>x=x0∧Inv i.1 st a w) z) :
    UQ T C F n false P 0 (fun _:Ex→St→Option α=>True) (fun i:CxN gl=>i.1.rd) (fun i=>zM i.1) (fun i x st a w=>x=x0∧Inv i.1 st a w) (.rangeFunc f ps y z):=by
  intro ⟨cx,hnl,hgl⟩ st a w k x Q _ h hd _ hw hi hQ
  simp only at hw hi hQ ⊢
  obtain⟨g,caps,fi,res,hv,hf,hpy,hpb,hcall,h⟩:=ru h
  simp only[iD,Bool.and_eq_true]at hd
  obtain⟨hfun,hit⟩:=hS g fi caps res hf hpb hcall
  obtain⟨hx0,M,β,L,ds,r,i1,i2,i3,fx⟩:=hi
  subst hx0
  have hev:=r.aU f
  rw[hv]at hev
  obtain⟨lb,hlb,ajM,aeT⟩:∃ lb:Array Value,a.eval f=.func (.func g) #[] lb∧lb.size=caps.length∧∀ i c,caps[i]?=some c→VR w M c (lb.getD i undef):=by
   generalize a.eval f=c at hev
   cases hev with
   | p _ _ TA=>cases TA with | fn _ _ vs hn hc=>exact⟨vs,rfl,hn,hc⟩
  have hbody:∃ c,fi.fn.body=some c:=by
   unfold jE at hpb
   cases hb:fi.fn.body with
   | none=>rw[hb]at hpb;cases hpb
   | some c=>exact⟨c,rfl⟩
  refine wpIn_rangeFunc fun fn _=>?_
  obtain⟨l,mark,W1,dB,Ln,LV,hrun,hg,hfin⟩:=UR (P:=P) r i1 i2 i3 fx hnl fn ps y z
  obtain⟨O0,hI0,hMO,aeU⟩:=hfin F.cfg (.seq y z)
  refine⟨l,mark,W1,{ target:=.fn (.func g) lb,args:=#[.func (.yield l) #[] #[]] },W1,g,#[.func (.yield l) #[] #[]]++lb,W1,hrun,?_,fun _ _=>trivial,?_,yE cx.rd,?_⟩
  · simp only[resolve,hlb]
    simp[go_sem]
  · simp only[invoke]
    exact yF ok hf hbody _
  refine bW _ ?_
  generalize hrec:({ state:=.ready,pending:=none,fn,tmps:=a.tmps,params:=ps,assign:=y,body:=z,defers:=dB }:Loop)=rec at hI0
  generalize ha':({ a with defers:=mark++a.defers }:Act)=a' at hI0
  have hat:a'.tmps=a.tmps:=by rw[← ha']
  let J:List PV→(Nat→Prop)→World→Prop:=fun r O W=>∃ st,jg (aC F.cfg (.seq y z)) fi.cfg.yk ps.toList (jW ps y z) (vO T C F n y z) r st k=some x∧Bj cx a' Ln LV l W1 st O W rec
  let Jx:World→Prop:=fun W=>∃ (ex:Ex) (st:St) (O:Nat→Prop),k ex st=some x∧(ex=.ret∨∃ id,ex=.exit id)∧Bj cx a' Ln LV l W1 st O W { rec with state:=.done,pending:=some ex.code }
  have hW1:cx.w0.n0≤W1.heap.size:=by have:=hg.size;have:=r.size;have:=cx.w0.le';omega
  refine Calls.mono (hit W1 M l lb J Jx O0 (fun p hp=>by rw[← hgl]at hp;exact⟨(r.lK p hp).1,(hg.keep _ (r.fJ _ (r.lK p hp).1) fun h=>h).trans (r.lK p hp).2⟩) ajM (fun i c hc=>(aeT i c hc).mono fun b hb=>⟨hb,hg.keep b (r.fJ b hb) fun h=>h⟩) (fun b hb=>⟨Nat.lt_of_lt_of_le (r.fJ b hb) hg.size,hMO b hb⟩)
   (fun r O W W' ⟨st,h1,h2⟩ g=>⟨st,h1,h2.grows (hgl▸g)⟩) (fun W W' ⟨ex,st,O,h1,h2,h3⟩ g=>⟨ex,st,O,h1,h2,h3.grows (hgl▸g)⟩) (fun r O W ⟨st,h1,h2⟩=>h2.lt) ?_ ⟨_,h,hI0⟩) ?_
  · -- one round
    rintro vs xs O W Mi aG ⟨st,h1,h2⟩ amJ hMi hcn hcv
    clear h hI0 aeT i1 i2 i3 fx hv
    simp only[jg]at h1
    split at h1
    · cases h1
    rename_i env henv
    rw[aH]at h1
    obtain⟨M',β',r',e1,e2,e3,f',⟨k1,k2,k3,k4,k5,k6⟩,hO⟩:=h2
    have hl:l<W.heap.size:=(Array.getElem?_eq_some_iff.1 k1).1
    have ajO:=r'.size
    have aeV:∀ b,O b→b<W.heap.size:=fun b hb=>by
     rcases(hO b).1 hb with h | rfl
     · exact(r'.oh h).2.1
     · exact hl
    let M1:Nat→Prop:=fun b=>M' b∨Mi b
    have aeW:∀ b,M1 b→¬ O b:=fun b hb ho=>by
     rcases hb with hb | hb
     · rcases(hO b).1 ho with h | rfl
       · exact(r'.oh h).1 hb
       · exact k2 hb
     · exact(hMi b hb).2.1 ho
    have hle:cx.w0.n0≤W.heap.size:=by have:=cx.w0.le';omega
    have r1:Rel ⟨W,cx.w0.n0,hle,cx.w0.gl⟩ O M1 M1 β' st a' W:=by
     refine r'.to rfl (fun b hb=>⟨.inl hb,rfl⟩) (fun s b o hs hb=>?_) (fun b hb=>?_) (fun b hb=>.inl hb) (fun b hb=>hb) (fun _ _ _=>rfl) (fun _ _ _ _ h=>h) (Nat.le_refl _) rfl rfl rfl
     · obtain⟨g1,g2,g3,g4⟩:=r'.own s b o hs hb
       have ho:O b:=(hO b).2 (.inl ⟨s,o,hs,hb⟩)
       exact⟨rfl,fun hm=>aeW b hm ho,g2,.inr ho,g4⟩
     · rcases hb with hb | hb
       · exact r'.fJ b hb
       · exact(hMi b hb).1
    obtain⟨p1,p2,p3,p4,p5⟩:=SC (w:=W) (M:=M1) (β:=β') (h:=look st.heap) (cs:=aG.toList) (tmps:=a'.tmps) henv (by simp[hcn]) (Nat.zero_le _) (fun j c hc=>by
     have:=hcv j c (by simpa using hc)
     have e:aG.toList.getD j undef=aG.getD j undef:=by simp[List.getD_eq_getElem?_getD,Array.getD_eq_getD_getElem?]
     rw[e];exact this.mono fun b hb=>⟨.inr hb,rfl⟩) r1.lV r1.env
    have hyl:=run_yield (P:=P) (args:=aG) k1 (by rw[← hrec];simpa using p1)
    rw[← XM]at p3 p4 p5
    have etm:rec.tmps=a'.tmps:=by rw[← hrec,hat]
    have eps:rec.params=ps:=by rw[← hrec]
    rw[eps,etm]at hyl
    generalize htm:(ps.zip aG).foldl (fun tmps (t,a)=>tmps.setIfInBounds t a) a'.tmps=tmps at p3 p4 p5 hyl
    have eas:rec.assign=y:=by rw[← hrec]
    have ebo:rec.body=z:=by rw[← hrec]
    have est:rec.state=.ready:=by rw[← hrec]
    have epe:rec.pending=none:=by rw[← hrec]
    rw[eas,ebo]at hyl
    refine⟨rec.fn,tmps,y,z,hyl,roundIn_of_wpIn trivial ?_⟩
    let cA:Cx:=cx1 cx hle O M1 (jW ps y z) tmps l ((l,.loop rec)::Ln)
    have hIA:Inv cA { st with env:=env } { tmps:=tmps,defers:=[] } W:=by
     refine⟨M1,β',(l,.loop rec)::Ln,[],r1.slots (a':={ tmps:=tmps,defers:=[] }) (by rw[p2];show st.env.length≤tmps.size;rw[p3];exact r1.lV) p4,e1,e2,.refl _ _,⟨fun p hp=>?_,fun p hp=>hp,rfl,List.nodup_nil,fun D hD=>by simp at hD,fun l' hl'=>?_,rfl,fun _ _=>rfl,fun _=>rfl,fun _ h=>h.elim,Nat.le_trans f'.nml ajO⟩⟩
     · rcases List.mem_cons.1 hp with rfl | hp
       · exact⟨k1,k3,fun hm=>aeW l hm ((hO l).2 (.inr rfl))⟩
       · obtain⟨g1,g2,g3⟩:=f'.lies p hp
         exact⟨g1,g2,fun hm=>by
          rcases hm with hm | hm
          · exact g3 hm
          · -- what the giver holds is not what lies here
            rcases(hMi _ hm).2.2 with h | h
            · exact(aeU p hp).2 h
            · have:=(aeU p hp).1;omega⟩
     · cases hl'
       exact⟨rec,by simp⟩
    have hdst:(∀ o∈opsOf y,zM cA o)∧∀ o∈opsOf z,∀ d,o.dst=some d→d∈jW ps y z:=⟨fun o ho=>⟨fun d hd=>by have:=kZ ho hd;show d∈jW ps y z;simp[jW,this],fun _ _ h=>h.elim⟩,fun o ho d hd=>by have:=kZ ho hd;simp[jW,this]⟩
    let kr:Ex→St→Option α:=nV (aC F.cfg (.seq y z)) (jW ps y z) (fun st=>jg (aC F.cfg (.seq y z)) fi.cfg.yk ps.toList (jW ps y z) (vO T C F n y z) xs st k) k
    let kn : Ex → St → Option α := fun ex st' => match ex with
        | .normal=>UO T C F n z kr .normal st'
        | _=>none
    have h1':aK T C F n y { st with env:=env } kn=some _:=(Qm y hpy _ kn (UO T C F n z kr) rfl).trans h1
    clear h1
    refine hy ⟨cA,hnl,hgl⟩ _ _ W _ _ _ trivial h1' hd.1 (fun h=>by cases h) hdst.1 ⟨rfl,hIA⟩ ?_
    intro ex x' st' a1 w1 hk1 ⟨hx1,hI1⟩
    subst hx1
    cases ex with
    | exit id=>cases hk1
    | ret=>cases hk1
    | normal =>
    have hk1:aK T C F n z (Skm.aC F.cfg z st') kr=some x':=hk1
    have ajP:=hI1.aC F.cfg z
    obtain⟨q1,cB,hIB,n0B,gB,wB,tB,prB,mB,aeX,moB,b0B,hpB,wrB,t0B,rdB,lB,LnB,ysB⟩:=Inv.busy (Ln:=Ln) ajP (l:=l) (lo:=.loop rec) (by simp[cA,cx1]) (by simp) rfl { rec with state:=.busy } (fun p hp=>⟨List.mem_cons_of_mem _ hp,k4 p hp⟩) (jW ps y z) rfl ((hO l).2 (.inr rfl)) hl
    refine⟨_,run_beginRound q1 est,?_⟩
    have hO':∀ b,O b→cx.w0.heap.size≤b∨cx.Pr b:=fun b h=>by
     rcases(hO b).1 h with h | rfl
     · exact(r'.oh h).2.2
     · exact .inl k5
    have sb:abL cx cB M' a' Ln (jW ps y z) l W O:=by
     refine⟨n0B,gB,tB,fun b hb=>(prB b hb).symm,fun b hb=>?_,fun b j hb ho hr=>aeX b j hb ho (fun e=>?_) hr,fun b hb=>moB b (.inl hb),b0B,hpB,wrB,by rw[t0B];exact p3,fun t ht=>by rw[t0B];exact p5 t fun h=>ht (by simp only[jW,List.mem_append];exact .inl h),LnB⟩
     · rcases mB b hb with (h | h) | ⟨h,h'⟩
       · exact r'.jX b h
       · rcases(hMi b h).2.2 with h | h
         · exact r.jX b h
         · have:=hg.size;have:=r.size;have:=cx.w0.le'
           exact .inr ⟨by omega,.inl (by omega)⟩
       · refine .inr ⟨h,?_⟩
         rcases h' with h' | h'
         · have h':W.heap.size≤b:=h'
           left;omega
         · exact hO' b h'
     · obtain⟨Cs,e',fr,hc,_⟩:=hr
       rw[e,k1]at hc;cases hc
    have hzz:=hz ⟨cB,by rw[hpB];exact hnl,gB.trans hgl⟩ _ a1 _ _ _ (roundPost P l fun e W'=>Turns gl O W W'∧((e=.returned (.bool true)∧∃ O',J xs O' W'∧∀ b,O' b→O b∨W.heap.size≤b)∨(e=.returned (.bool false)∧Jx W'))) trivial hk1 hd.2 (fun h=>by cases h) (fun o ho=>⟨fun d hd=>by show cB.Wr d;rw[wrB];exact hdst.2 o ho d hd,fun t _ h=>by rw[ysB]at h;exact h.elim⟩) ⟨rfl,hIB⟩ ?_
    · simp only[rdB]at hzz
      exact hzz
    intro ex2 x2 st3 a3 W3 hk2 ⟨hx2,hI3⟩
    subst hx2
    have key:=fun lp'=>Bj.round (W1:=W1) r' f' e3 k4 k5 k6 hO sb lB hI3 lp'
    cases ex2 with
    | normal =>
     obtain⟨q3,O',hI',hOs,ht⟩:=key rec
     obtain⟨O'',ajR,hsub⟩:=hI'.aC F.cfg (.seq y z)
     have he:=run_endRound (P:=P) none q3
     have ajS:({ { rec with state:=.busy } with state:=if(none:Option Code).isNone then .ready else .done,pending:=none }:Loop)=rec:=by
      cases rec;simp at est epe;subst est epe;rfl
     simp only[kr,nV,aH]at hk2
     refine⟨_,_,he,?_⟩
     rw[ajS]
     exact⟨hgl▸ht,.inl ⟨rfl,O'',⟨_,hk2,ajR⟩,fun b hb=>hOs b (hsub b hb)⟩⟩
    | exit id =>
     obtain⟨q3,O',hI',hOs,ht⟩:=key { rec with state:=.done,pending:=some (.exit id) }
     simp only[kr,nV,aH]at hk2
     exact⟨_,_,run_endRound (P:=P) (some (.exit id)) q3,hgl▸ht,.inr ⟨rfl,.exit id,_,O',hk2,.inr ⟨id,rfl⟩,hI'⟩⟩
    | ret =>
     obtain⟨q3,O',hI',hOs,ht⟩:=key { rec with state:=.done,pending:=some .ret }
     simp only[kr,nV,aH]at hk2
     exact⟨_,_,run_endRound (P:=P) (some .ret) q3,hgl▸ht,.inr ⟨rfl,.ret,_,O',hk2,.inl rfl,hI'⟩⟩
  · -- behind the sequence
    rintro e W2 ⟨⟨v,rfl⟩,(⟨O,st,h1,h2⟩ | ⟨ex,st,O,h1,h2,h3⟩)⟩
    · simp only[jg]at h1
      have hl:W2.heap[l]?=some (.loop rec):=by obtain⟨_,_,_,_,_,_,_,⟨h,_⟩,_⟩:=h2;exact h
      have hend:=run_endLoop (P:=P) hl (by rw[← hrec];simp)
      rw[show rec.pending=none by rw[← hrec]]at hend
      refine⟨none,_,hend,?_⟩
      exact hQ .normal _ st a' _ h1 ⟨rfl,h2.close _⟩
    · have hl:W2.heap[l]?=some (.loop { rec with state:=.done,pending:=some ex.code }):=by obtain⟨_,_,_,_,_,_,_,⟨h,_⟩,_⟩:=h3;exact h
      refine⟨some ex.code,_,run_endLoop (P:=P) hl (by simp),?_⟩
      rcases h2 with rfl | ⟨id,rfl⟩
      · exact wpIn_ret (hQ .ret _ st a' _ h1 ⟨rfl,h3.close _⟩)
      · exact wpIn_exit (hQ (.exit id) _ st a' _ h1 ⟨rfl,h3.close _⟩)
end
end Go.Skm
