/-
  A machine that runs this program's functions on pure values, and the proof that what it returns is true of the program; no condition beside the hypotheses of each.
-/
import Derived.Test.YtfmoopdnamdobaaDoorSkmE
import Derived.ProofKit
namespace Go.Skm
section
variable {α β:Type}
open Classical in
noncomputable def lim (f:Nat→Option α):Option α:=if h:∃ x n,f n=some x then some h.choose else none
def Mono (f:Nat→Option α):Prop:=∀ n m x,n≤m→f n=some x→f m=some x
theorem lim_some {f:Nat→Option α} {x:α} (h:lim f=some x):∃ n,f n=some x:=by
 unfold lim at h
 split at h
 · rename_i h'
   have:=h'.choose_spec
   simp only[Option.some.injEq]at h
   rwa[h]at this
 · cases h
theorem lim_of {f:Nat→Option α} (hm:Mono f) {x:α} {n:Nat} (h:f n=some x):lim f=some x:=by
 have hex:∃ x n,f n=some x:=⟨x,n,h⟩
 unfold lim
 rw[dif_pos hex]
 obtain⟨m,hm'⟩:=hex.choose_spec
 have h1:=hm n (max n m) x (by omega) h
 have h2:=hm m (max n m) _ (by omega) hm'
 rw[h1]at h2
 exact h2.symm
noncomputable def loopI (fg:St→St) (body:St→(Ex→St→Option α)→Option α) (st:St) (k:Ex→St→Option α):Option α:=lim fun m=>loopN fg body m st k
def LeK (k k':Ex→St→Option α):Prop:=∀ ex st x,k ex st=some x→k' ex st=some x
def LeB (b b':St→(Ex→St→Option α)→Option α):Prop:=∀ st k k' x,LeK k k'→b st k=some x→b' st k'=some x
def LeC (C C':CallF):Prop:=∀ f a b x,C f a b=some x→C' f a b=some x
theorem LeK.refl (k:Ex→St→Option α):LeK k k:=fun _ _ _ h=>h
theorem LeC.refl (C:CallF):LeC C C:=fun _ _ _ _ h=>h
def next (fg:St→St) (L:St→Option α) (k:Ex→St→Option α):Ex→St→Option α
 | .normal,st=>forceSt (fg st) L
 | .exit id,st=>k (.exit id) st
 | .ret,st=>k .ret st
theorem loopN_succ {fg:St→St} {body:St→(Ex→St→Option α)→Option α} {m:Nat} {st:St} {k:Ex→St→Option α}:loopN fg body (m+1) st k=body st (next fg (fun st'=>loopN fg body m st' k) k):=by
 simp only[loopN]
 congr 1
 funext ex st'
 cases ex<;>rfl
theorem next_le {fg:St→St} {L L':St→Option α} {k k':Ex→St→Option α} (hL:∀ st x,L st=some x→L' st=some x) (hk:LeK k k'):LeK (next fg L k) (next fg L' k'):=by
 intro ex st x h
 cases ex with
 | normal=>simp only[next,forceSt_eq]at h ⊢;exact hL _ _ h
 | exit id=>exact hk _ _ _ h
 | ret=>exact hk _ _ _ h
theorem loopN_mono {fg:St→St} {b b':St→(Ex→St→Option α)→Option α} (hb:LeB b b'):∀ {m m':Nat} {st:St} {k k':Ex→St→Option α} {x:α},m≤m'→LeK k k'→loopN fg b m st k=some x→loopN fg b' m' st k'=some x
 | 0,_,_,_,_,_,_,_,h=>by simp[loopN]at h
 | m+1,0,_,_,_,_,hm,_,_=>by omega
 | m+1,m'+1,st,k,k',x,hm,hk,h=>by
  rw[loopN_succ]at h ⊢
  exact hb _ _ _ _ (next_le (fun st x h=>loopN_mono hb (by omega) hk h) hk) h
theorem loopI_mono {fg:St→St} {b b':St→(Ex→St→Option α)→Option α} (hb:LeB b b') (hb':LeB b' b') {st:St} {k k':Ex→St→Option α} {x:α} (hk:LeK k k') (h:loopI fg b st k=some x):loopI fg b' st k'=some x:=by
 obtain⟨m,hm⟩:=lim_some h
 exact lim_of (fun n m x hnm h=>loopN_mono hb' hnm (LeK.refl _) h) (loopN_mono hb (Nat.le_refl m) hk hm)
end
section
variable {α:Type} (T:Tab)
noncomputable def runCodeI (C:CallF) (F:FI):Code→St→(Ex→St→Option α)→Option α
 | .skip,st,k=>k .normal st
 | .region id ops draw,st,k=>altSt (altsAt F.cfg.alts id) st fun st =>
  match draw with
  | false=>runOps T C false [] ops.toList ops.toList 0 st fun st'=>forceSt (settle F.cfg ops.toList st') fun st'=>k .normal st'
  | true =>
   match tlook F.hides id with
   | some hd=>forceSt (st.strike (present st.heap (allSites ops.toList ops.toList))) fun st =>
    match yCut F.cfg.ys ops.toList with
    | none=>runOps T C true hd ops.toList ops.toList 0 st fun st'=>relog (look st.heap argSite) st' fun st'=>forceSt (settle F.cfg ops.toList st') fun st'=>k .normal st'
    | some j=>runOps T C true hd ops.toList (ops.toList.take j) 0 st fun st'=>relog (look st.heap argSite) st' fun st'=>runOps T C false [] ops.toList (ops.toList.drop j) j st' fun st'=>forceSt (settle F.cfg ops.toList st') fun st'=>k .normal st'
   | none=>none
 | .seq a b,st,k=>runCodeI C F a st fun ex st' =>
  match ex with
  | .normal=>runCodeI C F b (forgetAt F.cfg b st') k
  | .exit id=>k (.exit id) st'
  | .ret=>k .ret st'
 | .cond c x y,st,k =>
  match evalO st.env c with
  | .p (.bool b)=>cond b (runCodeI C F x st k) (runCodeI C F y st k)
  | _=>none
 | .block id c,st,k=>runCodeI C F c st fun ex st' =>
  match ex with
  | .normal=>k .normal st'
  | .exit i=>bif i==id then k .normal st' else k (.exit i) st'
  | .ret=>k .ret st'
 | .scope c,st,k=>runCodeI C F c st k
 | .loop c,st,k=>loopI (forgetAt F.cfg c) (fun st' k'=>runCodeI C F c st' k') (forgetAt F.cfg c st) k
 | .exit id,st,k=>k (.exit id) st
 | .ret,st,k=>k .ret st
 | .label _,st,k=>k .normal st
 | .rangeFunc f ps a b,st,k=>altSt (altsAt F.cfg.alts (rangeKey a b)) st fun st =>
  match evalO st.env f with
  | .p (.fn g caps) =>
   match tlook T.funcs g,plainCode a with
   | some fi,true =>
    bif bodyPlain fi caps.length then
    match C g (.yld::caps.map .p) [.log true []] with
    | some r => rangeL (forgetAt F.cfg (.seq a b)) fi.cfg.yk ps.toList (rngWs ps a b)
        (fun st k=>runCodeI C F a st fun ex st' =>
          match ex with
          | .normal=>runCodeI C F b (forgetAt F.cfg b st') k
          | .exit id=>k (.exit id) st'
          | .ret=>k .ret st') (logOf r.2) (forgetAt F.cfg (.seq a b) st) k
    | none=>none
    else none
   | _,_=>none
  | _=>none
 | _,_,_=>none
def retC (F:FI) (bl:List Blk):Ex→St→Option (List AV × List Blk)
 | .exit _,_=>none
 | .normal,st=>retF T F.cfg F.fn bl st
 | .ret,st=>retF T F.cfg F.fn bl st
noncomputable def acallI (C:CallF):CallF:=fun f args bl =>
 match tlook T.funcs f with
 | none=>none
 | some fi =>
  match fi.fn.body with
  | none=>none
  | some c=>bif callB fi.cfg bl then forceAVs T.strict args fun args=>forceBlks T.strict bl fun bl=>forceSt (startF fi.cfg fi.fn args bl) fun st=>runCodeI T C fi c st (retC T fi bl) else none
noncomputable def run (X:Ext):CallF:=fun f args bl=>lim fun n=>acall T X n f args bl
end
section
variable {α:Type} {T:Tab} {C C':CallF}
theorem stepOp_shape (env:List AV) (h:Nat→Option Blk) (o:Oper):(∃ D,∀ C,stepOp T C env h o=D)∨∃ f as_ bl g,∀ C,stepOp T C env h o=.call (C f as_ bl) g:=by
 have call:∀ (d:Option Nat) (f:Nat) (args:List AV),(∃ D,∀ C,stepCall T C h d f args=D)∨∃ f' as_ bl g,∀ C,stepCall T C h d f args=.call (C f' as_ bl) g:=by
  intro d f args
  unfold stepCall
  cases (cfgOf T f).prim.is with
  | true=>exact .inl ⟨_,fun C=>rfl⟩
  | false =>
  simp only[cond_false]
  have go:∀ (d:Nat) (fi:FI) (pre:List AV) (s A:Nat) (nw:List Nat) (a:Bool) (ks:List Kd) (off len:Nat) (xs:List PV),(∃ D,∀ C,varGo T C h d f fi pre s A nw a ks off len xs=D)∨∃ f' as_ bl g,∀ C,varGo T C h d f fi pre s A nw a ks off len xs=.call (C f' as_ bl) g:=by
   intro d fi pre s A nw a ks off len xs
   unfold varGo
   split
   · rename_i vs ss hd
     cases (Nat.blt s 100000&&(Nat.blt A 100000&&!(A==s)))&&(!(memN s ss)&&!(memN A ss)) with
     | true=>exact .inr ⟨_,_,_,_,fun C=>rfl⟩
     | false=>exact .inl ⟨_,fun C=>rfl⟩
   · exact .inl ⟨_,fun C=>rfl⟩
  cases (cfgOf T f).vcall with
  | true =>
   simp only[cond_true]
   unfold stepVar
   split
   · split
     · split
       · exact go ..
       · exact .inl ⟨_,fun C=>rfl⟩
     · rename_i fi _ _ _ _ _ _
       cases fi.cfg.vkeep with
       | true=>exact .inl ⟨_,fun C=>rfl⟩
       | false=>exact go ..
     · exact .inl ⟨_,fun C=>rfl⟩
   · exact .inl ⟨_,fun C=>rfl⟩
  | false =>
  simp only[cond_false]
  unfold stepCall0
  split
  · split
    · split
      · exact .inr ⟨_,_,_,_,fun C=>rfl⟩
      · exact .inl ⟨_,fun C=>rfl⟩
    · exact .inl ⟨_,fun C=>rfl⟩
  · exact .inl ⟨_,fun C=>rfl⟩
 obtain⟨dst,op,type,pos,after,guard⟩:=o
 cases op with
 | call c =>
  obtain⟨callee,args,ts⟩:=c
  cases callee with
  | builtin b=>cases b<;>exact .inl ⟨_,fun C=>rfl⟩
  | invoke r n=>exact .inl ⟨_,fun C=>rfl⟩
  | value f =>
   simp only[stepOp]
   split
   · exact call _ _ _
   · exact call _ _ _
   · exact .inl ⟨_,fun C=>rfl⟩
 | _=>exact .inl ⟨_,fun C=>rfl⟩
theorem act1_mono (hC:LeC C C') {all:List Oper} {o:Oper} {env:List AV} {h:Nat→Option Blk} {y:Option Eff} (h1:act1 T C all o env h=some y):act1 T C' all o env h=some y:=by
 have go:∀ {y:Option Eff},((stepOp T C env h o).run some).map some=some y→((stepOp T C' env h o).run some).map some=some y:=by
  intro y hy
  rcases stepOp_shape (T:=T) env h o with ⟨D,hD⟩ | ⟨f,as_,bl,g,hD⟩
  · rw[hD]at hy ⊢;exact hy
  · rw[hD]at hy ⊢
    cases hc:C f as_ bl with
    | none=>rw[hc]at hy;simp[DT.run]at hy
    | some r=>rw[hc]at hy;rw[hC _ _ _ _ hc];exact hy
 unfold act1 at h1 ⊢
 cases hg:o.guard with
 | none=>rw[hg]at h1;exact go h1
 | some gw =>
  obtain⟨g,want⟩:=gw
  rw[hg]at h1
  simp only at h1 ⊢
  cases hd:dstOf all g with
  | none=>rw[hd]at h1;cases h1
  | some t =>
   rw[hd]at h1
   simp only at h1 ⊢
   by_cases hx:∃ b,env.getD t .undef=.p (.bool b)
   · obtain⟨b,hb⟩:=hx
     rw[hb]at h1 ⊢
     simp only at h1 ⊢
     split
     · rename_i hw;rw[if_pos hw]at h1;exact go h1
     · rename_i hw;rw[if_neg hw]at h1;exact h1
   · by_cases hh:env.getD t .undef=.tup []
     · rw[hh]at h1 ⊢;exact h1
     · split at h1
       · rename_i b hb;exact absurd ⟨b,hb⟩ hx
       · rename_i hb;exact absurd hb hh
       · cases h1
theorem step1_mono (hC:LeC C C') {draw:Bool} {hd:List Nat} {all:List Oper} {o:Oper} {st st':St} (h1:step1 T C draw hd all o st=some st'):step1 T C' draw hd all o st=some st':=by
 unfold step1 at h1 ⊢
 cases ha:act1 T C all o st.env (hideH hd (look st.heap)) with
 | none=>rw[ha]at h1;cases h1
 | some y=>rw[ha]at h1;rw[act1_mono hC ha];exact h1
theorem relog_mono {b:Option Blk} {st:St} {k k':St→Option α} {x:α} (hk:∀ st x,k st=some x→k' st=some x) (h:relog b st k=some x):relog b st k'=some x:=by
 unfold relog at h ⊢
 split at h
 · split at h
   · exact hk _ _ h
   · cases h
 · exact hk _ _ h
theorem runOps_mono (hC:LeC C C') {draw:Bool} {hd:List (List Nat)} {all:List Oper} {k k':St→Option α} (hk:∀ st x,k st=some x→k' st=some x):∀ {l:List Oper} {j:Nat} {st:St} {x:α},runOps T C draw hd all l j st k=some x→runOps T C' draw hd all l j st k'=some x
 | [],j,st,x,h=>hk _ _ h
 | o::r,j,st,x,h=>by
  cases hy:yieldAt draw st o with
  | none =>
   rw[runOps_cons _ _ hy]at h ⊢
   cases h1:step1 T C draw (hd.getD j []) all o st with
   | none=>rw[h1]at h;cases h
   | some st1=>rw[h1]at h;rw[step1_mono hC h1];exact runOps_mono hC hk (l:=r) h
  | some p =>
   obtain⟨xs,vs⟩:=p
   rw[runOps_yield _ _ hy]at h ⊢
   cases hg:guardOf all o st.env with
   | none=>rw[hg]at h;cases h
   | some b =>
    rw[hg]at h
    cases b with
    | false=>exact runOps_mono hC hk (l:=r) h
    | true =>
     obtain⟨no,h1,h2⟩:=fork_some h
     exact fork_of (runOps_mono hC hk (l:=r) h1) (runOps_mono hC hk (l:=r) h2)
theorem rnext_le {fg:St→St} {ws:List Nat} {L L':St→Option α} {k k':Ex→St→Option α} (hL:∀ st x,L st=some x→L' st=some x) (hk:LeK k k'):LeK (rnext fg ws L k) (rnext fg ws L' k'):=by
 intro ex st x h
 cases ex with
 | normal=>simp only[rnext,forceSt_eq]at h ⊢;exact hL _ _ h
 | exit id=>simp only[rnext,forceSt_eq]at h ⊢;exact hk _ _ _ h
 | ret=>simp only[rnext,forceSt_eq]at h ⊢;exact hk _ _ _ h
theorem rangeL_mono {fg:St→St} {ss:List (Bool × List Kd)} {ps ws:List Nat} {b b':St→(Ex→St→Option α)→Option α} (hb:LeB b b'):∀ {xs:List PV} {st:St} {k k':Ex→St→Option α} {x:α},LeK k k'→rangeL fg ss ps ws b xs st k=some x→rangeL fg ss ps ws b' xs st k'=some x
 | [],_,_,_,_,hk,h=>hk _ _ _ h
 | v::xs,st,k,k',x,hk,h=>by
  simp only[rangeL]at h ⊢
  split at h
  · cases h
  · rename_i env he
    rw[forceSt_eq]at h ⊢
    exact hb _ _ _ _ (rnext_le (fun st x h=>rangeL_mono hb hk h) hk) h
theorem rangeI_some {F : FI} {f : Operand} {ps : Array Tmp} {y z : Code} {st : St} {k : Ex → St → Option α} {x : α} (h : runCodeI T C F (.rangeFunc f ps y z) st k = some x) :
    ∃ g caps fi r,evalO st.env f=.p (.fn g caps)∧tlook T.funcs g=some fi∧plainCode y=true∧bodyPlain fi caps.length=true∧C g (.yld::caps.map .p) [.log true []]=some r ∧
     rangeL (forgetAt F.cfg (.seq y z)) fi.cfg.yk ps.toList (rngWs ps y z) (fun st k=>runCodeI T C F (.seq y z) st k) (logOf r.2) (forgetAt F.cfg (.seq y z) st) k=some x:=by
  simp only[runCodeI]at h
  obtain⟨h,-⟩:=altSt_path h
  split at h
  · rename_i g caps hv
    split at h
    · rename_i fi hf hp
      cases hb:bodyPlain fi caps.length with
      | false=>rw[hb]at h;cases h
      | true =>
       rw[hb]at h
       simp only[cond_true]at h
       split at h
       · rename_i r hr
         exact⟨g,caps,fi,r,hv,hf,hp,hb,hr,h⟩
       · cases h
    · cases h
  · cases h
theorem rangeI_alt {F:FI} {f:Operand} {ps:Array Tmp} {y z:Code} {st:St} {k:Ex→St→Option α} {x:α} (h:runCodeI T C F (.rangeFunc f ps y z) st k=some x):∀ K:St→Option α,altSt (altsAt F.cfg.alts (rangeKey y z)) st K=K st:=by
 simp only[runCodeI]at h
 exact(altSt_path h).2
theorem range_alt {F:FI} {n:Nat} {f:Operand} {ps:Array Tmp} {y z:Code} {st:St} {k:Ex→St→Option α} {x:α} (h:runCode T C F n (.rangeFunc f ps y z) st k=some x):∀ K:St→Option α,altSt (altsAt F.cfg.alts (rangeKey y z)) st K=K st:=by
 simp only[runCode]at h
 exact(altSt_path h).2
theorem rangeI_of {F : FI} {f : Operand} {ps : Array Tmp} {y z : Code} {st : St} {k : Ex → St → Option α} {x : α} {g : Nat} {caps : List PV} {fi : FI} {r : List AV × List Blk} (ha : ∀ K : St → Option α,altSt (altsAt F.cfg.alts (rangeKey y z)) st K = K st) (h1 : evalO st.env f = .p (.fn g caps)) (h2 : tlook T.funcs g = some fi) (h3 : plainCode y = true) (h4 : bodyPlain fi caps.length = true) (h5 : C g (.yld::caps.map .p) [.log true []] = some r)
    (h:rangeL (forgetAt F.cfg (.seq y z)) fi.cfg.yk ps.toList (rngWs ps y z) (fun st k=>runCodeI T C F (.seq y z) st k) (logOf r.2) (forgetAt F.cfg (.seq y z) st) k=some x):runCodeI T C F (.rangeFunc f ps y z) st k=some x:=by
  simp only[runCodeI]
  rw[ha]
  simp only[h1,h2,h3,h4,h5,cond_true]
  exact h
theorem range_of {F : FI} {n : Nat} {f : Operand} {ps : Array Tmp} {y z : Code} {st : St} {k : Ex → St → Option α} {x : α} {g : Nat} {caps : List PV} {fi : FI} {r : List AV × List Blk} (ha : ∀ K : St → Option α,altSt (altsAt F.cfg.alts (rangeKey y z)) st K = K st) (h1 : evalO st.env f = .p (.fn g caps)) (h2 : tlook T.funcs g = some fi) (h3 : plainCode y = true) (h4 : bodyPlain fi caps.length = true) (h5 : C g (.yld::caps.map .p) [.log true []] = some r)
    (h:rangeL (forgetAt F.cfg (.seq y z)) fi.cfg.yk ps.toList (rngWs ps y z) (roundC T C F n y z) (logOf r.2) (forgetAt F.cfg (.seq y z) st) k=some x):runCode T C F n (.rangeFunc f ps y z) st k=some x:=by
  simp only[runCode]
  rw[ha]
  simp only[h1,h2,h3,h4,h5,cond_true]
  exact h
theorem seq_le {k k' : Ex → St → Option α} {f f' : St → Option α} (hf : ∀ st x,f st = some x → f' st = some x) (hk : LeK k k') :
    LeK (fun ex st'=>match ex with | .normal=>f st' | .exit id=>k (.exit id) st' | .ret=>k .ret st') (fun ex st'=>match ex with | .normal=>f' st' | .exit id=>k' (.exit id) st' | .ret=>k' .ret st'):=by
  intro ex st x h
  cases ex with
  | normal=>exact hf _ _ h
  | exit id=>exact hk _ _ _ h
  | ret=>exact hk _ _ _ h
theorem block_le {k k' : Ex → St → Option α} {id : Nat} (hk : LeK k k') :
    LeK (fun ex st'=>match ex with | .normal=>k .normal st' | .exit i=>bif i==id then k .normal st' else k (.exit i) st' | .ret=>k .ret st') (fun ex st'=>match ex with | .normal=>k' .normal st' | .exit i=>bif i==id then k' .normal st' else k' (.exit i) st' | .ret=>k' .ret st'):=by
  intro ex st x h
  cases ex with
  | normal=>exact hk _ _ _ h
  | exit i =>
   simp only at h ⊢
   cases hi:i==id with
   | true=>rw[hi]at h;exact hk _ _ _ h
   | false=>rw[hi]at h;exact hk _ _ _ h
  | ret=>exact hk _ _ _ h
theorem runCode_mono (hC:LeC C C') {F:FI} {n n':Nat} (hn:n≤n'):∀ {c:Code} {st:St} {k k':Ex→St→Option α} {x:α},LeK k k'→runCode T C F n c st k=some x→runCode T C' F n' c st k'=some x
 | .skip,st,k,k',x,hk,h=>hk _ _ _ h
 | .region id ops draw,st,k,k',x,hk,h=>by
  simp only[runCode]at h ⊢
  obtain⟨h,e⟩:=altSt_path h
  rw[e]
  cases draw with
  | false=>exact runOps_mono hC (fun st x h=>by rw[forceSt_eq]at h ⊢;exact hk _ _ _ h) h
  | true =>
   simp only at h ⊢
   cases hh:tlook F.hides id with
   | none=>rw[hh]at h;cases h
   | some hd =>
    rw[hh]at h
    simp only[forceSt_eq]at h ⊢
    split
    · rename_i hy
      rw[hy]at h
      exact runOps_mono hC (fun st x h=>relog_mono (fun st x h=>hk _ _ _ h) h) h
    · rename_i j hy
      rw[hy]at h
      exact runOps_mono hC (fun st x h=>relog_mono (fun st x h=>runOps_mono hC (fun st x h=>hk _ _ _ h) h) h) h
 | .seq y z,st,k,k',x,hk,h=>runCode_mono hC hn (c:=y) (seq_le (fun st x h=>runCode_mono hC hn (c:=z) hk h) hk) h
 | .cond c y z,st,k,k',x,hk,h=>by
  simp only[runCode]at h ⊢
  split
  · rename_i b hb
    rw[hb]at h
    cases b with
    | true=>exact runCode_mono hC hn (c:=y) hk h
    | false=>exact runCode_mono hC hn (c:=z) hk h
  · rename_i hx
    split at h
    · rename_i b hb;exact absurd hb (hx b)
    · cases h
 | .block id c,st,k,k',x,hk,h=>runCode_mono hC hn (c:=c) (block_le hk) h
 | .loop c,st,k,k',x,hk,h=>loopN_mono (b:=fun st' k'=>runCode T C F n c st' k') (b':=fun st' k'=>runCode T C' F n' c st' k') (fun st k k' x hk h=>runCode_mono hC hn (c:=c) hk h) hn hk h
 | .exit id,st,k,k',x,hk,h=>hk _ _ _ h
 | .ret,st,k,k',x,hk,h=>hk _ _ _ h
 | .label _,st,k,k',x,hk,h=>hk _ _ _ h
 | .rangeFunc f ps y z,st,k,k',x,hk,h=>by
  have ha:=range_alt h
  obtain⟨g,caps,fi,r,h1,h2,h3,h4,h5,h⟩:=runCode_range h
  refine range_of ha h1 h2 h3 h4 (hC _ _ _ _ h5) (rangeL_mono (fun st k k' x hk h=>?_) hk h)
  exact runCode_mono hC hn (c:=y) (seq_le (fun st x h=>runCode_mono hC hn (c:=z) hk h) hk) h
 | .scope c,st,k,k',x,hk,h=>runCode_mono hC hn (c:=c) hk h
 | .goto ..,st,k,k',x,hk,h=>by simp[runCode]at h
 | .refuse ..,st,k,k',x,hk,h=>by simp[runCode]at h
theorem runCodeI_monoK {F:FI}:∀ {c:Code} {st:St} {k k':Ex→St→Option α} {x:α},LeK k k'→runCodeI T C F c st k=some x→runCodeI T C F c st k'=some x
 | .skip,st,k,k',x,hk,h=>hk _ _ _ h
 | .region id ops draw,st,k,k',x,hk,h=>by
  simp only[runCodeI]at h ⊢
  obtain⟨h,e⟩:=altSt_path h
  rw[e]
  cases draw with
  | false=>exact runOps_mono (LeC.refl C) (fun st x h=>by rw[forceSt_eq]at h ⊢;exact hk _ _ _ h) h
  | true =>
   simp only at h ⊢
   cases hh:tlook F.hides id with
   | none=>rw[hh]at h;cases h
   | some hd =>
    rw[hh]at h
    simp only[forceSt_eq]at h ⊢
    split
    · rename_i hy
      rw[hy]at h
      exact runOps_mono (LeC.refl C) (fun st x h=>relog_mono (fun st x h=>hk _ _ _ h) h) h
    · rename_i j hy
      rw[hy]at h
      exact runOps_mono (LeC.refl C) (fun st x h=>relog_mono (fun st x h=>runOps_mono (LeC.refl C) (fun st x h=>hk _ _ _ h) h) h) h
 | .seq y z,st,k,k',x,hk,h=>runCodeI_monoK (c:=y) (seq_le (fun st x h=>runCodeI_monoK (c:=z) hk h) hk) h
 | .cond c y z,st,k,k',x,hk,h=>by
  simp only[runCodeI]at h ⊢
  split
  · rename_i b hb
    rw[hb]at h
    cases b with
    | true=>exact runCodeI_monoK (c:=y) hk h
    | false=>exact runCodeI_monoK (c:=z) hk h
  · rename_i hx
    split at h
    · rename_i b hb;exact absurd hb (hx b)
    · cases h
 | .block id c,st,k,k',x,hk,h=>runCodeI_monoK (c:=c) (block_le hk) h
 | .loop c,st,k,k',x,hk,h=>loopI_mono (b:=fun st' k'=>runCodeI T C F c st' k') (b':=fun st' k'=>runCodeI T C F c st' k') (fun st k k' x hk h=>runCodeI_monoK (c:=c) hk h) (fun st k k' x hk h=>runCodeI_monoK (c:=c) hk h) hk h
 | .exit id,st,k,k',x,hk,h=>hk _ _ _ h
 | .ret,st,k,k',x,hk,h=>hk _ _ _ h
 | .label _,st,k,k',x,hk,h=>hk _ _ _ h
 | .rangeFunc f ps y z,st,k,k',x,hk,h=>by
  have ha:=rangeI_alt h
  obtain⟨g,caps,fi,r,h1,h2,h3,h4,h5,h⟩:=rangeI_some h
  refine rangeI_of ha h1 h2 h3 h4 h5 (rangeL_mono (fun st k k' x hk h=>?_) hk h)
  exact runCodeI_monoK (c:=y) (seq_le (fun st x h=>runCodeI_monoK (c:=z) hk h) hk) h
 | .scope c,st,k,k',x,hk,h=>runCodeI_monoK (c:=c) hk h
 | .goto ..,st,k,k',x,hk,h=>by simp[runCodeI]at h
 | .refuse ..,st,k,k',x,hk,h=>by simp[runCodeI]at h
theorem runCodeI_mono (hC:LeC C C') {F:FI}:∀ {c:Code} {st:St} {k k':Ex→St→Option α} {x:α},LeK k k'→runCodeI T C F c st k=some x→runCodeI T C' F c st k'=some x
 | .skip,st,k,k',x,hk,h=>hk _ _ _ h
 | .region id ops draw,st,k,k',x,hk,h=>by
  simp only[runCodeI]at h ⊢
  obtain⟨h,e⟩:=altSt_path h
  rw[e]
  cases draw with
  | false=>exact runOps_mono hC (fun st x h=>by rw[forceSt_eq]at h ⊢;exact hk _ _ _ h) h
  | true =>
   simp only at h ⊢
   cases hh:tlook F.hides id with
   | none=>rw[hh]at h;cases h
   | some hd =>
    rw[hh]at h
    simp only[forceSt_eq]at h ⊢
    split
    · rename_i hy
      rw[hy]at h
      exact runOps_mono hC (fun st x h=>relog_mono (fun st x h=>hk _ _ _ h) h) h
    · rename_i j hy
      rw[hy]at h
      exact runOps_mono hC (fun st x h=>relog_mono (fun st x h=>runOps_mono hC (fun st x h=>hk _ _ _ h) h) h) h
 | .seq y z,st,k,k',x,hk,h=>runCodeI_mono hC (c:=y) (seq_le (fun st x h=>runCodeI_mono hC (c:=z) hk h) hk) h
 | .cond c y z,st,k,k',x,hk,h=>by
  simp only[runCodeI]at h ⊢
  split
  · rename_i b hb
    rw[hb]at h
    cases b with
    | true=>exact runCodeI_mono hC (c:=y) hk h
    | false=>exact runCodeI_mono hC (c:=z) hk h
  · rename_i hx
    split at h
    · rename_i b hb;exact absurd hb (hx b)
    · cases h
 | .block id c,st,k,k',x,hk,h=>runCodeI_mono hC (c:=c) (block_le hk) h
 | .loop c,st,k,k',x,hk,h=>loopI_mono (b:=fun st' k'=>runCodeI T C F c st' k') (b':=fun st' k'=>runCodeI T C' F c st' k') (fun st k k' x hk h=>runCodeI_mono hC (c:=c) hk h) (fun st k k' x hk h=>runCodeI_monoK (c:=c) hk h) hk h
 | .exit id,st,k,k',x,hk,h=>hk _ _ _ h
 | .ret,st,k,k',x,hk,h=>hk _ _ _ h
 | .label _,st,k,k',x,hk,h=>hk _ _ _ h
 | .rangeFunc f ps y z,st,k,k',x,hk,h=>by
  have ha:=rangeI_alt h
  obtain⟨g,caps,fi,r,h1,h2,h3,h4,h5,h⟩:=rangeI_some h
  refine rangeI_of ha h1 h2 h3 h4 (hC _ _ _ _ h5) (rangeL_mono (fun st k k' x hk h=>?_) hk h)
  exact runCodeI_mono hC (c:=y) (seq_le (fun st x h=>runCodeI_mono hC (c:=z) hk h) hk) h
 | .scope c,st,k,k',x,hk,h=>runCodeI_mono hC (c:=c) hk h
 | .goto ..,st,k,k',x,hk,h=>by simp[runCodeI]at h
 | .refuse ..,st,k,k',x,hk,h=>by simp[runCodeI]at h
theorem runCode_le (hC:LeC C C') {F:FI} {n:Nat}:∀ {c:Code} {st:St} {k k':Ex→St→Option α} {x:α},LeK k k'→runCode T C F n c st k=some x→runCodeI T C' F c st k'=some x
 | .skip,st,k,k',x,hk,h=>hk _ _ _ h
 | .region id ops draw,st,k,k',x,hk,h=>by
  simp only[runCodeI,runCode]at h ⊢
  obtain⟨h,e⟩:=altSt_path h
  rw[e]
  cases draw with
  | false=>exact runOps_mono hC (fun st x h=>by rw[forceSt_eq]at h ⊢;exact hk _ _ _ h) h
  | true =>
   simp only at h ⊢
   cases hh:tlook F.hides id with
   | none=>rw[hh]at h;cases h
   | some hd =>
    rw[hh]at h
    simp only[forceSt_eq]at h ⊢
    split
    · rename_i hy
      rw[hy]at h
      exact runOps_mono hC (fun st x h=>relog_mono (fun st x h=>hk _ _ _ h) h) h
    · rename_i j hy
      rw[hy]at h
      exact runOps_mono hC (fun st x h=>relog_mono (fun st x h=>runOps_mono hC (fun st x h=>hk _ _ _ h) h) h) h
 | .seq y z,st,k,k',x,hk,h=>runCode_le hC (c:=y) (seq_le (fun st x h=>runCode_le hC (c:=z) hk h) hk) h
 | .cond c y z,st,k,k',x,hk,h=>by
  simp only[runCodeI,runCode]at h ⊢
  split
  · rename_i b hb
    rw[hb]at h
    cases b with
    | true=>exact runCode_le hC (c:=y) hk h
    | false=>exact runCode_le hC (c:=z) hk h
  · rename_i hx
    split at h
    · rename_i b hb;exact absurd hb (hx b)
    · cases h
 | .block id c,st,k,k',x,hk,h=>runCode_le hC (c:=c) (block_le hk) h
 | .loop c,st,k,k',x,hk,h => lim_of (f := fun m => loopN (forgetAt F.cfg c) (fun st' k' => runCodeI T C' F c st' k') m (forgetAt F.cfg c st) k') (n := n) (fun _ _ _ hnm h => loopN_mono (b := fun st' k' => runCodeI T C' F c st' k') (b' := fun st' k' => runCodeI T C' F c st' k') (fun st k k' x hk h => runCodeI_monoK (c := c) hk h) hnm (LeK.refl _) h)
     (loopN_mono (b:=fun st' k'=>runCode T C F n c st' k') (b':=fun st' k'=>runCodeI T C' F c st' k') (fun st k k' x hk h=>runCode_le hC (c:=c) hk h) (Nat.le_refl n) hk h)
 | .exit id,st,k,k',x,hk,h=>hk _ _ _ h
 | .ret,st,k,k',x,hk,h=>hk _ _ _ h
 | .label _,st,k,k',x,hk,h=>hk _ _ _ h
 | .rangeFunc f ps y z,st,k,k',x,hk,h=>by
  have ha:=range_alt h
  obtain⟨g,caps,fi,r,h1,h2,h3,h4,h5,h⟩:=runCode_range h
  refine rangeI_of ha h1 h2 h3 h4 (hC _ _ _ _ h5) (rangeL_mono (fun st k k' x hk h=>?_) hk h)
  exact runCode_le hC (c:=y) (seq_le (fun st x h=>runCode_le hC (c:=z) hk h) hk) h
 | .scope c,st,k,k',x,hk,h=>runCode_le hC (c:=c) hk h
 | .goto ..,st,k,k',x,hk,h=>by simp[runCode]at h
 | .refuse ..,st,k,k',x,hk,h=>by simp[runCode]at h
structure ApprC (Cn:Nat→CallF) (C:CallF):Prop where
 mono:∀ n m,n≤m→LeC (Cn n) (Cn m)
 lim:∀ f a b x,C f a b=some x→∃ n,Cn n f a b=some x
structure ApprK (kn:Nat→Ex→St→Option α) (k:Ex→St→Option α):Prop where
 mono:∀ n m,n≤m→LeK (kn n) (kn m)
 lim:∀ ex st x,k ex st=some x→∃ n,kn n ex st=some x
theorem act1_cont {Cn:Nat→CallF} (hC:ApprC Cn C) {all:List Oper} {o:Oper} {env:List AV} {h:Nat→Option Blk} {y:Option Eff} (h1:act1 T C all o env h=some y):∃ n,act1 T (Cn n) all o env h=some y:=by
 rcases stepOp_shape (T:=T) env h o with ⟨D,hD⟩ | ⟨f,as_,bl,g,hD⟩
 · refine⟨0,?_⟩
   unfold act1 at h1 ⊢
   rw[hD]at h1 ⊢;exact h1
 · cases hc:C f as_ bl with
   | some r =>
    obtain⟨n,hn⟩:=hC.lim _ _ _ _ hc
    refine⟨n,?_⟩
    unfold act1 at h1 ⊢
    rw[hD,hc]at h1
    rw[hD,hn];exact h1
   | none =>
    refine⟨0,?_⟩
    unfold act1 at h1 ⊢
    rw[hD,hc]at h1
    cases hg:o.guard with
    | none=>rw[hg]at h1;simp[DT.run]at h1
    | some gw =>
     obtain⟨g',want⟩:=gw
     rw[hg]at h1
     simp only at h1 ⊢
     cases hd:dstOf all g' with
     | none=>rw[hd]at h1;cases h1
     | some t =>
      rw[hd]at h1
      simp only at h1 ⊢
      by_cases hx:∃ b,env.getD t .undef=.p (.bool b)
      · obtain⟨b,hb⟩:=hx
        rw[hb]at h1 ⊢
        simp only at h1 ⊢
        split
        · rename_i hw;rw[if_pos hw]at h1;simp[DT.run]at h1
        · rename_i hw;rw[if_neg hw]at h1;exact h1
      · by_cases hh:env.getD t .undef=.tup []
        · rw[hh]at h1 ⊢;exact h1
        · split at h1
          · rename_i b hb;exact absurd ⟨b,hb⟩ hx
          · rename_i hb;exact absurd hb hh
          · cases h1
theorem step1_cont {Cn:Nat→CallF} (hC:ApprC Cn C) {draw:Bool} {hd:List Nat} {all:List Oper} {o:Oper} {st st':St} (h1:step1 T C draw hd all o st=some st'):∃ n,step1 T (Cn n) draw hd all o st=some st':=by
 unfold step1 at h1
 cases ha:act1 T C all o st.env (hideH hd (look st.heap)) with
 | none=>rw[ha]at h1;cases h1
 | some y =>
  obtain⟨n,hn⟩:=act1_cont hC ha
  refine⟨n,?_⟩
  unfold step1
  rw[ha]at h1;rw[hn];exact h1
theorem relog_cont {b:Option Blk} {st:St} {kn:Nat→St→Option α} {k:St→Option α} {x:α} (hk:∀ st x,k st=some x→∃ n,kn n st=some x) (h:relog b st k=some x):∃ n,relog b st (kn n)=some x:=by
 unfold relog at h ⊢
 split at h
 · split at h
   · exact hk _ _ h
   · cases h
 · exact hk _ _ h
theorem runOps_cont {Cn : Nat → CallF} (hC : ApprC Cn C) {draw : Bool} {hd : List (List Nat)} {all : List Oper} {kn : Nat → St → Option α} {k : St → Option α} (hm : ∀ n m st x,n ≤ m → kn n st = some x → kn m st = some x) (hk : ∀ st x,k st = some x → ∃ n,kn n st = some x) :
    ∀ {l:List Oper} {j:Nat} {st:St} {x:α},runOps T C draw hd all l j st k=some x→∃ n,runOps T (Cn n) draw hd all l j st (kn n)=some x
  | [],j,st,x,h=>hk _ _ h
  | o::r,j,st,x,h=>by
   cases hy:yieldAt draw st o with
   | none =>
    rw[runOps_cons _ _ hy]at h
    cases h1:step1 T C draw (hd.getD j []) all o st with
    | none=>rw[h1]at h;cases h
    | some st1 =>
     rw[h1]at h
     obtain⟨n1,hn1⟩:=step1_cont hC h1
     obtain⟨n2,hn2⟩:=runOps_cont hC hm hk (l:=r) h
     refine⟨max n1 n2,?_⟩
     rw[runOps_cons _ _ hy,step1_mono (hC.mono n1 (max n1 n2) (by omega)) hn1]
     exact runOps_mono (hC.mono n2 (max n1 n2) (by omega)) (fun st x h=>hm n2 _ st x (by omega) h) hn2
   | some p =>
    obtain⟨xs,vs⟩:=p
    rw[runOps_yield _ _ hy]at h
    cases hg:guardOf all o st.env with
    | none=>rw[hg]at h;cases h
    | some b =>
     rw[hg]at h
     cases b with
     | false =>
      obtain⟨n,hn⟩:=runOps_cont hC hm hk (l:=r) h
      refine⟨n,?_⟩
      rw[runOps_yield _ _ hy,hg]
      exact hn
     | true =>
      obtain⟨no,h1,h2⟩:=fork_some h
      obtain⟨n1,hn1⟩:=runOps_cont hC hm hk (l:=r) h1
      obtain⟨n2,hn2⟩:=runOps_cont hC hm hk (l:=r) h2
      refine⟨max n1 n2,?_⟩
      rw[runOps_yield _ _ hy,hg]
      exact fork_of (runOps_mono (hC.mono n1 (max n1 n2) (by omega)) (fun st x h=>hm n1 _ st x (by omega) h) hn1) (runOps_mono (hC.mono n2 (max n1 n2) (by omega)) (fun st x h=>hm n2 _ st x (by omega) h) hn2)
theorem seq_appr {kn : Nat → Ex → St → Option α} {k : Ex → St → Option α} (hk : ApprK kn k) {fn : Nat → St → Option α} {f : St → Option α} (hm : ∀ n m st x,n ≤ m → fn n st = some x → fn m st = some x) (hl : ∀ st x,f st = some x → ∃ n,fn n st = some x) :
    ApprK (fun n ex st'=>match ex with | .normal=>fn n st' | .exit id=>kn n (.exit id) st' | .ret=>kn n .ret st') (fun ex st'=>match ex with | .normal=>f st' | .exit id=>k (.exit id) st' | .ret=>k .ret st') :=
  ⟨fun n m h=>seq_le (fun st x h'=>hm n m st x h h') (hk.mono n m h),fun ex st x h=>by
    cases ex with
    | normal=>exact hl _ _ h
    | exit id=>exact hk.lim _ _ _ h
    | ret=>exact hk.lim _ _ _ h⟩
theorem block_appr {kn : Nat → Ex → St → Option α} {k : Ex → St → Option α} {id : Nat} (hk : ApprK kn k) :
    ApprK (fun n ex st'=>match ex with | .normal=>kn n .normal st' | .exit i=>bif i==id then kn n .normal st' else kn n (.exit i) st' | .ret=>kn n .ret st') (fun ex st'=>match ex with | .normal=>k .normal st' | .exit i=>bif i==id then k .normal st' else k (.exit i) st' | .ret=>k .ret st') :=
  ⟨fun n m h=>block_le (hk.mono n m h),fun ex st x h=>by
    cases ex with
    | normal=>exact hk.lim _ _ _ h
    | exit i =>
     simp only at h ⊢
     cases hi:i==id with
     | true=>rw[hi]at h;exact hk.lim _ _ _ h
     | false=>rw[hi]at h;exact hk.lim _ _ _ h
    | ret=>exact hk.lim _ _ _ h⟩
theorem runCode_cont {Cn:Nat→CallF} (hC:ApprC Cn C) {F:FI}:∀ {c:Code} {st:St} {kn:Nat→Ex→St→Option α} {k:Ex→St→Option α} {x:α},ApprK kn k→runCodeI T C F c st k=some x→∃ n,runCode T (Cn n) F n c st (kn n)=some x
 | .skip,st,kn,k,x,hk,h=>hk.lim _ _ _ h
 | .region id ops draw,st,kn,k,x,hk,h=>by
  simp only[runCodeI,runCode]at h ⊢
  obtain⟨h,e⟩:=altSt_path h
  simp only[e]
  cases draw with
  | false =>
   exact runOps_cont hC (kn:=fun n st'=>forceSt (settle F.cfg ops.toList st') fun st'=>kn n .normal st') (fun n m st x hnm h=>by rw[forceSt_eq]at h ⊢;exact hk.mono n m hnm _ _ _ h) (fun st x h=>by
    rw[forceSt_eq]at h
    obtain⟨n,hn⟩:=hk.lim _ _ _ h
    exact⟨n,by rw[forceSt_eq];exact hn⟩) h
  | true =>
   simp only[]at h ⊢
   cases hh:tlook F.hides id with
   | none=>rw[hh]at h;cases h
   | some hd =>
    rw[hh]at h
    simp only[forceSt_eq]at h ⊢
    cases hy:yCut F.cfg.ys ops.toList with
    | none =>
     rw[hy]at h
     exact runOps_cont hC (kn:=fun n st'=>relog (look (st.strike (present st.heap (allSites ops.toList ops.toList))).heap argSite) st' fun st'=>kn n .normal (settle F.cfg ops.toList st')) (fun n m st x hnm h=>relog_mono (fun st x h=>hk.mono n m hnm _ _ _ h) h) (fun st x h=>relog_cont (kn:=fun n st'=>kn n .normal (settle F.cfg ops.toList st')) (fun st x h=>hk.lim _ _ _ h) h) h
    | some j =>
     rw[hy]at h
     exact runOps_cont hC (kn:=fun n st'=>relog (look (st.strike (present st.heap (allSites ops.toList ops.toList))).heap argSite) st' fun st'=>runOps T (Cn n) false [] ops.toList (ops.toList.drop j) j st' fun st'=>kn n .normal (settle F.cfg ops.toList st'))
      (fun n m st x hnm h=>relog_mono (fun st x h=>runOps_mono (hC.mono n m hnm) (fun st x h=>hk.mono n m hnm _ _ _ h) h) h)
      (fun st x h=>relog_cont (kn:=fun n st'=>runOps T (Cn n) false [] ops.toList (ops.toList.drop j) j st' fun st'=>kn n .normal (settle F.cfg ops.toList st')) (fun st x h =>
        runOps_cont hC (kn:=fun n st'=>kn n .normal (settle F.cfg ops.toList st')) (fun n m st x hnm h=>hk.mono n m hnm _ _ _ h) (fun st x h=>hk.lim _ _ _ h) h) h) h
 | .seq y z,st,kn,k,x,hk,h=>runCode_cont hC (c:=y) (seq_appr hk (fn:=fun n st'=>runCode T (Cn n) F n z (forgetAt F.cfg z st') (kn n)) (fun n m st x hnm h=>runCode_mono (hC.mono n m hnm) hnm (hk.mono n m hnm) h) (fun st x h=>runCode_cont hC (c:=z) hk h)) h
 | .cond c y z,st,kn,k,x,hk,h=>by
  simp only[runCodeI,runCode]at h ⊢
  by_cases hx:∃ b,evalO st.env c=.p (.bool b)
  · obtain⟨b,hb⟩:=hx
    rw[hb]at h ⊢
    cases b with
    | true=>exact runCode_cont hC (c:=y) hk h
    | false=>exact runCode_cont hC (c:=z) hk h
  · split at h
    · rename_i b hb;exact absurd ⟨b,hb⟩ hx
    · cases h
 | .block id c,st,kn,k,x,hk,h=>runCode_cont hC (c:=c) (block_appr hk) h
 | .loop c,st,kn,k,x,hk,h=>by
  obtain⟨m,hm⟩:=lim_some h
  have key:∀ m st x,loopN (forgetAt F.cfg c) (fun st' k'=>runCodeI T C F c st' k') m st k=some x→∃ n,loopN (forgetAt F.cfg c) (fun st' k'=>runCode T (Cn n) F n c st' k') n st (kn n)=some x:=by
   intro m
   induction m with
   | zero=>intro st x h;simp[loopN]at h
   | succ m ih =>
    intro st x h
    rw[loopN_succ]at h
    have happ:ApprK (fun n=>next (forgetAt F.cfg c) (fun st'=>loopN (forgetAt F.cfg c) (fun st' k'=>runCode T (Cn n) F n c st' k') n st' (kn n)) (kn n)) (next (forgetAt F.cfg c) (fun st'=>loopN (forgetAt F.cfg c) (fun st' k'=>runCodeI T C F c st' k') m st' k) k) :=
     ⟨fun n m hnm=>next_le (fun st x h=>loopN_mono (b:=fun st' k'=>runCode T (Cn n) F n c st' k') (b':=fun st' k'=>runCode T (Cn m) F m c st' k') (fun st k k' x hk h=>runCode_mono (hC.mono n m hnm) hnm (c:=c) hk h) hnm (hk.mono n m hnm) h) (hk.mono n m hnm),fun ex st x h=>by
       cases ex with
       | normal =>
        simp only[next,forceSt_eq]at h ⊢
        exact ih _ _ h
       | exit id=>exact hk.lim _ _ _ h
       | ret=>exact hk.lim _ _ _ h⟩
    obtain⟨n,hn⟩:=runCode_cont hC (c:=c) happ h
    refine⟨n+1,?_⟩
    rw[loopN_succ]
    exact runCode_mono (hC.mono n (n+1) (by omega)) (by omega) (next_le (fun st x h=>loopN_mono (b:=fun st' k'=>runCode T (Cn n) F n c st' k') (b':=fun st' k'=>runCode T (Cn (n+1)) F (n+1) c st' k') (fun st k k' x hk h=>runCode_mono (hC.mono n (n+1) (by omega)) (by omega) (c:=c) hk h) (by omega) (hk.mono n (n+1) (by omega)) h) (hk.mono n (n+1) (by omega))) hn
  obtain⟨n,hn⟩:=key m _ x hm
  exact⟨n,hn⟩
 | .exit id,st,kn,k,x,hk,h=>hk.lim _ _ _ h
 | .ret,st,kn,k,x,hk,h=>hk.lim _ _ _ h
 | .label _,st,kn,k,x,hk,h=>hk.lim _ _ _ h
 | .rangeFunc f ps y z,st,kn,k,x,hk,h=>by
  have ha:=rangeI_alt h
  obtain⟨g,caps,fi,r,h1,h2,h3,h4,h5,h⟩:=rangeI_some h
  obtain⟨n0,h5⟩:=hC.lim _ _ _ _ h5
  have rmono:∀ n m,n≤m→LeB (roundC (α:=α) T (Cn n) F n y z) (roundC T (Cn m) F m y z):=fun n m hnm st k k' x hk h=>runCode_mono (hC.mono n m hnm) hnm (c:=y) (seq_le (fun st x h=>runCode_mono (hC.mono n m hnm) hnm (c:=z) hk h) hk) h
  have key:∀ (xs:List PV) (st:St) (x:α),rangeL (forgetAt F.cfg (.seq y z)) fi.cfg.yk ps.toList (rngWs ps y z) (fun st k=>runCodeI T C F (.seq y z) st k) xs st k=some x→∃ n,rangeL (forgetAt F.cfg (.seq y z)) fi.cfg.yk ps.toList (rngWs ps y z) (roundC T (Cn n) F n y z) xs st (kn n)=some x:=by
   intro xs
   induction xs with
   | nil=>intro st x h;exact hk.lim _ _ _ h
   | cons v xs ih =>
    intro st x h
    simp only[rangeL]at h ⊢
    split at h
    · cases h
    · rename_i env he
      rw[forceSt_eq]at h
      have happ:ApprK (fun n=>rnext (forgetAt F.cfg (.seq y z)) (rngWs ps y z) (fun st=>rangeL (forgetAt F.cfg (.seq y z)) fi.cfg.yk ps.toList (rngWs ps y z) (roundC T (Cn n) F n y z) xs st (kn n)) (kn n)) (rnext (forgetAt F.cfg (.seq y z)) (rngWs ps y z) (fun st=>rangeL (forgetAt F.cfg (.seq y z)) fi.cfg.yk ps.toList (rngWs ps y z) (fun st k=>runCodeI T C F (.seq y z) st k) xs st k) k) :=
       ⟨fun n m hnm=>rnext_le (fun st x h=>rangeL_mono (rmono n m hnm) (hk.mono n m hnm) h) (hk.mono n m hnm),fun ex st x h=>by
         cases ex with
         | normal =>
          simp only[rnext,forceSt_eq]at h ⊢
          exact ih _ _ h
         | exit id =>
          simp only[rnext,forceSt_eq]at h ⊢
          exact hk.lim _ _ _ h
         | ret =>
          simp only[rnext,forceSt_eq]at h ⊢
          exact hk.lim _ _ _ h⟩
      have h':=runCode_cont hC (c:=y) (seq_appr happ (fn:=fun n st'=>runCode T (Cn n) F n z (forgetAt F.cfg z st') (rnext (forgetAt F.cfg (.seq y z)) (rngWs ps y z) (fun st=>rangeL (forgetAt F.cfg (.seq y z)) fi.cfg.yk ps.toList (rngWs ps y z) (roundC T (Cn n) F n y z) xs st (kn n)) (kn n))) (fun n m st x hnm h=>runCode_mono (hC.mono n m hnm) hnm (c:=z) (happ.mono n m hnm) h) (fun st x h=>runCode_cont hC (c:=z) happ h)) h
      obtain⟨n,hn⟩:=h'
      exact⟨n,by rw[forceSt_eq];exact hn⟩
  obtain⟨n1,h⟩:=key _ _ _ h
  refine⟨max n0 n1,range_of ha h1 h2 h3 h4 (hC.mono n0 (max n0 n1) (by omega) _ _ _ _ h5) (rangeL_mono (rmono n1 (max n0 n1) (by omega)) (hk.mono n1 (max n0 n1) (by omega)) h)⟩
 | .scope c,st,kn,k,x,hk,h=>runCode_cont hC (c:=c) hk h
 | .goto ..,st,kn,k,x,hk,h=>by simp[runCodeI]at h
 | .refuse ..,st,kn,k,x,hk,h=>by simp[runCodeI]at h
theorem loop_of {C:CallF} {F:FI} {c:Code} {fg:St→St} {st:St} {k:Ex→St→Option α} {x:α} (h:runCodeI T C F c st (next fg (fun st'=>loopI fg (fun st' k'=>runCodeI T C F c st' k') st' k) k)=some x):loopI fg (fun st' k'=>runCodeI T C F c st' k') st k=some x:=by
 have hb:LeB (fun st' k'=>runCodeI (α:=α) T C F c st' k') (fun st' k'=>runCodeI T C F c st' k'):=fun st k k' x hk h=>runCodeI_mono (LeC.refl _) (c:=c) hk h
 have happ:ApprK (fun n=>next fg (fun st'=>loopN fg (fun st' k'=>runCodeI T C F c st' k') n st' k) k) (next fg (fun st'=>loopI fg (fun st' k'=>runCodeI T C F c st' k') st' k) k) :=
  ⟨fun n m hnm=>next_le (fun st x h=>loopN_mono hb hnm (LeK.refl _) h) (LeK.refl _),fun ex st x h=>by
    cases ex with
    | normal =>
     simp only[next,forceSt_eq]at h ⊢
     exact lim_some h
    | exit id=>exact⟨0,h⟩
    | ret=>exact⟨0,h⟩⟩
 have hC:ApprC (fun _=>C) C:=⟨fun _ _ _=>LeC.refl _,fun _ _ _ _ h=>⟨0,h⟩⟩
 obtain⟨n,hn⟩:=runCode_cont hC happ h
 have:=runCode_le (LeC.refl C) (LeK.refl _) hn
 exact lim_of (n:=n+1) (fun _ _ _ hnm h=>loopN_mono hb hnm (LeK.refl _) h) (by rw[loopN_succ];exact this)
theorem acall_mono {X:Ext}:∀ {n m:Nat},n≤m→LeC (acall T X n) (acall T X m)
 | 0,_,_=>fun f a b x h=>by simp[acall]at h
 | n+1,0,hm=>by omega
 | n+1,m+1,hm=>fun f a b x h=>by
  simp only[acall]at h ⊢
  split at h
  · cases h
  · rename_i fi hf
    split at h
    · exact h
    · rename_i hx
      split at h
      · cases h
      · rename_i c hc
        cases hb:callB fi.cfg b with
        | false=>rw[hb]at h;cases h
        | true =>
        rw[hb]at h
        simp only[cond_true,forceAVs_eq,forceBlks_eq,forceSt_eq]at h ⊢
        exact runCode_mono (acall_mono (by omega)) (by omega) (LeK.refl _) h
theorem run_appr {X:Ext}:ApprC (acall T X) (run T X):=⟨fun _ _ h=>acall_mono h,fun _ _ _ _ h=>lim_some h⟩
theorem run_mono {X:Ext} {f:Nat} {a:List AV} {b:List Blk}:Mono fun n=>acall T X n f a b:=fun _n _m x hnm h=>acall_mono hnm f a b x h
theorem run_of {X:Ext} {f:Nat} {args:List AV} {bl:List Blk} {r:List AV × List Blk} (hX:X f=none) (h:acallI T (run T X) f args bl=some r):run T X f args bl=some r:=by
 unfold acallI at h
 split at h
 · cases h
 · rename_i fi hf
   split at h
   · cases h
   · rename_i c hc
     cases hb:callB fi.cfg bl with
     | false=>rw[hb]at h;cases h
     | true =>
     rw[hb]at h
     simp only[cond_true,forceAVs_eq,forceBlks_eq,forceSt_eq]at h
     obtain⟨n,hn⟩:=runCode_cont run_appr (kn:=fun _=>retC T fi bl) ⟨fun _ _ _=>LeK.refl _,fun _ _ _ h=>⟨0,h⟩⟩ h
     refine lim_of (n:=n+1) run_mono ?_
     simp only[acall,hf,hX,hc,hb,cond_true,forceAVs_eq,forceBlks_eq,forceSt_eq]
     refine runCode_mono (LeC.refl _) (Nat.le_refl n) (fun ex st x h=>?_) hn
     cases ex<;>exact h
theorem run_ext {X:Ext} {f:Nat} {fi:FI} {s:List AV→List Blk→Option (List AV × List Blk)} {args:List AV} {bl:List Blk} {r:List AV × List Blk} (hf:tlook T.funcs f=some fi) (hX:X f=some s) (h:s args bl=some r):run T X f args bl=some r :=
 lim_of (n:=1) run_mono (by simp only[acall,hf,hX];exact h)
theorem run_sound {P:Program} (ok:TabOk P T) {X:Ext} {gl:Option (List (Nat × Obj))} (hX:ExtOk P T gl X):CallOk P T gl (run T X):=by
 refine⟨fun f fi args bl rs bl' hf hpb h=>?_,fun f fi args z off len a ks xs rs bl' hf hv h=>?_,hX.1⟩
 · obtain⟨n,hn⟩:=lim_some h
   exact(acall_sound ok hX n).plain f fi args bl rs bl' hf hpb hn
 · obtain⟨n,hn⟩:=lim_some h
   exact(acall_sound ok hX n).var f fi args z off len a ks xs rs bl' hf hv hn
end
inductive Wy where
 | lp (p:List Nat)
 | rg (p:List Nat) (ss:List (Bool × List Kd)) (xs:List PV)
section
variable {α:Type} (T:Tab) (C:CallF) (F:FI)
def codeAt:Code→List Nat→Code
 | c,[]=>c
 | .seq a _,0::p=>codeAt a p
 | .seq _ b,_::p=>codeAt b p
 | .cond _ a _,0::p=>codeAt a p
 | .cond _ _ b,_::p=>codeAt b p
 | .block _ c,_::p=>codeAt c p
 | .scope c,_::p=>codeAt c p
 | .loop c,_::p=>codeAt c p
 | c,_=>c
def bodyAt (c:Code) (p:List Nat):Code:=match codeAt c p with
 | .loop b=>b
 | .rangeFunc _ _ a b=>.seq a b
 | _=>.skip
def psAt (c:Code) (p:List Nat):List Nat:=match codeAt c p with
 | .rangeFunc _ ps _ _=>ps.toList
 | _=>[]
def wsAt (c:Code) (p:List Nat):List Nat:=match codeAt c p with
 | .rangeFunc _ ps a b=>rngWs ps a b
 | _=>[]
noncomputable def contAt:Code→List Nat→(Ex→St→Option α)→Ex→St→Option α
 | .seq a b,0::p,k=>contAt a p fun ex st' =>
  match ex with
  | .normal=>runCodeI T C F b (forgetAt F.cfg b st') k
  | .exit id=>k (.exit id) st'
  | .ret=>k .ret st'
 | .seq _ b,_::p,k=>contAt b p k
 | .cond _ a _,0::p,k=>contAt a p k
 | .cond _ _ b,_::p,k=>contAt b p k
 | .block id c,_::p,k=>contAt c p fun ex st' =>
  match ex with
  | .normal=>k .normal st'
  | .exit i=>bif i==id then k .normal st' else k (.exit i) st'
  | .ret=>k .ret st'
 | .scope c,_::p,k=>contAt c p k
 | _,_,k=>k
noncomputable def lpAt (c:Code) (p:List Nat) (k:Ex→St→Option α) (st:St):Option α:=loopI (forgetAt F.cfg (bodyAt c p)) (fun st' k'=>runCodeI T C F (bodyAt c p) st' k') st (contAt T C F c p k)
noncomputable def lpNext (c:Code) (p:List Nat) (k:Ex→St→Option α):Ex→St→Option α:=next (forgetAt F.cfg (bodyAt c p)) (lpAt T C F c p k) (contAt T C F c p k)
noncomputable def rgAt (c:Code) (p:List Nat) (ss:List (Bool × List Kd)) (k:Ex→St→Option α) (xs:List PV) (st:St):Option α :=
 rangeL (forgetAt F.cfg (bodyAt c p)) ss (psAt c p) (wsAt c p) (fun st k=>runCodeI T C F (bodyAt c p) st k) xs st (contAt T C F c p k)
noncomputable def rgNext (c:Code) (p:List Nat) (ss:List (Bool × List Kd)) (xs:List PV) (k:Ex→St→Option α):Ex→St→Option α:=rnext (forgetAt F.cfg (bodyAt c p)) (wsAt c p) (rgAt T C F c p ss k xs) (contAt T C F c p k)
noncomputable def loopAt:Code→(Ex→St→Option α)→List Wy→St→Option α
 | _,_,[],_=>none
 | c,k,[.lp p],st=>lpAt T C F c p k st
 | c,k,[.rg p ss xs],st=>rgAt T C F c p ss k xs st
 | c,k,.lp p::q::r,st=>loopAt (bodyAt c p) (lpNext T C F c p k) (q::r) st
 | c,k,.rg p ss xs::q::r,st=>loopAt (bodyAt c p) (rgNext T C F c p ss xs k) (q::r) st
noncomputable def roundAt:Code→(Ex→St→Option α)→List Wy→St→Option α
 | _,_,[],_=>none
 | c,k,[.lp p],st=>runCodeI T C F (bodyAt c p) st (lpNext T C F c p k)
 | c,k,[.rg p ss xs],st=>rgAt T C F c p ss k xs st
 | c,k,.lp p::q::r,st=>roundAt (bodyAt c p) (lpNext T C F c p k) (q::r) st
 | c,k,.rg p ss xs::q::r,st=>roundAt (bodyAt c p) (rgNext T C F c p ss xs k) (q::r) st
variable {T C F}
theorem loopAt_of {x:α}:∀ {l:List Wy} {c:Code} {k:Ex→St→Option α} {st:St},roundAt T C F c k l st=some x→loopAt T C F c k l st=some x
 | [],_,_,_,h=>by simp[roundAt]at h
 | [.lp p],c,k,st,h=>loop_of h
 | [.rg p ss xs],c,k,st,h=>h
 | .lp p::q::r,c,k,st,h=>loopAt_of (l:=q::r) h
 | .rg p ss xs::q::r,c,k,st,h=>loopAt_of (l:=q::r) h
end
section
variable (T:Tab) (C:CallF) (f:Nat) (bl:List Blk)
noncomputable def fiOf:FI:=match tlook T.funcs f with | some fi=>fi | none=>⟨default,{},[]⟩
def codeOf (F:FI):Code:=match F.fn.body with | some c=>c | none=>.skip
noncomputable def L (l:List Wy) (st:St):Option (List AV × List Blk):=loopAt T C (fiOf T f) (codeOf (fiOf T f)) (retC T (fiOf T f) bl) l st
noncomputable def R (l:List Wy) (st:St):Option (List AV × List Blk):=roundAt T C (fiOf T f) (codeOf (fiOf T f)) (retC T (fiOf T f) bl) l st
variable {T C f bl}
theorem L_of {l:List Wy} {st:St} {x:List AV × List Blk} (h:R T C f bl l st=some x):L T C f bl l st=some x:=loopAt_of h
end
end Go.Skm
namespace Go.Skm
open Go.ChangeShapes Go.WideShapes
mutual
def PV.wf:PV→Prop
 | .int k n=>(Lit.int k n).wf=true
 | .str s=>s.size≤maxLen
 | .list _ _ xs=>xs.length≤maxLen∧PV.wfs xs
 | .agg cs=>PV.wfs cs
 | .nil=>False
 | _=>True
def PV.wfs:List PV→Prop
 | []=>True
 | v::r=>PV.wf v∧PV.wfs r
end
theorem wfs_mem:∀ {l:List PV},PV.wfs l↔∀ v∈l,v.wf
 | []=>by simp[PV.wfs]
 | v::r=>by simp[PV.wfs,wfs_mem]
section
variable (P:Program)
def argT:Nat→TypeId→Bool
 | 0,_=>false
 | n+1,t =>
  match P.underlying t with
  | some (.int _)=>Nat.beq (P.cellsOf t) 1
  | some .bool=>Nat.beq (P.cellsOf t) 1
  | some .string=>Nat.beq (P.cellsOf t) 1
  | some (.slice e)=>argT n e&&(Nat.blt 0 (P.cellsOf e)&&Nat.beq (P.cellsOf t) 1)
  | some (.struct fs)=>go n 0 fs.toList&&Nat.beq (P.cellsOf t) (sum fs.toList)
  | some (.array m e)=>argT n e&&Nat.beq (P.cellsOf t) (m*P.cellsOf e)
  | _=>false
where
 go (n:Nat):Nat→List Field→Bool
 | _,[]=>true
 | o,f::r=>f.offset==o&&(argT n f.type&&go n (o+P.cellsOf f.type) r)
 sum:List Field→Nat
 | []=>0
 | f::r=>P.cellsOf f.type+sum r
end
section
variable {H:Type} {enc:TypeId × Value→H} {P:Program} {w:World} {base:Nat} {sp:Nat→Bool} {held:Bool} {M:Nat→Prop}
theorem argT_len:∀ {n:Nat} {t:TypeId},argT P n t=true→(shapeP P n t).2.length=P.cellsOf t
 | 0,t,h=>by simp[argT]at h
 | n+1,t,h=>by
  unfold argT at h
  unfold shapeP
  split at h
  · rename_i k hu;rw[hu];simpa using (Nat.eq_of_beq_eq_true h).symm
  · rename_i hu;rw[hu];simpa using (Nat.eq_of_beq_eq_true h).symm
  · rename_i hu;rw[hu];simpa using (Nat.eq_of_beq_eq_true h).symm
  · rename_i e hu
    rw[hu]
    simp only[Bool.and_eq_true]at h
    simpa using (Nat.eq_of_beq_eq_true h.2.2).symm
  · rename_i fs hu
    rw[hu]
    simp only[Bool.and_eq_true]at h
    rw[Nat.eq_of_beq_eq_true h.2]
    have:∀ (l:List Field) (o:Nat),argT.go P n o l=true→(l.flatMap fun f=>(shapeP P n f.type).2).length=argT.sum P l:=by
     intro l
     induction l with
     | nil=>intro o _;rfl
     | cons f r ih =>
      intro o h
      simp only[argT.go,Bool.and_eq_true]at h
      simp only[List.flatMap_cons,List.length_append,argT.sum,argT_len h.2.1,ih _ h.2.2]
    exact this _ _ h.1
  · rename_i m e hu
    rw[hu]
    simp only[Bool.and_eq_true]at h
    simp only[List.length_flatten,List.map_replicate,List.sum_replicate_nat,argT_len h.1]
    exact(Nat.eq_of_beq_eq_true h.2).symm
  · cases h
def ArgR (w:World) (M:Nat→Prop) (ks:List Kd) (cs:List Value) (ps:List PV):Prop :=
 kindsOk ks ps=true∧ps.length=cs.length∧(∀ (i:Nat) (p:PV),ps[i]?=some p→VR w M p (cs.getD i undef))∧PV.wfs ps
theorem kindsOk_append:∀ {k1 k2:List Kd} {p1 p2:List PV},kindsOk k1 p1=true→kindsOk k2 p2=true→kindsOk (k1++k2) (p1++p2)=true
 | [],k2,[],p2,_,h=>h
 | k::k1,k2,v::p1,p2,h1,h2=>by
  simp only[kindsOk,Bool.and_eq_true]at h1
  simp only[List.cons_append,kindsOk,Bool.and_eq_true]
  exact⟨h1.1,kindsOk_append h1.2 h2⟩
 | [],_,_::_,_,h,_=>by simp[kindsOk]at h
 | _::_,_,[],_,h,_=>by simp[kindsOk]at h
theorem ArgR.append {k1 k2:List Kd} {c1 c2:List Value} {p1 p2:List PV} (h1:ArgR w M k1 c1 p1) (h2:ArgR w M k2 c2 p2):ArgR w M (k1++k2) (c1++c2) (p1++p2):=by
 refine⟨kindsOk_append h1.1 h2.1,by simp[h1.2.1,h2.2.1],fun i p hp=>?_,?_⟩
 · by_cases hi:i<p1.length
   · rw[List.getElem?_append_left hi]at hp
     have:=h1.2.2.1 i p hp
     rw[List.getD_eq_getElem?_getD]at this ⊢
     rwa[List.getElem?_append_left (by rw[← h1.2.1];exact hi)]
   · rw[List.getElem?_append_right (by omega)]at hp
     have:=h2.2.2.1 _ p hp
     rw[List.getD_eq_getElem?_getD]at this ⊢
     rwa[List.getElem?_append_right (by rw[← h1.2.1];omega),← h1.2.1]
 · rw[wfs_mem]at *
   have a:=wfs_mem.1 h1.2.2.2
   have b:=wfs_mem.1 h2.2.2.2
   intro v hv
   rcases List.mem_append.1 hv with hv | hv
   · exact a v hv
   · exact b v hv
def elemPV (a:Bool) (ps:List PV):PV:=match a with | true=>.agg ps | false=>ps.headD .nil
theorem shapeP_one {n:Nat} {t:TypeId} (h:argT P n t=true) (ha:(shapeP P n t).1=false):(shapeP P n t).2.length=1:=by
 cases n with
 | zero=>simp[argT]at h
 | succ n =>
  unfold argT at h
  unfold shapeP at ha ⊢
  split at h<;>rename_i hu<;>first | (simp only[hu]at ha ⊢;done) | skip
  all_goals (try (simp only[hu]at ha ⊢;rfl))
  all_goals (simp only[hu]at ha)
  all_goals (cases ha)
theorem arg_elem_ok {n : Nat} {t : TypeId} {cs : List Value} {ps : List PV} (h : argT P n t = true) (hc : ArgR w M (shapeP P n t).2 cs ps) :
    shapeOk (shapeP P n t).1 (shapeP P n t).2 (elemPV (shapeP P n t).1 ps)=true∧(elemPV (shapeP P n t).1 ps).cells=ps∧(elemPV (shapeP P n t).1 ps).wf:=by
  cases ha:(shapeP P n t).1 with
  | true=>exact⟨hc.1,rfl,by simp only[elemPV,PV.wf];exact hc.2.2.2⟩
  | false =>
   have h1:=shapeP_one h ha
   have hk:=hc.1
   match hks:(shapeP P n t).2,h1,hk with
   | [k],_,hk =>
    match ps,hk,hc with
    | [p],hk,hc =>
     simp only[kindsOk,Bool.and_true]at hk
     have hl:=kindOk_leaf hk
     refine⟨hk,?_,?_⟩
     · simp only[elemPV,List.headD_cons]
       cases p<;>first | rfl | simp[PV.leaf]at hl
     · exact(wfs_mem.1 hc.2.2.2) p (by simp)
    | [],hk,_=>simp[kindsOk]at hk
    | _::_::_,hk,_=>simp[kindsOk]at hk
theorem spot_of_cells {a:Addr} {n i:Nat} {v:Value} (h:w.cell? (a.add i)=some v) (hi:i<n) (h0:i=0):a.spot=none:=by
 subst h0
 simp only[Addr.add,if_true]at h
 unfold World.cell? at h
 split at h
 · cases hs:a.spot with
   | none=>rfl
   | some s=>rw[hs]at h;simp at h
 · cases h
theorem cells?_get {a:Addr} {n:Nat} {cs:List Value} (h:w.cells? base a n=some cs):cs.length=n∧∀ i,i<n→∃ v,cs[i]?=some v∧w.cell? (a.add i)=some v:=by
 unfold World.cells? at h
 split at h
 · have hl:=mapM_some_length h
   simp at hl
   refine⟨hl,fun i hi=>?_⟩
   have:=mapM_some_get h i i (by simp[hi])
   have hlt:i<cs.length:=by omega
   rw[List.getElem?_eq_getElem hlt]at this
   exact⟨cs[i],by simp,this⟩
 · cases h
theorem trod_pure (hM:∀ b,b<w.heap.size→M b):∀ (fuel n:Nat) (t:TypeId) (cs:List Value) (x:DataW H × List MemPlace),DataW.trod enc P w base sp held fuel t cs=some x→argT P n t=true→∃ ps,ArgR w M (shapeP P n t).2 cs ps:=by
 intro fuel
 induction fuel with
 | zero=>intro n t cs x h;simp[DataW.trod]at h
 | succ fuel ih =>
  intro n t cs x h ha
  cases n with
  | zero=>simp[argT]at ha
  | succ n =>
   unfold argT at ha
   have one:∀ (k:Kd) (p:PV) (v:Value),kindOk k p=true→VR w M p v→p.wf→ArgR w M [k] [v] [p]:=by
    intro k p v h1 h2 h3
    refine⟨by simp[kindsOk,h1],rfl,fun i q hq=>?_,by simp[PV.wfs,h3]⟩
    cases i with
    | zero=>simp at hq;subst hq;simpa using h2
    | succ i=>simp at hq
   split at ha
   · rename_i k hu
     obtain⟨m,rfl,_,hw⟩:=DataW.trod_int hu h
     have e:(shapeP P (n+1) t).2=[.int k]:=by (conv=>lhs;unfold shapeP);rw[hu]
     rw[e]
     exact⟨_,one _ (.int k m) _ (by simp[kindOk]) (.int k m) hw⟩
   · rename_i hu
     obtain⟨b,rfl,_⟩:=DataW.trod_bool hu h
     have e:(shapeP P (n+1) t).2=[.bool]:=by (conv=>lhs;unfold shapeP);rw[hu]
     rw[e]
     exact⟨_,one _ (.bool b) _ rfl (.bool b) trivial⟩
   · rename_i hu
     obtain⟨s,rfl,_,hw⟩:=DataW.trod_string hu h
     have e:(shapeP P (n+1) t).2=[.str]:=by (conv=>lhs;unfold shapeP);rw[hu]
     rw[e]
     exact⟨_,one _ (.str s) _ rfl (.str s) hw⟩
   · -- a slice
     rename_i e hu
     simp only[Bool.and_eq_true]at ha
     have es:(shapeP P (n+1) t).2=[.slice (shapeP P n e).1 (shapeP P n e).2]:=by (conv=>lhs;unfold shapeP);rw[hu]
     rw[es]
     have hpos:0<P.cellsOf e:=Nat.le_of_ble_eq_true ha.2.1
     have hlen:=argT_len ha.1
     rcases DataW.trod_slice hu h with ⟨rfl,_⟩ | ⟨a,len,cap,elems,rest,m,hm,rfl,_,hb,hlc,hcm,hel,hget,_,_⟩
     · exact⟨_,one _ (.list (shapeP P n e).1 (shapeP P n e).2 []) _ (by simp[kindOk,Kd.beqs_refl]) (.listE _ _ none 0) (by simp[PV.wf,PV.wfs])⟩
     · cases hm
       have good:∀ i,i<len→∃ (ps:List PV) (csi:List Value),w.cells? base (a.add (i*P.cellsOf e)) (P.cellsOf e)=some csi∧ArgR w M (shapeP P n e).2 csi ps:=by
        intro i hi
        have h1:=hget i hi
        rw[List.getElem?_eq_getElem (by omega)]at h1
        simp only[Option.bind_eq_some_iff]at h1
        obtain⟨csi,h2,h3⟩:=h1
        obtain⟨ps,h4⟩:=ih n e csi _ h3 ha.1
        exact⟨ps,csi,h2,h4⟩
       by_cases h0:len=0
       · subst h0
         exact⟨_,one _ (.list (shapeP P n e).1 (shapeP P n e).2 []) _ (by simp[kindOk,Kd.beqs_refl]) (.listE _ _ (some a) cap) (by simp[PV.wf,PV.wfs])⟩
       · have hspot : a.spot = none := by
           obtain⟨ps,csi,h2,_⟩:=good 0 (by omega)
           obtain⟨_,h3⟩:=cells?_get h2
           obtain⟨v,_,h4⟩:=h3 0 hpos
           simp only[Nat.zero_mul]at h4
           have e0:a.add 0=a:=by simp[Addr.add]
           rw[e0]at h4
           exact spot_of_cells h4 hpos rfl
         have addr:∀ i j,(a.add (i*P.cellsOf e)).add j=⟨a.block,a.off+i*P.cellsOf e+j,none⟩:=by
          intro i j
          obtain⟨ab,ao,as⟩:=a
          simp only at hspot
          subst hspot
          unfold Addr.add
          by_cases h1:i*P.cellsOf e=0<;>by_cases h2:j=0<;>simp[h1,h2]
         have hex:∃ (f:Nat→List PV) (g:Nat→List Value),∀ i,i<len→w.cells? base (a.add (i*P.cellsOf e)) (P.cellsOf e)=some (g i)∧ArgR w M (shapeP P n e).2 (g i) (f i) :=
          ⟨fun i=>if h:i<len then(good i h).choose else [],fun i=>if h:i<len then(good i h).choose_spec.choose else [],fun i hi=>by
            simp only[dif_pos hi];exact(good i hi).choose_spec.choose_spec⟩
         obtain⟨f,g,hfg⟩:=hex
         have hblk:a.block<w.heap.size:=by
          obtain⟨h2,_⟩:=hfg 0 (by omega)
          obtain⟨_,h3⟩:=cells?_get h2
          obtain⟨v,_,h4⟩:=h3 0 hpos
          rw[addr]at h4
          unfold World.cell? at h4
          simp only at h4
          rcases Nat.lt_or_ge a.block w.heap.size with h' | h'
          · exact h'
          · rw[Array.getElem?_eq_none h']at h4;cases h4
         have hxs:∀ (i:Nat) (x:PV),((List.range len).map fun i=>elemPV (shapeP P n e).1 (f i))[i]?=some x→i<len∧x=elemPV (shapeP P n e).1 (f i):=by
          intro i x hx
          simp only[List.getElem?_map,Option.map_eq_some_iff]at hx
          obtain⟨j,hj,rfl⟩:=hx
          have hi:i<len:=by simpa using (List.getElem?_eq_some_iff.1 hj).1
          rw[List.getElem?_range hi]at hj
          cases hj
          exact⟨hi,rfl⟩
         refine⟨[.list (shapeP P n e).1 (shapeP P n e).2 ((List.range len).map fun i=>elemPV (shapeP P n e).1 (f i))],one _ _ _ (by simp[kindOk,Kd.beqs_refl]) ?_ ?_⟩
         · have := VR.list (w := w) (M := M) (shapeP P n e).1 (shapeP P n e).2 ((List.range len).map fun i => elemPV (shapeP P n e).1 (f i)) a.block a.off cap (fun i j => (g i).getD j undef) (hM _ hblk) (by simpa using hlc)
             (fun i x j c hx hj=>by
               obtain⟨hi,rfl⟩:=hxs i x hx
               obtain⟨h2,h3⟩:=hfg i hi
               rw[(arg_elem_ok ha.1 h3).2.1]at hj
               obtain⟨hl,h4⟩:=cells?_get h2
               have hjl:j<P.cellsOf e:=by
                have:=(List.getElem?_eq_some_iff.1 hj).1
                rw[h3.2.1,hl]at this;exact this
               obtain⟨v,h5,h6⟩:=h4 j hjl
               rw[addr]at h6
               rw[hlen,h6,List.getD_eq_getElem?_getD,h5];rfl)
             (fun i x j c hx hj=>by
               obtain⟨hi,rfl⟩:=hxs i x hx
               obtain⟨h2,h3⟩:=hfg i hi
               rw[(arg_elem_ok ha.1 h3).2.1]at hj
               exact h3.2.2.1 j c hj)
             (fun x hx=>by
               obtain⟨i,hi⟩:=List.mem_iff_getElem?.1 hx
               obtain⟨hi',rfl⟩:=hxs i x hi
               exact(arg_elem_ok ha.1 (hfg i hi').2).1)
           have ea:a=⟨a.block,a.off,none⟩:=by cases a;simp at hspot;simp[hspot]
           rw[List.length_map,List.length_range]at this
           rw[ea];exact this
         · refine⟨by simpa using Nat.le_trans hlc hcm,wfs_mem.2 fun x hx=>?_⟩
           obtain⟨i,hi⟩:=List.mem_iff_getElem?.1 hx
           obtain⟨hi',rfl⟩:=hxs i x hi
           exact(arg_elem_ok ha.1 (hfg i hi').2).2.2
   · -- a struct
     rename_i fs hu
     simp only[Bool.and_eq_true]at ha
     have es:(shapeP P (n+1) t).2=fs.toList.flatMap fun f=>(shapeP P n f.type).2:=by (conv=>lhs;unfold shapeP);rw[hu]
     rw[es]
     obtain⟨xs,m,hm,_,hl,hxl,hget⟩:=DataW.trod_struct hu h
     cases hm
     have htot:=Nat.eq_of_beq_eq_true ha.2
     have key : ∀ (l : List Field) (o : Nat),argT.go P n o l = true → (∀ f ∈ l,∃ y,DataW.trod enc P w base sp held fuel f.type ((cs.drop f.offset).take (P.cellsOf f.type)) = some y) → o + argT.sum P l = cs.length →
         ∃ ps,ArgR w M (l.flatMap fun f=>(shapeP P n f.type).2) (cs.drop o) ps:=by
       intro l
       induction l with
       | nil =>
        intro o _ _ ho
        simp only[argT.sum,Nat.add_zero]at ho
        refine⟨[],rfl,?_,fun i p h=>by simp at h,trivial⟩
        simp[ho]
       | cons f r ihl =>
        intro o hg hm ho
        simp only[argT.go,Bool.and_eq_true,beq_iff_eq]at hg
        obtain⟨hoff,hf,hr⟩:=hg
        obtain⟨y,hy⟩:=hm f (by simp)
        rw[hoff]at hy
        obtain⟨p1,h1⟩:=ih n f.type _ y hy hf
        simp only[argT.sum]at ho
        obtain⟨p2,h2⟩:=ihl (o+P.cellsOf f.type) hr (fun g hg=>hm g (by simp[hg])) (by omega)
        refine⟨p1++p2,?_⟩
        have:=h1.append h2
        rw[← List.drop_drop]at this
        rwa[List.take_append_drop]at this
     obtain⟨ps,hps⟩:=key fs.toList 0 ha.1 (fun f hf=>by
      obtain⟨i,hi⟩:=List.mem_iff_getElem?.1 hf
      have hi':fs[i]?=some f:=by simpa using hi
      have hlt:i<xs.length:=by rw[hxl];exact(Array.getElem?_eq_some_iff.1 hi').1
      exact⟨xs[i],by rw[hget i f hi',List.getElem?_eq_getElem hlt]⟩) (by rw[Nat.zero_add,hl,htot])
     exact⟨ps,by simpa using hps⟩
   · -- an array
     rename_i m e hu
     simp only[Bool.and_eq_true]at ha
     have es:(shapeP P (n+1) t).2=(List.replicate m (shapeP P n e).2).flatten:=by (conv=>lhs;unfold shapeP);rw[hu]
     rw[es]
     have h':(if cs.length=P.cellsOf t then((List.range m).mapM fun i=>DataW.trod enc P w base sp held fuel e ((cs.drop (i*P.cellsOf e)).take (P.cellsOf e))).map fun xs=>((.agg (xs.map (·.1)):DataW H),xs.flatMap (·.2)) else none)=some x:=by
      rw[← h,DataW.trod_step]
      unfold DataW.trodStep
      rw[hu]
     clear h
     split at h'
     · rename_i hl
       simp only[Option.map_eq_some_iff]at h'
       obtain⟨xs,hxs,rfl⟩:=h'
       have htot:=Nat.eq_of_beq_eq_true ha.2
       have hel:∀ i,i<m→∃ ps,ArgR w M (shapeP P n e).2 ((cs.drop (i*P.cellsOf e)).take (P.cellsOf e)) ps:=by
        intro i hi
        have h1:=mapM_some_get hxs i i (by simp[hi])
        have hl:=mapM_some_length hxs
        simp at hl
        rw[List.getElem?_eq_getElem (by omega)]at h1
        exact ih n e _ _ h1 ha.1
       have key:∀ (k:Nat),k≤m→∃ ps,ArgR w M (List.replicate k (shapeP P n e).2).flatten (cs.drop ((m-k)*P.cellsOf e)) ps:=by
        intro k
        induction k with
        | zero =>
         intro _
         refine⟨[],rfl,?_,fun i p h=>by simp at h,trivial⟩
         simp[hl,htot]
        | succ k ihk =>
         intro hk
         obtain⟨p2,h2⟩:=ihk (by omega)
         obtain⟨p1,h1⟩:=hel (m-(k+1)) (by omega)
         refine⟨p1++p2,?_⟩
         have:=h1.append h2
         rw[List.replicate_succ,List.flatten_cons]
         have e1:m-k=m-(k+1)+1:=by omega
         rw[e1,Nat.add_mul,Nat.one_mul,← List.drop_drop,List.take_append_drop]at this
         exact this
       obtain⟨ps,hps⟩:=key m (Nat.le_refl m)
       exact⟨ps,by simpa using hps⟩
     · cases h'
   · cases ha
theorem sameAt_of {w w':World} (hb:∀ b,b<w.heap.size→w'.heap[b]?=w.heap[b]?) {p:MemPlace} (hp:p.block<w.heap.size):w.sameAt w' p:=by
 cases p with
 | cell b off=>simp only[World.sameAt,World.cell?];rw[hb b hp]
 | map b=>exact hb b hp
theorem trod_spare:∀ (fuel n:Nat) (t:TypeId) (cs:List Value) (x:DataW H × List MemPlace),DataW.trod enc P w base (fun _=>true) held fuel t cs=some x→argT P n t=true→(∀ p∈x.2,sp p.block=true)→DataW.trod enc P w base sp held fuel t cs=some x:=by
 intro fuel
 induction fuel with
 | zero=>intro n t cs x h;simp[DataW.trod]at h
 | succ fuel ih =>
  intro n t cs x h ha hs
  cases n with
  | zero=>simp[argT]at ha
  | succ n =>
   unfold argT at ha
   split at ha
   · rename_i k hu
     obtain⟨m,rfl,rfl,hw⟩:=DataW.trod_int hu h
     rw[DataW.trod_step];simp[DataW.trodStep,hu,hw]
   · rename_i hu
     obtain⟨b,rfl,rfl⟩:=DataW.trod_bool hu h
     rw[DataW.trod_step];simp[DataW.trodStep,hu]
   · rename_i hu
     obtain⟨s,rfl,rfl,hw⟩:=DataW.trod_string hu h
     rw[DataW.trod_step];simp[DataW.trodStep,hu,hw]
   · rename_i e hu
     simp only[Bool.and_eq_true]at ha
     have hpos:0<P.cellsOf e:=Nat.le_of_ble_eq_true ha.2.1
     rcases DataW.trod_slice hu h with ⟨rfl,rfl⟩ | ⟨a,len,cap,elems,rest,m,hm,rfl,rfl,hb,hlc,hcm,hel,hget,hrest,_⟩
     · rw[DataW.trod_step];simp[DataW.trodStep,hu]
     · cases hm
       obtain⟨hrl,hrg⟩:=hrest rfl
       rw[DataW.trod_step]at h ⊢
       unfold DataW.trodStep at h ⊢
       rw[hu]at h ⊢
       simp only[hb,hlc,hcm,and_self,if_true,Option.bind_eq_some_iff,Option.map_eq_some_iff]at h ⊢
       obtain⟨el,he,rs,hr,hd⟩:=h
       have hall:∀ y∈el++rs,∀ p∈y.2,sp p.block=true:=by
        intro y hy p hp
        refine hs p ?_
        rw[← (Prod.mk.inj hd).2]
        exact List.mem_append.2 (.inr (List.mem_flatMap.2 ⟨y,hy,hp⟩))
       refine⟨el,mapM_carry he fun i y hi hy hf=>?_,rs,?_,hd⟩
       · simp only[Option.bind_eq_some_iff]at hf ⊢
         obtain⟨cs',h1,h2⟩:=hf
         exact⟨cs',h1,ih n e cs' y h2 ha.1 (hall y (by simp[hy]))⟩
       · split
         · refine mapM_carry hr fun i y hi hy hf=>?_
           simp only[Option.bind_eq_some_iff]at hf ⊢
           obtain⟨cs',h1,h2⟩:=hf
           exact⟨cs',h1,ih n e cs' y h2 ha.1 (hall y (by simp[hy]))⟩
         · rename_i hsp
           by_cases hz:rs=[]
           · rw[hz]
           · exfalso
             refine hsp (hs (.cell a.block a.off) ?_)
             rw[← (Prod.mk.inj hd).2]
             refine List.mem_append.2 (.inl (MemPlace.mem_row.2 ⟨0,?_,by simp⟩))
             have:0<rs.length:=List.length_pos_iff.2 hz
             exact Nat.mul_pos (by omega) hpos
   · rename_i fs hu
     simp only[Bool.and_eq_true]at ha
     obtain⟨xs,m,hm,rfl,hl,hxl,hget⟩:=DataW.trod_struct hu h
     cases hm
     have h':(if cs.length=P.cellsOf t then(fs.toList.mapM fun f=>DataW.trod enc P w base (fun _=>true) held fuel f.type ((cs.drop f.offset).take (P.cellsOf f.type))).map fun xs=>((.agg (xs.map (·.1)):DataW H),xs.flatMap (·.2)) else none)=some (.agg (xs.map (·.1)),xs.flatMap (·.2)):=by
      rw[← h,DataW.trod_step]
      unfold DataW.trodStep
      rw[hu]
     rw[DataW.trod_step]
     unfold DataW.trodStep
     rw[hu]
     show (if cs.length=P.cellsOf t then(fs.toList.mapM fun f=>DataW.trod enc P w base sp held fuel f.type ((cs.drop f.offset).take (P.cellsOf f.type))).map fun xs=>((.agg (xs.map (·.1)):DataW H),xs.flatMap (·.2)) else none)=_
     rw[if_pos hl]at h' ⊢
     simp only[Option.map_eq_some_iff]at h' ⊢
     obtain⟨ys,hy,hd⟩:=h'
     have hfs:∀ (l:List Field) (o:Nat),argT.go P n o l=true→∀ f∈l,argT P n f.type=true:=by
      intro l
      induction l with
      | nil=>intro o _ f hf;simp at hf
      | cons g r ihl =>
       intro o hg f hf
       simp only[argT.go,Bool.and_eq_true]at hg
       rcases List.mem_cons.1 hf with rfl | hf
       · exact hg.2.1
       · exact ihl _ hg.2.2 f hf
     refine⟨ys,mapM_carry hy fun f y hf hy' h1=>ih n f.type _ y h1 (hfs _ _ ha.1 f hf) fun p hp=>hs p ?_,hd⟩
     rw[← (Prod.mk.inj hd).2]
     exact List.mem_flatMap.2 ⟨y,hy',hp⟩
   · rename_i m e hu
     simp only[Bool.and_eq_true]at ha
     have h':(if cs.length=P.cellsOf t then((List.range m).mapM fun i=>DataW.trod enc P w base (fun _=>true) held fuel e ((cs.drop (i*P.cellsOf e)).take (P.cellsOf e))).map fun xs=>((.agg (xs.map (·.1)):DataW H),xs.flatMap (·.2)) else none)=some x:=by
      rw[← h,DataW.trod_step]
      unfold DataW.trodStep
      rw[hu]
     rw[DataW.trod_step]
     unfold DataW.trodStep
     rw[hu]
     show (if cs.length=P.cellsOf t then((List.range m).mapM fun i=>DataW.trod enc P w base sp held fuel e ((cs.drop (i*P.cellsOf e)).take (P.cellsOf e))).map fun xs=>((.agg (xs.map (·.1)):DataW H),xs.flatMap (·.2)) else none)=_
     split at h'
     · rename_i hl
       rw[if_pos hl]
       simp only[Option.map_eq_some_iff]at h' ⊢
       obtain⟨ys,hy,hd⟩:=h'
       refine⟨ys,mapM_carry hy fun i y hi hy' h1=>ih n e _ y h1 ha.1 fun p hp=>hs p ?_,hd⟩
       rw[← hd]
       exact List.mem_flatMap.2 ⟨y,hy',hp⟩
     · cases h'
   · cases ha
inductive ArgsR (P:Program) (w:World) (M:Nat→Prop):List TypeId→List Value→List PV→Prop
 | nil:ArgsR P w M [] [] []
 | cons (t:TypeId) (ts:List TypeId) (v:Value) (vs:List Value) (x:PV) (xs:List PV) (h1:VR w M x v) (h2:shapeOk (shapeP P 8 t).1 (shapeP P 8 t).2 x=true) (h3:x.wf) (h:ArgsR P w M ts vs xs):ArgsR P w M (t::ts) (v::vs) (x::xs)
theorem arg_read {b0 : Nat} (hM : ∀ b,b < w.heap.size → M b) {t : TypeId} {v : Value} {d : DataW H} {ps : List MemPlace} (ha : argT P 8 t = true) (hok : Value.okWide P w .any b0 t v) (h : DataW.Trod enc P w base sp held t v d ps) :
    ∃ x,VR w M x v∧shapeOk (shapeP P 8 t).1 (shapeP P 8 t).2 x=true∧x.wf:=by
  obtain⟨fuel,h⟩:=h
  obtain⟨qs,hq⟩:=trod_pure hM fuel 8 t _ _ h ha
  obtain⟨e1,e2,e3⟩:=arg_elem_ok ha hq
  refine⟨_,?_,e1,e3⟩
  cases hs:(shapeP P 8 t).1 with
  | true =>
   have hagg:(∃ fs,P.underlying t=some (.struct fs))∨∃ m e,P.underlying t=some (.array m e):=by
    unfold shapeP at hs
    split at hs<;>first | (cases hs;done) | skip
    · exact .inl ⟨_,‹_›⟩
    · exact .inr ⟨_,_,‹_›⟩
   have hv:∃ cs,v=.agg cs:=by
    unfold Value.okWide at hok
    rcases hagg with ⟨fs,hu⟩ | ⟨m,e,hu⟩
    · rw[hu]at hok;obtain⟨cs,rfl,_⟩:=hok;exact⟨cs,rfl⟩
    · rw[hu]at hok;obtain⟨cs,rfl,_⟩:=hok;exact⟨cs,rfl⟩
   obtain⟨cs,rfl⟩:=hv
   have hc:(Value.agg cs).cells.toList=cs.toList:=rfl
   rw[hc]at hq
   refine .agg qs cs (by simpa using hq.2.1.symm) (fun c hc=>?_) fun i c hi=>?_
   · obtain⟨j,hj⟩:=List.mem_iff_getElem?.1 hc
     have hk:=kindsOk_get hq.1
     have hjl:j<(shapeP P 8 t).2.length:=by rw[hk.1];exact(List.getElem?_eq_some_iff.1 hj).1
     exact kindOk_leaf (hk.2 j _ c (List.getElem?_eq_getElem hjl) hj)
   · have:=hq.2.2.1 i c hi
     rwa[List.getD_eq_getElem?_getD,Array.getElem?_toList,← Array.getD_eq_getD_getElem?]at this
  | false =>
   have h1:=shapeP_one ha hs
   have hk:=kindsOk_get hq.1
   match qs,hq,hk with
   | [q],hq,hk =>
    have hl:q.leaf=true:=by
     refine kindOk_leaf (hk.2 0 ((shapeP P 8 t).2[0]'(by omega)) q (by simp) rfl)
    have hv:v.cells.toList=[v]:=by
     have hl1:=hq.2.1
     cases v<;>first | rfl | skip
     rename_i cs
     exfalso
     unfold Value.okWide at hok
     split at hok
     · rename_i fs hu
       unfold shapeP at hs
       rw[hu]at hs
       cases hs
     · rename_i m e hu
       unfold shapeP at hs
       rw[hu]at hs
       cases hs
     · rename_i hns hna
       unfold argT at ha
       split at ha<;>rename_i hu<;>first | (cases ha;done) | skip
       · obtain⟨m,hc,_⟩:=DataW.trod_int hu h
         simp[Value.cells]at hc
         unfold Cell.okWide Cell.ok at hok
         rw[hu]at hok
         simp at hok
       · unfold Cell.okWide Cell.ok at hok
         rw[hu]at hok
         simp at hok
       · unfold Cell.okWide Cell.ok at hok
         rw[hu]at hok
         simp at hok
       · unfold Cell.okWide Cell.ok at hok
         rw[hu]at hok
         simp at hok
       · exact hns _ hu
       · exact hna _ _ hu
    rw[hv]at hq
    simpa [elemPV] using hq.2.2.1 0 q rfl
   | [],hq,hk=>have:=hk.1;rw[h1]at this;simp at this
   | _::_::_,hq,hk=>have:=hk.1;rw[h1]at this;simp at this
theorem trodAll_later {w' : World} (hb : ∀ b,b < w.heap.size → w'.heap[b]? = w.heap[b]?) : ∀ {ts : List TypeId} {vs : List Value} {ds : List (DataW H)} {ps : List MemPlace},DataW.TrodAll enc P w base (fun _ => true) held ts vs ds ps → (∀ t ∈ ts,argT P 8 t = true) →
    DataW.TrodAll enc P w' base (fun b=>decide (b<w.heap.size)) held ts vs ds ps
  | [],[],[],ps,h,_=>h
  | t::ts,v::vs,d::ds,ps,⟨p,q,h1,h2,e⟩,ha=>by
   refine⟨p,q,?_,trodAll_later hb h2 (fun u hu=>ha u (by simp[hu])),e⟩
   obtain⟨fuel,h1⟩:=h1
   have hlt:=DataW.trod_lt _ _ _ _ h1
   exact⟨fuel,trod_spare fuel 8 t _ _ (DataW.trod_carry fuel t _ _ h1 fun p hp=>sameAt_of hb (hlt p hp)) (ha t (by simp)) fun p hp=>by simpa using hlt p hp⟩
theorem args_read {b0 : Nat} (hM : ∀ b,b < w.heap.size → M b) : ∀ {ts : List TypeId} {vs : List Value} {ds : List (DataW H)} {ps : List MemPlace},DataW.TrodAll enc P w base sp held ts vs ds ps → (∀ t ∈ ts,argT P 8 t = true) → (∀ (j : Nat) t v,ts[j]? = some t → vs[j]? = some v → Value.okWide P w .any b0 t v) →
    ∃ xs,ArgsR P w M ts vs xs
  | [],[],[],ps,_,_,_=>⟨[],.nil⟩
  | t::ts,v::vs,d::ds,ps,⟨p,q,h1,h2,e⟩,ha,hv=>by
   obtain⟨xs,hxs⟩:=args_read hM h2 (fun u hu=>ha u (by simp[hu])) fun j t v h1 h2=>hv (j+1) t v (by simpa using h1) (by simpa using h2)
   obtain⟨x,e1,e2,e3⟩:=arg_read hM (ha t (by simp)) (hv 0 t v rfl rfl) h1
   exact⟨x::xs,.cons t ts v vs x xs e1 e2 e3 hxs⟩
theorem ArgsR.length {ts:List TypeId} {vs:List Value} {xs:List PV} (h:ArgsR P w M ts vs xs):xs.length=vs.length:=by
 induction h with
 | nil=>rfl
 | cons _ _ _ _ _ _ _ _ _ _ ih=>simp[ih]
theorem ArgsR.get {ts:List TypeId} {vs:List Value} {xs:List PV} (h:ArgsR P w M ts vs xs):∀ (i:Nat) (x:PV),xs[i]?=some x→∃ v,vs[i]?=some v∧VR w M x v:=by
 induction h with
 | nil=>intro i x h;simp at h
 | cons t ts v vs x xs h1 h2 h3 h ih =>
  intro i y hy
  cases i with
  | zero=>simp at hy;subst hy;exact⟨v,rfl,h1⟩
  | succ i=>simp at hy;simpa using ih i y hy
theorem law_calls {T : Tab} (ok : TabOk P T) {X : Ext} {gl : Option (List (Nat × Obj))} (hX : ExtOk P T gl X) {f : Nat} {fi : FI} (hf : tlook T.funcs f = some fi) {fn : Func} (hfn : fi.fn = fn) {tb : TypeId} (hres : fn.resultTypes = #[tb]) (hrets : fi.cfg.rets = [])
    (hub:P.underlying tb=some .bool) {s:ChangeSpec} (hvars:s.vars=[]) {W:World} {args:Array Value} {ds gs:List (DataW H)} {before:List MemPlace} {b0:Nat}
    (hval:∀ (j:Nat) t v,fn.params[j]?=some t→args[j]?=some v→Value.okWide P W .any b0 t v) (hW:DataW.Whole enc P fn.params.toList s.vars false W args.toList ds gs before)
    (hpar:fn.params.toList.all (argT P 8)=true) (hs:s.fn H ds={ results:=[.lit (.bool true)],args:=ds })
    (hgl:∀ p∈gl.getD [],p.1<W.heap.size∧W.heap[p.1]?=some p.2) (hrun:∀ xs,ArgsR P W (fun b=>b<W.heap.size) fn.params.toList args.toList xs→run T X f (xs.map .p) []=some ([.p (.bool true)],[])) :
    Calls P f args W fun e W'=>∃ v,e=.returned v∧s.post enc P fn false true false false W args v W':=by
  subst hfn
  have hW0:=hW
  obtain⟨p,q,hA,hV,hbef,hz,hn⟩:=hW
  have hall:∀ t∈fi.fn.params.toList,argT P 8 t=true:=fun t ht=>List.all_eq_true.1 hpar t ht
  rw[hvars]at hV
  cases gs with
  | cons g gr=>exact hV.elim
  | nil =>
   obtain⟨xs,hxs⟩:=args_read (M:=fun b=>b<W.heap.size) (fun _ h=>h) hA hall (base:=0) (fun j t v h1 h2=>by
    exact hval j t v (by simpa using h1) (by simpa using h2))
   have hsnd:=(run_sound ok hX).plain f fi (xs.map .p) [] _ [] hf (by simp) (hrun xs hxs)
   have hpre:CallPre W (fun b=>b<W.heap.size) (fun _=>none) (xs.map .p) [] args:=by
    refine⟨by simp[hxs.length],fun i v hi=>?_,fun i b0 hi=>by simp at hi,fun i b o hi=>by simp at hi,fun i j b o o' hi=>by simp at hi,fun b hb=>hb⟩
    simp only[List.getElem?_map,Option.map_eq_some_iff]at hi
    obtain⟨x,hx,rfl⟩:=hi
    obtain⟨v,h1,h2⟩:=hxs.get i x hx
    rw[Array.getD_eq_getD_getElem?,← Array.getElem?_toList,h1]
    exact .p _ _ h2
   refine Calls.mono (hsnd.2 W _ _ args hgl hpre) fun e W' hpost=>?_
   obtain⟨cs,ps,M',rfl,post⟩:=hpost
   have hkeep:∀ b,b<W.heap.size→W'.heap[b]?=W.heap[b]?:=fun b hb=>post.keep b hb fun i o hi=>by simp at hi
   have hr:=post.res
   rw[hres,hrets]at hr
   have hcs:cs=[.bool true]:=by
    cases hr with
    | cons _ _ _ _ _ c cs' p ps' h1 h2 _ =>
     cases h2
     cases h1 with
     | deep _ x _ _ hv=>cases hv;rfl
   subst hcs
   refine⟨.bool true,rfl,ds,[],before,[],p,[],hW0,?_,?_,?_,?_,fun h=>by cases h⟩
   · rw[List.append_nil,hs,hres]
     exact⟨[],[],⟨1,by simp[DataW.trod,Value.cells,hub]⟩,rfl,rfl⟩
   · rw[List.append_nil,hs]
     exact trodAll_later hkeep hA hall
   · rw[List.append_nil,hs,hvars];rfl
   · refine⟨post.os,post.output,fun i hi=>?_⟩
     rw[hkeep i hi]
     cases hh:W.heap[i]? with
     | none=>simp
     | some o=>cases o<;>simp
end
def TypesOk (P:Program):List (Nat × TI)→Prop
 | []=>True
 | (t,i)::r=>mkTI P t=some i∧TypesOk P r
structure FuncOk (P:Program) (T:Tab) (f:Nat) (fi:FI):Prop where
 fn:P.funcs[f]?=some fi.fn
 name : (fi.fn.name == "runtime.NumGoroutine") = false
 draws:(match fi.fn.body with | some c=>drawsOk T fi.hides c | none=>true)=true
 flat:(fi.cfg.byRef||(fi.cfg.shares||retsFlat T fi.cfg.rets fi.fn.resultTypes.toList))=true
 nvars:Nat.ble fi.cfg.nvars 100000=true
def FuncsOk (P:Program) (T:Tab):List (Nat × FI)→Prop
 | []=>True
 | (f,i)::r=>FuncOk P T f i∧FuncsOk P T r
theorem typesOk_get {P:Program}:∀ {l:List (Nat × TI)} {t:Nat} {i:TI},TypesOk P l→tlook l t=some i→mkTI P t=some i
 | [],t,i,_,h=>by simp[tlook]at h
 | (k,x)::r,t,i,hk,h=>by
  simp only[tlook]at h
  cases he:k==t with
  | true =>
   rw[he]at h
   have e:k=t:=by simpa using he
   subst e
   cases h
   exact hk.1
  | false=>rw[he]at h;exact typesOk_get hk.2 h
theorem funcsOk_get {P:Program} {T:Tab}:∀ {l:List (Nat × FI)} {f:Nat} {i:FI},FuncsOk P T l→tlook l f=some i→FuncOk P T f i
 | [],f,i,_,h=>by simp[tlook]at h
 | (k,x)::r,f,i,hk,h=>by
  simp only[tlook]at h
  cases he:k==f with
  | true =>
   rw[he]at h
   have e:k=f:=by simpa using he
   subst e
   cases h
   exact hk.1
  | false=>rw[he]at h;exact funcsOk_get hk.2 h
def PrimsOk (P:Program) (T:Tab):Prop:=∀ f fi,tlook T.funcs f=some fi→fi.cfg.prim.is=true→(∃ c,fi.fn.body=some c)∧PrimC P T.glob f fi.cfg.primTs fi.cfg.primE fi.cfg.prim
theorem tabOk_of {P:Program} {T:Tab} (h1:TypesOk P T.types) (h2:FuncsOk P T T.funcs) (h3:P.follows .mixedOrders=true) (h4:PrimsOk P T):TabOk P T:=by
 refine⟨fun t i h=>typesOk_get h1 h,fun f fi h=>?_,h3,fun f fi h=>Nat.le_of_ble_eq_true (funcsOk_get h2 h).nvars,h4⟩
 have g:=funcsOk_get h2 h
 refine⟨g.fn,g.name,fun c hc=>?_,fun hb hs=>?_⟩
 · have:=g.draws
   rw[hc]at this
   exact this
 · have:=g.flat
   rw[hb,hs]at this
   exact this
end Go.Skm
namespace Go.Skm
theorem wrap_eq {x:Int} (h1:-9223372036854775808≤x) (h2:x≤9223372036854775807):IntKind.i64.wrap x=x:=by
 have:∀ y:Int,y=x%2 ^ 64→(if(true&&decide (y ≥ 2 ^ (64-1)))=true then y-2 ^ 64 else y)=x:=by
  intro y hy
  by_cases h:y ≥ 2 ^ (64-1)
  · rw[if_pos (by simpa using h)];omega
  · rw[if_neg (by simpa using h)];omega
 exact this _ rfl
theorem condD {α:Type} (p:Prop) [Decidable p] (a b:α):cond (decide p) a b=if p then a else b:=by
 by_cases h:p<;>simp[h]
theorem condE {α:Type} (x y:Int) (a b:α):cond (x==y) a b=if x=y then a else b:=by
 by_cases h:x=y
 · simp[h]
 · have:(x==y)=false:=by simpa using h
   simp[h,this]
theorem condN {α:Type} (x y:Int) (a b:α):cond (x != y) a b=if x=y then b else a:=by
 by_cases h:x=y
 · simp[h]
 · have:(x != y)=true:=by simpa using h
   simp[h,this]
theorem condA {α:Type} (p q:Bool) (a b:α):cond (p&&q) a b=cond p (cond q a b) b:=by cases p<;>rfl
theorem condO {α:Type} (p:Bool) (a b:α):cond (!p) a b=cond p b a:=by cases p<;>rfl
@[simp] theorem toInt_int (k:IntKind) (n:Int):(PV.int k n).toInt=n:=rfl
@[simp] theorem toBool_bool (b:Bool):(PV.bool b).toBool=b:=rfl
@[simp] theorem toStr_str (s:ByteArray):(PV.str s).toStr=s:=rfl
@[simp] theorem toList_list (a:Bool) (ks:List Kd) (xs:List PV):(PV.list a ks xs).toList=xs:=rfl
@[simp] theorem pv_p (v:PV):(AV.p v).pv=v:=rfl
@[simp] theorem freshList_fresh (a:Bool) (ks:List Kd) (xs:List PV):(AV.fresh a ks xs).freshList=xs:=rfl
@[simp] theorem sOff_slice (s z o l:Nat):(AV.slice s z o l).sOff=o:=rfl
@[simp] theorem sLen_slice (s z o l:Nat):(AV.slice s z o l).sLen=l:=rfl
@[simp] theorem xs_arr (a:Bool) (ks:List Kd) (xs:List PV):(Blk.arr a ks xs).xs=xs:=rfl
@[simp] theorem cell_agg (cs:List PV) (j:Nat):(PV.agg cs).cell j=cs.getD j .nil:=rfl
@[simp] theorem cell_list (a:Bool) (ks:List Kd) (xs:List PV) (j:Nat):(PV.list a ks xs).cell j=.list a ks xs:=rfl
@[simp] theorem cell_int (k:IntKind) (n:Int) (j:Nat):(PV.int k n).cell j=.int k n:=rfl
structure V3 where
 x:Int
 y:Int
 z:Int
 deriving DecidableEq
namespace V3
theorem ext' {a b:V3} (h1:a.x=b.x) (h2:a.y=b.y) (h3:a.z=b.z):a=b:=by
 cases a;cases b;simp at h1 h2 h3;simp[h1,h2,h3]
instance:Inhabited V3:=⟨⟨0,0,0⟩⟩
end V3
abbrev kV:List Kd:=[.int .i64,.int .i64,.int .i64]
def encV (v:V3):PV:=.agg [.int .i64 v.x,.int .i64 v.y,.int .i64 v.z]
def encL (l:List V3):List PV:=l.map encV
def encI (l:List Int):List PV:=l.map fun n=>.int .i64 n
@[simp] theorem encL_length (l:List V3):(encL l).length=l.length:=by simp[encL]
@[simp] theorem encI_length (l:List Int):(encI l).length=l.length:=by simp[encI]
@[simp] theorem encL_nil:encL []=[]:=rfl
theorem encL_get (l:List V3) (i:Nat):(encL l)[i]?=(l[i]?).map encV:=by simp[encL]
theorem encL_getD (l:List V3) {i:Nat} (h:i<l.length):(encL l).getD i .nil=encV (l.getD i default):=by
 rw[List.getD_eq_getElem?_getD,List.getD_eq_getElem?_getD,encL_get];simp[h]
@[simp] theorem encL_x (l:List V3) (i:Nat):(((encL l).getD i .nil).cell 0).toInt=(l.getD i default).x:=by
 by_cases h:i<l.length
 · rw[encL_getD l h];rfl
 · have h1:(encL l).getD i .nil=.nil:=by rw[List.getD_eq_getElem?_getD,encL_get];simp[h]
   have h2:l.getD i default=default:=by rw[List.getD_eq_getElem?_getD];simp[h]
   rw[h1,h2];rfl
@[simp] theorem encL_y (l:List V3) (i:Nat):(((encL l).getD i .nil).cell 1).toInt=(l.getD i default).y:=by
 by_cases h:i<l.length
 · rw[encL_getD l h];rfl
 · have h1:(encL l).getD i .nil=.nil:=by rw[List.getD_eq_getElem?_getD,encL_get];simp[h]
   have h2:l.getD i default=default:=by rw[List.getD_eq_getElem?_getD];simp[h]
   rw[h1,h2];rfl
@[simp] theorem encL_z (l:List V3) (i:Nat):(((encL l).getD i .nil).cell 2).toInt=(l.getD i default).z:=by
 by_cases h:i<l.length
 · rw[encL_getD l h];rfl
 · have h1:(encL l).getD i .nil=.nil:=by rw[List.getD_eq_getElem?_getD,encL_get];simp[h]
   have h2:l.getD i default=default:=by rw[List.getD_eq_getElem?_getD];simp[h]
   rw[h1,h2];rfl
theorem encL_append (l m:List V3):encL l++encL m=encL (l++m):=by simp[encL]
def V3.ok (v:V3):Prop:=(-9223372036854775808≤v.x∧v.x≤9223372036854775807)∧(-9223372036854775808≤v.y∧v.y≤9223372036854775807)∧(-9223372036854775808≤v.z∧v.z≤9223372036854775807)
theorem wf_i64 {n:Int}:(PV.int .i64 n).wf↔-9223372036854775808≤n∧n≤9223372036854775807:=by
 simp[PV.wf,Lit.wf,IntKind.min,IntKind.max,IntKind.bits,IntKind.signed]
theorem vec_of {x:PV} (h:shapeOk true kV x=true) (hw:x.wf):∃ v:V3,x=encV v∧v.ok:=by
 cases x<;>simp only[shapeOk,Bool.false_eq_true]at h
 rename_i cs
 match cs,h,hw with
 | [a,b,c],h,hw =>
  simp only[kindsOk,Bool.and_true,Bool.and_eq_true]at h
  obtain⟨ha,hb,hc⟩:=h
  cases a<;>simp[kindOk]at ha
  cases b<;>simp[kindOk]at hb
  cases c<;>simp[kindOk]at hc
  subst ha hb hc
  rename_i p q r
  simp only[PV.wf,PV.wfs,and_true]at hw
  exact⟨⟨p,q,r⟩,rfl,wf_i64.1 hw.1,wf_i64.1 hw.2.1,wf_i64.1 hw.2.2⟩
 | [],h,_=>simp[kindsOk]at h
 | [_],h,_=>simp[kindsOk]at h
 | [_,_],h,_=>simp[kindsOk]at h
 | _::_::_::_::_,h,_=>simp[kindsOk]at h
theorem vecs_of:∀ {xs:List PV},(∀ x∈xs,shapeOk true kV x=true)→PV.wfs xs→∃ l:List V3,xs=encL l∧∀ v∈l,v.ok
 | [],_,_=>⟨[],rfl,by simp⟩
 | x::xs,h,hw=>by
  obtain⟨v,rfl,h1⟩:=vec_of (h x (by simp)) hw.1
  obtain⟨l,rfl,h2⟩:=vecs_of (fun y hy=>h y (by simp[hy])) hw.2
  exact⟨v::l,rfl,fun u hu=>by 
   rcases List.mem_cons.1 hu with rfl | hu
   · exact h1
   · exact h2 u hu⟩
section
variable {P:Program} {w:World} {M:Nat→Prop}
theorem ArgsR.none {vs:List Value} {xs:List PV} (h:ArgsR P w M [] vs xs):xs=[]:=by cases h;rfl
end
end Go.Skm
