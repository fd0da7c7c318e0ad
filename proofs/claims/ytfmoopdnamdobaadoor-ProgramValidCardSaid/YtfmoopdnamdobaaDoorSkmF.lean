import Derived.Test.YtfmoopdnamdobaaDoorSkmE
import Derived.ProofKit
namespace Go.Skm
section
variable {α β:Type}
open Classical in
noncomputable def lim (f:Nat→Option α):Option α:=if h:∃ x n,f n=some x then some h.choose else none
def afo (f:Nat→Option α):Prop:=∀ n m x,n≤m→f n=some x→f m=some x
theorem uK {f:Nat→Option α} {x:α} (h:lim f=some x):∃ n,f n=some x:=by
 unfold lim at h
 split at h
 · rename_i h'
   have:=h'.choose_spec
   simp only[qOa]at h
   rwa[h]at this
 · cases h
theorem Na {f:Nat→Option α} (hm:afo f) {x:α} {n:Nat} (h:f n=some x):lim f=some x:=by
 have hex:∃ x n,f n=some x:=⟨x,n,h⟩
 unfold lim
 rw[dif_pos hex]
 obtain⟨m,hm'⟩:=hex.choose_spec
 have h1:=hm n (max n m) x (by omega) h
 have h2:=hm m (max n m) _ (by omega) hm'
 rw[h1]at h2
 exact h2.symm
noncomputable def Nb (fg:St→St) (body:St→(Ex→St→Option α)→Option α) (st:St) (k:Ex→St→Option α):Option α:=lim fun m=>lU fg body m st k
def Il (k k':Ex→St→Option α):Prop:=∀ ex st x,k ex st=some x→k' ex st=some x
def LeB (b b':St→(Ex→St→Option α)→Option α):Prop:=∀ st k k' x,Il k k'→b st k=some x→b' st k'=some x
def QY (C C':aA):Prop:=∀ f a b x,C f a b=some x→C' f a b=some x
theorem Il.refl (k:Ex→St→Option α):Il k k:=fun _ _ _ h=>h
theorem QY.refl (C:aA):QY C C:=fun _ _ _ _ h=>h
def next (fg:St→St) (L:St→Option α) (k:Ex→St→Option α):Ex→St→Option α
 | .normal,st=>dU (fg st) L
 | .exit id,st=>k (.exit id) st
 | .ret,st=>k .ret st
theorem zY {fg:St→St} {body:St→(Ex→St→Option α)→Option α} {m:Nat} {st:St} {k:Ex→St→Option α}:lU fg body (m+1) st k=body st (next fg (fun st'=>lU fg body m st' k) k):=by
 simp only[lU]
 congr 1
 funext ex st'
 cases ex<;>rfl
theorem JL {fg:St→St} {L L':St→Option α} {k k':Ex→St→Option α} (hL:∀ st x,L st=some x→L' st=some x) (hk:Il k k'):Il (next fg L k) (next fg L' k'):=by
 intro ex st x h
 cases ex with
 | normal=>simp only[next,aC]at h ⊢;exact hL _ _ h
 | exit id=>exact hk _ _ _ h
 | ret=>exact hk _ _ _ h
theorem jL {fg:St→St} {b b':St→(Ex→St→Option α)→Option α} (hb:LeB b b'):∀ {m m':Nat} {st:St} {k k':Ex→St→Option α} {x:α},m≤m'→Il k k'→lU fg b m st k=some x→lU fg b' m' st k'=some x
 | 0,_,_,_,_,_,_,_,h=>by simp[lU]at h
 | m+1,0,_,_,_,_,hm,_,_=>by omega
 | m+1,m'+1,st,k,k',x,hm,hk,h=>by
  rw[zY]at h ⊢
  exact hb _ _ _ _ (JL (fun st x h=>jL hb (by omega) hk h) hk) h
theorem Nc {fg:St→St} {b b':St→(Ex→St→Option α)→Option α} (hb:LeB b b') (hb':LeB b' b') {st:St} {k k':Ex→St→Option α} {x:α} (hk:Il k k') (h:Nb fg b st k=some x):Nb fg b' st k'=some x:=by
 obtain⟨m,hm⟩:=uK h
 exact Na (fun n m x hnm h=>jL hb' hnm (Il.refl _) h) (jL hb (Nat.le_refl m) hk hm)
end
section
variable {α:Type} (T:Tab)
noncomputable def aN (C:aA) (F:FI):Code→St→(Ex→St→Option α)→Option α
 | .skip,st,k=>k .normal st
 | .region id ops draw,st,k=>yZ (zO F.cfg.alts id) st fun st =>
  match draw with
  | false=>dA T C false [] ops.toList ops.toList 0 st fun st'=>dU (settle F.cfg ops.toList st') fun st'=>k .normal st'
  | true =>
   match bI F.hides id with
   | some hd=>dU (st.strike (present st.heap (pW ops.toList ops.toList))) fun st =>
    match UY F.cfg.ys ops.toList with
    | none=>dA T C true hd ops.toList ops.toList 0 st fun st'=>nS (look st.heap ah) st' fun st'=>dU (settle F.cfg ops.toList st') fun st'=>k .normal st'
    | some j=>dA T C true hd ops.toList (ops.toList.take j) 0 st fun st'=>nS (look st.heap ah) st' fun st'=>dA T C false [] ops.toList (ops.toList.drop j) j st' fun st'=>dU (settle F.cfg ops.toList st') fun st'=>k .normal st'
   | none=>none
 | .seq a b,st,k=>aN C F a st fun ex st' =>
  match ex with
  | .normal=>aN C F b (aB F.cfg b st') k
  | .exit id=>k (.exit id) st'
  | .ret=>k .ret st'
 | .cond c x y,st,k =>
  match aP st.env c with
  | .p (.bool b)=>cond b (aN C F x st k) (aN C F y st k)
  | _=>none
 | .block id c,st,k=>aN C F c st fun ex st' =>
  match ex with
  | .normal=>k .normal st'
  | .exit i=>bif i==id then k .normal st' else k (.exit i) st'
  | .ret=>k .ret st'
 | .scope c,st,k=>aN C F c st k
 | .loop c,st,k=>Nb (aB F.cfg c) (fun st' k'=>aN C F c st' k') (aB F.cfg c st) k
 | .exit id,st,k=>k (.exit id) st
 | .ret,st,k=>k .ret st
 | .label _,st,k=>k .normal st
 | .rangeFunc f ps a b,st,k=>yZ (zO F.cfg.alts (y8 a b)) st fun st =>
  match aP st.env f with
  | .p (.fn g caps) =>
   match bI T.funcs g,jY a with
   | some fi,true =>
    bif jm fi caps.length then
    match C g (.zq::caps.map .p) [.log true []] with
    | some r => jf (aB F.cfg (.seq a b)) fi.cfg.yk ps.toList (jP ps a b)
        (fun st k=>aN C F a st fun ex st' =>
          match ex with
          | .normal=>aN C F b (aB F.cfg b st') k
          | .exit id=>k (.exit id) st'
          | .ret=>k .ret st') (sQ r.2) (aB F.cfg (.seq a b) st) k
    | none=>none
    else none
   | _,_=>none
  | _=>none
 | _,_,_=>none
def abH (F:FI) (bl:List aJ):Ex→St→Option (List AV × List aJ)
 | .exit _,_=>none
 | .normal,st=>Xy T F.cfg F.fn bl st
 | .ret,st=>Xy T F.cfg F.fn bl st
noncomputable def bf (C:aA):aA:=fun f args bl =>
 match bI T.funcs f with
 | none=>none
 | some fi =>
  match fi.fn.body with
  | none=>none
  | some c=>bif DX fi.cfg bl then lu T.strict args fun args=>qE T.strict bl fun bl=>dU (Le fi.cfg fi.fn args bl) fun st=>aN T C fi c st (abH T fi bl) else none
noncomputable def run (X:Ext):aA:=fun f args bl=>lim fun n=>jZ T X n f args bl
end
section
variable {α:Type} {T:Tab} {C C':aA}
theorem GN (env:List AV) (h:Nat→Option aJ) (o:Oper):(∃ D,∀ C,bY T C env h o=D)∨∃ f as_ bl g,∀ C,bY T C env h o=.call (C f as_ bl) g:=by
 have call:∀ (d:Option Nat) (f:Nat) (args:List AV),(∃ D,∀ C,vI T C h d f args=D)∨∃ f' as_ bl g,∀ C,vI T C h d f args=.call (C f' as_ bl) g:=by
  intro d f args
  unfold vI
  cases (iY T f).Bd.is with
  | true=>exact .inl ⟨_,fun C=>rfl⟩
  | false =>
  simp only[cond_false]
  have go:∀ (d:Nat) (fi:FI) (pre:List AV) (s A:Nat) (nw:List Nat) (a:Bool) (ks:List Kd) (off len:Nat) (xs:List PV),(∃ D,∀ C,KX T C h d f fi pre s A nw a ks off len xs=D)∨∃ f' as_ bl g,∀ C,KX T C h d f fi pre s A nw a ks off len xs=.call (C f' as_ bl) g:=by
   intro d fi pre s A nw a ks off len xs
   unfold KX
   split
   · rename_i vs ss hd
     cases (Nat.blt s 100000&&(Nat.blt A 100000&&!(A==s)))&&(!(dR s ss)&&!(dR A ss)) with
     | true=>exact .inr ⟨_,_,_,_,fun C=>rfl⟩
     | false=>exact .inl ⟨_,fun C=>rfl⟩
   · exact .inl ⟨_,fun C=>rfl⟩
  cases (iY T f).vcall with
  | true =>
   simp only[cond_true]
   unfold JH
   split
   · split
     · split
       · exact go ..
       · exact .inl ⟨_,fun C=>rfl⟩
     · rename_i fi _ _ _ _ _ _
       cases fi.cfg.vkeep with
       | true=>exact .inl ⟨_,fun C=>rfl⟩
       | false=>exact go ..
     · exact .inl ⟨_,fun C=>rfl⟩
   · exact .inl ⟨_,fun C=>rfl⟩
  | false =>
  simp only[cond_false]
  unfold oO
  split
  · split
    · split
      · exact .inr ⟨_,_,_,_,fun C=>rfl⟩
      · exact .inl ⟨_,fun C=>rfl⟩
    · exact .inl ⟨_,fun C=>rfl⟩
  · exact .inl ⟨_,fun C=>rfl⟩
 obtain⟨dst,op,type,pos,after,guard⟩:=o
 cases op with
 | call c =>
  obtain⟨callee,args,ts⟩:=c
  cases callee with
  | builtin b=>cases b<;>exact .inl ⟨_,fun C=>rfl⟩
  | invoke r n=>exact .inl ⟨_,fun C=>rfl⟩
  | value f =>
   simp only[bY]
   split
   · exact call _ _ _
   · exact call _ _ _
   · exact .inl ⟨_,fun C=>rfl⟩
 | _=>exact .inl ⟨_,fun C=>rfl⟩
theorem Yc (hC:QY C C') {all:List Oper} {o:Oper} {env:List AV} {h:Nat→Option aJ} {y:Option Eff} (h1:wG T C all o env h=some y):wG T C' all o env h=some y:=by
 have go:∀ {y:Option Eff},((bY T C env h o).run some).map some=some y→((bY T C' env h o).run some).map some=some y:=by
  intro y hy
  rcases GN (T:=T) env h o with ⟨D,hD⟩ | ⟨f,as_,bl,g,hD⟩
  · rw[hD]at hy ⊢;exact hy
  · rw[hD]at hy ⊢
    cases hc:C f as_ bl with
    | none=>rw[hc]at hy;simp[DT.run]at hy
    | some r=>rw[hc]at hy;rw[hC _ _ _ _ hc];exact hy
 unfold wG at h1 ⊢
 cases hg:o.guard with
 | none=>rw[hg]at h1;exact go h1
 | some gw =>
  obtain⟨g,want⟩:=gw
  rw[hg]at h1
  simp only at h1 ⊢
  cases hd:oP all g with
  | none=>rw[hd]at h1;cases h1
  | some t =>
   rw[hd]at h1
   simp only at h1 ⊢
   by_cases hx:∃ b,env.getD t .undef=.p (.bool b)
   · obtain⟨b,hb⟩:=hx
     rw[hb]at h1 ⊢
     simp only at h1 ⊢
     split
     · rename_i hw;rw[if_pos hw]at h1;exact go h1
     · rename_i hw;rw[if_neg hw]at h1;exact h1
   · by_cases hh:env.getD t .undef=.nJ []
     · rw[hh]at h1 ⊢;exact h1
     · split at h1
       · rename_i b hb;exact absurd ⟨b,hb⟩ hx
       · rename_i hb;exact absurd hb hh
       · cases h1
theorem Nh (hC:QY C C') {draw:Bool} {hd:List Nat} {all:List Oper} {o:Oper} {st st':St} (h1:step1 T C draw hd all o st=some st'):step1 T C' draw hd all o st=some st':=by
 unfold step1 at h1 ⊢
 cases ha:wG T C all o st.env (ji hd (look st.heap)) with
 | none=>rw[ha]at h1;cases h1
 | some y=>rw[ha]at h1;rw[Yc hC ha];exact h1
theorem jM {b:Option aJ} {st:St} {k k':St→Option α} {x:α} (hk:∀ st x,k st=some x→k' st=some x) (h:nS b st k=some x):nS b st k'=some x:=by
 unfold nS at h ⊢
 split at h
 · split at h
   · exact hk _ _ h
   · cases h
 · exact hk _ _ h
theorem bP (hC:QY C C') {draw:Bool} {hd:List (List Nat)} {all:List Oper} {k k':St→Option α} (hk:∀ st x,k st=some x→k' st=some x):∀ {l:List Oper} {j:Nat} {st:St} {x:α},dA T C draw hd all l j st k=some x→dA T C' draw hd all l j st k'=some x
 | [],j,st,x,h=>hk _ _ h
 | o::r,j,st,x,h=>by
  cases hy:ny draw st o with
  | none =>
   rw[mP _ _ hy]at h ⊢
   cases h1:step1 T C draw (hd.getD j []) all o st with
   | none=>rw[h1]at h;cases h
   | some st1=>rw[h1]at h;rw[Nh hC h1];exact bP hC hk (l:=r) h
  | some p =>
   obtain⟨xs,vs⟩:=p
   rw[nD _ _ hy]at h ⊢
   cases hg:guardOf all o st.env with
   | none=>rw[hg]at h;cases h
   | some b =>
    rw[hg]at h
    cases b with
    | false=>exact bP hC hk (l:=r) h
    | true =>
     obtain⟨no,h1,h2⟩:=Dp h
     exact WM (bP hC hk (l:=r) h1) (bP hC hk (l:=r) h2)
theorem TV {fg:St→St} {ws:List Nat} {L L':St→Option α} {k k':Ex→St→Option α} (hL:∀ st x,L st=some x→L' st=some x) (hk:Il k k'):Il (nT fg ws L k) (nT fg ws L' k'):=by
 intro ex st x h
 cases ex with
 | normal=>simp only[nT,aC]at h ⊢;exact hL _ _ h
 | exit id=>simp only[nT,aC]at h ⊢;exact hk _ _ _ h
 | ret=>simp only[nT,aC]at h ⊢;exact hk _ _ _ h
theorem mX {fg:St→St} {ss:List (Bool × List Kd)} {ps ws:List Nat} {b b':St→(Ex→St→Option α)→Option α} (hb:LeB b b'):∀ {xs:List PV} {st:St} {k k':Ex→St→Option α} {x:α},Il k k'→jf fg ss ps ws b xs st k=some x→jf fg ss ps ws b' xs st k'=some x
 | [],_,_,_,_,hk,h=>hk _ _ _ h
 | v::xs,st,k,k',x,hk,h=>by
  simp only[jf]at h ⊢
  split at h
  · cases h
  · rename_i env he
    rw[aC]at h ⊢
    exact hb _ _ _ _ (TV (fun st x h=>mX hb hk h) hk) h
theorem CG {F : FI} {f : Operand} {ps : Array Tmp} {y z : Code} {st : St} {k : Ex → St → Option α} {x : α} (h : aN T C F (.rangeFunc f ps y z) st k = some x) :
    ∃ g caps fi r,aP st.env f=.p (.fn g caps)∧bI T.funcs g=some fi∧jY y=true∧jm fi caps.length=true∧C g (.zq::caps.map .p) [.log true []]=some r ∧
     jf (aB F.cfg (.seq y z)) fi.cfg.yk ps.toList (jP ps y z) (fun st k=>aN T C F (.seq y z) st k) (sQ r.2) (aB F.cfg (.seq y z) st) k=some x:=by
  simp only[aN]at h
  obtain⟨h,-⟩:=iJ h
  split at h
  · rename_i g caps hv
    split at h
    · rename_i fi hf hp
      cases hb:jm fi caps.length with
      | false=>rw[hb]at h;cases h
      | true =>
       rw[hb]at h
       simp only[cond_true]at h
       split at h
       · rename_i r hr
         exact⟨g,caps,fi,r,hv,hf,hp,hb,hr,h⟩
       · cases h
    · cases h
  · cases h
theorem E5 {F:FI} {f:Operand} {ps:Array Tmp} {y z:Code} {st:St} {k:Ex→St→Option α} {x:α} (h:aN T C F (.rangeFunc f ps y z) st k=some x):∀ K:St→Option α,yZ (zO F.cfg.alts (y8 y z)) st K=K st:=by
 simp only[aN]at h
 exact(iJ h).2
theorem Po {F:FI} {n:Nat} {f:Operand} {ps:Array Tmp} {y z:Code} {st:St} {k:Ex→St→Option α} {x:α} (h:aK T C F n (.rangeFunc f ps y z) st k=some x):∀ K:St→Option α,yZ (zO F.cfg.alts (y8 y z)) st K=K st:=by
 simp only[aK]at h
 exact(iJ h).2
theorem Io {F : FI} {f : Operand} {ps : Array Tmp} {y z : Code} {st : St} {k : Ex → St → Option α} {x : α} {g : Nat} {caps : List PV} {fi : FI} {r : List AV × List aJ} (ha : ∀ K : St → Option α,yZ (zO F.cfg.alts (y8 y z)) st K = K st) (h1 : aP st.env f = .p (.fn g caps)) (h2 : bI T.funcs g = some fi) (h3 : jY y = true) (h4 : jm fi caps.length = true) (h5 : C g (.zq::caps.map .p) [.log true []] = some r)
    (h:jf (aB F.cfg (.seq y z)) fi.cfg.yk ps.toList (jP ps y z) (fun st k=>aN T C F (.seq y z) st k) (sQ r.2) (aB F.cfg (.seq y z) st) k=some x):aN T C F (.rangeFunc f ps y z) st k=some x:=by
  simp only[aN]
  rw[ha]
  simp only[h1,h2,h3,h4,h5,cond_true]
  exact h
theorem TW {F : FI} {n : Nat} {f : Operand} {ps : Array Tmp} {y z : Code} {st : St} {k : Ex → St → Option α} {x : α} {g : Nat} {caps : List PV} {fi : FI} {r : List AV × List aJ} (ha : ∀ K : St → Option α,yZ (zO F.cfg.alts (y8 y z)) st K = K st) (h1 : aP st.env f = .p (.fn g caps)) (h2 : bI T.funcs g = some fi) (h3 : jY y = true) (h4 : jm fi caps.length = true) (h5 : C g (.zq::caps.map .p) [.log true []] = some r)
    (h:jf (aB F.cfg (.seq y z)) fi.cfg.yk ps.toList (jP ps y z) (vX T C F n y z) (sQ r.2) (aB F.cfg (.seq y z) st) k=some x):aK T C F n (.rangeFunc f ps y z) st k=some x:=by
  simp only[aK]
  rw[ha]
  simp only[h1,h2,h3,h4,h5,cond_true]
  exact h
theorem yc {k k' : Ex → St → Option α} {f f' : St → Option α} (hf : ∀ st x,f st = some x → f' st = some x) (hk : Il k k') :
    Il (fun ex st'=>match ex with | .normal=>f st' | .exit id=>k (.exit id) st' | .ret=>k .ret st') (fun ex st'=>match ex with | .normal=>f' st' | .exit id=>k' (.exit id) st' | .ret=>k' .ret st'):=by
  intro ex st x h
  cases ex with
  | normal=>exact hf _ _ h
  | exit id=>exact hk _ _ _ h
  | ret=>exact hk _ _ _ h
theorem CJ {k k' : Ex → St → Option α} {id : Nat} (hk : Il k k') :
    Il (fun ex st'=>match ex with | .normal=>k .normal st' | .exit i=>bif i==id then k .normal st' else k (.exit i) st' | .ret=>k .ret st') (fun ex st'=>match ex with | .normal=>k' .normal st' | .exit i=>bif i==id then k' .normal st' else k' (.exit i) st' | .ret=>k' .ret st'):=by
  intro ex st x h
  cases ex with
  | normal=>exact hk _ _ _ h
  | exit i =>
   simp only at h ⊢
   cases hi:i==id with
   | true=>rw[hi]at h;exact hk _ _ _ h
   | false=>rw[hi]at h;exact hk _ _ _ h
  | ret=>exact hk _ _ _ h
theorem cO (hC:QY C C') {F:FI} {n n':Nat} (hn:n≤n'):∀ {c:Code} {st:St} {k k':Ex→St→Option α} {x:α},Il k k'→aK T C F n c st k=some x→aK T C' F n' c st k'=some x
 | .skip,st,k,k',x,hk,h=>hk _ _ _ h
 | .region id ops draw,st,k,k',x,hk,h=>by
  simp only[aK]at h ⊢
  obtain⟨h,e⟩:=iJ h
  rw[e]
  cases draw with
  | false=>exact bP hC (fun st x h=>by rw[aC]at h ⊢;exact hk _ _ _ h) h
  | true =>
   simp only at h ⊢
   cases hh:bI F.hides id with
   | none=>rw[hh]at h;cases h
   | some hd =>
    rw[hh]at h
    simp only[aC]at h ⊢
    split
    · rename_i hy
      rw[hy]at h
      exact bP hC (fun st x h=>jM (fun st x h=>hk _ _ _ h) h) h
    · rename_i j hy
      rw[hy]at h
      exact bP hC (fun st x h=>jM (fun st x h=>bP hC (fun st x h=>hk _ _ _ h) h) h) h
 | .seq y z,st,k,k',x,hk,h=>cO hC hn (c:=y) (yc (fun st x h=>cO hC hn (c:=z) hk h) hk) h
 | .cond c y z,st,k,k',x,hk,h=>by
  simp only[aK]at h ⊢
  split
  · rename_i b hb
    rw[hb]at h
    cases b with
    | true=>exact cO hC hn (c:=y) hk h
    | false=>exact cO hC hn (c:=z) hk h
  · rename_i hx
    split at h
    · rename_i b hb;exact absurd hb (hx b)
    · cases h
 | .block id c,st,k,k',x,hk,h=>cO hC hn (c:=c) (CJ hk) h
 | .loop c,st,k,k',x,hk,h=>jL (b:=fun st' k'=>aK T C F n c st' k') (b':=fun st' k'=>aK T C' F n' c st' k') (fun st k k' x hk h=>cO hC hn (c:=c) hk h) hn hk h
 | .exit id,st,k,k',x,hk,h=>hk _ _ _ h
 | .ret,st,k,k',x,hk,h=>hk _ _ _ h
 | .label _,st,k,k',x,hk,h=>hk _ _ _ h
 | .rangeFunc f ps y z,st,k,k',x,hk,h=>by
  have ha:=Po h
  obtain⟨g,caps,fi,r,h1,h2,h3,h4,h5,h⟩:=qW h
  refine TW ha h1 h2 h3 h4 (hC _ _ _ _ h5) (mX (fun st k k' x hk h=>?_) hk h)
  exact cO hC hn (c:=y) (yc (fun st x h=>cO hC hn (c:=z) hk h) hk) h
 | .scope c,st,k,k',x,hk,h=>cO hC hn (c:=c) hk h
 | .goto ..,st,k,k',x,hk,h=>by simp[aK]at h
 | .refuse ..,st,k,k',x,hk,h=>by simp[aK]at h
theorem dN {F:FI}:∀ {c:Code} {st:St} {k k':Ex→St→Option α} {x:α},Il k k'→aN T C F c st k=some x→aN T C F c st k'=some x
 | .skip,st,k,k',x,hk,h=>hk _ _ _ h
 | .region id ops draw,st,k,k',x,hk,h=>by
  simp only[aN]at h ⊢
  obtain⟨h,e⟩:=iJ h
  rw[e]
  cases draw with
  | false=>exact bP (QY.refl C) (fun st x h=>by rw[aC]at h ⊢;exact hk _ _ _ h) h
  | true =>
   simp only at h ⊢
   cases hh:bI F.hides id with
   | none=>rw[hh]at h;cases h
   | some hd =>
    rw[hh]at h
    simp only[aC]at h ⊢
    split
    · rename_i hy
      rw[hy]at h
      exact bP (QY.refl C) (fun st x h=>jM (fun st x h=>hk _ _ _ h) h) h
    · rename_i j hy
      rw[hy]at h
      exact bP (QY.refl C) (fun st x h=>jM (fun st x h=>bP (QY.refl C) (fun st x h=>hk _ _ _ h) h) h) h
 | .seq y z,st,k,k',x,hk,h=>dN (c:=y) (yc (fun st x h=>dN (c:=z) hk h) hk) h
 | .cond c y z,st,k,k',x,hk,h=>by
  simp only[aN]at h ⊢
  split
  · rename_i b hb
    rw[hb]at h
    cases b with
    | true=>exact dN (c:=y) hk h
    | false=>exact dN (c:=z) hk h
  · rename_i hx
    split at h
    · rename_i b hb;exact absurd hb (hx b)
    · cases h
 | .block id c,st,k,k',x,hk,h=>dN (c:=c) (CJ hk) h
 | .loop c,st,k,k',x,hk,h=>Nc (b:=fun st' k'=>aN T C F c st' k') (b':=fun st' k'=>aN T C F c st' k') (fun st k k' x hk h=>dN (c:=c) hk h) (fun st k k' x hk h=>dN (c:=c) hk h) hk h
 | .exit id,st,k,k',x,hk,h=>hk _ _ _ h
 | .ret,st,k,k',x,hk,h=>hk _ _ _ h
 | .label _,st,k,k',x,hk,h=>hk _ _ _ h
 | .rangeFunc f ps y z,st,k,k',x,hk,h=>by
  have ha:=E5 h
  obtain⟨g,caps,fi,r,h1,h2,h3,h4,h5,h⟩:=CG h
  refine Io ha h1 h2 h3 h4 h5 (mX (fun st k k' x hk h=>?_) hk h)
  exact dN (c:=y) (yc (fun st x h=>dN (c:=z) hk h) hk) h
 | .scope c,st,k,k',x,hk,h=>dN (c:=c) hk h
 | .goto ..,st,k,k',x,hk,h=>by simp[aN]at h
 | .refuse ..,st,k,k',x,hk,h=>by simp[aN]at h
theorem gW (hC:QY C C') {F:FI}:∀ {c:Code} {st:St} {k k':Ex→St→Option α} {x:α},Il k k'→aN T C F c st k=some x→aN T C' F c st k'=some x
 | .skip,st,k,k',x,hk,h=>hk _ _ _ h
 | .region id ops draw,st,k,k',x,hk,h=>by
  simp only[aN]at h ⊢
  obtain⟨h,e⟩:=iJ h
  rw[e]
  cases draw with
  | false=>exact bP hC (fun st x h=>by rw[aC]at h ⊢;exact hk _ _ _ h) h
  | true =>
   simp only at h ⊢
   cases hh:bI F.hides id with
   | none=>rw[hh]at h;cases h
   | some hd =>
    rw[hh]at h
    simp only[aC]at h ⊢
    split
    · rename_i hy
      rw[hy]at h
      exact bP hC (fun st x h=>jM (fun st x h=>hk _ _ _ h) h) h
    · rename_i j hy
      rw[hy]at h
      exact bP hC (fun st x h=>jM (fun st x h=>bP hC (fun st x h=>hk _ _ _ h) h) h) h
 | .seq y z,st,k,k',x,hk,h=>gW hC (c:=y) (yc (fun st x h=>gW hC (c:=z) hk h) hk) h
 | .cond c y z,st,k,k',x,hk,h=>by
  simp only[aN]at h ⊢
  split
  · rename_i b hb
    rw[hb]at h
    cases b with
    | true=>exact gW hC (c:=y) hk h
    | false=>exact gW hC (c:=z) hk h
  · rename_i hx
    split at h
    · rename_i b hb;exact absurd hb (hx b)
    · cases h
 | .block id c,st,k,k',x,hk,h=>gW hC (c:=c) (CJ hk) h
 | .loop c,st,k,k',x,hk,h=>Nc (b:=fun st' k'=>aN T C F c st' k') (b':=fun st' k'=>aN T C' F c st' k') (fun st k k' x hk h=>gW hC (c:=c) hk h) (fun st k k' x hk h=>dN (c:=c) hk h) hk h
 | .exit id,st,k,k',x,hk,h=>hk _ _ _ h
 | .ret,st,k,k',x,hk,h=>hk _ _ _ h
 | .label _,st,k,k',x,hk,h=>hk _ _ _ h
 | .rangeFunc f ps y z,st,k,k',x,hk,h=>by
  have ha:=E5 h
  obtain⟨g,caps,fi,r,h1,h2,h3,h4,h5,h⟩:=CG h
  refine Io ha h1 h2 h3 h4 (hC _ _ _ _ h5) (mX (fun st k k' x hk h=>?_) hk h)
  exact gW hC (c:=y) (yc (fun st x h=>gW hC (c:=z) hk h) hk) h
 | .scope c,st,k,k',x,hk,h=>gW hC (c:=c) hk h
 | .goto ..,st,k,k',x,hk,h=>by simp[aN]at h
 | .refuse ..,st,k,k',x,hk,h=>by simp[aN]at h
theorem jO (hC:QY C C') {F:FI} {n:Nat}:∀ {c:Code} {st:St} {k k':Ex→St→Option α} {x:α},Il k k'→aK T C F n c st k=some x→aN T C' F c st k'=some x
 | .skip,st,k,k',x,hk,h=>hk _ _ _ h
 | .region id ops draw,st,k,k',x,hk,h=>by
  simp only[aN,aK]at h ⊢
  obtain⟨h,e⟩:=iJ h
  rw[e]
  cases draw with
  | false=>exact bP hC (fun st x h=>by rw[aC]at h ⊢;exact hk _ _ _ h) h
  | true =>
   simp only at h ⊢
   cases hh:bI F.hides id with
   | none=>rw[hh]at h;cases h
   | some hd =>
    rw[hh]at h
    simp only[aC]at h ⊢
    split
    · rename_i hy
      rw[hy]at h
      exact bP hC (fun st x h=>jM (fun st x h=>hk _ _ _ h) h) h
    · rename_i j hy
      rw[hy]at h
      exact bP hC (fun st x h=>jM (fun st x h=>bP hC (fun st x h=>hk _ _ _ h) h) h) h
 | .seq y z,st,k,k',x,hk,h=>jO hC (c:=y) (yc (fun st x h=>jO hC (c:=z) hk h) hk) h
 | .cond c y z,st,k,k',x,hk,h=>by
  simp only[aN,aK]at h ⊢
  split
  · rename_i b hb
    rw[hb]at h
    cases b with
    | true=>exact jO hC (c:=y) hk h
    | false=>exact jO hC (c:=z) hk h
  · rename_i hx
    split at h
    · rename_i b hb;exact absurd hb (hx b)
    · cases h
 | .block id c,st,k,k',x,hk,h=>jO hC (c:=c) (CJ hk) h
 | .loop c,st,k,k',x,hk,h => Na (f := fun m => lU (aB F.cfg c) (fun st' k' => aN T C' F c st' k') m (aB F.cfg c st) k') (n := n) (fun _ _ _ hnm h => jL (b := fun st' k' => aN T C' F c st' k') (b' := fun st' k' => aN T C' F c st' k') (fun st k k' x hk h => dN (c := c) hk h) hnm (Il.refl _) h)
     (jL (b:=fun st' k'=>aK T C F n c st' k') (b':=fun st' k'=>aN T C' F c st' k') (fun st k k' x hk h=>jO hC (c:=c) hk h) (Nat.le_refl n) hk h)
 | .exit id,st,k,k',x,hk,h=>hk _ _ _ h
 | .ret,st,k,k',x,hk,h=>hk _ _ _ h
 | .label _,st,k,k',x,hk,h=>hk _ _ _ h
 | .rangeFunc f ps y z,st,k,k',x,hk,h=>by
  have ha:=Po h
  obtain⟨g,caps,fi,r,h1,h2,h3,h4,h5,h⟩:=qW h
  refine Io ha h1 h2 h3 h4 (hC _ _ _ _ h5) (mX (fun st k k' x hk h=>?_) hk h)
  exact jO hC (c:=y) (yc (fun st x h=>jO hC (c:=z) hk h) hk) h
 | .scope c,st,k,k',x,hk,h=>jO hC (c:=c) hk h
 | .goto ..,st,k,k',x,hk,h=>by simp[aK]at h
 | .refuse ..,st,k,k',x,hk,h=>by simp[aK]at h
structure Pq (Cn:Nat→aA) (C:aA):Prop where
 mono:∀ n m,n≤m→QY (Cn n) (Cn m)
 lim:∀ f a b x,C f a b=some x→∃ n,Cn n f a b=some x
structure Jk (kn:Nat→Ex→St→Option α) (k:Ex→St→Option α):Prop where
 mono:∀ n m,n≤m→Il (kn n) (kn m)
 lim:∀ ex st x,k ex st=some x→∃ n,kn n ex st=some x
theorem Yd {Cn:Nat→aA} (hC:Pq Cn C) {all:List Oper} {o:Oper} {env:List AV} {h:Nat→Option aJ} {y:Option Eff} (h1:wG T C all o env h=some y):∃ n,wG T (Cn n) all o env h=some y:=by
 rcases GN (T:=T) env h o with ⟨D,hD⟩ | ⟨f,as_,bl,g,hD⟩
 · refine⟨0,?_⟩
   unfold wG at h1 ⊢
   rw[hD]at h1 ⊢;exact h1
 · cases hc:C f as_ bl with
   | some r =>
    obtain⟨n,hn⟩:=hC.lim _ _ _ _ hc
    refine⟨n,?_⟩
    unfold wG at h1 ⊢
    rw[hD,hc]at h1
    rw[hD,hn];exact h1
   | none =>
    refine⟨0,?_⟩
    unfold wG at h1 ⊢
    rw[hD,hc]at h1
    cases hg:o.guard with
    | none=>rw[hg]at h1;simp[DT.run]at h1
    | some gw =>
     obtain⟨g',want⟩:=gw
     rw[hg]at h1
     simp only at h1 ⊢
     cases hd:oP all g' with
     | none=>rw[hd]at h1;cases h1
     | some t =>
      rw[hd]at h1
      simp only at h1 ⊢
      by_cases hx:∃ b,env.getD t .undef=.p (.bool b)
      · obtain⟨b,hb⟩:=hx
        rw[hb]at h1 ⊢
        simp only at h1 ⊢
        split
        · rename_i hw;rw[if_pos hw]at h1;simp[DT.run]at h1
        · rename_i hw;rw[if_neg hw]at h1;exact h1
      · by_cases hh:env.getD t .undef=.nJ []
        · rw[hh]at h1 ⊢;exact h1
        · split at h1
          · rename_i b hb;exact absurd ⟨b,hb⟩ hx
          · rename_i hb;exact absurd hb hh
          · cases h1
theorem Vx {Cn:Nat→aA} (hC:Pq Cn C) {draw:Bool} {hd:List Nat} {all:List Oper} {o:Oper} {st st':St} (h1:step1 T C draw hd all o st=some st'):∃ n,step1 T (Cn n) draw hd all o st=some st':=by
 unfold step1 at h1
 cases ha:wG T C all o st.env (ji hd (look st.heap)) with
 | none=>rw[ha]at h1;cases h1
 | some y =>
  obtain⟨n,hn⟩:=Yd hC ha
  refine⟨n,?_⟩
  unfold step1
  rw[ha]at h1;rw[hn];exact h1
theorem Nj {b:Option aJ} {st:St} {kn:Nat→St→Option α} {k:St→Option α} {x:α} (hk:∀ st x,k st=some x→∃ n,kn n st=some x) (h:nS b st k=some x):∃ n,nS b st (kn n)=some x:=by
 unfold nS at h ⊢
 split at h
 · split at h
   · exact hk _ _ h
   · cases h
 · exact hk _ _ h
theorem kQ {Cn : Nat → aA} (hC : Pq Cn C) {draw : Bool} {hd : List (List Nat)} {all : List Oper} {kn : Nat → St → Option α} {k : St → Option α} (hm : ∀ n m st x,n ≤ m → kn n st = some x → kn m st = some x) (hk : ∀ st x,k st = some x → ∃ n,kn n st = some x) :
    ∀ {l:List Oper} {j:Nat} {st:St} {x:α},dA T C draw hd all l j st k=some x→∃ n,dA T (Cn n) draw hd all l j st (kn n)=some x
  | [],j,st,x,h=>hk _ _ h
  | o::r,j,st,x,h=>by
   cases hy:ny draw st o with
   | none =>
    rw[mP _ _ hy]at h
    cases h1:step1 T C draw (hd.getD j []) all o st with
    | none=>rw[h1]at h;cases h
    | some st1 =>
     rw[h1]at h
     obtain⟨n1,hn1⟩:=Vx hC h1
     obtain⟨n2,hn2⟩:=kQ hC hm hk (l:=r) h
     refine⟨max n1 n2,?_⟩
     rw[mP _ _ hy,Nh (hC.mono n1 (max n1 n2) (by omega)) hn1]
     exact bP (hC.mono n2 (max n1 n2) (by omega)) (fun st x h=>hm n2 _ st x (by omega) h) hn2
   | some p =>
    obtain⟨xs,vs⟩:=p
    rw[nD _ _ hy]at h
    cases hg:guardOf all o st.env with
    | none=>rw[hg]at h;cases h
    | some b =>
     rw[hg]at h
     cases b with
     | false =>
      obtain⟨n,hn⟩:=kQ hC hm hk (l:=r) h
      refine⟨n,?_⟩
      rw[nD _ _ hy,hg]
      exact hn
     | true =>
      obtain⟨no,h1,h2⟩:=Dp h
      obtain⟨n1,hn1⟩:=kQ hC hm hk (l:=r) h1
      obtain⟨n2,hn2⟩:=kQ hC hm hk (l:=r) h2
      refine⟨max n1 n2,?_⟩
      rw[nD _ _ hy,hg]
      exact WM (bP (hC.mono n1 (max n1 n2) (by omega)) (fun st x h=>hm n1 _ st x (by omega) h) hn1) (bP (hC.mono n2 (max n1 n2) (by omega)) (fun st x h=>hm n2 _ st x (by omega) h) hn2)
theorem TY {kn : Nat → Ex → St → Option α} {k : Ex → St → Option α} (hk : Jk kn k) {fn : Nat → St → Option α} {f : St → Option α} (hm : ∀ n m st x,n ≤ m → fn n st = some x → fn m st = some x) (hl : ∀ st x,f st = some x → ∃ n,fn n st = some x) :
    Jk (fun n ex st'=>match ex with | .normal=>fn n st' | .exit id=>kn n (.exit id) st' | .ret=>kn n .ret st') (fun ex st'=>match ex with | .normal=>f st' | .exit id=>k (.exit id) st' | .ret=>k .ret st') :=
  ⟨fun n m h=>yc (fun st x h'=>hm n m st x h h') (hk.mono n m h),fun ex st x h=>by
    cases ex with
    | normal=>exact hl _ _ h
    | exit id=>exact hk.lim _ _ _ h
    | ret=>exact hk.lim _ _ _ h⟩
theorem Vy {kn : Nat → Ex → St → Option α} {k : Ex → St → Option α} {id : Nat} (hk : Jk kn k) :
    Jk (fun n ex st'=>match ex with | .normal=>kn n .normal st' | .exit i=>bif i==id then kn n .normal st' else kn n (.exit i) st' | .ret=>kn n .ret st') (fun ex st'=>match ex with | .normal=>k .normal st' | .exit i=>bif i==id then k .normal st' else k (.exit i) st' | .ret=>k .ret st') :=
  ⟨fun n m h=>CJ (hk.mono n m h),fun ex st x h=>by
    cases ex with
    | normal=>exact hk.lim _ _ _ h
    | exit i =>
     simp only at h ⊢
     cases hi:i==id with
     | true=>rw[hi]at h;exact hk.lim _ _ _ h
     | false=>rw[hi]at h;exact hk.lim _ _ _ h
    | ret=>exact hk.lim _ _ _ h⟩
theorem ig {Cn:Nat→aA} (hC:Pq Cn C) {F:FI}:∀ {c:Code} {st:St} {kn:Nat→Ex→St→Option α} {k:Ex→St→Option α} {x:α},Jk kn k→aN T C F c st k=some x→∃ n,aK T (Cn n) F n c st (kn n)=some x
 | .skip,st,kn,k,x,hk,h=>hk.lim _ _ _ h
 | .region id ops draw,st,kn,k,x,hk,h=>by
  simp only[aN,aK]at h ⊢
  obtain⟨h,e⟩:=iJ h
  simp only[e]
  cases draw with
  | false =>
   exact kQ hC (kn:=fun n st'=>dU (settle F.cfg ops.toList st') fun st'=>kn n .normal st') (fun n m st x hnm h=>by rw[aC]at h ⊢;exact hk.mono n m hnm _ _ _ h) (fun st x h=>by
    rw[aC]at h
    obtain⟨n,hn⟩:=hk.lim _ _ _ h
    exact⟨n,by rw[aC];exact hn⟩) h
  | true =>
   simp only[]at h ⊢
   cases hh:bI F.hides id with
   | none=>rw[hh]at h;cases h
   | some hd =>
    rw[hh]at h
    simp only[aC]at h ⊢
    cases hy:UY F.cfg.ys ops.toList with
    | none =>
     rw[hy]at h
     exact kQ hC (kn:=fun n st'=>nS (look (st.strike (present st.heap (pW ops.toList ops.toList))).heap ah) st' fun st'=>kn n .normal (settle F.cfg ops.toList st')) (fun n m st x hnm h=>jM (fun st x h=>hk.mono n m hnm _ _ _ h) h) (fun st x h=>Nj (kn:=fun n st'=>kn n .normal (settle F.cfg ops.toList st')) (fun st x h=>hk.lim _ _ _ h) h) h
    | some j =>
     rw[hy]at h
     exact kQ hC (kn:=fun n st'=>nS (look (st.strike (present st.heap (pW ops.toList ops.toList))).heap ah) st' fun st'=>dA T (Cn n) false [] ops.toList (ops.toList.drop j) j st' fun st'=>kn n .normal (settle F.cfg ops.toList st'))
      (fun n m st x hnm h=>jM (fun st x h=>bP (hC.mono n m hnm) (fun st x h=>hk.mono n m hnm _ _ _ h) h) h)
      (fun st x h=>Nj (kn:=fun n st'=>dA T (Cn n) false [] ops.toList (ops.toList.drop j) j st' fun st'=>kn n .normal (settle F.cfg ops.toList st')) (fun st x h =>
        kQ hC (kn:=fun n st'=>kn n .normal (settle F.cfg ops.toList st')) (fun n m st x hnm h=>hk.mono n m hnm _ _ _ h) (fun st x h=>hk.lim _ _ _ h) h) h) h
 | .seq y z,st,kn,k,x,hk,h=>ig hC (c:=y) (TY hk (fn:=fun n st'=>aK T (Cn n) F n z (aB F.cfg z st') (kn n)) (fun n m st x hnm h=>cO (hC.mono n m hnm) hnm (hk.mono n m hnm) h) (fun st x h=>ig hC (c:=z) hk h)) h
 | .cond c y z,st,kn,k,x,hk,h=>by
  simp only[aN,aK]at h ⊢
  by_cases hx:∃ b,aP st.env c=.p (.bool b)
  · obtain⟨b,hb⟩:=hx
    rw[hb]at h ⊢
    cases b with
    | true=>exact ig hC (c:=y) hk h
    | false=>exact ig hC (c:=z) hk h
  · split at h
    · rename_i b hb;exact absurd ⟨b,hb⟩ hx
    · cases h
 | .block id c,st,kn,k,x,hk,h=>ig hC (c:=c) (Vy hk) h
 | .loop c,st,kn,k,x,hk,h=>by
  obtain⟨m,hm⟩:=uK h
  have key:∀ m st x,lU (aB F.cfg c) (fun st' k'=>aN T C F c st' k') m st k=some x→∃ n,lU (aB F.cfg c) (fun st' k'=>aK T (Cn n) F n c st' k') n st (kn n)=some x:=by
   intro m
   induction m with
   | zero=>intro st x h;simp[lU]at h
   | succ m ih =>
    intro st x h
    rw[zY]at h
    have happ:Jk (fun n=>next (aB F.cfg c) (fun st'=>lU (aB F.cfg c) (fun st' k'=>aK T (Cn n) F n c st' k') n st' (kn n)) (kn n)) (next (aB F.cfg c) (fun st'=>lU (aB F.cfg c) (fun st' k'=>aN T C F c st' k') m st' k) k) :=
     ⟨fun n m hnm=>JL (fun st x h=>jL (b:=fun st' k'=>aK T (Cn n) F n c st' k') (b':=fun st' k'=>aK T (Cn m) F m c st' k') (fun st k k' x hk h=>cO (hC.mono n m hnm) hnm (c:=c) hk h) hnm (hk.mono n m hnm) h) (hk.mono n m hnm),fun ex st x h=>by
       cases ex with
       | normal =>
        simp only[next,aC]at h ⊢
        exact ih _ _ h
       | exit id=>exact hk.lim _ _ _ h
       | ret=>exact hk.lim _ _ _ h⟩
    obtain⟨n,hn⟩:=ig hC (c:=c) happ h
    refine⟨n+1,?_⟩
    rw[zY]
    exact cO (hC.mono n (n+1) (by omega)) (by omega) (JL (fun st x h=>jL (b:=fun st' k'=>aK T (Cn n) F n c st' k') (b':=fun st' k'=>aK T (Cn (n+1)) F (n+1) c st' k') (fun st k k' x hk h=>cO (hC.mono n (n+1) (by omega)) (by omega) (c:=c) hk h) (by omega) (hk.mono n (n+1) (by omega)) h) (hk.mono n (n+1) (by omega))) hn
  obtain⟨n,hn⟩:=key m _ x hm
  exact⟨n,hn⟩
 | .exit id,st,kn,k,x,hk,h=>hk.lim _ _ _ h
 | .ret,st,kn,k,x,hk,h=>hk.lim _ _ _ h
 | .label _,st,kn,k,x,hk,h=>hk.lim _ _ _ h
 | .rangeFunc f ps y z,st,kn,k,x,hk,h=>by
  have ha:=E5 h
  obtain⟨g,caps,fi,r,h1,h2,h3,h4,h5,h⟩:=CG h
  obtain⟨n0,h5⟩:=hC.lim _ _ _ _ h5
  have acd:∀ n m,n≤m→LeB (vX (α:=α) T (Cn n) F n y z) (vX T (Cn m) F m y z):=fun n m hnm st k k' x hk h=>cO (hC.mono n m hnm) hnm (c:=y) (yc (fun st x h=>cO (hC.mono n m hnm) hnm (c:=z) hk h) hk) h
  have key:∀ (xs:List PV) (st:St) (x:α),jf (aB F.cfg (.seq y z)) fi.cfg.yk ps.toList (jP ps y z) (fun st k=>aN T C F (.seq y z) st k) xs st k=some x→∃ n,jf (aB F.cfg (.seq y z)) fi.cfg.yk ps.toList (jP ps y z) (vX T (Cn n) F n y z) xs st (kn n)=some x:=by
   intro xs
   induction xs with
   | nil=>intro st x h;exact hk.lim _ _ _ h
   | cons v xs ih =>
    intro st x h
    simp only[jf]at h ⊢
    split at h
    · cases h
    · rename_i env he
      rw[aC]at h
      have happ:Jk (fun n=>nT (aB F.cfg (.seq y z)) (jP ps y z) (fun st=>jf (aB F.cfg (.seq y z)) fi.cfg.yk ps.toList (jP ps y z) (vX T (Cn n) F n y z) xs st (kn n)) (kn n)) (nT (aB F.cfg (.seq y z)) (jP ps y z) (fun st=>jf (aB F.cfg (.seq y z)) fi.cfg.yk ps.toList (jP ps y z) (fun st k=>aN T C F (.seq y z) st k) xs st k) k) :=
       ⟨fun n m hnm=>TV (fun st x h=>mX (acd n m hnm) (hk.mono n m hnm) h) (hk.mono n m hnm),fun ex st x h=>by
         cases ex with
         | normal =>
          simp only[nT,aC]at h ⊢
          exact ih _ _ h
         | exit id =>
          simp only[nT,aC]at h ⊢
          exact hk.lim _ _ _ h
         | ret =>
          simp only[nT,aC]at h ⊢
          exact hk.lim _ _ _ h⟩
      have h':=ig hC (c:=y) (TY happ (fn:=fun n st'=>aK T (Cn n) F n z (aB F.cfg z st') (nT (aB F.cfg (.seq y z)) (jP ps y z) (fun st=>jf (aB F.cfg (.seq y z)) fi.cfg.yk ps.toList (jP ps y z) (vX T (Cn n) F n y z) xs st (kn n)) (kn n))) (fun n m st x hnm h=>cO (hC.mono n m hnm) hnm (c:=z) (happ.mono n m hnm) h) (fun st x h=>ig hC (c:=z) happ h)) h
      obtain⟨n,hn⟩:=h'
      exact⟨n,by rw[aC];exact hn⟩
  obtain⟨n1,h⟩:=key _ _ _ h
  refine⟨max n0 n1,TW ha h1 h2 h3 h4 (hC.mono n0 (max n0 n1) (by omega) _ _ _ _ h5) (mX (acd n1 (max n0 n1) (by omega)) (hk.mono n1 (max n0 n1) (by omega)) h)⟩
 | .scope c,st,kn,k,x,hk,h=>ig hC (c:=c) hk h
 | .goto ..,st,kn,k,x,hk,h=>by simp[aN]at h
 | .refuse ..,st,kn,k,x,hk,h=>by simp[aN]at h
theorem abI {C:aA} {F:FI} {c:Code} {fg:St→St} {st:St} {k:Ex→St→Option α} {x:α} (h:aN T C F c st (next fg (fun st'=>Nb fg (fun st' k'=>aN T C F c st' k') st' k) k)=some x):Nb fg (fun st' k'=>aN T C F c st' k') st k=some x:=by
 have hb:LeB (fun st' k'=>aN (α:=α) T C F c st' k') (fun st' k'=>aN T C F c st' k'):=fun st k k' x hk h=>gW (QY.refl _) (c:=c) hk h
 have happ:Jk (fun n=>next fg (fun st'=>lU fg (fun st' k'=>aN T C F c st' k') n st' k) k) (next fg (fun st'=>Nb fg (fun st' k'=>aN T C F c st' k') st' k) k) :=
  ⟨fun n m hnm=>JL (fun st x h=>jL hb hnm (Il.refl _) h) (Il.refl _),fun ex st x h=>by
    cases ex with
    | normal =>
     simp only[next,aC]at h ⊢
     exact uK h
    | exit id=>exact⟨0,h⟩
    | ret=>exact⟨0,h⟩⟩
 have hC:Pq (fun _=>C) C:=⟨fun _ _ _=>QY.refl _,fun _ _ _ _ h=>⟨0,h⟩⟩
 obtain⟨n,hn⟩:=ig hC happ h
 have:=jO (QY.refl C) (Il.refl _) hn
 exact Na (n:=n+1) (fun _ _ _ hnm h=>jL hb hnm (Il.refl _) h) (by rw[zY];exact this)
theorem E8 {X:Ext}:∀ {n m:Nat},n≤m→QY (jZ T X n) (jZ T X m)
 | 0,_,_=>fun f a b x h=>by simp[jZ]at h
 | n+1,0,hm=>by omega
 | n+1,m+1,hm=>fun f a b x h=>by
  simp only[jZ]at h ⊢
  split at h
  · cases h
  · rename_i fi hf
    split at h
    · exact h
    · rename_i hx
      split at h
      · cases h
      · rename_i c hc
        cases hb:DX fi.cfg b with
        | false=>rw[hb]at h;cases h
        | true =>
        rw[hb]at h
        simp only[cond_true,fJ,iM,aC]at h ⊢
        exact cO (E8 (by omega)) (by omega) (Il.refl _) h
theorem aaf {X:Ext}:Pq (jZ T X) (run T X):=⟨fun _ _ h=>E8 h,fun _ _ _ _ h=>uK h⟩
theorem Ua {X:Ext} {f:Nat} {a:List AV} {b:List aJ}:afo fun n=>jZ T X n f a b:=fun _n _m x hnm h=>E8 hnm f a b x h
theorem bn {X:Ext} {f:Nat} {args:List AV} {bl:List aJ} {r:List AV × List aJ} (hX:X f=none) (h:bf T (run T X) f args bl=some r):run T X f args bl=some r:=by
 unfold bf at h
 split at h
 · cases h
 · rename_i fi hf
   split at h
   · cases h
   · rename_i c hc
     cases hb:DX fi.cfg bl with
     | false=>rw[hb]at h;cases h
     | true =>
     rw[hb]at h
     simp only[cond_true,fJ,iM,aC]at h
     obtain⟨n,hn⟩:=ig aaf (kn:=fun _=>abH T fi bl) ⟨fun _ _ _=>Il.refl _,fun _ _ _ h=>⟨0,h⟩⟩ h
     refine Na (n:=n+1) Ua ?_
     simp only[jZ,hf,hX,hc,hb,cond_true,fJ,iM,aC]
     refine cO (QY.refl _) (Nat.le_refl n) (fun ex st x h=>?_) hn
     cases ex<;>exact h
theorem tq {X:Ext} {f:Nat} {fi:FI} {s:List AV→List aJ→Option (List AV × List aJ)} {args:List AV} {bl:List aJ} {r:List AV × List aJ} (hf:bI T.funcs f=some fi) (hX:X f=some s) (h:s args bl=some r):run T X f args bl=some r :=
 Na (n:=1) Ua (by simp only[jZ,hf,hX];exact h)
theorem OB {P:Program} (ok:bJ P T) {X:Ext} {gl:Option (List (Nat × Obj))} (hX:Ae P T gl X):fZ P T gl (run T X):=by
 refine⟨fun f fi args bl rs pG hf hpb h=>?_,fun f fi args z off len a ks xs rs pG hf hv h=>?_,hX.1⟩
 · obtain⟨n,hn⟩:=uK h
   exact(Jj ok hX n).plain f fi args bl rs pG hf hpb hn
 · obtain⟨n,hn⟩:=uK h
   exact(Jj ok hX n).var f fi args z off len a ks xs rs pG hf hv hn
end
inductive Wy where
 | lp (p:List Nat)
 | rg (p:List Nat) (ss:List (Bool × List Kd)) (xs:List PV)
section
variable {α:Type} (T:Tab) (C:aA) (F:FI)
def yg:Code→List Nat→Code
 | c,[]=>c
 | .seq a _,0::p=>yg a p
 | .seq _ b,_::p=>yg b p
 | .cond _ a _,0::p=>yg a p
 | .cond _ _ b,_::p=>yg b p
 | .block _ c,_::p=>yg c p
 | .scope c,_::p=>yg c p
 | .loop c,_::p=>yg c p
 | c,_=>c
def vY (c:Code) (p:List Nat):Code:=match yg c p with
 | .loop b=>b
 | .rangeFunc _ _ a b=>.seq a b
 | _=>.skip
def akU (c:Code) (p:List Nat):List Nat:=match yg c p with
 | .rangeFunc _ ps _ _=>ps.toList
 | _=>[]
def afp (c:Code) (p:List Nat):List Nat:=match yg c p with
 | .rangeFunc _ ps a b=>jP ps a b
 | _=>[]
noncomputable def yh:Code→List Nat→(Ex→St→Option α)→Ex→St→Option α
 | .seq a b,0::p,k=>yh a p fun ex st' =>
  match ex with
  | .normal=>aN T C F b (aB F.cfg b st') k
  | .exit id=>k (.exit id) st'
  | .ret=>k .ret st'
 | .seq _ b,_::p,k=>yh b p k
 | .cond _ a _,0::p,k=>yh a p k
 | .cond _ _ b,_::p,k=>yh b p k
 | .block id c,_::p,k=>yh c p fun ex st' =>
  match ex with
  | .normal=>k .normal st'
  | .exit i=>bif i==id then k .normal st' else k (.exit i) st'
  | .ret=>k .ret st'
 | .scope c,_::p,k=>yh c p k
 | _,_,k=>k
noncomputable def afq (c:Code) (p:List Nat) (k:Ex→St→Option α) (st:St):Option α:=Nb (aB F.cfg (vY c p)) (fun st' k'=>aN T C F (vY c p) st' k') st (yh T C F c p k)
noncomputable def Vz (c:Code) (p:List Nat) (k:Ex→St→Option α):Ex→St→Option α:=next (aB F.cfg (vY c p)) (afq T C F c p k) (yh T C F c p k)
noncomputable def adw (c:Code) (p:List Nat) (ss:List (Bool × List Kd)) (k:Ex→St→Option α) (xs:List PV) (st:St):Option α :=
 jf (aB F.cfg (vY c p)) ss (akU c p) (afp c p) (fun st k=>aN T C F (vY c p) st k) xs st (yh T C F c p k)
noncomputable def aag (c:Code) (p:List Nat) (ss:List (Bool × List Kd)) (xs:List PV) (k:Ex→St→Option α):Ex→St→Option α:=nT (aB F.cfg (vY c p)) (afp c p) (adw T C F c p ss k xs) (yh T C F c p k)
noncomputable def QT:Code→(Ex→St→Option α)→List Wy→St→Option α
 | _,_,[],_=>none
 | c,k,[.lp p],st=>afq T C F c p k st
 | c,k,[.rg p ss xs],st=>adw T C F c p ss k xs st
 | c,k,.lp p::q::r,st=>QT (vY c p) (Vz T C F c p k) (q::r) st
 | c,k,.rg p ss xs::q::r,st=>QT (vY c p) (aag T C F c p ss xs k) (q::r) st
noncomputable def GR:Code→(Ex→St→Option α)→List Wy→St→Option α
 | _,_,[],_=>none
 | c,k,[.lp p],st=>aN T C F (vY c p) st (Vz T C F c p k)
 | c,k,[.rg p ss xs],st=>adw T C F c p ss k xs st
 | c,k,.lp p::q::r,st=>GR (vY c p) (Vz T C F c p k) (q::r) st
 | c,k,.rg p ss xs::q::r,st=>GR (vY c p) (aag T C F c p ss xs k) (q::r) st
variable {T C F}
theorem Ip {x:α}:∀ {l:List Wy} {c:Code} {k:Ex→St→Option α} {st:St},GR T C F c k l st=some x→QT T C F c k l st=some x
 | [],_,_,_,h=>by simp[GR]at h
 | [.lp p],c,k,st,h=>abI h
 | [.rg p ss xs],c,k,st,h=>h
 | .lp p::q::r,c,k,st,h=>Ip (l:=q::r) h
 | .rg p ss xs::q::r,c,k,st,h=>Ip (l:=q::r) h
end
section
variable (T:Tab) (C:aA) (f:Nat) (bl:List aJ)
noncomputable def Ye:FI:=match bI T.funcs f with | some fi=>fi | none=>⟨default,{},[]⟩
def codeOf (F:FI):Code:=match F.fn.body with | some c=>c | none=>.skip
noncomputable def L (l:List Wy) (st:St):Option (List AV × List aJ):=QT T C (Ye T f) (codeOf (Ye T f)) (abH T (Ye T f) bl) l st
noncomputable def R (l:List Wy) (st:St):Option (List AV × List aJ):=GR T C (Ye T f) (codeOf (Ye T f)) (abH T (Ye T f) bl) l st
variable {T C f bl}
theorem dP {l:List Wy} {st:St} {x:List AV × List aJ} (h:R T C f bl l st=some x):L T C f bl l st=some x:=Ip h
end
end Go.Skm
namespace Go.Skm
open Go.ChangeShapes Go.WideShapes
mutual
def PV.wf:PV→Prop
 | .int k n=>(Lit.int k n).wf=true
 | .str s=>s.size≤maxLen
 | .list _ _ xs=>xs.length≤maxLen∧PV.wfs xs
 | .agg cs=>PV.wfs cs
 | .nil=>False
 | _=>True
def PV.wfs:List PV→Prop
 | []=>True
 | v::r=>PV.wf v∧PV.wfs r
end
theorem Dx:∀ {l:List PV},PV.wfs l↔∀ v∈l,v.wf
 | []=>by simp[PV.wfs]
 | v::r=>by simp[PV.wfs,Dx]
section
variable (P:Program)
def kJ:Nat→TypeId→Bool
 | 0,_=>false
 | n+1,t =>
  match P.underlying t with
  | some (.int _)=>Nat.beq (P.cellsOf t) 1
  | some .bool=>Nat.beq (P.cellsOf t) 1
  | some .string=>Nat.beq (P.cellsOf t) 1
  | some (.slice e)=>kJ n e&&(Nat.blt 0 (P.cellsOf e)&&Nat.beq (P.cellsOf t) 1)
  | some (.struct fs)=>go n 0 fs.toList&&Nat.beq (P.cellsOf t) (sum fs.toList)
  | some (.array m e)=>kJ n e&&Nat.beq (P.cellsOf t) (m*P.cellsOf e)
  | _=>false
where
 go (n:Nat):Nat→List Field→Bool
 | _,[]=>true
 | o,f::r=>f.offset==o&&(kJ n f.type&&go n (o+P.cellsOf f.type) r)
 sum:List Field→Nat
 | []=>0
 | f::r=>P.cellsOf f.type+sum r
end
section
variable {H:Type} {enc:TypeId × Value→H} {P:Program} {w:World} {base:Nat} {sp:Nat→Bool} {held:Bool} {M:Nat→Prop}
theorem Nk:∀ {n:Nat} {t:TypeId},kJ P n t=true→(bg P n t).2.length=P.cellsOf t
 | 0,t,h=>by simp[kJ]at h
 | n+1,t,h=>by
  unfold kJ at h
  unfold bg
  split at h
  · rename_i k hu;rw[hu];simpa using (Nat.eq_of_beq_eq_true h).symm
  · rename_i hu;rw[hu];simpa using (Nat.eq_of_beq_eq_true h).symm
  · rename_i hu;rw[hu];simpa using (Nat.eq_of_beq_eq_true h).symm
  · rename_i e hu
    rw[hu]
    simp only[qBa]at h
    simpa using (Nat.eq_of_beq_eq_true h.2.2).symm
  · rename_i fs hu
    rw[hu]
    simp only[qBa]at h
    rw[Nat.eq_of_beq_eq_true h.2]
    have:∀ (l:List Field) (o:Nat),kJ.go P n o l=true→(l.flatMap fun f=>(bg P n f.type).2).length=kJ.sum P l:=by
     intro l
     induction l with
     | nil=>intro o _;rfl
     | cons f r ih =>
      intro o h
      simp only[kJ.go,qBa]at h
      simp only[List.flatMap_cons,List.length_append,kJ.sum,Nk h.2.1,ih _ h.2.2]
    exact this _ _ h.1
  · rename_i m e hu
    rw[hu]
    simp only[qBa]at h
    simp only[List.length_flatten,List.map_replicate,List.sum_replicate_nat,Nk h.1]
    exact(Nat.eq_of_beq_eq_true h.2).symm
  · cases h
def Jv (w:World) (M:Nat→Prop) (ks:List Kd) (cs:List Value) (ps:List PV):Prop :=
 bC ks ps=true∧ps.length=cs.length∧(∀ (i:Nat) (p:PV),ps[i]?=some p→VR w M p (cs.getD i undef))∧PV.wfs ps
theorem CO:∀ {k1 k2:List Kd} {p1 p2:List PV},bC k1 p1=true→bC k2 p2=true→bC (k1++k2) (p1++p2)=true
 | [],k2,[],p2,_,h=>h
 | k::k1,k2,v::p1,p2,h1,h2=>by
  simp only[bC,qBa]at h1
  simp only[List.cons_append,bC,qBa]
  exact⟨h1.1,CO h1.2 h2⟩
 | [],_,_::_,_,h,_=>by simp[bC]at h
 | _::_,_,[],_,h,_=>by simp[bC]at h
theorem Jv.append {k1 k2:List Kd} {c1 c2:List Value} {p1 p2:List PV} (h1:Jv w M k1 c1 p1) (h2:Jv w M k2 c2 p2):Jv w M (k1++k2) (c1++c2) (p1++p2):=by
 refine⟨CO h1.1 h2.1,by simp[h1.2.1,h2.2.1],fun i p hp=>?_,?_⟩
 · by_cases hi:i<p1.length
   · rw[List.getElem?_append_left hi]at hp
     have:=h1.2.2.1 i p hp
     rw[qLb]at this ⊢
     rwa[List.getElem?_append_left (by rw[← h1.2.1];exact hi)]
   · rw[List.getElem?_append_right (by omega)]at hp
     have:=h2.2.2.1 _ p hp
     rw[qLb]at this ⊢
     rwa[List.getElem?_append_right (by rw[← h1.2.1];omega),← h1.2.1]
 · rw[Dx]at *
   have a:=Dx.1 h1.2.2.2
   have b:=Dx.1 h2.2.2.2
   intro v hv
   rcases List.mem_append.1 hv with hv | hv
   · exact a v hv
   · exact b v hv
def yj (a:Bool) (ps:List PV):PV:=match a with | true=>.agg ps | false=>ps.headD .nil
theorem Nl {n:Nat} {t:TypeId} (h:kJ P n t=true) (ha:(bg P n t).1=false):(bg P n t).2.length=1:=by
 cases n with
 | zero=>simp[kJ]at h
 | succ n =>
  unfold kJ at h
  unfold bg at ha ⊢
  split at h<;>rename_i hu<;>first | (simp only[hu]at ha ⊢;done) | skip
  all_goals (try (simp only[hu]at ha ⊢;rfl))
  all_goals (simp only[hu]at ha)
  all_goals (cases ha)
theorem rQ {n : Nat} {t : TypeId} {cs : List Value} {ps : List PV} (h : kJ P n t = true) (hc : Jv w M (bg P n t).2 cs ps) :
    au (bg P n t).1 (bg P n t).2 (yj (bg P n t).1 ps)=true∧(yj (bg P n t).1 ps).cells=ps∧(yj (bg P n t).1 ps).wf:=by
  cases ha:(bg P n t).1 with
  | true=>exact⟨hc.1,rfl,by simp only[yj,PV.wf];exact hc.2.2.2⟩
  | false =>
   have h1:=Nl h ha
   have hk:=hc.1
   match hks:(bg P n t).2,h1,hk with
   | [k],_,hk =>
    match ps,hk,hc with
    | [p],hk,hc =>
     simp only[bC,Bool.and_true]at hk
     have hl:=iC hk
     refine⟨hk,?_,?_⟩
     · simp only[yj,List.headD_cons]
       cases p<;>first | rfl | simp[PV.leaf]at hl
     · exact(Dx.1 hc.2.2.2) p (by simp)
    | [],hk,_=>simp[bC]at hk
    | _::_::_,hk,_=>simp[bC]at hk
theorem NY {a:Addr} {n i:Nat} {v:Value} (h:w.cell? (a.add i)=some v) (hi:i<n) (h0:i=0):a.spot=none:=by
 subst h0
 simp only[Addr.add,if_true]at h
 unfold World.cell? at h
 split at h
 · cases hs:a.spot with
   | none=>rfl
   | some s=>rw[hs]at h;simp at h
 · cases h
theorem Fa {a:Addr} {n:Nat} {cs:List Value} (h:w.cells? base a n=some cs):cs.length=n∧∀ i,i<n→∃ v,cs[i]?=some v∧w.cell? (a.add i)=some v:=by
 unfold World.cells? at h
 split at h
 · have hl:=mapM_some_length h
   simp at hl
   refine⟨hl,fun i hi=>?_⟩
   have:=mapM_some_get h i i (by simp[hi])
   have hlt:i<cs.length:=by omega
   rw[qLd hlt]at this
   exact⟨cs[i],by simp,this⟩
 · cases h
theorem Yf (hM:∀ b,b<w.heap.size→M b):∀ (fuel n:Nat) (t:TypeId) (cs:List Value) (x:DataW H × List MemPlace),DataW.trod enc P w base sp held fuel t cs=some x→kJ P n t=true→∃ ps,Jv w M (bg P n t).2 cs ps:=by
 intro fuel
 induction fuel with
 | zero=>intro n t cs x h;simp[DataW.trod]at h
 | succ fuel ih =>
  intro n t cs x h ha
  cases n with
  | zero=>simp[kJ]at ha
  | succ n =>
   unfold kJ at ha
   have one:∀ (k:Kd) (p:PV) (v:Value),kindOk k p=true→VR w M p v→p.wf→Jv w M [k] [v] [p]:=by
    intro k p v h1 h2 h3
    refine⟨by simp[bC,h1],rfl,fun i q hq=>?_,by simp[PV.wfs,h3]⟩
    cases i with
    | zero=>simp at hq;subst hq;simpa using h2
    | succ i=>simp at hq
   split at ha
   · rename_i k hu
     obtain⟨m,rfl,_,hw⟩:=DataW.trod_int hu h
     have e:(bg P (n+1) t).2=[.int k]:=by (conv=>lhs;unfold bg);rw[hu]
     rw[e]
     exact⟨_,one _ (.int k m) _ (by simp[kindOk]) (.int k m) hw⟩
   · rename_i hu
     obtain⟨b,rfl,_⟩:=DataW.trod_bool hu h
     have e:(bg P (n+1) t).2=[.bool]:=by (conv=>lhs;unfold bg);rw[hu]
     rw[e]
     exact⟨_,one _ (.bool b) _ rfl (.bool b) trivial⟩
   · rename_i hu
     obtain⟨s,rfl,_,hw⟩:=DataW.trod_string hu h
     have e:(bg P (n+1) t).2=[.str]:=by (conv=>lhs;unfold bg);rw[hu]
     rw[e]
     exact⟨_,one _ (.str s) _ rfl (.str s) hw⟩
   · -- a slice
     rename_i e hu
     simp only[qBa]at ha
     have es:(bg P (n+1) t).2=[.slice (bg P n e).1 (bg P n e).2]:=by (conv=>lhs;unfold bg);rw[hu]
     rw[es]
     have hpos:0<P.cellsOf e:=Nat.le_of_ble_eq_true ha.2.1
     have hlen:=Nk ha.1
     rcases DataW.trod_slice hu h with ⟨rfl,_⟩ | ⟨a,len,cap,elems,rest,m,hm,rfl,_,hb,hlc,hcm,hel,hget,_,_⟩
     · exact⟨_,one _ (.list (bg P n e).1 (bg P n e).2 []) _ (by simp[kindOk,Kd.jy]) (.kZ _ _ none 0) (by simp[PV.wf,PV.wfs])⟩
     · cases hm
       have good:∀ i,i<len→∃ (ps:List PV) (csi:List Value),w.cells? base (a.add (i*P.cellsOf e)) (P.cellsOf e)=some csi∧Jv w M (bg P n e).2 csi ps:=by
        intro i hi
        have h1:=hget i hi
        rw[qLd (by omega)]at h1
        simp only[Option.bind_eq_some_iff]at h1
        obtain⟨csi,h2,h3⟩:=h1
        obtain⟨ps,h4⟩:=ih n e csi _ h3 ha.1
        exact⟨ps,csi,h2,h4⟩
       by_cases h0:len=0
       · subst h0
         exact⟨_,one _ (.list (bg P n e).1 (bg P n e).2 []) _ (by simp[kindOk,Kd.jy]) (.kZ _ _ (some a) cap) (by simp[PV.wf,PV.wfs])⟩
       · have hspot : a.spot = none := by
           obtain⟨ps,csi,h2,_⟩:=good 0 (by omega)
           obtain⟨_,h3⟩:=Fa h2
           obtain⟨v,_,h4⟩:=h3 0 hpos
           simp only[Nat.zero_mul]at h4
           have e0:a.add 0=a:=by simp[Addr.add]
           rw[e0]at h4
           exact NY h4 hpos rfl
         have addr:∀ i j,(a.add (i*P.cellsOf e)).add j=⟨a.block,a.off+i*P.cellsOf e+j,none⟩:=by
          intro i j
          obtain⟨ab,ao,as⟩:=a
          simp only at hspot
          subst hspot
          unfold Addr.add
          by_cases h1:i*P.cellsOf e=0<;>by_cases h2:j=0<;>simp[h1,h2]
         have hex:∃ (f:Nat→List PV) (g:Nat→List Value),∀ i,i<len→w.cells? base (a.add (i*P.cellsOf e)) (P.cellsOf e)=some (g i)∧Jv w M (bg P n e).2 (g i) (f i) :=
          ⟨fun i=>if h:i<len then(good i h).choose else [],fun i=>if h:i<len then(good i h).choose_spec.choose else [],fun i hi=>by
            simp only[dif_pos hi];exact(good i hi).choose_spec.choose_spec⟩
         obtain⟨f,g,hfg⟩:=hex
         have hblk:a.block<w.heap.size:=by
          obtain⟨h2,_⟩:=hfg 0 (by omega)
          obtain⟨_,h3⟩:=Fa h2
          obtain⟨v,_,h4⟩:=h3 0 hpos
          rw[addr]at h4
          unfold World.cell? at h4
          simp only at h4
          rcases Nat.lt_or_ge a.block w.heap.size with h' | h'
          · exact h'
          · rw[Array.getElem?_eq_none h']at h4;cases h4
         have hxs:∀ (i:Nat) (x:PV),((List.range len).map fun i=>yj (bg P n e).1 (f i))[i]?=some x→i<len∧x=yj (bg P n e).1 (f i):=by
          intro i x hx
          simp only[List.getElem?_map,Option.map_eq_some_iff]at hx
          obtain⟨j,hj,rfl⟩:=hx
          have hi:i<len:=by simpa using (qLa.1 hj).1
          rw[List.getElem?_range hi]at hj
          cases hj
          exact⟨hi,rfl⟩
         refine⟨[.list (bg P n e).1 (bg P n e).2 ((List.range len).map fun i=>yj (bg P n e).1 (f i))],one _ _ _ (by simp[kindOk,Kd.jy]) ?_ ?_⟩
         · have := VR.list (w := w) (M := M) (bg P n e).1 (bg P n e).2 ((List.range len).map fun i => yj (bg P n e).1 (f i)) a.block a.off cap (fun i j => (g i).getD j undef) (hM _ hblk) (by simpa using hlc)
             (fun i x j c hx hj=>by
               obtain⟨hi,rfl⟩:=hxs i x hx
               obtain⟨h2,h3⟩:=hfg i hi
               rw[(rQ ha.1 h3).2.1]at hj
               obtain⟨hl,h4⟩:=Fa h2
               have hjl:j<P.cellsOf e:=by
                have:=(qLa.1 hj).1
                rw[h3.2.1,hl]at this;exact this
               obtain⟨v,h5,h6⟩:=h4 j hjl
               rw[addr]at h6
               rw[hlen,h6,qLb,h5];rfl)
             (fun i x j c hx hj=>by
               obtain⟨hi,rfl⟩:=hxs i x hx
               obtain⟨h2,h3⟩:=hfg i hi
               rw[(rQ ha.1 h3).2.1]at hj
               exact h3.2.2.1 j c hj)
             (fun x hx=>by
               obtain⟨i,hi⟩:=List.mem_iff_getElem?.1 hx
               obtain⟨hi',rfl⟩:=hxs i x hi
               exact(rQ ha.1 (hfg i hi').2).1)
           have ea:a=⟨a.block,a.off,none⟩:=by cases a;simp at hspot;simp[hspot]
           rw[List.length_map,List.length_range]at this
           rw[ea];exact this
         · refine⟨by simpa using Nat.le_trans hlc hcm,Dx.2 fun x hx=>?_⟩
           obtain⟨i,hi⟩:=List.mem_iff_getElem?.1 hx
           obtain⟨hi',rfl⟩:=hxs i x hi
           exact(rQ ha.1 (hfg i hi').2).2.2
   · -- a struct
     rename_i fs hu
     simp only[qBa]at ha
     have es:(bg P (n+1) t).2=fs.toList.flatMap fun f=>(bg P n f.type).2:=by (conv=>lhs;unfold bg);rw[hu]
     rw[es]
     obtain⟨xs,m,hm,_,hl,hxl,hget⟩:=DataW.trod_struct hu h
     cases hm
     have htot:=Nat.eq_of_beq_eq_true ha.2
     have key : ∀ (l : List Field) (o : Nat),kJ.go P n o l = true → (∀ f ∈ l,∃ y,DataW.trod enc P w base sp held fuel f.type ((cs.drop f.offset).take (P.cellsOf f.type)) = some y) → o + kJ.sum P l = cs.length →
         ∃ ps,Jv w M (l.flatMap fun f=>(bg P n f.type).2) (cs.drop o) ps:=by
       intro l
       induction l with
       | nil =>
        intro o _ _ ho
        simp only[kJ.sum,Nat.add_zero]at ho
        refine⟨[],rfl,?_,fun i p h=>by simp at h,trivial⟩
        simp[ho]
       | cons f r ihl =>
        intro o hg hm ho
        simp only[kJ.go,qBa,beq_iff_eq]at hg
        obtain⟨hoff,hf,hr⟩:=hg
        obtain⟨y,hy⟩:=hm f (by simp)
        rw[hoff]at hy
        obtain⟨p1,h1⟩:=ih n f.type _ y hy hf
        simp only[kJ.sum]at ho
        obtain⟨p2,h2⟩:=ihl (o+P.cellsOf f.type) hr (fun g hg=>hm g (by simp[hg])) (by omega)
        refine⟨p1++p2,?_⟩
        have:=h1.append h2
        rw[← List.drop_drop]at this
        rwa[List.take_append_drop]at this
     obtain⟨ps,hps⟩:=key fs.toList 0 ha.1 (fun f hf=>by
      obtain⟨i,hi⟩:=List.mem_iff_getElem?.1 hf
      have hi':fs[i]?=some f:=by simpa using hi
      have hlt:i<xs.length:=by rw[hxl];exact(qAa.1 hi').1
      exact⟨xs[i],by rw[hget i f hi',qLd hlt]⟩) (by rw[Nat.zero_add,hl,htot])
     exact⟨ps,by simpa using hps⟩
   · -- an array
     rename_i m e hu
     simp only[qBa]at ha
     have es:(bg P (n+1) t).2=(List.replicate m (bg P n e).2).flatten:=by (conv=>lhs;unfold bg);rw[hu]
     rw[es]
     have h':(if cs.length=P.cellsOf t then((List.range m).mapM fun i=>DataW.trod enc P w base sp held fuel e ((cs.drop (i*P.cellsOf e)).take (P.cellsOf e))).map fun xs=>((.agg (xs.map (·.1)):DataW H),xs.flatMap (·.2)) else none)=some x:=by
      rw[← h,DataW.trod_step]
      unfold DataW.trodStep
      rw[hu]
     clear h
     split at h'
     · rename_i hl
       simp only[Option.map_eq_some_iff]at h'
       obtain⟨xs,hxs,rfl⟩:=h'
       have htot:=Nat.eq_of_beq_eq_true ha.2
       have hel:∀ i,i<m→∃ ps,Jv w M (bg P n e).2 ((cs.drop (i*P.cellsOf e)).take (P.cellsOf e)) ps:=by
        intro i hi
        have h1:=mapM_some_get hxs i i (by simp[hi])
        have hl:=mapM_some_length hxs
        simp at hl
        rw[qLd (by omega)]at h1
        exact ih n e _ _ h1 ha.1
       have key:∀ (k:Nat),k≤m→∃ ps,Jv w M (List.replicate k (bg P n e).2).flatten (cs.drop ((m-k)*P.cellsOf e)) ps:=by
        intro k
        induction k with
        | zero =>
         intro _
         refine⟨[],rfl,?_,fun i p h=>by simp at h,trivial⟩
         simp[hl,htot]
        | succ k ihk =>
         intro hk
         obtain⟨p2,h2⟩:=ihk (by omega)
         obtain⟨p1,h1⟩:=hel (m-(k+1)) (by omega)
         refine⟨p1++p2,?_⟩
         have:=h1.append h2
         rw[List.replicate_succ,List.flatten_cons]
         have e1:m-k=m-(k+1)+1:=by omega
         rw[e1,Nat.add_mul,Nat.one_mul,← List.drop_drop,List.take_append_drop]at this
         exact this
       obtain⟨ps,hps⟩:=key m (Nat.le_refl m)
       exact⟨ps,by simpa using hps⟩
     · cases h'
   · cases ha
theorem Yg {w w':World} (hb:∀ b,b<w.heap.size→w'.heap[b]?=w.heap[b]?) {p:MemPlace} (hp:p.block<w.heap.size):w.sameAt w' p:=by
 cases p with
 | cell b off=>simp only[World.sameAt,World.cell?];rw[hb b hp]
 | map b=>exact hb b hp
theorem VA:∀ (fuel n:Nat) (t:TypeId) (cs:List Value) (x:DataW H × List MemPlace),DataW.trod enc P w base (fun _=>true) held fuel t cs=some x→kJ P n t=true→(∀ p∈x.2,sp p.block=true)→DataW.trod enc P w base sp held fuel t cs=some x:=by
 intro fuel
 induction fuel with
 | zero=>intro n t cs x h;simp[DataW.trod]at h
 | succ fuel ih =>
  intro n t cs x h ha hs
  cases n with
  | zero=>simp[kJ]at ha
  | succ n =>
   unfold kJ at ha
   split at ha
   · rename_i k hu
     obtain⟨m,rfl,rfl,hw⟩:=DataW.trod_int hu h
     rw[DataW.trod_step];simp[DataW.trodStep,hu,hw]
   · rename_i hu
     obtain⟨b,rfl,rfl⟩:=DataW.trod_bool hu h
     rw[DataW.trod_step];simp[DataW.trodStep,hu]
   · rename_i hu
     obtain⟨s,rfl,rfl,hw⟩:=DataW.trod_string hu h
     rw[DataW.trod_step];simp[DataW.trodStep,hu,hw]
   · rename_i e hu
     simp only[qBa]at ha
     have hpos:0<P.cellsOf e:=Nat.le_of_ble_eq_true ha.2.1
     rcases DataW.trod_slice hu h with ⟨rfl,rfl⟩ | ⟨a,len,cap,elems,rest,m,hm,rfl,rfl,hb,hlc,hcm,hel,hget,hrest,_⟩
     · rw[DataW.trod_step];simp[DataW.trodStep,hu]
     · cases hm
       obtain⟨hrl,hrg⟩:=hrest rfl
       rw[DataW.trod_step]at h ⊢
       unfold DataW.trodStep at h ⊢
       rw[hu]at h ⊢
       simp only[hb,hlc,hcm,and_self,if_true,Option.bind_eq_some_iff,Option.map_eq_some_iff]at h ⊢
       obtain⟨el,he,rs,hr,hd⟩:=h
       have hall:∀ y∈el++rs,∀ p∈y.2,sp p.block=true:=by
        intro y hy p hp
        refine hs p ?_
        rw[← (Prod.mk.inj hd).2]
        exact List.mem_append.2 (.inr (List.mem_flatMap.2 ⟨y,hy,hp⟩))
       refine⟨el,mapM_carry he fun i y hi hy hf=>?_,rs,?_,hd⟩
       · simp only[Option.bind_eq_some_iff]at hf ⊢
         obtain⟨cs',h1,h2⟩:=hf
         exact⟨cs',h1,ih n e cs' y h2 ha.1 (hall y (by simp[hy]))⟩
       · split
         · refine mapM_carry hr fun i y hi hy hf=>?_
           simp only[Option.bind_eq_some_iff]at hf ⊢
           obtain⟨cs',h1,h2⟩:=hf
           exact⟨cs',h1,ih n e cs' y h2 ha.1 (hall y (by simp[hy]))⟩
         · rename_i hsp
           by_cases hz:rs=[]
           · rw[hz]
           · exfalso
             refine hsp (hs (.cell a.block a.off) ?_)
             rw[← (Prod.mk.inj hd).2]
             refine List.mem_append.2 (.inl (MemPlace.mem_row.2 ⟨0,?_,by simp⟩))
             have:0<rs.length:=List.length_pos_iff.2 hz
             exact Nat.mul_pos (by omega) hpos
   · rename_i fs hu
     simp only[qBa]at ha
     obtain⟨xs,m,hm,rfl,hl,hxl,hget⟩:=DataW.trod_struct hu h
     cases hm
     have h':(if cs.length=P.cellsOf t then(fs.toList.mapM fun f=>DataW.trod enc P w base (fun _=>true) held fuel f.type ((cs.drop f.offset).take (P.cellsOf f.type))).map fun xs=>((.agg (xs.map (·.1)):DataW H),xs.flatMap (·.2)) else none)=some (.agg (xs.map (·.1)),xs.flatMap (·.2)):=by
      rw[← h,DataW.trod_step]
      unfold DataW.trodStep
      rw[hu]
     rw[DataW.trod_step]
     unfold DataW.trodStep
     rw[hu]
     show (if cs.length=P.cellsOf t then(fs.toList.mapM fun f=>DataW.trod enc P w base sp held fuel f.type ((cs.drop f.offset).take (P.cellsOf f.type))).map fun xs=>((.agg (xs.map (·.1)):DataW H),xs.flatMap (·.2)) else none)=_
     rw[if_pos hl]at h' ⊢
     simp only[Option.map_eq_some_iff]at h' ⊢
     obtain⟨ys,hy,hd⟩:=h'
     have hfs:∀ (l:List Field) (o:Nat),kJ.go P n o l=true→∀ f∈l,kJ P n f.type=true:=by
      intro l
      induction l with
      | nil=>intro o _ f hf;simp at hf
      | cons g r ihl =>
       intro o hg f hf
       simp only[kJ.go,qBa]at hg
       rcases List.mem_cons.1 hf with rfl | hf
       · exact hg.2.1
       · exact ihl _ hg.2.2 f hf
     refine⟨ys,mapM_carry hy fun f y hf hy' h1=>ih n f.type _ y h1 (hfs _ _ ha.1 f hf) fun p hp=>hs p ?_,hd⟩
     rw[← (Prod.mk.inj hd).2]
     exact List.mem_flatMap.2 ⟨y,hy',hp⟩
   · rename_i m e hu
     simp only[qBa]at ha
     have h':(if cs.length=P.cellsOf t then((List.range m).mapM fun i=>DataW.trod enc P w base (fun _=>true) held fuel e ((cs.drop (i*P.cellsOf e)).take (P.cellsOf e))).map fun xs=>((.agg (xs.map (·.1)):DataW H),xs.flatMap (·.2)) else none)=some x:=by
      rw[← h,DataW.trod_step]
      unfold DataW.trodStep
      rw[hu]
     rw[DataW.trod_step]
     unfold DataW.trodStep
     rw[hu]
     show (if cs.length=P.cellsOf t then((List.range m).mapM fun i=>DataW.trod enc P w base sp held fuel e ((cs.drop (i*P.cellsOf e)).take (P.cellsOf e))).map fun xs=>((.agg (xs.map (·.1)):DataW H),xs.flatMap (·.2)) else none)=_
     split at h'
     · rename_i hl
       rw[if_pos hl]
       simp only[Option.map_eq_some_iff]at h' ⊢
       obtain⟨ys,hy,hd⟩:=h'
       refine⟨ys,mapM_carry hy fun i y hi hy' h1=>ih n e _ y h1 ha.1 fun p hp=>hs p ?_,hd⟩
       rw[← hd]
       exact List.mem_flatMap.2 ⟨y,hy',hp⟩
     · cases h'
   · cases ha
inductive vZ (P:Program) (w:World) (M:Nat→Prop):List TypeId→List Value→List PV→Prop
 | nil:vZ P w M [] [] []
 | cons (t:TypeId) (ts:List TypeId) (v:Value) (vs:List Value) (x:PV) (xs:List PV) (h1:VR w M x v) (h2:au (bg P 8 t).1 (bg P 8 t).2 x=true) (h3:x.wf) (h:vZ P w M ts vs xs):vZ P w M (t::ts) (v::vs) (x::xs)
theorem aah {b0 : Nat} (hM : ∀ b,b < w.heap.size → M b) {t : TypeId} {v : Value} {d : DataW H} {ps : List MemPlace} (ha : kJ P 8 t = true) (hok : Value.okWide P w .any b0 t v) (h : DataW.Trod enc P w base sp held t v d ps) :
    ∃ x,VR w M x v∧au (bg P 8 t).1 (bg P 8 t).2 x=true∧x.wf:=by
  obtain⟨fuel,h⟩:=h
  obtain⟨qs,hq⟩:=Yf hM fuel 8 t _ _ h ha
  obtain⟨e1,e2,e3⟩:=rQ ha hq
  refine⟨_,?_,e1,e3⟩
  cases hs:(bg P 8 t).1 with
  | true =>
   have hagg:(∃ fs,P.underlying t=some (.struct fs))∨∃ m e,P.underlying t=some (.array m e):=by
    unfold bg at hs
    split at hs<;>first | (cases hs;done) | skip
    · exact .inl ⟨_,‹_›⟩
    · exact .inr ⟨_,_,‹_›⟩
   have hv:∃ cs,v=.agg cs:=by
    unfold Value.okWide at hok
    rcases hagg with ⟨fs,hu⟩ | ⟨m,e,hu⟩
    · rw[hu]at hok;obtain⟨cs,rfl,_⟩:=hok;exact⟨cs,rfl⟩
    · rw[hu]at hok;obtain⟨cs,rfl,_⟩:=hok;exact⟨cs,rfl⟩
   obtain⟨cs,rfl⟩:=hv
   have hc:(Value.agg cs).cells.toList=cs.toList:=rfl
   rw[hc]at hq
   refine .agg qs cs (by simpa using hq.2.1.symm) (fun c hc=>?_) fun i c hi=>?_
   · obtain⟨j,hj⟩:=List.mem_iff_getElem?.1 hc
     have hk:=fH hq.1
     have hjl:j<(bg P 8 t).2.length:=by rw[hk.1];exact(qLa.1 hj).1
     exact iC (hk.2 j _ c (qLd hjl) hj)
   · have:=hq.2.2.1 i c hi
     rwa[qLb,Array.getElem?_toList,← qAb]at this
  | false =>
   have h1:=Nl ha hs
   have hk:=fH hq.1
   match qs,hq,hk with
   | [q],hq,hk =>
    have hl:q.leaf=true:=by
     refine iC (hk.2 0 ((bg P 8 t).2[0]'(by omega)) q (by simp) rfl)
    have hv:v.cells.toList=[v]:=by
     have hl1:=hq.2.1
     cases v<;>first | rfl | skip
     rename_i cs
     exfalso
     unfold Value.okWide at hok
     split at hok
     · rename_i fs hu
       unfold bg at hs
       rw[hu]at hs
       cases hs
     · rename_i m e hu
       unfold bg at hs
       rw[hu]at hs
       cases hs
     · rename_i hns hna
       unfold kJ at ha
       split at ha<;>rename_i hu<;>first | (cases ha;done) | skip
       · obtain⟨m,hc,_⟩:=DataW.trod_int hu h
         simp[Value.cells]at hc
         unfold Cell.okWide Cell.ok at hok
         rw[hu]at hok
         simp at hok
       · unfold Cell.okWide Cell.ok at hok
         rw[hu]at hok
         simp at hok
       · unfold Cell.okWide Cell.ok at hok
         rw[hu]at hok
         simp at hok
       · unfold Cell.okWide Cell.ok at hok
         rw[hu]at hok
         simp at hok
       · exact hns _ hu
       · exact hna _ _ hu
    rw[hv]at hq
    simpa [yj] using hq.2.2.1 0 q rfl
   | [],hq,hk=>have:=hk.1;rw[h1]at this;simp at this
   | _::_::_,hq,hk=>have:=hk.1;rw[h1]at this;simp at this
theorem Ee {w' : World} (hb : ∀ b,b < w.heap.size → w'.heap[b]? = w.heap[b]?) : ∀ {ts : List TypeId} {vs : List Value} {ds : List (DataW H)} {ps : List MemPlace},DataW.TrodAll enc P w base (fun _ => true) held ts vs ds ps → (∀ t ∈ ts,kJ P 8 t = true) →
    DataW.TrodAll enc P w' base (fun b=>decide (b<w.heap.size)) held ts vs ds ps
  | [],[],[],ps,h,_=>h
  | t::ts,v::vs,d::ds,ps,⟨p,q,h1,h2,e⟩,ha=>by
   refine⟨p,q,?_,Ee hb h2 (fun u hu=>ha u (by simp[hu])),e⟩
   obtain⟨fuel,h1⟩:=h1
   have hlt:=DataW.trod_lt _ _ _ _ h1
   exact⟨fuel,VA fuel 8 t _ _ (DataW.trod_carry fuel t _ _ h1 fun p hp=>Yg hb (hlt p hp)) (ha t (by simp)) fun p hp=>by simpa using hlt p hp⟩
theorem Pv {b0 : Nat} (hM : ∀ b,b < w.heap.size → M b) : ∀ {ts : List TypeId} {vs : List Value} {ds : List (DataW H)} {ps : List MemPlace},DataW.TrodAll enc P w base sp held ts vs ds ps → (∀ t ∈ ts,kJ P 8 t = true) → (∀ (j : Nat) t v,ts[j]? = some t → vs[j]? = some v → Value.okWide P w .any b0 t v) →
    ∃ xs,vZ P w M ts vs xs
  | [],[],[],ps,_,_,_=>⟨[],.nil⟩
  | t::ts,v::vs,d::ds,ps,⟨p,q,h1,h2,e⟩,ha,hv=>by
   obtain⟨xs,hxs⟩:=Pv hM h2 (fun u hu=>ha u (by simp[hu])) fun j t v h1 h2=>hv (j+1) t v (by simpa using h1) (by simpa using h2)
   obtain⟨x,e1,e2,e3⟩:=aah hM (ha t (by simp)) (hv 0 t v rfl rfl) h1
   exact⟨x::xs,.cons t ts v vs x xs e1 e2 e3 hxs⟩
theorem vZ.length {ts:List TypeId} {vs:List Value} {xs:List PV} (h:vZ P w M ts vs xs):xs.length=vs.length:=by
 induction h with
 | nil=>rfl
 | cons _ _ _ _ _ _ _ _ _ _ ih=>simp[ih]
theorem vZ.get {ts:List TypeId} {vs:List Value} {xs:List PV} (h:vZ P w M ts vs xs):∀ (i:Nat) (x:PV),xs[i]?=some x→∃ v,vs[i]?=some v∧VR w M x v:=by
 induction h with
 | nil=>intro i x h;simp at h
 | cons t ts v vs x xs h1 h2 h3 h ih =>
  intro i y hy
  cases i with
  | zero=>simp at hy;subst hy;exact⟨v,rfl,h1⟩
  | succ i=>simp at hy;simpa using ih i y hy
end
def QU (P:Program):List (Nat × TI)→Prop
 | []=>True
 | (t,i)::r=>lM P t=some i∧QU P r
structure aQ (P:Program) (T:Tab) (f:Nat) (fi:FI):Prop where
 fn:P.funcs[f]?=some fi.fn
 name : (fi.fn.name == "runtime.NumGoroutine") = false
 draws:(match fi.fn.body with | some c=>iK T fi.hides c | none=>true)=true
 flat:(fi.cfg.DR||(fi.cfg.shares||nP T fi.cfg.rets fi.fn.resultTypes.toList))=true
 nvars:Nat.ble fi.cfg.nvars 100000=true
def QV (P:Program) (T:Tab):List (Nat × FI)→Prop
 | []=>True
 | (f,i)::r=>aQ P T f i∧QV P T r
theorem Jl {P:Program}:∀ {l:List (Nat × TI)} {t:Nat} {i:TI},QU P l→bI l t=some i→lM P t=some i
 | [],t,i,_,h=>by simp[bI]at h
 | (k,x)::r,t,i,hk,h=>by
  simp only[bI]at h
  cases he:k==t with
  | true =>
   rw[he]at h
   have e:k=t:=by simpa using he
   subst e
   cases h
   exact hk.1
  | false=>rw[he]at h;exact Jl hk.2 h
theorem CP {P:Program} {T:Tab}:∀ {l:List (Nat × FI)} {f:Nat} {i:FI},QV P T l→bI l f=some i→aQ P T f i
 | [],f,i,_,h=>by simp[bI]at h
 | (k,x)::r,f,i,hk,h=>by
  simp only[bI]at h
  cases he:k==f with
  | true =>
   rw[he]at h
   have e:k=f:=by simpa using he
   subst e
   cases h
   exact hk.1
  | false=>rw[he]at h;exact CP hk.2 h
def PX (P:Program) (T:Tab):Prop:=∀ f fi,bI T.funcs f=some fi→fi.cfg.Bd.is=true→(∃ c,fi.fn.body=some c)∧KF P T.glob f fi.cfg.Hr fi.cfg.KL fi.cfg.Bd
theorem aai {P:Program} {T:Tab} (h1:QU P T.types) (h2:QV P T T.funcs) (h3:P.follows .mixedOrders=true) (h4:PX P T):bJ P T:=by
 refine⟨fun t i h=>Jl h1 h,fun f fi h=>?_,h3,fun f fi h=>Nat.le_of_ble_eq_true (CP h2 h).nvars,h4⟩
 have g:=CP h2 h
 refine⟨g.fn,g.name,fun c hc=>?_,fun hb hs=>?_⟩
 · have:=g.draws
   rw[hc]at this
   exact this
 · have:=g.flat
   rw[hb,hs]at this
   exact this
end Go.Skm
namespace Go.Skm
theorem wrap_eq {x:Int} (h1:-9223372036854775808≤x) (h2:x≤9223372036854775807):IntKind.i64.wrap x=x:=by
 have:∀ y:Int,y=x%2 ^ 64→(if(true&&decide (y ≥ 2 ^ (64-1)))=true then y-2 ^ 64 else y)=x:=by
  intro y hy
  by_cases h:y ≥ 2 ^ (64-1)
  · rw[if_pos (by simpa using h)];omega
  · rw[if_neg (by simpa using h)];omega
 exact this _ rfl
theorem aG {α:Type} (p:Prop) [Decidable p] (a b:α):cond (decide p) a b=if p then a else b:=by
 by_cases h:p<;>simp[h]
theorem pR {α:Type} (x y:Int) (a b:α):cond (x==y) a b=if x=y then a else b:=by
 by_cases h:x=y
 · simp[h]
 · have:(x==y)=false:=by simpa using h
   simp[h,this]
theorem pU {α:Type} (x y:Int) (a b:α):cond (x != y) a b=if x=y then b else a:=by
 by_cases h:x=y
 · simp[h]
 · have:(x != y)=true:=by simpa using h
   simp[h,this]
theorem dh {α:Type} (p q:Bool) (a b:α):cond (p&&q) a b=cond p (cond q a b) b:=by cases p<;>rfl
theorem iR {α:Type} (p:Bool) (a b:α):cond (!p) a b=cond p b a:=by cases p<;>rfl
@[simp] theorem toInt_int (k:IntKind) (n:Int):(PV.int k n).toInt=n:=rfl
@[simp] theorem aI (b:Bool):(PV.bool b).toBool=b:=rfl
@[simp] theorem ad9 (s:ByteArray):(PV.str s).toStr=s:=rfl
@[simp] theorem oM (a:Bool) (ks:List Kd) (xs:List PV):(PV.list a ks xs).toList=xs:=rfl
@[simp] theorem gV (v:PV):(AV.p v).pv=v:=rfl
@[simp] theorem aV (a:Bool) (ks:List Kd) (xs:List PV):(AV.fresh a ks xs).ak=xs:=rfl
@[simp] theorem zG (s z o l:Nat):(AV.slice s z o l).Rz=o:=rfl
@[simp] theorem zH (s z o l:Nat):(AV.slice s z o l).sLen=l:=rfl
@[simp] theorem P8 (a:Bool) (ks:List Kd) (xs:List PV):(aJ.arr a ks xs).xs=xs:=rfl
@[simp] theorem vk (cs:List PV) (j:Nat):(PV.agg cs).cell j=cs.getD j .nil:=rfl
@[simp] theorem aea (a:Bool) (ks:List Kd) (xs:List PV) (j:Nat):(PV.list a ks xs).cell j=.list a ks xs:=rfl
@[simp] theorem nO (k:IntKind) (n:Int) (j:Nat):(PV.int k n).cell j=.int k n:=rfl
structure V3 where
 x:Int
 y:Int
 z:Int
 deriving DecidableEq
namespace V3
theorem ext' {a b:V3} (h1:a.x=b.x) (h2:a.y=b.y) (h3:a.z=b.z):a=b:=by
 cases a;cases b;simp at h1 h2 h3;simp[h1,h2,h3]
instance:Inhabited V3:=⟨⟨0,0,0⟩⟩
end V3
abbrev kV:List Kd:=[.int .i64,.int .i64,.int .i64]
def aT (v:V3):PV:=.agg [.int .i64 v.x,.int .i64 v.y,.int .i64 v.z]
def bF (l:List V3):List PV:=l.map aT
def encI (l:List Int):List PV:=l.map fun n=>.int .i64 n
@[simp] theorem aY (l:List V3):(bF l).length=l.length:=by simp[bF]
@[simp] theorem wL (l:List Int):(encI l).length=l.length:=by simp[encI]
@[simp] theorem afr:bF []=[]:=rfl
theorem GU (l:List V3) (i:Nat):(bF l)[i]?=(l[i]?).map aT:=by simp[bF]
theorem Iq (l:List V3) {i:Nat} (h:i<l.length):(bF l).getD i .nil=aT (l.getD i default):=by
 rw[qLb,qLb,GU];simp[h]
@[simp] theorem akV (l:List V3) (i:Nat):(((bF l).getD i .nil).cell 0).toInt=(l.getD i default).x:=by
 by_cases h:i<l.length
 · rw[Iq l h];rfl
 · have h1:(bF l).getD i .nil=.nil:=by rw[qLb,GU];simp[h]
   have h2:l.getD i default=default:=by rw[qLb];simp[h]
   rw[h1,h2];rfl
@[simp] theorem akW (l:List V3) (i:Nat):(((bF l).getD i .nil).cell 1).toInt=(l.getD i default).y:=by
 by_cases h:i<l.length
 · rw[Iq l h];rfl
 · have h1:(bF l).getD i .nil=.nil:=by rw[qLb,GU];simp[h]
   have h2:l.getD i default=default:=by rw[qLb];simp[h]
   rw[h1,h2];rfl
@[simp] theorem akX (l:List V3) (i:Nat):(((bF l).getD i .nil).cell 2).toInt=(l.getD i default).z:=by
 by_cases h:i<l.length
 · rw[Iq l h];rfl
 · have h1:(bF l).getD i .nil=.nil:=by rw[qLb,GU];simp[h]
   have h2:l.getD i default=default:=by rw[qLb];simp[h]
   rw[h1,h2];rfl
theorem II (l m:List V3):bF l++bF m=bF (l++m):=by simp[bF]
def V3.ok (v:V3):Prop:=(-9223372036854775808≤v.x∧v.x≤9223372036854775807)∧(-9223372036854775808≤v.y∧v.y≤9223372036854775807)∧(-9223372036854775808≤v.z∧v.z≤9223372036854775807)
theorem wf_i64 {n:Int}:(PV.int .i64 n).wf↔-9223372036854775808≤n∧n≤9223372036854775807:=by
 simp[PV.wf,Lit.wf,IntKind.min,IntKind.max,IntKind.bits,IntKind.signed]
theorem adx {x:PV} (h:au true kV x=true) (hw:x.wf):∃ v:V3,x=aT v∧v.ok:=by
 cases x<;>simp only[au,Bool.false_eq_true]at h
 rename_i cs
 match cs,h,hw with
 | [a,b,c],h,hw =>
  simp only[bC,Bool.and_true,qBa]at h
  obtain⟨ha,hb,hc⟩:=h
  cases a<;>simp[kindOk]at ha
  cases b<;>simp[kindOk]at hb
  cases c<;>simp[kindOk]at hc
  subst ha hb hc
  rename_i p q r
  simp only[PV.wf,PV.wfs,and_true]at hw
  exact⟨⟨p,q,r⟩,rfl,wf_i64.1 hw.1,wf_i64.1 hw.2.1,wf_i64.1 hw.2.2⟩
 | [],h,_=>simp[bC]at h
 | [_],h,_=>simp[bC]at h
 | [_,_],h,_=>simp[bC]at h
 | _::_::_::_::_,h,_=>simp[bC]at h
theorem VQ:∀ {xs:List PV},(∀ x∈xs,au true kV x=true)→PV.wfs xs→∃ l:List V3,xs=bF l∧∀ v∈l,v.ok
 | [],_,_=>⟨[],rfl,by simp⟩
 | x::xs,h,hw=>by
  obtain⟨v,rfl,h1⟩:=adx (h x (by simp)) hw.1
  obtain⟨l,rfl,h2⟩:=VQ (fun y hy=>h y (by simp[hy])) hw.2
  exact⟨v::l,rfl,fun u hu=>by 
   rcases List.mem_cons.1 hu with rfl | hu
   · exact h1
   · exact h2 u hu⟩
section
variable {P:Program} {w:World} {M:Nat→Prop}
theorem vZ.none {vs:List Value} {xs:List PV} (h:vZ P w M [] vs xs):xs=[]:=by cases h;rfl
end
end Go.Skm
