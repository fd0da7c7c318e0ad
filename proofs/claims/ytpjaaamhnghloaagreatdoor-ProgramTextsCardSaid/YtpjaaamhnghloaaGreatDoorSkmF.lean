import Derived.Test.YtpjaaamhnghloaaGreatDoorSkmE
import Derived.ProofKit
set_option linter.all false
namespace Go.Skm
section
variable {g id n:Nat}{fg:St->St}{st st':St}{all:List Oper}{o:Oper}{args env:List AV}{h:Nat->Option aH}{y z:Code}{draw:Bool}{hd:List Nat}{b:Option aH}{F fi:FI}{f:Operand}{ps:Array Tmp}{caps:List PV}{r:List AV × List aH}{Cn:Nat->aB}{X:Ext}{bl:List aH}
section
variable {α β:Type}
open Classical in
noncomputable def lim(f:Nat->Option α):Option α:=if h:∃x n,f n=some x then some h.choose else none
def amy(f:Nat->Option α):Prop:=∀n m x,n<=m->f n=some x->f m=some x
theorem uy{f:Nat->Option α}{x:α}(h:lim f=some x):∃n,f n=some x:=by unfold lim at h;split at h;all_goals grind
theorem Rl{f:Nat->Option α}(e:amy f){x:α}(h:f n=some x):lim f=some x:=by have c:∃x n,f n=some x:=⟨x,n,h⟩;unfold lim;rw[dif_pos c];obtain⟨m,d⟩:=c.choose_spec;have j:=e n (max n m) x ω h;have i:=e m (max n m) _ ω d;grind
noncomputable def Rn(fg:St->St)(body:St->(Ex->St->Option α)->Option α)(st:St)(k:Ex->St->Option α):Option α:=lim λm=>nM fg body m st k
def L8(k k':Ex->St->Option α):Prop:=∀ex st x,k ex st=some x->k' ex st=some x
def LeB(b b':St->(Ex->St->Option α)->Option α):Prop:=∀st k k' x,L8 k k'->b st k=some x->b' st k'=some x
def WR(C C':aB):Prop:=∀f a b x,C f a b=some x->C' f a b=some x
theorem L8.refl(k:Ex->St->Option α):L8 k k:=λ_ _ _ h=>h
theorem WR.refl(C:aB):WR C C:=λ_ _ _ _ h=>h
def next(fg:St->St)(L:St->Option α)(k:Ex->St->Option α):Ex->St->Option α
 |.normal,st=>eF (fg st) L
 |.exit id,st=>k (.exit id) st
 |.ret,st=>k .ret st
theorem Du{body:St->(Ex->St->Option α)->Option α}{m:Nat}{k:Ex->St->Option α}:nM fg body (m+1) st k=body st (next fg (λst'=>nM fg body m st' k) k):=by simp only[nM];congr 1;funext ex st';cases ex<;>rfl
theorem OL{L L':St->Option α}{k c:Ex->St->Option α}(e:∀st x,L st=some x->L' st=some x)(d:L8 k c):L8 (next fg L k) (next fg L' c):=by
 intro i st x h;cases i with
 |normal=>simp only[next,aF]at h ⊢;exact e _ _ h
 |exit id=>exact d _ _ _ h
 |ret=>exact d _ _ _ h
theorem jY{fg:St->St}{b b':St->(Ex->St->Option α)->Option α}(e:LeB b b'):∀{m c:Nat}{st:St}{k d:Ex->St->Option α}{x:α},m<=c->L8 k d->nM fg b m st k=some x->nM fg b' c st d=some x
 |0,_,_,_,_,_,_,_,h=>by simp[nM]at h
 |m+1,0,_,_,_,_,hm,_,_=>ω
 |m+1,c+1,st,k,d,x,hm,hk,h=>by rw[Du]at h ⊢;exact e _ _ _ _ (OL (λst x h=>jY e ω hk h) hk) h
theorem Ro{b b':St->(Ex->St->Option α)->Option α}(l:LeB b b')(d:LeB b' b'){k e:Ex->St->Option α}{x:α}(j:L8 k e)(h:Rn fg b st k=some x):Rn fg b' st e=some x:=by obtain⟨m,i⟩:=uy h;exact Rl (λn m x c h=>jY d c (L8.refl _) h) (jY l (qNr m) j i)
end
section
variable {α:Type} (T:Tab)
noncomputable def aN(C:aB)(F:FI):Code->St->(Ex->St->Option α)->Option α
 |.skip,st,k=>k .normal st
 |.region id ops draw,st,k=>BD (C9 F.cfg.alts id) st λst=>
  match draw with
  |false=>dD T C false [] ops.toList ops.toList 0 st λst'=>eF (settle F.cfg ops.toList st') λst'=>k .normal st'
  |true=>
   match aX F.hides id with
   |some hd=>eF (st.strike (present st.heap (qZ ops.toList ops.toList))) λst=>
    match ZO F.cfg.ys ops.toList with
    |none=>dD T C true hd ops.toList ops.toList 0 st λst'=>pJ (look st.heap ah) st' λst'=>eF (settle F.cfg ops.toList st') λst'=>k .normal st'
    |some j=>dD T C true hd ops.toList (ops.toList.take j) 0 st λst'=>pJ (look st.heap ah) st' λst'=>dD T C false [] ops.toList (ops.toList.drop j) j st' λst'=>eF (settle F.cfg ops.toList st') λst'=>k .normal st'
   |none=>none
 |.seq a b,st,k=>aN C F a st λex st'=>
  match ex with
  |.normal=>aN C F b (aC F.cfg b st') k
  |.exit id=>k (.exit id) st'
  |.ret=>k .ret st'
 |.cond c x y,st,k=>
  match aP st.env c with
  |.p (.bool b)=>cond b (aN C F x st k) (aN C F y st k)
  |_=>none
 |.block id c,st,k=>aN C F c st λex st'=>
  match ex with
  |.normal=>k .normal st'
  |.exit i=>bif i==id then k .normal st' else k (.exit i) st'
  |.ret=>k .ret st'
 |.scope c,st,k=>aN C F c st k
 |.loop c,st,k=>Rn (aC F.cfg c) (λst' k'=>aN C F c st' k') (aC F.cfg c st) k
 |.exit id,st,k=>k (.exit id) st
 |.ret,st,k=>k .ret st
 |.label _,st,k=>k .normal st
 |.rangeFunc f ps a b,st,k=>BD (C9 F.cfg.alts (BF a b)) st λst=>
  match aP st.env f with
  |.p (.fn g caps)=>
   match aX T.funcs g,kZ a with
   |some fi,true=>
    bif iW fi caps.length then
    match C g (.AB::caps.map .p) [.log true []]with
    |some r=>jq (aC F.cfg (.seq a b)) fi.cfg.yk ps.toList (kE ps a b)
        (λst k=>aN C F a st λex st'=>
          match ex with
          |.normal=>aN C F b (aC F.cfg b st') k
          |.exit id=>k (.exit id) st'
          |.ret=>k .ret st') (rP r.2) (aC F.cfg (.seq a b) st) k
    |none=>none
    else none
   |_,_=>none
  |_=>none
 |_,_,_=>none
def ahD(F:FI)(bl:List aH):Ex->St->Option (List AV × List aH)
 |.exit _,_=>none
 |.normal,st=>ZP T F.cfg F.fn bl st
 |.ret,st=>ZP T F.cfg F.fn bl st
noncomputable def aY(C:aB):aB:=λf args bl=>
 match aX T.funcs f with
 |none=>none
 |some fi=>
  match fi.fn.body with
  |none=>none
  |some c=>bif vT fi.cfg bl then kY T.strict args λargs=>sV T.strict bl λbl=>eF (LG fi.cfg fi.fn args bl) λst=>aN T C fi c st (ahD T fi bl)else none
noncomputable def run(X:Ext):aB:=λf args bl=>lim λn=>jC T X n f args bl
end
section
variable {α:Type}{T:Tab}{C C':aB}
theorem Kw(env:List AV)(h:Nat->Option aH)(o:Oper):(∃D,∀C,cO T C env h o=D)\/∃f e bl g,∀C,cO T C env h o=.call (C f e bl) g:=by
 have call:∀(d:Option Nat) (f:Nat) (args:List AV),(∃D,∀C,yw T C h d f args=D)\/∃j e bl g,∀C,yw T C h d f args=.call (C j e bl) g:=by
  intro d f args;unfold yw;cases (fF T f).xK.is with
  |true=>exact .inl ⟨_,λC=>rfl⟩
  |false=>
  simp only[qCf];have k:∀(d:Nat) (fi:FI) (pre:List AV) (s A:Nat) (i:List Nat) (a:Bool) (ks:List Kd) (off len:Nat) (xs:List PV),(∃D,∀C,Qg T C h d f fi pre s A i a ks off len xs=D)\/∃j e bl g,∀C,Qg T C h d f fi pre s A i a ks off len xs=.call (C j e bl) g:=by
   intro d fi pre s A i a ks off len xs;unfold Qg;split
   .rename_i vs ss hd;cases (Nat.blt s 100000&&(Nat.blt A 100000&&!(A==s)))&&(!(fB s ss)&&!(fB A ss))with
    |true=>exact .inr ⟨_,_,_,_,λC=>rfl⟩
    |false=>exact .inl ⟨_,λC=>rfl⟩
   .exact .inl ⟨_,λC=>rfl⟩
  cases (fF T f).vcall with
  |true=>
   simp only[qCt];unfold OD;split
   .split
    .split
     .exact k ..
     .exact .inl ⟨_,λC=>rfl⟩
    .rename_i fi _ _ _ _ _ _;cases fi.cfg.vkeep with
     |true=>exact .inl ⟨_,λC=>rfl⟩
     |false=>exact k ..
    .exact .inl ⟨_,λC=>rfl⟩
   .exact .inl ⟨_,λC=>rfl⟩
  |false=>
  simp only[qCf];cases (fF T f).take with
  |true=>
   simp only[qCt];unfold JI;split
   .split
    .split
     .exact .inr ⟨_,_,_,_,λC=>rfl⟩
     .exact .inl ⟨_,λC=>rfl⟩
    .exact .inl ⟨_,λC=>rfl⟩
   .exact .inl ⟨_,λC=>rfl⟩
  |false=>
  simp only[qCf];unfold qy;split
  .split
   .split
    .exact .inr ⟨_,_,_,_,λC=>rfl⟩
    .exact .inl ⟨_,λC=>rfl⟩
   .exact .inl ⟨_,λC=>rfl⟩
  .exact .inl ⟨_,λC=>rfl⟩
 obtain⟨m,op,type,l,after,guard⟩:=o;cases op with
 |call c=>
  obtain⟨callee,args,ts⟩:=c;cases callee with
  |builtin b=>cases b<;>exact .inl ⟨_,λC=>rfl⟩
  |invoke r n=>exact .inl ⟨_,λC=>rfl⟩
  |value f=>
   simp only[cO];split
   .exact call _ _ _
   .exact call _ _ _
   .exact .inl ⟨_,λC=>rfl⟩
 |_=>exact .inl ⟨_,λC=>rfl⟩
theorem adr(l:WR C C'){y:Option Eff}(e:yR T C all o env h=some y):yR T C' all o env h=some y:=by
 have m:∀{y:Option Eff},((cO T C env h o).run some).map some=some y->((cO T C' env h o).run some).map some=some y:=by
  intro y c;rcases Kw (T:=T) env h o with⟨D,j⟩ |⟨f,i,bl,g,j⟩
  .grind
  .rw[j]at c ⊢;cases d:C f i bl with
   |none=>rw[d]at c;simp[DT.run]at c
   |some r=>rw[d]at c;rw[l _ _ _ _ d];exact c
 unfold yR at e ⊢;cases k:o.guard with
 |none=>rw[k]at e;exact m e
 |some p=>grind
theorem Rq(e:WR C C')(c:step1 T C draw hd all o st=some st'):step1 T C' draw hd all o st=some st':=by
 unfold step1 at c ⊢;cases d:yR T C all o st.env (jy hd (look st.heap))with
 |none=>rw[d]at c;cases c
 |some y=>rw[d]at c;rw[adr e d];exact c
theorem jZ{k c:St->Option α}{x:α}(d:∀st x,k st=some x->c st=some x)(h:pJ b st k=some x):pJ b st c=some x:=by unfold pJ at h ⊢;grind
theorem bQ(d:WR C C'){draw:Bool}{hd:List (List Nat)}{all:List Oper}{k i:St->Option α}(c:∀st x,k st=some x->i st=some x):∀{l:List Oper}{j:Nat}{st:St}{x:α},dD T C draw hd all l j st k=some x->dD T C' draw hd all l j st i=some x
 |[],j,st,x,h=>c _ _ h
 |o::r,j,st,x,h=>by
  cases m:oL draw st o with
  |none=>
   rw[oh _ _ m]at h ⊢;cases e:step1 T C draw (hd.getD j []) all o st with
   |none=>rw[e]at h;cases h
   |some s=>rw[e]at h;rw[Rq d e];exact bQ d c (l:=r) h
  |some p=>
   obtain⟨xs,vs⟩:=p;rw[oU _ _ m]at h ⊢;cases q:guardOf all o st.env with
   |none=>rw[q]at h;cases h
   |some b=>
    rw[q]at h;cases b with
    |false=>exact bQ d c (l:=r) h
    |true=>obtain⟨A,e,u⟩:=Gw h;exact abI (bQ d c (l:=r) e) (bQ d c (l:=r) u)
theorem YP{c:List Nat}{L L':St->Option α}{k d:Ex->St->Option α}(i:∀st x,L st=some x->L' st=some x)(e:L8 k d):L8 (pK fg c L k) (pK fg c L' d):=by
 intro j st x h;cases j with
 |normal=>simp only[pK,aF]at h ⊢;exact i _ _ h
 |exit id=>simp only[pK,aF]at h ⊢;exact e _ _ _ h
 |ret=>simp only[pK,aF]at h ⊢;exact e _ _ _ h
theorem oC{fg:St->St}{ss:List (Bool × List Kd)}{ps d:List Nat}{b b':St->(Ex->St->Option α)->Option α}(e:LeB b b'):∀{xs:List PV}{st:St}{k c:Ex->St->Option α}{x:α},L8 k c->jq fg ss ps d b xs st k=some x->jq fg ss ps d b' xs st c=some x
 |[],_,_,_,_,hk,h=>hk _ _ _ h
 |v::xs,st,k,c,x,hk,h=>by
  simp only[jq]at h ⊢;split at h
  .cases h
  .rename_i env i;rw[aF]at h ⊢;exact e _ _ _ _ (YP (λst x h=>oC e hk h) hk) h
theorem Fg{k:Ex->St->Option α}{x:α}(h:aN T C F (.rangeFunc f ps y z) st k=some x) :
    ∃g caps fi r,aP st.env f=.p (.fn g caps)/\aX T.funcs g=some fi/\kZ y=true/\iW fi caps.length=true/\C g (.AB::caps.map .p) [.log true []]=some r /\
     jq (aC F.cfg (.seq y z)) fi.cfg.yk ps.toList (kE ps y z) (λst k=>aN T C F (.seq y z) st k) (rP r.2) (aC F.cfg (.seq y z) st) k=some x:=by
  simp only[aN]at h;obtain⟨h,-⟩:=iK h;split at h
  .rename_i g caps d;split at h
   .rename_i fi i hp;cases c:iW fi caps.length with
    |false=>rw[c]at h;cases h
    |true=>
     rw[c]at h;simp only[qCt]at h;split at h
     .rename_i r e;exact⟨g,caps,fi,r,d,i,hp,c,e,h⟩
     .cases h
   .cases h
  .cases h
theorem I7{k:Ex->St->Option α}{x:α}(h:aN T C F (.rangeFunc f ps y z) st k=some x):∀K:St->Option α,BD (C9 F.cfg.alts (BF y z)) st K=K st:=by simp only[aN]at h;exact(iK h).2
theorem UN{k:Ex->St->Option α}{x:α}(h:aK T C F n (.rangeFunc f ps y z) st k=some x):∀K:St->Option α,BD (C9 F.cfg.alts (BF y z)) st K=K st:=by simp only[aK]at h;exact(iK h).2
theorem L9{k:Ex->St->Option α}{x:α}(c:∀K:St->Option α,BD (C9 F.cfg.alts (BF y z)) st K=K st)(i:aP st.env f=.p (.fn g caps))(e:aX T.funcs g=some fi)(d:kZ y=true)(h4:iW fi caps.length=true)(h5:C g (.AB::caps.map .p) [.log true []]=some r)
    (h:jq (aC F.cfg (.seq y z)) fi.cfg.yk ps.toList (kE ps y z) (λst k=>aN T C F (.seq y z) st k) (rP r.2) (aC F.cfg (.seq y z) st) k=some x):aN T C F (.rangeFunc f ps y z) st k=some x:=by
  simp only[aN];rw[c];simp only[i,e,d,h4,h5,qCt];exact h
theorem YQ{k:Ex->St->Option α}{x:α}(c:∀K:St->Option α,BD (C9 F.cfg.alts (BF y z)) st K=K st)(i:aP st.env f=.p (.fn g caps))(e:aX T.funcs g=some fi)(d:kZ y=true)(h4:iW fi caps.length=true)(h5:C g (.AB::caps.map .p) [.log true []]=some r)
    (h:jq (aC F.cfg (.seq y z)) fi.cfg.yk ps.toList (kE ps y z) (yK T C F n y z) (rP r.2) (aC F.cfg (.seq y z) st) k=some x):aK T C F n (.rangeFunc f ps y z) st k=some x:=by
  simp only[aK];rw[c];simp only[i,e,d,h4,h5,qCt];exact h
theorem Ae{k d:Ex->St->Option α}{f i:St->Option α}(j:∀st x,f st=some x->i st=some x)(e:L8 k d) :
    L8 (λc st'=>match c with |.normal=>f st' |.exit id=>k (.exit id) st' |.ret=>k .ret st') (λc st'=>match c with |.normal=>i st' |.exit id=>d (.exit id) st' |.ret=>d .ret st'):=by
  intro c st x h;cases c with
  |normal=>exact j _ _ h
  |exit id=>exact e _ _ _ h
  |ret=>exact e _ _ _ h
theorem Fh{k c:Ex->St->Option α}(e:L8 k c) :
    L8 (λd st'=>match d with |.normal=>k .normal st' |.exit i=>bif i==id then k .normal st' else k (.exit i) st' |.ret=>k .ret st') (λd st'=>match d with |.normal=>c .normal st' |.exit i=>bif i==id then c .normal st' else c (.exit i) st' |.ret=>c .ret st'):=by
  intro d st x h;cases d with
  |normal=>exact e _ _ _ h
  |exit i=>
   simp only at h ⊢;cases hi:i==id with
   |true=>rw[hi]at h;exact e _ _ _ h
   |false=>rw[hi]at h;exact e _ _ _ h
  |ret=>exact e _ _ _ h
theorem dn(l:WR C C'){F:FI}{n p:Nat}(m:n<=p):∀{c:Code}{st:St}{k i:Ex->St->Option α}{x:α},L8 k i->aK T C F n c st k=some x->aK T C' F p c st i=some x
 |.skip,st,k,i,x,d,h=>d _ _ _ h
 |.region id ops draw,st,k,i,x,d,h=>by
  simp only[aK]at h ⊢;obtain⟨h,e⟩:=iK h;rw[e];cases draw with
  |false=>exact bQ l (λst x h=>by rw[aF]at h ⊢;exact d _ _ _ h) h
  |true=>
   simp only at h ⊢;cases u:aX F.hides id with
   |none=>rw[u]at h;cases h
   |some hd=>
    rw[u]at h;simp only[aF]at h ⊢;split
    .rename_i q;rw[q]at h;exact bQ l (λst x h=>jZ (λst x h=>d _ _ _ h) h) h
    .rename_i j q;rw[q]at h;exact bQ l (λst x h=>jZ (λst x h=>bQ l (λst x h=>d _ _ _ h) h) h) h
 |.seq y z,st,k,i,x,d,h=>dn l m (c:=y) (Ae (λst x h=>dn l m (c:=z) d h) d) h
 |.cond c y z,st,k,i,x,d,h=>by
  simp only[aK]at h ⊢;split
  .rename_i b s;rw[s]at h;cases b with
   |true=>exact dn l m (c:=y) d h
   |false=>exact dn l m (c:=z) d h
  .rename_i A;split at h
   .rename_i b s;exact absurd s (A b)
   .cases h
 |.block id c,st,k,i,x,d,h=>dn l m (c:=c) (Fh d) h
 |.loop c,st,k,i,x,d,h=>jY (b:=λst' i=>aK T C F n c st' i) (b':=λst' i=>aK T C' F p c st' i) (λst k i x d h=>dn l m (c:=c) d h) m d h
 |.exit id,st,k,i,x,d,h=>d _ _ _ h
 |.ret,st,k,i,x,d,h=>d _ _ _ h
 |.label _,st,k,i,x,d,h=>d _ _ _ h
 |.rangeFunc f ps y z,st,k,i,x,d,h=>by have B:=UN h;obtain⟨g,caps,fi,r,G,E,D,h4,h5,h⟩:=uj h;refine YQ B G E D h4 (l _ _ _ _ h5) (oC (λst k i x d h=>?_) d h);exact dn l m (c:=y) (Ae (λst x h=>dn l m (c:=z) d h) d) h
 |.scope c,st,k,i,x,d,h=>dn l m (c:=c) d h
 |.goto ..,st,k,i,x,d,h=>by simp[aK]at h
 |.refuse ..,st,k,i,x,d,h=>by simp[aK]at h
theorem dU{F:FI}:∀{c:Code}{st:St}{k i:Ex->St->Option α}{x:α},L8 k i->aN T C F c st k=some x->aN T C F c st i=some x
 |.skip,st,k,i,x,d,h=>d _ _ _ h
 |.region id ops draw,st,k,i,x,d,h=>by
  simp only[aN]at h ⊢;obtain⟨h,e⟩:=iK h;rw[e];cases draw with
  |false=>exact bQ (WR.refl C) (λst x h=>by rw[aF]at h ⊢;exact d _ _ _ h) h
  |true=>
   simp only at h ⊢;cases p:aX F.hides id with
   |none=>rw[p]at h;cases h
   |some hd=>
    rw[p]at h;simp only[aF]at h ⊢;split
    .rename_i l;rw[l]at h;exact bQ (WR.refl C) (λst x h=>jZ (λst x h=>d _ _ _ h) h) h
    .rename_i j l;rw[l]at h;exact bQ (WR.refl C) (λst x h=>jZ (λst x h=>bQ (WR.refl C) (λst x h=>d _ _ _ h) h) h) h
 |.seq y z,st,k,i,x,d,h=>dU (c:=y) (Ae (λst x h=>dU (c:=z) d h) d) h
 |.cond c y z,st,k,i,x,d,h=>by
  simp only[aN]at h ⊢;split
  .rename_i b m;rw[m]at h;cases b with
   |true=>exact dU (c:=y) d h
   |false=>exact dU (c:=z) d h
  .rename_i q;split at h
   .rename_i b m;exact absurd m (q b)
   .cases h
 |.block id c,st,k,i,x,d,h=>dU (c:=c) (Fh d) h
 |.loop c,st,k,i,x,d,h=>Ro (b:=λst' i=>aN T C F c st' i) (b':=λst' i=>aN T C F c st' i) (λst k i x d h=>dU (c:=c) d h) (λst k i x d h=>dU (c:=c) d h) d h
 |.exit id,st,k,i,x,d,h=>d _ _ _ h
 |.ret,st,k,i,x,d,h=>d _ _ _ h
 |.label _,st,k,i,x,d,h=>d _ _ _ h
 |.rangeFunc f ps y z,st,k,i,x,d,h=>by have s:=I7 h;obtain⟨g,caps,fi,r,B,A,u,h4,h5,h⟩:=Fg h;refine L9 s B A u h4 h5 (oC (λst k i x d h=>?_) d h);exact dU (c:=y) (Ae (λst x h=>dU (c:=z) d h) d) h
 |.scope c,st,k,i,x,d,h=>dU (c:=c) d h
 |.goto ..,st,k,i,x,d,h=>by simp[aN]at h
 |.refuse ..,st,k,i,x,d,h=>by simp[aN]at h
theorem gZ(l:WR C C'){F:FI}:∀{c:Code}{st:St}{k i:Ex->St->Option α}{x:α},L8 k i->aN T C F c st k=some x->aN T C' F c st i=some x
 |.skip,st,k,i,x,d,h=>d _ _ _ h
 |.region id ops draw,st,k,i,x,d,h=>by
  simp only[aN]at h ⊢;obtain⟨h,e⟩:=iK h;rw[e];cases draw with
  |false=>exact bQ l (λst x h=>by rw[aF]at h ⊢;exact d _ _ _ h) h
  |true=>
   simp only at h ⊢;cases q:aX F.hides id with
   |none=>rw[q]at h;cases h
   |some hd=>
    rw[q]at h;simp only[aF]at h ⊢;split
    .rename_i m;rw[m]at h;exact bQ l (λst x h=>jZ (λst x h=>d _ _ _ h) h) h
    .rename_i j m;rw[m]at h;exact bQ l (λst x h=>jZ (λst x h=>bQ l (λst x h=>d _ _ _ h) h) h) h
 |.seq y z,st,k,i,x,d,h=>gZ l (c:=y) (Ae (λst x h=>gZ l (c:=z) d h) d) h
 |.cond c y z,st,k,i,x,d,h=>by
  simp only[aN]at h ⊢;split
  .rename_i b p;rw[p]at h;cases b with
   |true=>exact gZ l (c:=y) d h
   |false=>exact gZ l (c:=z) d h
  .rename_i s;split at h
   .rename_i b p;exact absurd p (s b)
   .cases h
 |.block id c,st,k,i,x,d,h=>gZ l (c:=c) (Fh d) h
 |.loop c,st,k,i,x,d,h=>Ro (b:=λst' i=>aN T C F c st' i) (b':=λst' i=>aN T C' F c st' i) (λst k i x d h=>gZ l (c:=c) d h) (λst k i x d h=>dU (c:=c) d h) d h
 |.exit id,st,k,i,x,d,h=>d _ _ _ h
 |.ret,st,k,i,x,d,h=>d _ _ _ h
 |.label _,st,k,i,x,d,h=>d _ _ _ h
 |.rangeFunc f ps y z,st,k,i,x,d,h=>by have u:=I7 h;obtain⟨g,caps,fi,r,D,B,A,h4,h5,h⟩:=Fg h;refine L9 u D B A h4 (l _ _ _ _ h5) (oC (λst k i x d h=>?_) d h);exact gZ l (c:=y) (Ae (λst x h=>gZ l (c:=z) d h) d) h
 |.scope c,st,k,i,x,d,h=>gZ l (c:=c) d h
 |.goto ..,st,k,i,x,d,h=>by simp[aN]at h
 |.refuse ..,st,k,i,x,d,h=>by simp[aN]at h
theorem ku(l:WR C C'){F:FI}{n:Nat}:∀{c:Code}{st:St}{k i:Ex->St->Option α}{x:α},L8 k i->aK T C F n c st k=some x->aN T C' F c st i=some x
 |.skip,st,k,i,x,d,h=>d _ _ _ h
 |.region id ops draw,st,k,i,x,d,h=>by
  simp only[aN,aK]at h ⊢;obtain⟨h,e⟩:=iK h;rw[e];cases draw with
  |false=>exact bQ l (λst x h=>by rw[aF]at h ⊢;exact d _ _ _ h) h
  |true=>
   simp only at h ⊢;cases u:aX F.hides id with
   |none=>rw[u]at h;cases h
   |some hd=>
    rw[u]at h;simp only[aF]at h ⊢;split
    .rename_i p;rw[p]at h;exact bQ l (λst x h=>jZ (λst x h=>d _ _ _ h) h) h
    .rename_i j p;rw[p]at h;exact bQ l (λst x h=>jZ (λst x h=>bQ l (λst x h=>d _ _ _ h) h) h) h
 |.seq y z,st,k,i,x,d,h=>ku l (c:=y) (Ae (λst x h=>ku l (c:=z) d h) d) h
 |.cond c y z,st,k,i,x,d,h=>by
  simp only[aN,aK]at h ⊢;split
  .rename_i b s;rw[s]at h;cases b with
   |true=>exact ku l (c:=y) d h
   |false=>exact ku l (c:=z) d h
  .rename_i A;split at h
   .rename_i b s;exact absurd s (A b)
   .cases h
 |.block id c,st,k,i,x,d,h=>ku l (c:=c) (Fh d) h
 |.loop c,st,k,i,x,d,h=>Rl (f:=λm=>nM (aC F.cfg c) (λst' i=>aN T C' F c st' i) m (aC F.cfg c st) i) (n:=n) (λ_ _ _ q h=>jY (b:=λst' i=>aN T C' F c st' i) (b':=λst' i=>aN T C' F c st' i) (λst k i x d h=>dU (c:=c) d h) q (L8.refl _) h)
     (jY (b:=λst' i=>aK T C F n c st' i) (b':=λst' i=>aN T C' F c st' i) (λst k i x d h=>ku l (c:=c) d h) (qNr n) d h)
 |.exit id,st,k,i,x,d,h=>d _ _ _ h
 |.ret,st,k,i,x,d,h=>d _ _ _ h
 |.label _,st,k,i,x,d,h=>d _ _ _ h
 |.rangeFunc f ps y z,st,k,i,x,d,h=>by have B:=UN h;obtain⟨g,caps,fi,r,G,E,D,h4,h5,h⟩:=uj h;refine L9 B G E D h4 (l _ _ _ _ h5) (oC (λst k i x d h=>?_) d h);exact ku l (c:=y) (Ae (λst x h=>ku l (c:=z) d h) d) h
 |.scope c,st,k,i,x,d,h=>ku l (c:=c) d h
 |.goto ..,st,k,i,x,d,h=>by simp[aK]at h
 |.refuse ..,st,k,i,x,d,h=>by simp[aK]at h
structure UO (Cn:Nat->aB) (C:aB):Prop where
 mono:∀n m,n<=m->WR (Cn n) (Cn m)
 lim:∀f a b x,C f a b=some x->∃n,Cn n f a b=some x
structure NQ (kn:Nat->Ex->St->Option α) (k:Ex->St->Option α):Prop where
 mono:∀n m,n<=m->L8 (kn n) (kn m)
 lim:∀ex st x,k ex st=some x->∃n,kn n ex st=some x
theorem ads(k:UO Cn C){y:Option Eff}(c:yR T C all o env h=some y):∃n,yR T (Cn n) all o env h=some y:=by
 rcases Kw (T:=T) env h o with⟨D,i⟩ |⟨f,d,bl,g,i⟩
 .simp_all[yR]
 .cases e:C f d bl with
  |some r=>obtain⟨n,l⟩:=k.lim _ _ _ _ e;refine⟨n,?_⟩;simp_all[yR]
  |none=>
   refine⟨0,?_⟩;unfold yR at c ⊢;rw[i,e]at c;cases j:o.guard with
   |none=>rw[j]at c;simp[DT.run]at c
   |some m=>grind[DT.run]
theorem aav(e:UO Cn C)(c:step1 T C draw hd all o st=some st'):∃n,step1 T (Cn n) draw hd all o st=some st':=by
 unfold step1 at c;cases d:yR T C all o st.env (jy hd (look st.heap))with
 |none=>rw[d]at c;cases c
 |some y=>obtain⟨n,i⟩:=ads e d;grind[step1]
theorem Rt{kn:Nat->St->Option α}{k:St->Option α}{x:α}(c:∀st x,k st=some x->∃n,kn n st=some x)(h:pJ b st k=some x):∃n,pJ b st (kn n)=some x:=by
 unfold pJ at h ⊢;split at h
 .split at h;all_goals grind
 grind
theorem lQ{Cn:Nat->aB}(c:UO Cn C){draw:Bool}{hd:List (List Nat)}{all:List Oper}{kn:Nat->St->Option α}{k:St->Option α}(i:∀n m st x,n<=m->kn n st=some x->kn m st=some x)(s:∀st x,k st=some x->∃n,kn n st=some x) :
    ∀{l:List Oper}{j:Nat}{st:St}{x:α},dD T C draw hd all l j st k=some x->∃n,dD T (Cn n) draw hd all l j st (kn n)=some x
  |[],j,st,x,h=>s _ _ h
  |o::r,j,st,x,h=>by
   cases q:oL draw st o with
   |none=>
    rw[oh _ _ q]at h;cases u:step1 T C draw (hd.getD j []) all o st with
    |none=>rw[u]at h;cases h
    |some B=>rw[u]at h;obtain⟨n1,e⟩:=aav c u;obtain⟨n2,d⟩:=lQ c i s (l:=r) h;refine⟨max n1 n2,?_⟩;rw[oh _ _ q,Rq (c.mono n1 (max n1 n2) ω) e];exact bQ (c.mono n2 (max n1 n2) ω) (λst x h=>i n2 _ st x ω h) d
   |some p=>
    obtain⟨xs,vs⟩:=p;rw[oU _ _ q]at h;cases A:guardOf all o st.env with
    |none=>rw[A]at h;cases h
    |some b=>
     rw[A]at h;cases b with
     |false=>obtain⟨n,D⟩:=lQ c i s (l:=r) h;refine⟨n,?_⟩;rw[oU _ _ q,A];exact D
     |true=>obtain⟨G,u,E⟩:=Gw h;obtain⟨n1,e⟩:=lQ c i s (l:=r) u;obtain⟨n2,d⟩:=lQ c i s (l:=r) E;refine⟨max n1 n2,?_⟩;rw[oU _ _ q,A];exact abI (bQ (c.mono n1 (max n1 n2) ω) (λst x h=>i n1 _ st x ω h) e) (bQ (c.mono n2 (max n1 n2) ω) (λst x h=>i n2 _ st x ω h) d)
theorem YR{kn:Nat->Ex->St->Option α}{k:Ex->St->Option α}(d:NQ kn k){fn:Nat->St->Option α}{f:St->Option α}(e:∀n m st x,n<=m->fn n st=some x->fn m st=some x)(i:∀st x,f st=some x->∃n,fn n st=some x) :
    NQ (λn c st'=>match c with |.normal=>fn n st' |.exit id=>kn n (.exit id) st' |.ret=>kn n .ret st') (λc st'=>match c with |.normal=>f st' |.exit id=>k (.exit id) st' |.ret=>k .ret st'):=
  ⟨λn m h=>Ae (λst x h'=>e n m st x h h') (d.mono n m h),λc st x h=>by
    cases c with
    |normal=>exact i _ _ h
    |exit id=>exact d.lim _ _ _ h
    |ret=>exact d.lim _ _ _ h⟩
theorem aaw{kn:Nat->Ex->St->Option α}{k:Ex->St->Option α}(c:NQ kn k) :
    NQ (λn d st'=>match d with |.normal=>kn n .normal st' |.exit i=>bif i==id then kn n .normal st' else kn n (.exit i) st' |.ret=>kn n .ret st') (λd st'=>match d with |.normal=>k .normal st' |.exit i=>bif i==id then k .normal st' else k (.exit i) st' |.ret=>k .ret st'):=
  ⟨λn m h=>Fh (c.mono n m h),λd st x h=>by
    cases d with
    |normal=>exact c.lim _ _ _ h
    |exit i=>
     simp only at h ⊢;cases hi:i==id with
     |true=>rw[hi]at h;exact c.lim _ _ _ h
     |false=>rw[hi]at h;exact c.lim _ _ _ h
    |ret=>exact c.lim _ _ _ h⟩
theorem iD{Cn:Nat->aB}(l:UO Cn C){F:FI}:∀{c:Code}{st:St}{kn:Nat->Ex->St->Option α}{k:Ex->St->Option α}{x:α},NQ kn k->aN T C F c st k=some x->∃n,aK T (Cn n) F n c st (kn n)=some x
 |.skip,st,kn,k,x,i,h=>i.lim _ _ _ h
 |.region id ops draw,st,kn,k,x,i,h=>by
  simp only[aN,aK]at h ⊢;obtain⟨h,e⟩:=iK h;simp only[e];cases draw with
  |false=>exact lQ l (kn:=λn st'=>eF (settle F.cfg ops.toList st') λst'=>kn n .normal st') (λn m st x d h=>by rw[aF]at h ⊢;exact i.mono n m d _ _ _ h) (λst x h=>by rw[aF]at h;obtain⟨n,u⟩:=i.lim _ _ _ h;exact⟨n,by rw[aF];exact u⟩) h
  |true=>
   simp only[]at h ⊢;cases K:aX F.hides id with
   |none=>rw[K]at h;cases h
   |some hd=>
    rw[K]at h;simp only[aF]at h ⊢;cases I:ZO F.cfg.ys ops.toList with
    |none=>rw[I]at h;exact lQ l (kn:=λn st'=>pJ (look (st.strike (present st.heap (qZ ops.toList ops.toList))).heap ah) st' λst'=>kn n .normal (settle F.cfg ops.toList st')) (λn m st x d h=>jZ (λst x h=>i.mono n m d _ _ _ h) h) (λst x h=>Rt (kn:=λn st'=>kn n .normal (settle F.cfg ops.toList st')) (λst x h=>i.lim _ _ _ h) h) h
    |some j=>
     rw[I]at h
     exact lQ l (kn:=λn st'=>pJ (look (st.strike (present st.heap (qZ ops.toList ops.toList))).heap ah) st' λst'=>dD T (Cn n) false [] ops.toList (ops.toList.drop j) j st' λst'=>kn n .normal (settle F.cfg ops.toList st'))
      (λn m st x d h=>jZ (λst x h=>bQ (l.mono n m d) (λst x h=>i.mono n m d _ _ _ h) h) h)
      (λst x h=>Rt (kn:=λn st'=>dD T (Cn n) false [] ops.toList (ops.toList.drop j) j st' λst'=>kn n .normal (settle F.cfg ops.toList st')) (λst x h=>lQ l (kn:=λn st'=>kn n .normal (settle F.cfg ops.toList st')) (λn m st x d h=>i.mono n m d _ _ _ h) (λst x h=>i.lim _ _ _ h) h) h) h
 |.seq y z,st,kn,k,x,i,h=>iD l (c:=y) (YR i (fn:=λn st'=>aK T (Cn n) F n z (aC F.cfg z st') (kn n)) (λn m st x d h=>dn (l.mono n m d) d (i.mono n m d) h) (λst x h=>iD l (c:=z) i h)) h
 |.cond c y z,st,kn,k,x,i,h=>by
  simp only[aN,aK]at h ⊢;by_cases J:∃b,aP st.env c=.p (.bool b)
  .obtain⟨b,E⟩:=J;rw[E]at h ⊢;cases b with
   |true=>exact iD l (c:=y) i h
   |false=>exact iD l (c:=z) i h
  .split at h
   .rename_i b E;exact absurd ⟨b,E⟩ J
   .cases h
 |.block id c,st,kn,k,x,i,h=>iD l (c:=c) (aaw i) h
 |.loop c,st,kn,k,x,i,h=>by
  obtain⟨m,L⟩:=uy h;have key:∀m st x,nM (aC F.cfg c) (λst' q=>aN T C F c st' q) m st k=some x->∃n,nM (aC F.cfg c) (λst' q=>aK T (Cn n) F n c st' q) n st (kn n)=some x:=by
   intro m;induction m with
   |zero=>intro st x h;simp[nM]at h
   |succ m D=>
    intro st x h;rw[Du]at h
    have s:NQ (λn=>next (aC F.cfg c) (λst'=>nM (aC F.cfg c) (λst' q=>aK T (Cn n) F n c st' q) n st' (kn n)) (kn n)) (next (aC F.cfg c) (λst'=>nM (aC F.cfg c) (λst' q=>aN T C F c st' q) m st' k) k):=
     ⟨λn m d=>OL (λst x h=>jY (b:=λst' q=>aK T (Cn n) F n c st' q) (b':=λst' q=>aK T (Cn m) F m c st' q) (λst k q x i h=>dn (l.mono n m d) d (c:=c) i h) d (i.mono n m d) h) (i.mono n m d),λG st x h=>by
       cases G with
       |normal=>simp only[next,aF]at h ⊢;exact D _ _ h
       |exit id=>exact i.lim _ _ _ h
       |ret=>exact i.lim _ _ _ h⟩
    obtain⟨n,u⟩:=iD l (c:=c) s h;refine⟨n+1,?_⟩;rw[Du];exact dn (l.mono n (n+1) ω) ω (OL (λst x h=>jY (b:=λst' q=>aK T (Cn n) F n c st' q) (b':=λst' q=>aK T (Cn (n+1)) F (n+1) c st' q) (λst k q x i h=>dn (l.mono n (n+1) ω) ω (c:=c) i h) ω (i.mono n (n+1) ω) h) (i.mono n (n+1) ω)) u
  obtain⟨n,u⟩:=key m _ x L;exact⟨n,u⟩
 |.exit id,st,kn,k,x,i,h=>i.lim _ _ _ h
 |.ret,st,kn,k,x,i,h=>i.lim _ _ _ h
 |.label _,st,kn,k,x,i,h=>i.lim _ _ _ h
 |.rangeFunc f ps y z,st,kn,k,x,i,h=>by
  have N:=I7 h;obtain⟨g,caps,fi,r,R,Q,O,h4,h5,h⟩:=Fg h;obtain⟨A,h5⟩:=l.lim _ _ _ _ h5;have B:∀n m,n<=m->LeB (yK (α:=α) T (Cn n) F n y z) (yK T (Cn m) F m y z):=λn m d st k q x i h=>dn (l.mono n m d) d (c:=y) (Ae (λst x h=>dn (l.mono n m d) d (c:=z) i h) i) h;have key:∀(xs:List PV) (st:St) (x:α),jq (aC F.cfg (.seq y z)) fi.cfg.yk ps.toList (kE ps y z) (λst k=>aN T C F (.seq y z) st k) xs st k=some x->∃n,jq (aC F.cfg (.seq y z)) fi.cfg.yk ps.toList (kE ps y z) (yK T (Cn n) F n y z) xs st (kn n)=some x:=by
   intro xs;induction xs with
   |nil=>intro st x h;exact i.lim _ _ _ h
   |cons v xs D=>
    intro st x h;simp only[jq]at h ⊢;split at h
    .cases h
    .rename_i env S;rw[aF]at h
     have s:NQ (λn=>pK (aC F.cfg (.seq y z)) (kE ps y z) (λst=>jq (aC F.cfg (.seq y z)) fi.cfg.yk ps.toList (kE ps y z) (yK T (Cn n) F n y z) xs st (kn n)) (kn n)) (pK (aC F.cfg (.seq y z)) (kE ps y z) (λst=>jq (aC F.cfg (.seq y z)) fi.cfg.yk ps.toList (kE ps y z) (λst k=>aN T C F (.seq y z) st k) xs st k) k):=
      ⟨λn m d=>YP (λst x h=>oC (B n m d) (i.mono n m d) h) (i.mono n m d),λG st x h=>by
        cases G with
        |normal=>simp only[pK,aF]at h ⊢;exact D _ _ h
        |exit id=>simp only[pK,aF]at h ⊢;exact i.lim _ _ _ h
        |ret=>simp only[pK,aF]at h ⊢;exact i.lim _ _ _ h⟩
     have h':=iD l (c:=y) (YR s (fn:=λn st'=>aK T (Cn n) F n z (aC F.cfg z st') (pK (aC F.cfg (.seq y z)) (kE ps y z) (λst=>jq (aC F.cfg (.seq y z)) fi.cfg.yk ps.toList (kE ps y z) (yK T (Cn n) F n y z) xs st (kn n)) (kn n))) (λn m st x d h=>dn (l.mono n m d) d (c:=z) (s.mono n m d) h) (λst x h=>iD l (c:=z) s h)) h;obtain⟨n,u⟩:=h';exact⟨n,by rw[aF];exact u⟩
  obtain⟨n1,h⟩:=key _ _ _ h;refine⟨max A n1,YQ N R Q O h4 (l.mono A (max A n1) ω _ _ _ _ h5) (oC (B n1 (max A n1) ω) (i.mono n1 (max A n1) ω) h)⟩
 |.scope c,st,kn,k,x,i,h=>iD l (c:=c) i h
 |.goto ..,st,kn,k,x,i,h=>by simp[aN]at h
 |.refuse ..,st,kn,k,x,i,h=>by simp[aN]at h
theorem ahE{C:aB}{c:Code}{k:Ex->St->Option α}{x:α}(h:aN T C F c st (next fg (λst'=>Rn fg (λst' d=>aN T C F c st' d) st' k) k)=some x):Rn fg (λst' d=>aN T C F c st' d) st k=some x:=by
 have j:LeB (λst' d=>aN (α:=α) T C F c st' d) (λst' d=>aN T C F c st' d):=λst k d x p h=>gZ (WR.refl _) (c:=c) p h
 have i:NQ (λn=>next fg (λst'=>nM fg (λst' d=>aN T C F c st' d) n st' k) k) (next fg (λst'=>Rn fg (λst' d=>aN T C F c st' d) st' k) k):=
  ⟨λn m e=>OL (λst x h=>jY j e (L8.refl _) h) (L8.refl _),λs st x h=>by
    cases s with
    |normal=>simp only[next,aF]at h ⊢;exact uy h
    |exit id=>exact⟨0,h⟩
    |ret=>exact⟨0,h⟩⟩
 have q:UO (λ_=>C) C:=⟨λ_ _ _=>WR.refl _,λ_ _ _ _ h=>⟨0,h⟩⟩;obtain⟨n,l⟩:=iD q i h;have:=ku (WR.refl C) (L8.refl _) l;exact Rl (n:=n+1) (λ_ _ _ e h=>jY j e (L8.refl _) h) (by rw[Du];exact this)
theorem I8{X:Ext}:∀{n m:Nat},n<=m->WR (jC T X n) (jC T X m)
 |0,_,_=>λf a b x h=>by simp[jC]at h
 |n+1,0,hm=>ω
 |n+1,m+1,hm=>λf a b x h=>by
  simp only[jC]at h ⊢;split at h
  .cases h
  .rename_i fi i;split at h
   .exact h
   .rename_i e;split at h
    .cases h
    .rename_i c j;cases d:vT fi.cfg b with
     |false=>rw[d]at h;cases h
     |true=>
     rw[d]at h;simp only[qCt,dX,iy,aF]at h ⊢;exact dn (I8 ω) ω (L8.refl _) h
theorem afU:UO (jC T X) (run T X):=⟨λ_ _ h=>I8 h,λ_ _ _ _ h=>uy h⟩
theorem YS{f:Nat}{a:List AV}{b:List aH}:amy λn=>jC T X n f a b:=λ_n _m x c h=>I8 c f a b x h
theorem aV{f:Nat}(k:X f=none)(h:aY T (run T X) f args bl=some r):run T X f args bl=some r:=by
 unfold aY at h;split at h
 .cases h
 .rename_i fi i;split at h
  .cases h
  .rename_i c j;cases d:vT fi.cfg bl with
   |false=>rw[d]at h;cases h
   |true=>
   rw[d]at h;simp only[qCt,dX,iy,aF]at h;obtain⟨n,e⟩:=iD afU (kn:=λ_=>ahD T fi bl) ⟨λ_ _ _=>L8.refl _,λ_ _ _ h=>⟨0,h⟩⟩ h;refine Rl (n:=n+1) YS ?_;simp only[jC,i,k,j,d,qCt,dX,iy,aF];refine dn (WR.refl _) (qNr n) (λl st x h=>?_) e;cases l<;>exact h
theorem vX{f:Nat}{s:List AV->List aH->Option (List AV × List aH)}(c:aX T.funcs f=some fi)(d:X f=some s)(h:s args bl=some r):run T X f args bl=some r:=
 Rl (n:=1) YS (by simp only[jC,c,d];exact h)
theorem KT{P:Program}(ok:bJ P T){m:Option (List (Nat × Obj))}(j:rO P T m X):dS P T m (run T X):=by
 refine⟨λf fi args bl c d i l h=>?_,λf fi args z off len a ks xs c d i k h=>?_,λf fi args a ks xs c d i k h=>?_,j.1⟩
 .obtain⟨n,e⟩:=uy h;exact(Fe ok j n).plain f fi args bl c d i l e
 .obtain⟨n,e⟩:=uy h;exact(Fe ok j n).var f fi args z off len a ks xs c d i k e
 .obtain⟨n,e⟩:=uy h;exact(Fe ok j n).take f fi args a ks xs c d i k e
end
inductive Wy where
 |lp (p:List Nat)
 |rg (p:List Nat) (ss:List (Bool × List Kd)) (xs:List PV)
section
variable {α:Type} (T:Tab) (C:aB) (F:FI)
def Af:Code->List Nat->Code
 |c,[]=>c
 |.seq a _,0::p=>Af a p
 |.seq _ b,_::p=>Af b p
 |.cond _ a _,0::p=>Af a p
 |.cond _ _ b,_::p=>Af b p
 |.block _ c,_::p=>Af c p
 |.scope c,_::p=>Af c p
 |.loop c,_::p=>Af c p
 |c,_=>c
def yL(c:Code)(p:List Nat):Code:=match Af c p with
 |.loop b=>b
 |.rangeFunc _ _ a b=>.seq a b
 |_=>.skip
def ars(c:Code)(p:List Nat):List Nat:=match Af c p with
 |.rangeFunc _ ps _ _=>ps.toList
 |_=>[]
def amz(c:Code)(p:List Nat):List Nat:=match Af c p with
 |.rangeFunc _ ps a b=>kE ps a b
 |_=>[]
noncomputable def Ag:Code->List Nat->(Ex->St->Option α)->Ex->St->Option α
 |.seq a b,0::p,k=>Ag a p λex st'=>
  match ex with
  |.normal=>aN T C F b (aC F.cfg b st') k
  |.exit id=>k (.exit id) st'
  |.ret=>k .ret st'
 |.seq _ b,_::p,k=>Ag b p k
 |.cond _ a _,0::p,k=>Ag a p k
 |.cond _ _ b,_::p,k=>Ag b p k
 |.block id c,_::p,k=>Ag c p λex st'=>
  match ex with
  |.normal=>k .normal st'
  |.exit i=>bif i==id then k .normal st' else k (.exit i) st'
  |.ret=>k .ret st'
 |.scope c,_::p,k=>Ag c p k
 |_,_,k=>k
noncomputable def amA(c:Code)(p:List Nat)(k:Ex->St->Option α)(st:St):Option α:=Rn (aC F.cfg (yL c p)) (λst' k'=>aN T C F (yL c p) st' k') st (Ag T C F c p k)
noncomputable def aax(c:Code)(p:List Nat)(k:Ex->St->Option α):Ex->St->Option α:=next (aC F.cfg (yL c p)) (amA T C F c p k) (Ag T C F c p k)
noncomputable def ajV(c:Code)(p:List Nat)(ss:List (Bool × List Kd))(k:Ex->St->Option α)(xs:List PV)(st:St):Option α:=
 jq (aC F.cfg (yL c p)) ss (ars c p) (amz c p) (λst k=>aN T C F (yL c p) st k) xs st (Ag T C F c p k)
noncomputable def afV(c:Code)(p:List Nat)(ss:List (Bool × List Kd))(xs:List PV)(k:Ex->St->Option α):Ex->St->Option α:=pK (aC F.cfg (yL c p)) (amz c p) (ajV T C F c p ss k xs) (Ag T C F c p k)
noncomputable def WI:Code->(Ex->St->Option α)->List Wy->St->Option α
 |_,_,[],_=>none
 |c,k,[.lp p],st=>amA T C F c p k st
 |c,k,[.rg p ss xs],st=>ajV T C F c p ss k xs st
 |c,k,.lp p::q::r,st=>WI (yL c p) (aax T C F c p k) (q::r) st
 |c,k,.rg p ss xs::q::r,st=>WI (yL c p) (afV T C F c p ss xs k) (q::r) st
noncomputable def Ky:Code->(Ex->St->Option α)->List Wy->St->Option α
 |_,_,[],_=>none
 |c,k,[.lp p],st=>aN T C F (yL c p) st (aax T C F c p k)
 |c,k,[.rg p ss xs],st=>ajV T C F c p ss k xs st
 |c,k,.lp p::q::r,st=>Ky (yL c p) (aax T C F c p k) (q::r) st
 |c,k,.rg p ss xs::q::r,st=>Ky (yL c p) (afV T C F c p ss xs k) (q::r) st
variable {T C F}
theorem Mc{x:α}:∀{l:List Wy}{c:Code}{k:Ex->St->Option α}{st:St},Ky T C F c k l st=some x->WI T C F c k l st=some x
 |[],_,_,_,h=>by simp[Ky]at h
 |[.lp p],c,k,st,h=>ahE h
 |[.rg p ss xs],c,k,st,h=>h
 |.lp p::q::r,c,k,st,h=>Mc (l:=q::r) h
 |.rg p ss xs::q::r,c,k,st,h=>Mc (l:=q::r) h
end
section
variable (T:Tab) (C:aB) (f:Nat) (bl:List aH)
noncomputable def adt:FI:=match aX T.funcs f with |some fi=>fi |none=>⟨default,{},[]⟩
def codeOf(F:FI):Code:=match F.fn.body with |some c=>c |none=>.skip
noncomputable def L(l:List Wy)(st:St):Option (List AV × List aH):=WI T C (adt T f) (codeOf (adt T f)) (ahD T (adt T f) bl) l st
noncomputable def R(l:List Wy)(st:St):Option (List AV × List aH):=Ky T C (adt T f) (codeOf (adt T f)) (ahD T (adt T f) bl) l st
variable {T C f bl}
theorem dN{l:List Wy}{x:List AV × List aH}(h:R T C f bl l st=some x):L T C f bl l st=some x:=Mc h
end
end
section
open Go.ChangeShapes Go.WideShapes
variable {b0 n:Nat}{t:TypeId}{cs:List Value}{a:Addr}{v:Value}{T:Tab}
mutual
def PV.wf:PV->Prop
 |.int k n=>(Lit.int k n).wf=true
 |.str s=>s.size<=maxLen
 |.list _ _ xs=>xs.length<=maxLen/\PV.wfs xs
 |.agg cs=>PV.wfs cs
 |.nil=>False
 |_=>True
def PV.wfs:List PV->Prop
 |[]=>True
 |v::r=>PV.wf v/\PV.wfs r
end
theorem GK:∀{l:List PV},PV.wfs l↔∀v∈l,v.wf
 |[]=>by simp[PV.wfs]
 |v::r=>by simp[PV.wfs,GK]
section
variable (P:Program)
def kF:Nat->TypeId->Bool
 |0,_=>false
 |n+1,t=>
  match P.underlying t with
  |some (.int _)=>Nat.beq (P.cellsOf t) 1
  |some .bool=>Nat.beq (P.cellsOf t) 1
  |some .string=>Nat.beq (P.cellsOf t) 1
  |some (.slice e)=>kF n e&&(Nat.blt 0 (P.cellsOf e)&&Nat.beq (P.cellsOf t) 1)
  |some (.struct fs)=>go n 0 fs.toList&&Nat.beq (P.cellsOf t) (sum fs.toList)
  |some (.array m e)=>kF n e&&Nat.beq (P.cellsOf t) (m*P.cellsOf e)
  |_=>false
where
 go (n:Nat):Nat->List Field->Bool
 |_,[]=>true
 |o,f::r=>f.offset==o&&(kF n f.type&&go n (o+P.cellsOf f.type) r)
 sum:List Field->Nat
 |[]=>0
 |f::r=>P.cellsOf f.type+sum r
end
section
variable {H:Type}{enc:TypeId × Value->H}{P:Program}{w:World}{base:Nat}{sp:Nat->Bool}{held:Bool}{M:Nat->Prop}
theorem Ru:∀{n:Nat}{t:TypeId},kF P n t=true->(aU P n t).2.length=P.cellsOf t
 |0,t,h=>by simp[kF]at h
 |n+1,t,h=>by
  unfold kF at h;unfold aU;split at h
  .simp_all
  .simp_all
  .simp_all
  .simp_all
  .rename_i i c;rw[c];simp only[qBa]at h;rw[Nat.eq_of_beq_eq_true h.2];have:∀(l:List Field) (o:Nat),kF.go P n o l=true->(l.flatMap λf=>(aU P n f.type).2).length=kF.sum P l:=by
    intro l;induction l with
    |nil=>intro o _;rfl
    |cons f r d=>intro o h;simp only[kF.go,qBa]at h;simp only[List.flatMap_cons,qLp,kF.sum,Ru h.2.1,d _ h.2.2]
   grind
  .rename_i m e c;rw[c];simp only[qBa]at h;simp only[List.length_flatten,List.map_replicate,List.sum_replicate_nat,Ru h.1];simp_all
  .cases h
def Oi(w:World)(M:Nat->Prop)(ks:List Kd)(cs:List Value)(ps:List PV):Prop:=
 bn ks ps=true/\ps.length=cs.length/\(∀(i:Nat) (p:PV),ps[i]?=some p->VR w M p (cs.getD i undef))/\PV.wfs ps
theorem Fj:∀{i d:List Kd}{e c:List PV},bn i e=true->bn d c=true->bn (i++d) (e++c)=true
 |[],d,[],c,_,h=>h
 |k::i,d,v::e,c,h1,h2=>by simp only[bn,qBa]at h1;simp only[List.cons_append,bn,qBa];exact⟨h1.1,Fj h1.2 h2⟩
 |[],_,_::_,_,h,_=>by simp[bn]at h
 |_::_,_,[],_,h,_=>by simp[bn]at h
theorem Oi.append{l k:List Kd}{c1 m:List Value}{e j:List PV}(c:Oi w M l c1 e)(d:Oi w M k m j):Oi w M (l++k) (c1++m) (e++j):=by
 refine⟨Fj c.1 d.1,by simp[c.2.1,d.2.1],λi p hp=>?_,?_⟩
 .by_cases hi:i<e.length
  .rw[List.getElem?_append_left hi]at hp;have:=c.2.2.1 i p hp;grind[qLb,c.2.1]
  .rw[List.getElem?_append_right ω]at hp;have:=d.2.2.1 _ p hp;grind[qLb,c.2.1]
 .rw[GK]at *;have a:=GK.1 c.2.2.2;have b:=GK.1 d.2.2.2;grind
def Ah(a:Bool)(ps:List PV):PV:=match a with |true=>.agg ps |false=>ps.headD .nil
theorem Rx(h:kF P n t=true)(c:(aU P n t).1=false):(aU P n t).2.length=1:=by
 cases n with
 |zero=>simp[kF]at h
 |succ n=>grind[kF,aU]
theorem uZ{ps:List PV}(h:kF P n t=true)(d:Oi w M (aU P n t).2 cs ps) :
    aA (aU P n t).1 (aU P n t).2 (Ah (aU P n t).1 ps)=true/\(Ah (aU P n t).1 ps).cells=ps/\(Ah (aU P n t).1 ps).wf:=by
  cases i:(aU P n t).1 with
  |true=>exact⟨d.1,rfl,by simp only[Ah,PV.wf];exact d.2.2.2⟩
  |false=>
   have j:=Rx h i;have c:=d.1
   match hks:(aU P n t).2,j,c with
   |[k],_,c=>
    match ps,c,d with
    |[p],c,d=>
     simp only[bn,Bool.and_true]at c;have e:=iG c;refine⟨c,?_,?_⟩
     .simp only[Ah,qLh];cases p<;>first |rfl |simp[PV.leaf]at e
     .exact(GK.1 d.2.2.2) p σ
    |[],c,_=>simp[bn]at c
    |_::_::_,c,_=>simp[bn]at c
theorem SG{i:Nat}(h:w.cell? (a.add i)=some v)(hi:i<n)(c:i=0):a.spot=none:=by subst c;simp only[Addr.add,if_true]at h;unfold World.cell? at h;split at h;all_goals simp_all
theorem I9(h:w.cells? base a n=some cs):cs.length=n/\∀i,i<n->∃v,cs[i]?=some v/\w.cell? (a.add i)=some v:=by
 unfold World.cells? at h;split at h
 .have c:=mapM_some_length h;simp at c;refine⟨c,λi hi=>?_⟩;have:=mapM_some_get h i i (by simp[hi]);grind
 .cases h
theorem adu(hM:∀b,b<w.heap.size->M b):∀(d n:Nat) (t:TypeId) (cs:List Value) (x:DataW H × List MemPlace),DataW.trod enc P w base sp held d t cs=some x->kF P n t=true->∃ps,Oi w M (aU P n t).2 cs ps:=by
 intro d;induction d with
 |zero=>intro n t cs x h;simp[DataW.trod]at h
 |succ d ih=>
  intro n t cs x h A;cases n with
  |zero=>simp[kF]at A
  |succ n=>
   unfold kF at A;have one:∀(k:Kd) (p:PV) (v:Value),kindOk k p=true->VR w M p v->p.wf->Oi w M [k] [v] [p]:=by intro k p v R I G;refine⟨by simp[bn,R],rfl,λi q hq=>?_,by simp[PV.wfs,G]⟩;grind
   split at A
   .rename_i k u;obtain⟨m,rfl,_,hw⟩:=DataW.trod_int u h;have e:(aU P (n+1) t).2=[.int k]:=by (conv=>lhs;unfold aU);rw[u]
    rw[e];exact⟨_,one _ (.int k m) _ (by simp[kindOk]) (.int k m) hw⟩
   .rename_i u;obtain⟨b,rfl,_⟩:=DataW.trod_bool u h;have e:(aU P (n+1) t).2=[.bool]:=by (conv=>lhs;unfold aU);rw[u]
    rw[e];exact⟨_,one _ (.bool b) _ rfl (.bool b) trivial⟩
   .rename_i u;obtain⟨s,rfl,_,hw⟩:=DataW.trod_string u h;have e:(aU P (n+1) t).2=[.str]:=by (conv=>lhs;unfold aU);rw[u]
    rw[e];exact⟨_,one _ (.str s) _ rfl (.str s) hw⟩
   . -- a slice
     rename_i e u;simp only[qBa]at A;have Z:(aU P (n+1) t).2=[.slice (aU P n e).1 (aU P n e).2]:=by (conv=>lhs;unfold aU);rw[u]
     rw[Z];have D:0<P.cellsOf e:=Nat.le_of_ble_eq_true A.2.1;have hlen:=Ru A.1;rcases DataW.trod_slice u h with⟨rfl,_⟩ |⟨a,len,cap,elems,rest,m,Q,rfl,_,hb,U,hcm,W,V,_,_⟩
     .exact⟨_,one _ (.list (aU P n e).1 (aU P n e).2 []) _ (by simp[kindOk,Kd.kL]) (.iM _ _ none 0) (by simp[PV.wf,PV.wfs])⟩
     .cases Q;have J:∀i,i<len->∃(ps:List PV) (O:List Value),w.cells? base (a.add (i*P.cellsOf e)) (P.cellsOf e)=some O/\Oi w M (aU P n e).2 O ps:=by grind[Option.bind_eq_some_iff]
      by_cases h0:len=0
      .subst h0;exact⟨_,one _ (.list (aU P n e).1 (aU P n e).2 []) _ (by simp[kindOk,Kd.kL]) (.iM _ _ (some a) cap) (by simp[PV.wf,PV.wfs])⟩
      .have hspot:a.spot=none:=by
         obtain⟨ps,O,I,_⟩:=J 0 ω;obtain⟨_,G⟩:=I9 I;obtain⟨v,_,h4⟩:=G 0 D;simp only[Nat.zero_mul]at h4;have e0:a.add 0=a:=by simp[Addr.add]
         rw[e0]at h4;exact SG h4 D rfl
       have addr:∀i j,(a.add (i*P.cellsOf e)).add j=⟨a.block,a.off+i*P.cellsOf e+j,none⟩:=by intro i j;obtain⟨ab,ao,as⟩:=a;grind[Addr.add]
       have hex:∃(f:Nat->List PV) (g:Nat->List Value),∀i,i<len->w.cells? base (a.add (i*P.cellsOf e)) (P.cellsOf e)=some (g i)/\Oi w M (aU P n e).2 (g i) (f i):=
        ⟨λi=>if h:i<len then(J i h).choose else [],λi=>if h:i<len then(J i h).choose_spec.choose else [],λi hi=>θ⟩
       obtain⟨f,g,E⟩:=hex;have Y:a.block<w.heap.size:=by obtain⟨I,_⟩:=E 0 ω;obtain⟨_,G⟩:=I9 I;obtain⟨v,_,h4⟩:=G 0 D;rw[addr]at h4;grind[World.cell?]
       have B:∀(i:Nat) (x:PV),((List.range len).map λi=>Ah (aU P n e).1 (f i))[i]?=some x->i<len/\x=Ah (aU P n e).1 (f i):=θ
       refine⟨[.list (aU P n e).1 (aU P n e).2 ((List.range len).map λi=>Ah (aU P n e).1 (f i))],one _ _ _ (by simp[kindOk,Kd.kL]) ?_ ?_⟩
       .have:=VR.list (w:=w) (M:=M) (aU P n e).1 (aU P n e).2 ((List.range len).map λi=>Ah (aU P n e).1 (f i)) a.block a.off cap (λi j=>(g i).getD j undef) (hM _ Y) (by simpa using U)
          (λi x j c L hj=>by obtain⟨hi,rfl⟩:=B i x L;obtain⟨I,G⟩:=E i hi;rw[(uZ A.1 G).2.1]at hj;obtain⟨hl,h4⟩:=I9 I;grind[G.2.1])
          (λi x j c L hj=>by obtain⟨hi,rfl⟩:=B i x L;obtain⟨I,G⟩:=E i hi;rw[(uZ A.1 G).2.1]at hj;exact G.2.2.1 j c hj)
          (λx L=>by obtain⟨i,hi⟩:=List.mem_iff_getElem?.1 L;obtain⟨N,rfl⟩:=B i x hi;exact(uZ A.1 (E i N).2).1)
        have ea:a=⟨a.block,a.off,none⟩:=by cases a;simp at hspot;simp[hspot]
        grind
       .refine⟨by simpa using Nat.le_trans U hcm,GK.2 λx L=>?_⟩;obtain⟨i,hi⟩:=List.mem_iff_getElem?.1 L;obtain⟨N,rfl⟩:=B i x hi;exact(uZ A.1 (E i N).2).2.2
   . -- a struct
     rename_i fs u;simp only[qBa]at A;have Z:(aU P (n+1) t).2=fs.toList.flatMap λf=>(aU P n f.type).2:=by (conv=>lhs;unfold aU);rw[u]
     rw[Z];obtain⟨xs,m,Q,_,hl,hxl,V⟩:=DataW.trod_struct u h;cases Q;have K:=Nat.eq_of_beq_eq_true A.2
     have key:∀(l:List Field) (o:Nat),kF.go P n o l=true->(∀f∈l,∃y,DataW.trod enc P w base sp held d f.type ((cs.drop f.offset).take (P.cellsOf f.type))=some y)->o+kF.sum P l=cs.length ->
         ∃ps,Oi w M (l.flatMap λf=>(aU P n f.type).2) (cs.drop o) ps:=by
       intro l;induction l with
       |nil=>intro o _ _ ho;simp only[kF.sum,Nat.add_zero]at ho;refine⟨[],rfl,?_,λi p h=>by simp at h,trivial⟩;simp[ho]
       |cons f r ihl=>intro o hg Q ho;simp only[kF.go,qBa,beq_iff_eq]at hg;obtain⟨S,hf,hr⟩:=hg;obtain⟨y,hy⟩:=Q f σ;rw[S]at hy;obtain⟨p1,R⟩:=ih n f.type _ y hy hf;simp only[kF.sum]at ho;obtain⟨p2,I⟩:=ihl (o+P.cellsOf f.type) hr (λg hg=>Q g (by simp[hg])) ω;refine⟨p1++p2,?_⟩;have:=R.append I;grind[List.drop_drop,List.take_append_drop]
     obtain⟨ps,hps⟩:=key fs.toList 0 A.1 (λf hf=>by obtain⟨i,hi⟩:=List.mem_iff_getElem?.1 hf;grind) (by rw[qNz,hl,K]);grind
   . -- an array
     rename_i m e u;simp only[qBa]at A;have Z:(aU P (n+1) t).2=(List.replicate m (aU P n e).2).flatten:=by (conv=>lhs;unfold aU);rw[u]
     rw[Z];have h':(if cs.length=P.cellsOf t then((List.range m).mapM λi=>DataW.trod enc P w base sp held d e ((cs.drop (i*P.cellsOf e)).take (P.cellsOf e))).map λxs=>((.agg (xs.map (·.1)):DataW H),xs.flatMap (·.2))else none)=some x:=by simp_all[DataW.trod_step,DataW.trodStep]
     clear h;split at h'
     .rename_i hl;simp only[Option.map_eq_some_iff]at h';obtain⟨xs,B,rfl⟩:=h';have K:=Nat.eq_of_beq_eq_true A.2;have W:∀i,i<m->∃ps,Oi w M (aU P n e).2 ((cs.drop (i*P.cellsOf e)).take (P.cellsOf e)) ps:=by intro i hi;have R:=mapM_some_get B i i (by simp[hi]);have hl:=mapM_some_length B;grind
      have key:∀(k:Nat),k<=m->∃ps,Oi w M (List.replicate k (aU P n e).2).flatten (cs.drop ((m-k)*P.cellsOf e)) ps:=by
       intro k;induction k with
       |zero=>intro _;refine⟨[],rfl,?_,λi p h=>by simp at h,trivial⟩;grind
       |succ k ihk=>
        intro hk;obtain⟨p2,I⟩:=ihk ω;obtain⟨p1,R⟩:=W (m-(k+1)) ω;refine⟨p1++p2,?_⟩;have:=R.append I;rw[List.replicate_succ,List.flatten_cons];have e1:m-k=m-(k+1)+1:=ω
        rw[e1,Nat.add_mul,Nat.one_mul,<-List.drop_drop,List.take_append_drop]at this;exact this
      grind
     .cases h'
   .cases A
theorem adv{w w':World}(c:∀b,b<w.heap.size->w'.heap[b]?=w.heap[b]?){p:MemPlace}(hp:p.block<w.heap.size):w.sameAt w' p:=by
 cases p with
 |cell b off=>simp only[World.sameAt,World.cell?];rw[c b hp]
 |map b=>exact c b hp
theorem aay:∀(c n:Nat) (t:TypeId) (cs:List Value) (x:DataW H × List MemPlace),DataW.trod enc P w base (λ_=>true) held c t cs=some x->kF P n t=true->(∀p∈x.2,sp p.block=true)->DataW.trod enc P w base sp held c t cs=some x:=by
 intro c;induction c with
 |zero=>intro n t cs x h;simp[DataW.trod]at h
 |succ c S=>
  intro n t cs x h j I;cases n with
  |zero=>simp[kF]at j
  |succ n=>
   unfold kF at j;split at j
   .rename_i k d;obtain⟨m,rfl,rfl,hw⟩:=DataW.trod_int d h;simp_all[DataW.trod_step,DataW.trodStep]
   .rename_i d;obtain⟨b,rfl,rfl⟩:=DataW.trod_bool d h;simp_all[DataW.trod_step,DataW.trodStep]
   .rename_i d;obtain⟨s,rfl,rfl,hw⟩:=DataW.trod_string d h;simp_all[DataW.trod_step,DataW.trodStep]
   .rename_i e d;simp only[qBa]at j;have A:0<P.cellsOf e:=Nat.le_of_ble_eq_true j.2.1;rcases DataW.trod_slice d h with⟨rfl,rfl⟩ |⟨a,len,cap,elems,R,m,J,rfl,rfl,hb,K,O,hel,B,hrest,_⟩
    .simp_all[DataW.trod_step,DataW.trodStep]
    .cases J;obtain⟨hrl,hrg⟩:=hrest rfl;rw[DataW.trod_step]at h ⊢;unfold DataW.trodStep at h ⊢;rw[d]at h ⊢;simp only[hb,K,O,and_self,if_true,Option.bind_eq_some_iff,Option.map_eq_some_iff]at h ⊢;obtain⟨el,he,D,hr,hd⟩:=h;have V:∀y∈el++D,∀p∈y.2,sp p.block=true:=θ
     refine⟨el,mapM_carry he λi y hi u q=>?_,D,?_,hd⟩
     .grind[Option.bind_eq_some_iff]
     .split
      .refine mapM_carry hr λi y hi u q=>?_;grind[Option.bind_eq_some_iff]
      .rename_i G;by_cases U:D=[]
       .rw[U]
       .exfalso;refine G (I (.cell a.block a.off) ?_);rw[<-(Prod.mk.inj hd).2];refine List.mem_append.2 (.inl (MemPlace.mem_row.2 ⟨0,?_,σ⟩));have:0<D.length:=List.length_pos_iff.2 U;exact Nat.mul_pos ω A
   .rename_i W d;simp only[qBa]at j;obtain⟨xs,m,J,rfl,L,Z,B⟩:=DataW.trod_struct d h;cases J;have h':(if cs.length=P.cellsOf t then(W.toList.mapM λf=>DataW.trod enc P w base (λ_=>true) held c f.type ((cs.drop f.offset).take (P.cellsOf f.type))).map λxs=>((.agg (xs.map (·.1)):DataW H),xs.flatMap (·.2))else none)=some (.agg (xs.map (·.1)),xs.flatMap (·.2)):=by rw[<-h,DataW.trod_step];unfold DataW.trodStep;rw[d]
    rw[DataW.trod_step];unfold DataW.trodStep;rw[d];show(if cs.length=P.cellsOf t then(W.toList.mapM λf=>DataW.trod enc P w base sp held c f.type ((cs.drop f.offset).take (P.cellsOf f.type))).map λxs=>((.agg (xs.map (·.1)):DataW H),xs.flatMap (·.2))else none)=_;rw[if_pos L]at h' ⊢;simp only[Option.map_eq_some_iff]at h' ⊢;obtain⟨ys,u,hd⟩:=h';have N:∀(l:List Field) (o:Nat),kF.go P n o l=true->∀f∈l,kF P n f.type=true:=by
     intro l;induction l with
     |nil=>intro o _ f q;simp at q
     |cons g r Y=>intro o hg f q;simp only[kF.go,qBa]at hg;grind
    refine⟨ys,mapM_carry u λf y q E Q=>S n f.type _ y Q (N _ _ j.1 f q) λp hp=>I p ?_,hd⟩;grind
   .rename_i m e d;simp only[qBa]at j;have h':(if cs.length=P.cellsOf t then((List.range m).mapM λi=>DataW.trod enc P w base (λ_=>true) held c e ((cs.drop (i*P.cellsOf e)).take (P.cellsOf e))).map λxs=>((.agg (xs.map (·.1)):DataW H),xs.flatMap (·.2))else none)=some x:=by simp_all[DataW.trod_step,DataW.trodStep]
    rw[DataW.trod_step];unfold DataW.trodStep;rw[d];show(if cs.length=P.cellsOf t then((List.range m).mapM λi=>DataW.trod enc P w base sp held c e ((cs.drop (i*P.cellsOf e)).take (P.cellsOf e))).map λxs=>((.agg (xs.map (·.1)):DataW H),xs.flatMap (·.2))else none)=_;split at h'
    .rename_i L;rw[if_pos L];simp only[Option.map_eq_some_iff]at h' ⊢;obtain⟨ys,u,hd⟩:=h';refine⟨ys,mapM_carry u λi y hi E Q=>S n e _ y Q j.1 λp hp=>I p ?_,hd⟩;grind
    .cases h'
   .cases j
inductive BN (P:Program) (w:World) (M:Nat->Prop):List TypeId->List Value->List PV->Prop
 |nil:BN P w M [] [] []
 |cons (t:TypeId) (ts:List TypeId) (v:Value) (vs:List Value) (x:PV) (xs:List PV) (h1:VR w M x v) (h2:aA (aU P 8 t).1 (aU P 8 t).2 x=true) (h3:x.wf) (h:BN P w M ts vs xs):BN P w M (t::ts) (v::vs) (x::xs)
theorem afW(O:∀b,b<w.heap.size->M b){d:DataW H}{ps:List MemPlace}(u:kF P 8 t=true)(p:Value.okWide P w .any b0 t v)(h:DataW.Trod enc P w base sp held t v d ps) :
    ∃x,VR w M x v/\aA (aU P 8 t).1 (aU P 8 t).2 x=true/\x.wf:=by
  obtain⟨s,h⟩:=h;obtain⟨qs,k⟩:=adu O s 8 t _ _ h u;obtain⟨R,U,e3⟩:=uZ u k;refine⟨_,?_,R,e3⟩;cases J:(aU P 8 t).1 with
  |true=>
   have G:(∃Q,P.underlying t=some (.struct Q))\/∃m e,P.underlying t=some (.array m e):=by grind[aU]
   have A:∃cs,v=.agg cs:=by grind[Value.okWide]
   obtain⟨cs,rfl⟩:=A;have D:(Value.agg cs).cells.toList=cs.toList:=rfl;rw[D]at k;refine .agg qs cs (by simpa using k.2.1.symm) (λc D=>?_) λi c hi=>?_
   .obtain⟨j,E⟩:=List.mem_iff_getElem?.1 D;have l:=fQ k.1;have B:j<(aU P 8 t).2.length:=by rw[l.1];exact(qLa.1 E).1
    exact iG (l.2 j _ c (qLd B) E)
   .have:=k.2.2.1 i c hi;simp_all
  |false=>
   have I:=Rx u J;have l:=fQ k.1
   match qs,k,l with
   |[q],k,l=>
    have S:q.leaf=true:=by refine iG (l.2 0 ((aU P 8 t).2[0]'ω) q σ rfl)
    have A:v.cells.toList=[v]:=by
     have N:=k.2.1;cases v<;>first |rfl |skip
     rename_i cs;exfalso;unfold Value.okWide at p;split at p
     .grind[aU]
     .grind[aU]
     .rename_i K L;unfold kF at u;simp_all[Value.cells,Cell.okWide,Cell.ok]
    rw[A]at k;simpa[Ah] using k.2.2.1 0 q rfl
   |[],k,l=>have:=l.1;rw[I]at this;simp at this
   |_::_::_,k,l=>have:=l.1;rw[I]at this;simp at this
theorem Hz{w':World}(l:∀b,b<w.heap.size->w'.heap[b]?=w.heap[b]?):∀{ts:List TypeId}{vs:List Value}{k:List (DataW H)}{ps:List MemPlace},DataW.TrodAll enc P w base (λ_=>true) held ts vs k ps->(∀t∈ts,kF P 8 t=true) ->
    DataW.TrodAll enc P w' base (λb=>decide (b<w.heap.size)) held ts vs k ps
  |[],[],[],ps,h,_=>h
  |t::ts,v::vs,d::k,ps,⟨p,q,j,h2,e⟩,ha=>by refine⟨p,q,?_,Hz l h2 (λu m=>ha u (by simp[m])),e⟩;obtain⟨c,j⟩:=j;have i:=DataW.trod_lt _ _ _ _ j;exact⟨c,aay c 8 t _ _ (DataW.trod_carry c t _ _ j λp hp=>adv l (i p hp)) (ha t σ) λp hp=>by simpa using i p hp⟩
theorem UQ{b0:Nat}(l:∀b,b<w.heap.size->M b):∀{ts:List TypeId}{vs:List Value}{m:List (DataW H)}{ps:List MemPlace},DataW.TrodAll enc P w base sp held ts vs m ps->(∀t∈ts,kF P 8 t=true)->(∀(j:Nat) t v,ts[j]?=some t->vs[j]?=some v->Value.okWide P w .any b0 t v) ->
    ∃xs,BN P w M ts vs xs
  |[],[],[],ps,_,_,_=>⟨[],.nil⟩
  |t::ts,v::vs,d::m,ps,⟨p,q,k,i,e⟩,ha,hv=>by obtain⟨xs,c⟩:=UQ l i (λu s=>ha u (by simp[s])) λj t v k i=>hv (j+1) t v (by simpa using k) (by simpa using i);obtain⟨x,B,A,e3⟩:=afW l (ha t σ) (hv 0 t v rfl rfl) k;exact⟨x::xs,.cons t ts v vs x xs B A e3 c⟩
theorem BN.length{ts:List TypeId}{vs:List Value}{xs:List PV}(h:BN P w M ts vs xs):xs.length=vs.length:=by
 induction h with
 |nil=>rfl
 |cons _ _ _ _ _ _ _ _ _ _ c=>simp[c]
theorem BN.get{ts:List TypeId}{vs:List Value}{xs:List PV}(h:BN P w M ts vs xs):∀(i:Nat) (x:PV),xs[i]?=some x->∃v,vs[i]?=some v/\VR w M x v:=by
 induction h with
 |nil=>intro i x h;simp at h
 |cons t ts v vs x xs j e d h c=>grind
theorem adw(ok:bJ P T){X:Ext}{gl:Option (List (Nat × Obj))}(hX:rO P T gl X){f:Nat}{fi:FI}(hf:aX T.funcs f=some fi){fn:Func}(L:fi.fn=fn){tb:TypeId}(d:fn.resultTypes=#[tb])(S:fi.cfg.rets=[])
    (I:P.underlying tb=some .bool){s:ChangeSpec}(hvars:s.vars=[]){W:World}{args:Array Value}{G gs:List (DataW H)}{before:List MemPlace} 
    (m:∀(j:Nat) t v,fn.params[j]?=some t->args[j]?=some v->Value.okWide P W .any b0 t v)(Y:DataW.Whole enc P fn.params.toList s.vars false W args.toList G gs before)
    (B:fn.params.toList.all (kF P 8)=true)(J:s.fn H G={results:=[.lit (.bool true)],args:=G})
    (K:∀p∈gl.getD [],p.1<W.heap.size/\W.heap[p.1]?=some p.2)(u:∀xs,BN P W (λb=>b<W.heap.size) fn.params.toList args.toList xs->run T X f (xs.map .p) []=some ([.p (.bool true)],[])) :
    Calls P f args W λe W'=>∃v,e=.returned v/\s.post enc P fn false true false false W args v W':=by
  subst L;have Q:=Y;obtain⟨p,q,hA,Z,V,hz,hn⟩:=Y;have k:∀t∈fi.fn.params.toList,kF P 8 t=true:=λt ht=>List.all_eq_true.1 B t ht;rw[hvars]at Z;cases gs with
  |cons g gr=>exact Z.elim
  |nil=>
   obtain⟨xs,l⟩:=UQ (M:=λb=>b<W.heap.size) (λ_ h=>h) hA k (base:=0) (λj t v E D=>by exact m j t v (by simpa using E) (by simpa using D));have R:=(KT ok hX).plain f fi (xs.map .p) [] _ [] hf σ (u xs l);have A:ni W (λb=>b<W.heap.size) (λ_=>none) (xs.map .p) [] args:=by refine⟨by simp[l.length],λi v hi=>?_,λi b0 hi=>by simp at hi,λi b o hi=>by simp at hi,λi j b o o' hi=>by simp at hi,λb O=>O⟩;simp only[List.getElem?_map,Option.map_eq_some_iff]at hi;obtain⟨x,hx,rfl⟩:=hi;obtain⟨v,E,D⟩:=l.get i x hx;rw[qAb,<-Array.getElem?_toList,E];exact .p _ _ D
   refine Calls.mono (R.2 W _ _ args K A) λe W' hpost=>?_;obtain⟨cs,ps,M',rfl,post⟩:=hpost;have hkeep:∀b,b<W.heap.size->W'.heap[b]?=W.heap[b]?:=λb O=>post.keep b O λi o hi=>by simp at hi
   have U:=post.res;rw[d,S]at U;have N:cs=[.bool true]:=by
    cases U with
    |cons _ _ _ _ _ c cs' p ps' E D _=>
     cases D;cases E with
     |deep _ x _ _ hv=>cases hv;rfl
   subst N;refine⟨.bool true,rfl,G,[],before,[],p,[],Q,?_,?_,?_,?_,λh=>by cases h⟩
   .rw[List.append_nil,J,d];exact⟨[],[],⟨1,by simp[DataW.trod,Value.cells,I]⟩,rfl,rfl⟩
   .rw[List.append_nil,J];exact Hz hkeep hA k
   .rw[List.append_nil,J,hvars];rfl
   .refine⟨post.os,post.output,λi hi=>?_⟩;grind
end
def WJ(P:Program):List (Nat × TI)->Prop
 |[]=>True
 |(t,i)::r=>mG P t=some i/\WJ P r
structure aS (P:Program) (T:Tab) (f:Nat) (fi:FI):Prop where
 fn:P.funcs[f]?=some fi.fn
 name : (fi.fn.name == "runtime.NumGoroutine") = false
 draws:(match fi.fn.body with | some c=>iP T fi.hides c | none=>true)=true
 flat:(fi.cfg.MZ||(fi.cfg.shares||pG T fi.cfg.rets fi.fn.resultTypes.toList))=true
 nvars:Nat.ble fi.cfg.nvars 100000=true
def WL(P:Program)(T:Tab):List (Nat × FI)->Prop
 |[]=>True
 |(f,i)::r=>aS P T f i/\WL P T r
theorem NR{P:Program}:∀{l:List (Nat × TI)}{t:Nat}{i:TI},WJ P l->aX l t=some i->mG P t=some i
 |[],t,i,_,h=>by simp[aX]at h
 |(k,x)::r,t,i,hk,h=>by
  simp only[aX]at h;cases c:k==t with
  |true=>
   rw[c]at h;have e:k=t:=by simpa using c
   subst e;cases h;exact hk.1
  |false=>rw[c]at h;exact NR hk.2 h
theorem Fp{P:Program}{T:Tab}:∀{l:List (Nat × FI)}{f:Nat}{i:FI},WL P T l->aX l f=some i->aS P T f i
 |[],f,i,_,h=>by simp[aX]at h
 |(k,x)::r,f,i,hk,h=>by
  simp only[aX]at h;cases c:k==f with
  |true=>
   rw[c]at h;have e:k=f:=by simpa using c
   subst e;cases h;exact hk.1
  |false=>rw[c]at h;exact Fp hk.2 h
def U5(P:Program)(T:Tab):Prop:=∀f fi,aX T.funcs f=some fi->fi.cfg.xK.is=true->(fi.cfg.xK.calc=false->∃c,fi.fn.body=some c)/\Po P T.glob f fi.cfg.Iq fi.cfg.Na fi.cfg.xK
theorem afY{P:Program}(j:WJ P T.types)(d:WL P T T.funcs)(e:P.follows .mixedOrders=true)(h4:U5 P T):bJ P T:=by
 refine⟨λt i h=>NR j h,λf fi h=>?_,e,λf fi h=>Nat.le_of_ble_eq_true (Fp d h).nvars,h4⟩;have g:=Fp d h;refine⟨g.fn,g.name,λc l=>?_,λm k=>?_⟩
 .have:=g.draws;grind
 .have:=g.flat
  grind
end
section
variable {α:Type}
theorem wrap_eq{x:Int}(e:-9223372036854775808<=x)(d:x<=9223372036854775807):IntKind.i64.wrap x=x:=by
 have:∀y:Int,y=x%2^64->(if(true&&decide (y >= 2^(64-1)))=true then y-2^64 else y)=x:=by
  intro y c;by_cases h:y >= 2^(64-1)
  .rw[if_pos (by simpa using h)];omega
  .rw[if_neg (by simpa using h)];omega
 exact this _ rfl
theorem aO(p:Prop)[Decidable p](a b:α):cond (decide p) a b=if p then a else b:=by by_cases h:p<;>simp[h]
theorem rQ(x y:Int)(a b:α):cond (x==y) a b=if x=y then a else b:=by
 by_cases h:x=y
 .simp[h]
 .have:(x==y)=false:=by simpa using h
  simp[h,this]
theorem xM(x y:Int)(a b:α):cond (x != y) a b=if x=y then b else a:=by
 by_cases h:x=y
 .simp[h]
 .have:(x != y)=true:=by simpa using h
  simp[h,this]
theorem dH(p q:Bool)(a b:α):cond (p&&q) a b=cond p (cond q a b) b:=by cases p<;>rfl
theorem jL(p:Bool)(a b:α):cond (!p) a b=cond p b a:=by cases p<;>rfl
@[simp] theorem toInt_int(k:IntKind)(n:Int):(PV.int k n).toInt=n:=rfl
@[simp] theorem aJ(b:Bool):(PV.bool b).toBool=b:=rfl
@[simp] theorem kU(s:ByteArray):(PV.str s).toStr=s:=rfl
@[simp] theorem uH(a:Bool)(ks:List Kd)(xs:List PV):(PV.list a ks xs).toList=xs:=rfl
@[simp] theorem fK(v:PV):(AV.p v).pv=v:=rfl
@[simp] theorem bK(a:Bool)(ks:List Kd)(xs:List PV):(AV.fresh a ks xs).au=xs:=rfl
@[simp] theorem CJ(s z o l:Nat):(AV.slice s z o l).Xh=o:=rfl
@[simp] theorem CO(s z o l:Nat):(AV.slice s z o l).sLen=l:=rfl
@[simp] theorem Vh(a:Bool)(ks:List Kd)(xs:List PV):(aH.arr a ks xs).xs=xs:=rfl
@[simp] theorem xQ(cs:List PV)(j:Nat):(PV.agg cs).cell j=cs.getD j .nil:=rfl
@[simp] theorem akO(a:Bool)(ks:List Kd)(xs:List PV)(j:Nat):(PV.list a ks xs).cell j=.list a ks xs:=rfl
@[simp] theorem pq(k:IntKind)(n:Int)(j:Nat):(PV.int k n).cell j=.int k n:=rfl
structure V3 where
 x:Int
 y:Int
 z:Int
 deriving DecidableEq
namespace V3
theorem ext'{a b:V3}(e:a.x=b.x)(d:a.y=b.y)(c:a.z=b.z):a=b:=by cases a;cases b;simp at e d c;simp[e,d,c]
instance:Inhabited V3:=⟨⟨0,0,0⟩⟩
end V3
abbrev kV:List Kd:=[.int .i64,.int .i64,.int .i64]
def aQ(v:V3):PV:=.agg [.int .i64 v.x,.int .i64 v.y,.int .i64 v.z]
def dw(l:List V3):List PV:=l.map aQ
def encI(l:List Int):List PV:=l.map λn=>.int .i64 n
@[simp] theorem bI(l:List V3):(dw l).length=l.length:=by simp[dw]
@[simp] theorem uG(l:List Int):(encI l).length=l.length:=by simp[encI]
@[simp] theorem amB:dw []=[]:=rfl
theorem Kz(l:List V3)(i:Nat):(dw l)[i]?=(l[i]?).map aQ:=by simp[dw]
theorem Md(l:List V3){i:Nat}(h:i<l.length):(dw l).getD i .nil=aQ (l.getD i default):=by rw[qLb,qLb,Kz];simp[h]
@[simp] theorem arw(l:List V3)(i:Nat):(((dw l).getD i .nil).cell 0).toInt=(l.getD i default).x:=by
 by_cases h:i<l.length
 .rw[Md l h];rfl
 .have d:(dw l).getD i .nil=.nil:=by rw[qLb,Kz];simp[h]
  have c:l.getD i default=default:=by rw[qLb];simp[h]
  rw[d,c];rfl
@[simp] theorem arx(l:List V3)(i:Nat):(((dw l).getD i .nil).cell 1).toInt=(l.getD i default).y:=by
 by_cases h:i<l.length
 .rw[Md l h];rfl
 .have d:(dw l).getD i .nil=.nil:=by rw[qLb,Kz];simp[h]
  have c:l.getD i default=default:=by rw[qLb];simp[h]
  rw[d,c];rfl
@[simp] theorem arz(l:List V3)(i:Nat):(((dw l).getD i .nil).cell 2).toInt=(l.getD i default).z:=by
 by_cases h:i<l.length
 .rw[Md l h];rfl
 .have d:(dw l).getD i .nil=.nil:=by rw[qLb,Kz];simp[h]
  have c:l.getD i default=default:=by rw[qLb];simp[h]
  rw[d,c];rfl
theorem MP(l m:List V3):dw l++dw m=dw (l++m):=by simp[dw]
def V3.ok(v:V3):Prop:=(-9223372036854775808<=v.x/\v.x<=9223372036854775807)/\(-9223372036854775808<=v.y/\v.y<=9223372036854775807)/\(-9223372036854775808<=v.z/\v.z<=9223372036854775807)
theorem wf_i64{n:Int}:(PV.int .i64 n).wf↔-9223372036854775808<=n/\n<=9223372036854775807:=by simp[PV.wf,Lit.wf,IntKind.min,IntKind.max,IntKind.bits,IntKind.signed]
theorem ajW{x:PV}(h:aA true kV x=true)(d:x.wf):∃v:V3,x=aQ v/\v.ok:=by
 cases x<;>simp only[aA,Bool.false_eq_true]at h;rename_i cs
 match cs,h,d with
 |[a,b,c],h,d=>simp only[bn,Bool.and_true,qBa]at h;obtain⟨j,i,e⟩:=h;cases a<;>simp[kindOk]at j;cases b<;>simp[kindOk]at i;cases c<;>simp[kindOk]at e;subst j i e;rename_i p q r;simp only[PV.wf,PV.wfs,and_true]at d;exact⟨⟨p,q,r⟩,rfl,wf_i64.1 d.1,wf_i64.1 d.2.1,wf_i64.1 d.2.2⟩
 |[],h,_=>simp[bn]at h
 |[_],h,_=>simp[bn]at h
 |[_,_],h,_=>simp[bn]at h
 |_::_::_::_::_,h,_=>simp[bn]at h
theorem aaM:∀{xs:List PV},(∀x∈xs,aA true kV x=true)->PV.wfs xs->∃l:List V3,xs=dw l/\∀v∈l,v.ok
 |[],_,_=>⟨[],rfl,σ⟩
 |x::xs,h,hw=>by
  obtain⟨v,rfl,i⟩:=ajW (h x σ) hw.1;obtain⟨l,rfl,e⟩:=aaM (λy d=>h y (by simp[d])) hw.2;exact⟨v::l,rfl,λu c=>by 
   rcases List.mem_cons.1 c with rfl |c
   .exact i
   .exact e u c⟩
section
variable {P:Program}{w:World}{M:Nat->Prop}
end
end
end Go.Skm
