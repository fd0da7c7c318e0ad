import Derived.Test.YtoheflpoanjihaaGreatSkmB
import Derived.OrdersIn
import Derived.TacticsIn
import Derived.OwnWalkIn
import Derived.LoopNIn
import Derived.Scope
set_option linter.all false
namespace Go.Skm
section
variable {d n s:Nat}{P:Program}{f:FuncId}{args:Array Value}{w:World}{R:Ending->World->Prop}{rd:Option Nat}{xs:List AV}{cs:List Value}{ss:List Nat}{fi:FI}
def FW(rd:Option Nat):Fence:={Fence.wide with round:=rd}
theorem FW_depth(rd:Option Nat):(FW rd).depth.isSome=true->1<=n:=λh=>by simp[FW,Fence.wide]at h
theorem callsIn_fw(rd:Option Nat)(h:Calls P f args w R):CallsIn (FW rd) n P f args w R:=
 (callsIn_wide (n:=n)).2 h
theorem calls_of_fw(h:CallsIn (FW rd) n P f args w R):Calls P f args w R:=
 (callsIn_wide (n:=n)).1 h
theorem wpIn_exec{o:Oper}{a:Act}{K:Act->World->Prop}{Q:Exit->Act->World->Prop}(l:∀ c,o.op≠.defer c)
    (h:o.uponIn (FW rd) n P a K Q ((execOp a.eval o).run P w)):o.wpIn (FW rd) n P a w K Q:=
  ⟨λ_ _=>trivial,by rw[Oper.semAt_plain (FW rd) a.eval o l];exact h⟩
structure OpSim (P:Program) (w0:Base) (Pr M0:Nat->Prop) (β:Nat->Option (Nat × Nat)) (st:St) (a:Act) (w:World) (o:Oper) (D:DT):Prop where
 sim:(∀ c,o.op≠.defer c)->∀ (α:Type) (k:Eff->Option α) (r:α),D.run k=some r->∀ (rd:Option Nat) (n:Nat) Q,Oper.wpIn (FW rd) n P o a w (λa' w'=>(∃ c,a'=a.put o.dst c)/\∃ e M' β',k e=some r/\DrawnLe w0.gl w.drawn w'.drawn/\(frzOk (e.new++e.frz)=true ->
  Rel w0 Pr M0 M' β' (st.apply o.dst e) a' w'/\(∀ s,argSite<=s->β' s=β s)/\ArgsLike st.heap (st.apply o.dst e).heap)) Q
section
variable {P:Program} {T:Tab} {w0:Base} {Pr M0 M:Nat->Prop} {β:Nat->Option (Nat × Nat)} {st:St} {a:Act} {w:World} {o:Oper}
theorem run_callD{α:Type}{c:Option (List AV × List Blk)}{f:List AV × List Blk->DT}{k:Eff->Option α}{r:α}(h:(DT.call c f).run k=some r):∃ x,c=some x/\(f x).run k=some r:=by
 cases c with
 | none=>simp[DT.run]at h
 | some x=>exact⟨x,rfl,by simpa[DT.run] using h⟩
theorem StSim.op{D:DT}(h:StSim P w0 Pr M0 β st a w o.dst D (execOp a.eval o)):OpSim P w0 Pr M0 β st a w o D:=by
 refine⟨λl α k r p rd n Q=>?_⟩;obtain⟨e,nv,c,w',M',β',h1,h2,q,h4⟩:=h.sim α k r p;refine wpIn_exec l ?_;have hd:DrawnLe w0.gl w.drawn w'.drawn:=λ_=>run_drawn _ h2;rw[h2];rcases q with rfl |⟨rfl,rfl⟩
 . exact⟨⟨_,rfl⟩,e,M',β',h1,hd,h4⟩
 . exact⟨⟨_,rfl⟩,e,M',β',h1,hd,h4⟩
theorem keysOf_mem{s:Nat}:∀{l:List NewB},s∈keysOf (chgOf l)↔∃ x∈l,x.1=s
 |[]=>by simp[chgOf,keysOf]
 |(k,b,p)::r=>by have q:=keysOf_mem (s:=s) (l:=r);simp only[chgOf,List.map_cons,keysOf,List.mem_cons]at q ⊢;grind
theorem wrap_ok{h:Nat->Option Blk}(l:xs.length=cs.length)(p:∀(k:Nat) (v:AV),xs[k]?=some v->∃ c,cs[k]?=some c/\AR w M β h v c):AR w M β h (wrapRes xs) (wrapV cs):=by
 match xs,cs,l,p with
 |[v],[c],_,p =>obtain⟨r,h1,h2⟩:=p 0 v rfl;simp at h1;subst h1;exact h2
 |[],[],_,_=>exact .tup [] #[] rfl λi c q=>by simp at q
 | x::y::xs,c::d::cs,l,p =>refine .tup _ _ (by simp at l;simp[l]) λi v q=>?_;obtain⟨r,h1,h2⟩:=p i v q;simp_all
 |[],_::_,l,_=>simp at l
 | _::_,[],l,_=>simp at l
 |[_],_::_::_,l,_=>simp at l
 | _::_::_,[_],l,_=>simp at l
theorem Rel.results(r:Rel w0 Pr M0 M β st a w){q:Nat->Option (Nat × Nat)}{S:Nat->Option Blk}{O:List RetMode}{ts:List TypeId}{J:List AV}{N:List (Option (Nat × Nat))}
    {G:List (Nat × Blk)}(hr:ResL T w M q S O ts J cs N)(hv:resVals T d ss 0 O ts J=some (xs,G))(hfree:∀ s∈keysOf G,look st.heap s=none)
    (u:∀ b o,some (b,o)∈N->¬ M b/\b<w.heap.size/\((w0.heap.size<=b\/Pr b)/\w0.n0<=b)/\∀ s' o',(look st.heap s').isSome=true->β s'≠some (b,o'))
    (B:∀ j s blk,ss[j]?=some s->S (argSite+j)=some blk->look st.heap s=some blk/\β s=q (argSite+j)) :
    ∃ β',Rel w0 Pr M0 M β' {env:=Skm.setEnv st.env (some d) (wrapRes xs),heap:=putAll st.heap G} (a.put (some d) (wrapV cs)) w/\∀ s,s ∉ keysOf G->β' s=β s:=by
  obtain⟨l,rfl,q2,H,Z,Y,X,W,V⟩:=resVals_ok hr hv;have A:∀ x∈l,look st.heap x.1=none:=λx p=>hfree x.1 (keysOf_mem.2 ⟨x,p,rfl⟩);have U:=Rel.lays l r H A Z (λx p b o e=>u b o (Y x p b o e)) X;refine⟨overlay β l,U.setEnv (some d) (wrap_ok W (V _ _ (λx p=>⟨putAll_in H p,overlay_in H p⟩) λj s blk h1 h2=>?_)),λs hs=>overlay_out λx p e=>hs (keysOf_mem.2 ⟨x,p,e⟩)⟩;obtain⟨I,g2⟩:=B j s blk h1 h2;have z:∀ x∈l,x.1≠s:=λx p e=>by rw[<- e,A x p]at I;cases I
  exact⟨(putAll_out z).trans I,(overlay_out z).trans g2⟩
theorem enter_run(ok:TabOk P T){f:Nat}(l:tlook T.funcs f=some fi)(q:∃ c,fi.fn.body=some c)(args:Array Value):(callFunc f args).run P w=.ok (.enter f args) w:=by obtain⟨h1,h2,_⟩:=ok.funcs f fi l;obtain⟨c,p⟩:=q;unfold callFunc;simp only[Sem.run_bind,program,Sem.run,qRa,h1,h2,p,Option.isNone_some,Bool.false_eq_true,if_false,Sem.run_pure]
theorem strike_env_ok(st:St)(d:Option Nat)(v:AV)(p:List (Nat × Blk))(l fz:List Nat):st.apply d {val:=v,chg:=p,new:=l,frz:=fz} =
    {env:=Skm.setEnv (st.strike (present st.heap l++fz)).env d v,heap:=putAll (st.strike (present st.heap l++fz)).heap p}:=rfl
theorem struck_none{l fz:List Nat}(q:s∈l):look (st.strike (present st.heap l++fz)).heap s=none:=by
 rw[look_strike];by_cases p:s∈present st.heap l++fz
 . grind
 . rw[if_neg p];cases hd:look st.heap s with
   | none=>rfl
   | some x=>exact absurd (List.mem_append.2 (.inl (present_mem q (by rw[hd];rfl)))) p
theorem struck_live(h:(look (st.strike ss).heap s).isSome=true):s ∉ ss/\(look st.heap s).isSome=true:=by grind[look_strike]
theorem normPV_ok{sh:Bool × List Kd}{x:PV}{M:Nat->Prop}{c:Value}(h:VR w M x c):VR w M (normPV sh x) c:=by
 unfold normPV;split
 . cases h;exact .listE _ _ none 0
 . exact h
theorem normArgs_length:∀(ts:List TypeId) (vs:List PV),(normArgs T ts vs).length=vs.length
 |[],vs=>by simp[normArgs]
 | t::ts,[]=>rfl
 | t::ts,v::vs=>by simp[normArgs,normArgs_length ts vs]
theorem normArgs_get:∀(ts:List TypeId) (vs:List PV) (i:Nat) (v:AV),(normArgs T ts vs)[i]?=some v->∃ x,vs[i]?=some x/\∀(M:Nat->Prop) (β:Nat->Option (Nat × Nat)) (h:Nat->Option Blk) (c:Value),VR w M x c->AR w M β h v c
 |[],vs,i,v,h=>by simp only[normArgs,List.getElem?_map,Option.map_eq_some_iff]at h;obtain⟨x,q,rfl⟩:=h;exact⟨x,q,λM β h c l=>.p _ _ l⟩
 | t::ts,[],i,v,h=>by simp[normArgs]at h
 | t::ts,x::vs,0,v,h=>by simp only[normArgs,List.getElem?_cons_zero,qOa]at h;subst h;exact⟨x,rfl,λM β h c l=>.p _ _ (normPV_ok l)⟩
 | t::ts,x::vs,i+1,v,h=>by simp only[normArgs,List.getElem?_cons_succ]at h;simpa using normArgs_get ts vs i v h
theorem sim_callV(ok:TabOk P T){C:CallF}(hC:CallOk P T w0.gl C)(r:Rel w0 Pr M0 M β st a w){h':Nat->Option Blk}(I:∀ s b,h' s=some b->look st.heap s=some b){f:Nat}{args:List AV}{cargs:Array Value}
    (hd:o.dst=some d)(X:tlook T.funcs f=some fi)(hm:fi.cfg.byRef=false)(hargs:ListR w M β (look st.heap) args cargs.toList)(he:(execOp a.eval o).run P w=(callFunc f cargs).run P w) :
    OpSim P w0 Pr M0 β st a w o (stepCall0 T C h' o.dst f args):=by
  rw[hd];simp only[stepCall0,X,hm];cases Y:deeps h' args with
  | none=>exact⟨λ_ _ _ _ A=>by simp[DT.run]at A⟩
  | some q =>
   obtain⟨vs,ss⟩:=q;refine⟨λW α k res A rd n Q=>?_⟩;obtain⟨⟨U,bl'⟩,hcall,A⟩:=run_callD A;obtain⟨hbody,hcalls⟩:=hC.plain f fi _ [] U bl' X (by simp) hcall;obtain⟨d1,d2,d3⟩:=deeps_ok (λs b h=>r.heap s b (I s b h)) I Y hargs;cases B:resVals T d [] 0 fi.cfg.rets fi.fn.resultTypes.toList U with
   | none=>rw[B]at A;simp[DT.run]at A
   | some xb =>
    obtain⟨xs,S⟩:=xb;rw[B]at A;simp only[DT.run]at A;refine wpIn_exec W ?_;rw[he,enter_run ok X hbody,Oper.uponIn_enter];refine⟨FW_depth rd,callsIn_fw rd ?_⟩;have O:CallPre w (Mplus M β ss) β (normArgs T fi.fn.params.toList vs) [] cargs:=by
     refine⟨by simp[d1,normArgs_length],λi v G=>?_,λi b0 G=>by simp at G,λi b o G=>by simp at G,λi j b o o' G=>by simp at G,λb z=>?_⟩
     . obtain⟨x,hx,hv⟩:=normArgs_get (T:=T) (w:=w) _ _ i v G;have hlt:i<cargs.toList.length:=by rw[<- d1];exact(qLa.1 hx).1
       have hc:cargs.toList[i]?=some (cargs.getD i undef):=by simp_all
       grind
     . rcases z with z |⟨s,o,N,z⟩
       . exact r.msub b z
       . exact(r.own s b o (d3 s N) z).2.1
    refine Calls.mono (hcalls w _ β cargs (λp hp=>⟨.inl (r.glob p hp).1,(r.glob p hp).2⟩) O) λe w' hpost=>?_;obtain⟨cs,ps,M',rfl,u⟩:=hpost;have hkeep:∀ b,b<w.heap.size->w'.heap[b]?=w.heap[b]?:=λb z=>u.keep b z λi o G=>by simp at G
    refine⟨⟨_,rfl⟩,?_⟩;show ∃ e M' β',_
    obtain ⟨M'',hM1,hM2,hM3,Z⟩:∃ M'':Nat->Prop,(∀ b,Mplus M β (cond fi.cfg.shares ss []) b->M'' b)/\(∀ b,M'' b->Mplus M β (cond fi.cfg.shares ss []) b\/(w.heap.size<=b/\b<w'.heap.size))/\(∀ b,M'' b->M' b) /\
        ResL T w' M'' β (look (initHeap 0 bl')) fi.cfg.rets fi.fn.resultTypes.toList U cs ps:=by
      cases N:fi.cfg.shares with
      | true=>exact⟨M',λb z=>u.msub b z,λb z=>(u.mnew b z).imp id λh=>⟨h,u.mlt b z⟩,λ_ h=>h,u.res⟩
      | false =>
       obtain⟨M2,k1,k2⟩:=u.res2 hm N;refine⟨λb=>Mplus M β [] b\/M2 b,λ_ h=>.inl h,λb h=>h.imp id λh=>⟨(k1 b h).2,u.mlt b (k1 b h).1⟩,λb z=>?_,k2.mono λ_ h=>.inr h⟩;rcases z with (z |⟨s,o,N,_⟩) | z
       . exact u.msub b (.inl z)
       all_goals grind
    refine⟨{val:=wrapRes xs,chg:=S,new:=keysOf S,frz:=cond fi.cfg.shares ss []},M'',?_⟩;by_cases H:frzOk (keysOf S++cond fi.cfg.shares ss [])=true
    . have r1:=r.freeze (present st.heap (keysOf S)) (cond fi.cfg.shares ss []) (frzOk_append H).2 (by grind)
      have r2:Rel w0 Pr M0 M'' β (st.strike (present st.heap (keysOf S)++cond fi.cfg.shares ss [])) a w':=
       r1.world u.size u.os u.tape u.output (λb z _=>hkeep b z) (λb n _ z _ hr=>hr.of_block (hkeep b z)) hM1 hM2
      obtain⟨β',r3,J⟩:=r2.results (d:=d) Z B (λs N=>struck_none N) (λb o z=>by obtain⟨g1,g2,g3⟩:=u.own b o z;refine⟨λh=>g1 (hM3 b h),g2,⟨.inl (by have:=r.size;omega),by have:=r.size;have:=w0.le';omega⟩,λs' o' V J=>?_⟩;have:=(r1.own s' b o' V J).2.1;omega) (λj s blk hj=>by simp at hj);refine⟨β',A,u.drawn,λ_=>⟨?_,λs N=>J s λA=>?_,argsLike_apply λk b hkb=>.inl ?_⟩⟩
      . rw[hd];exact r3
      . have:=frzOk_lt (frzOk_append H).1 s A;omega
      . refine frzOk_lt (frzOk_append H).1 k ?_;have:∀(l:List (Nat × Blk)),(k,b)∈l->k∈keysOf l:=by
         intro l;induction l with
         | nil=>intro h;simp at h
         | cons x r ih=>grind[keysOf]
        grind
    . exact⟨β,A,u.drawn,λh=>absurd h H⟩
end
end
section
variable {ss:List Nat}{β':Nat->Option (Nat × Nat)}{h h':Nat->Option Blk}{s s':Nat}{blk:Blk}
section
variable {P:Program} {T:Tab} {w0:Base} {Pr M0 M:Nat->Prop} {β:Nat->Option (Nat × Nat)} {st:St} {a:Act} {w:World} {o:Oper}
theorem addN_nodup(h:ss.Nodup)(s:Nat):(addN ss s).Nodup:=by
 unfold addN;cases l:memN s ss with
 | true=>exact h
 | false =>simp only[qCf];have:=memN_false.1 l;grind
mutual
theorem sites_nodup:∀(v:AV) (acc:List Nat),acc.Nodup->(AV.sites acc v).Nodup
 | .slice s _ _ _,_acc,h | .bslice s _ _,_acc,h | .ptr s _ _,_acc,h=>addN_nodup h s
 | .fn _ cs,acc,h | .agg cs,acc,h | .tup cs,acc,h=>sitesAll_nodup cs acc h
 | .undef,_acc,h | .p _,_acc,h | .lptr _ _ _ _,_acc,h | .fresh _ _ _,_acc,h | .yld,_acc,h=>h
theorem sitesAll_nodup:∀(l:List AV) (acc:List Nat),acc.Nodup->(AV.sitesAll acc l).Nodup
 |[],_acc,h=>h
 | v::r,acc,h=>sitesAll_nodup r _ (sites_nodup v acc h)
end
theorem idxOf_ok{s:Nat}:∀{l:List Nat} {i j:Nat},idxOf s l i=some j->∃ n,j=i+n/\l[n]?=some s
 |[],i,j,h=>by simp[idxOf]at h
 | x::r,i,j,h=>by
  simp only[idxOf]at h;cases p:x==s with
  | true=>simp_all
  | false =>rw[p]at h;obtain⟨n,h1,h2⟩:=idxOf_ok h;exact⟨n+1,by omega,by simpa using h2⟩
theorem argBlks_ok{h:Nat->Option Blk}:∀{ss:List Nat} {bl:List Blk},argBlks h ss=some bl->bl.length=ss.length/\∀(i s:Nat),ss[i]?=some s->∃ b,bl[i]?=some b/\h s=some b/\pureBlk b=true
 |[],bl,hb=>by grind[argBlks]
 | x::r,bl,hb=>by
  simp only[argBlks]at hb;split at hb
  . rename_i b q h1 h2;cases hp:pureBlk b with
    | false=>rw[hp]at hb;cases hb
    | true =>rw[hp]at hb;simp at hb;subst hb;obtain⟨p,l⟩:=argBlks_ok h2;grind
  . cases hb
theorem toArgs_ok{ss:List Nat}:∀{args l:List AV},toArgs ss args=some l->l.length=args.length/\∀(i:Nat) (v:AV),l[i]?=some v->∃ u,args[i]?=some u/\toArg ss u=some v
 |[],l,h=>by grind[toArgs]
 | u::r,l,h=>by
  simp only[toArgs]at h;split at h
  . rename_i x xs h1 h2;cases h;obtain⟨q,p⟩:=toArgs_ok h2;grind
  . cases h
def argPlace(β:Nat->Option (Nat × Nat))(ss:List Nat)(x:Nat):Option (Nat × Nat):=if argSite<=x then(ss[x-argSite]?).bind β else none
theorem argPlace_at(i:Nat):argPlace β ss (argSite+i)=(ss[i]?).bind β:=by simp[argPlace]
theorem AR.ptr_move{M':Nat->Prop}{i off:Nat}{c:Value}(z:AR w M β h (.ptr s i off) c)(l:h s=some blk)(u:h' s'=some blk)(r:β' s'=β s):AR w M' β' h' (.ptr s' i off) c:=by
 cases z with
 | ptrB _ _ cs b o p q=>rw[p]at l;cases l;exact .ptrB s' off cs b o u (r.trans q)
 | ptrA _ _ _ a ks xs b o p A q=>rw[p]at l;cases l;exact .ptrA s' i off a ks xs b o u A (r.trans q)
theorem BR.pure_move(O:BR w M β h s blk)(hp:pureBlk blk=true)(e:β' s'=β s):BR w M β' h' s' blk:=by
 cases O with
 | arrE=>exact .arrE _ _
 | log=>exact .log _ _
 | arr _ _ _ b o C J fr I H G B A z=>exact .arr _ _ _ b o C J fr (e.trans I) H G B A z
 | box cs b o C J fr I H G B A z =>
  refine .box cs b o C J fr (e.trans I) H G B A λj c r=>?_;simp only[pureBlk,Option.isSome_iff_exists]at hp;obtain⟨vs,hp⟩:=hp;have q:=pures_ok hp;subst q;have l:=z j c r;simp only[List.getElem?_map,Option.map_eq_some_iff]at r;obtain⟨x,_,rfl⟩:=r;generalize C.getD (o+j) undef=u at l;cases l with
  | p _ _ N=>exact .p _ _ N
theorem backCells_eq:∀(cs ds l:List AV) (n:Nat),backCellsOk cs ds=true->(∀(i:Nat) (d:AV),ds[i]?=some d->l.getD (n+i) .undef=d)->backBlk.backCells cs l n=ds
 |[],[],_,_,_,_=>rfl
 |[],_::_,_,_,h,_=>by simp[backCellsOk]at h
 | _::_,[],_,_,h,_=>by simp[backCellsOk]at h
 | c::cs,d::ds,l,n,h,hg=>by
  simp only[backCellsOk,qBa]at h;have u:l.getD n .undef=d:=by simpa using hg 0 d rfl
  have r:=backCells_eq cs ds l (n+1) h.2 λi x q=>by have:=hg (i+1) x (by simpa using q);grind
  have h1:=h.1;unfold backBlk.backCells;split<;>rename_i p<;>first |(cases p;done) | skip
  all_goals (try (simp only[List.cons.injEq]at p;obtain⟨rfl,rfl⟩:=p))
  all_goals rw[r,u]
  all_goals (try (cases d<;>simp[backCell]at h1))
  all_goals (try (rename_i v;cases v<;>simp at h1))
  all_goals (try subst h1)
  all_goals simp[AV.pv,PV.toInt,PV.toBool,PV.toStr,PV.toList]
  all_goals exact⟨h1.1,Kd.beqs_eq _ _ h1.2⟩
theorem backBlk_eq{b0 b1:Blk}(h:backOk b0 b1=true):backBlk b0 b1=b1:=by
 cases b0 with
 | log on ys=>rfl
 | arr a ks xs =>
  cases b1 with
  | box=>simp[backOk]at h
  | log=>simp[backOk]at h
  | arr b ls ys =>simp only[backOk,qBa,beq_iff_eq]at h;obtain⟨rfl,h2⟩:=h;have:=Kd.beqs_eq _ _ h2;subst this;rfl
 | box cs =>
  cases b1 with
  | arr=>simp[backOk]at h
  | log=>simp[backOk]at h
  | box ds =>simp only[backBlk,Blk.cs,Blk.box.injEq];exact backCells_eq cs ds ds 0 h λi d l=>by simp[List.getD,l]
end
section
variable {P:Program} {T:Tab} {w0:Base} {Pr M0 M:Nat->Prop} {β:Nat->Option (Nat × Nat)} {st:St} {a:Act} {w:World} {o:Oper}
theorem nodup_get:∀{ss:List Nat} {i j s:Nat},ss.Nodup->ss[i]?=some s->ss[j]?=some s->i=j
 |[],i,j,s,_,h,_=>by simp at h
 | x::r,0,0,s,_,_,_=>rfl
 | x::r,0,j+1,s,h,hi,hj=>by grind
 | x::r,i+1,0,s,h,hi,hj=>by grind
 | x::r,i+1,j+1,s,h,hi,hj=>by simp at hi hj;rw[nodup_get (List.nodup_cons.1 h).2 hi hj]
theorem noneApart_mem{ss:List Nat}:∀{l:List Nat},noneApart ss l=true->∀ x∈l,x ∉ ss
 |[],_,x,p=>by simp at p
 | y::r,h,x,p=>by
  simp only[noneApart,qBa,qBb]at h;rcases List.mem_cons.1 p with rfl | p
  . exact memN_false.1 h.1
  . exact noneApart_mem h.2 x p
theorem putAll_append:∀(p l:List (Nat × Blk)) (hp:Heap),putAll hp (p++l)=putAll (putAll hp p) l
 |[],_l2,_hp=>rfl
 |(s,b)::r,l,hp=>putAll_append r l (put hp s b)
theorem back_look:∀{ss:List Nat} {bl bl':List Blk} {hp:Heap},ss.Nodup->bl.length=ss.length->bl'.length=bl.length ->
    (∀ s,s ∉ ss->look (putAll hp (backBlks ss bl bl')) s=look hp s)/\(∀(i s:Nat) (b0 b1:Blk),ss[i]?=some s->bl[i]?=some b0->bl'[i]?=some b1->look (putAll hp (backBlks ss bl bl')) s=some (backBlk b0 b1))
  |[],bl,bl',hp,_,_,_=>by simp[backBlks,putAll]
  | x::r,[],bl',hp,_,h,_=>by simp at h
  | x::r,b::bl,[],hp,_,_,h=>by simp at h
  | x::r,b::bl,c::bl',hp,hd,h1,h2=>by
   rw[List.nodup_cons]at hd;have q:=back_look (ss:=r) (bl:=bl) (bl':=bl') (hp:=put hp x (backBlk b c)) hd.2 (by simpa using h1) (by simpa using h2);have e:backBlks (x::r) (b::bl) (c::bl')=(x,backBlk b c)::backBlks r bl bl':=rfl;rw[e];refine⟨λs u=>?_,λi s b0 b1 l p h4=>?_⟩
   . simp only[List.mem_cons,not_or]at u;show look (putAll (put hp x (backBlk b c)) (backBlks r bl bl')) s=_;grind[look_put]
   . cases i with
     | zero =>simp at l p h4;subst l p h4;show look (putAll (put hp x (backBlk b c)) (backBlks r bl bl')) x=_;grind[look_put]
     | succ i=>simp at l p h4;exact q.2 i s b0 b1 l p h4
theorem backBlks_mem:∀{ss:List Nat} {bl bl':List Blk} {k:Nat} {b:Blk},bl.length=ss.length->bl'.length=bl.length->(k,b)∈backBlks ss bl bl'->∃(i:Nat) (b0 b1:Blk),ss[i]?=some k/\bl[i]?=some b0/\bl'[i]?=some b1/\b=backBlk b0 b1
 |[],bl,bl',k,b,_,_,h=>by simp[backBlks]at h
 | x::r,[],bl',k,b,h,_,_=>by simp at h
 | x::r,c::bl,[],k,b,_,h,_=>by simp at h
 | x::r,c::bl,d::bl',k,b,h1,h2,h=>by
  have e:backBlks (x::r) (c::bl) (d::bl')=(x,backBlk c d)::backBlks r bl bl':=rfl;rw[e]at h;rcases List.mem_cons.1 h with h | h
  . cases h;exact⟨0,c,d,rfl,rfl,rfl,rfl⟩
  . obtain⟨i,b0,b1,u,q,p,l⟩:=backBlks_mem (by simpa using h1) (by simpa using h2) h;exact⟨i+1,b0,b1,by simpa using u,by simpa using q,by simpa using p,l⟩
theorem sim_callR(ok:TabOk P T){C:CallF}(hC:CallOk P T w0.gl C)(r:Rel w0 Pr M0 M β st a w)(hsub:∀ s b,h' s=some b->look st.heap s=some b){d f:Nat}{fi:FI}{args:List AV}{cargs:Array Value}
    (hd:o.dst=some d)(hf:tlook T.funcs f=some fi)(Y:fi.cfg.byRef=true)(hargs:ListR w M β (look st.heap) args cargs.toList)(he:(execOp a.eval o).run P w=(callFunc f cargs).run P w) :
    OpSim P w0 Pr M0 β st a w o (stepCall0 T C h' o.dst f args):=by
  rw[hd];simp only[stepCall0,hf,Y];have hnd:(AV.sitesAll [] args).Nodup:=sitesAll_nodup args [] List.nodup_nil;generalize AV.sitesAll [] args=ss at hnd;cases hta:toArgs ss args with
  | none=>exact⟨λ_ _ _ _ I=>by simp[DT.run]at I⟩
  | some as_ =>
   cases hab:argBlks h' ss with
   | none=>exact⟨λ_ _ _ _ I=>by simp[DT.run]at I⟩
   | some bl =>
    refine⟨λhnd' α k res I rd nd Q=>?_⟩;obtain⟨⟨rs,bl'⟩,hcall,I⟩:=run_callD I;obtain⟨b1,b2⟩:=argBlks_ok hab;obtain⟨hbody,hcalls⟩:=hC.plain f fi _ bl rs bl' hf (λb O=>by
     obtain⟨i,G⟩:=List.mem_iff_getElem?.1 O;have V:i<ss.length:=by rw[<- b1];exact(qLa.1 G).1
     obtain⟨b',h1,_,h2⟩:=b2 i ss[i] (by simp);grind) hcall
    obtain⟨t1,t2⟩:=toArgs_ok hta;cases U:resVals T d ss 0 fi.cfg.rets fi.fn.resultTypes.toList rs with
    | none=>rw[U]at I;simp[DT.run]at I
    | some xb =>
     obtain⟨xs,X⟩:=xb;rw[U]at I;obtain⟨hna,I⟩:=run_chk I;simp only[DT.run]at I;refine wpIn_exec hnd' ?_;rw[he,enter_run ok hf hbody,Oper.uponIn_enter];refine⟨FW_depth rd,callsIn_fw rd ?_⟩;have blk_at:∀(i:Nat) (b0:Blk),bl[i]?=some b0->∃ s,ss[i]?=some s/\look st.heap s=some b0/\pureBlk b0=true:=by grind
     have site_at:∀(i s:Nat),ss[i]?=some s->∃ b0,bl[i]?=some b0/\look st.heap s=some b0/\pureBlk b0=true:=by grind
     have place:∀(i s:Nat),ss[i]?=some s->argPlace β ss (argSite+i)=β s:=by grind[argPlace_at]
     have arg1:∀(u v:AV) (c:Value),toArg ss u=some v->AR w M β (look st.heap) u c->AR w M (argPlace β ss) (look (initHeap 0 bl)) v c:=by
      intro u v c N hc;unfold toArg at N;split at N
      . cases N;cases hc with
        | p _ _ hv=>exact .p _ _ hv
      . rename_i s z off len;cases G:idxOf s ss 0 with
        | none=>rw[G]at N;cases N
        | some i =>
         rw[G]at N;simp at N;subst N;obtain⟨n,hn,H⟩:=idxOf_ok G;obtain rfl:i=n:=by omega
         obtain⟨b0,A,B,J⟩:=site_at i s H;exact hc.slice_move B (by rw[look_init0];exact A) (place i s H)
      . rename_i s idx off;cases G:idxOf s ss 0 with
        | none=>rw[G]at N;cases N
        | some i =>
         rw[G]at N;simp at N;subst N;obtain⟨n,hn,H⟩:=idxOf_ok G;obtain rfl:i=n:=by omega
         obtain⟨b0,A,B,J⟩:=site_at i s H;exact hc.ptr_move B (by rw[look_init0];exact A) (place i s H)
      . cases N
     have hpre:CallPre w M (argPlace β ss) as_ bl cargs:=by
      refine⟨?_,λi v G=>?_,λi b0 G=>?_,λi b o G h=>?_,λi j b o o' G hj h1 h2=>?_,r.msub⟩
      . have:=hargs.1;grind
      . obtain⟨u,A,B⟩:=t2 i v G;have V:i<cargs.toList.length:=by rw[<- hargs.1];exact(qLa.1 A).1
        have hc:cargs.toList[i]?=some (cargs.getD i undef):=by simp_all
        exact arg1 u v _ B (hargs.2 i u _ A hc)
      . obtain⟨s,A,B,J⟩:=blk_at i b0 G;exact(r.heap s b0 B).pure_move J (place i s A)
      . have V:i<ss.length:=by omega
        rw[place i ss[i] (by simp)]at h;obtain⟨b0,A,B,J⟩:=site_at i ss[i] (by simp);have:=r.own ss[i] b o (by rw[B];rfl) h;grind
      . have hli:i<ss.length:=by omega
        have hlj:j<ss.length:=by omega
        rw[place i ss[i] (by simp)]at h1;rw[place j ss[j] (by simp)]at h2;obtain⟨b0,A,B,J⟩:=site_at i ss[i] (by simp);obtain⟨b0',g1',g2',g3'⟩:=site_at j ss[j] (by simp);have:=r.inj ss[i] ss[j] b o o' (by rw[B];rfl) (by rw[g2'];rfl) h1 h2;exact nodup_get (s:=ss[j]) hnd (by rw[<- this];simp) (by simp)
     refine Calls.mono (hcalls w _ _ cargs r.glob hpre) λe w' hpost=>?_;obtain⟨cs,ps,M',rfl,q⟩:=hpost;refine⟨⟨_,rfl⟩,?_⟩;show ∃ e M' β',_;refine⟨{val:=wrapRes xs,chg:=backBlks ss bl bl'++X,new:=keysOf X},M',?_⟩;by_cases hfz:frzOk (keysOf X++[])=true
     . have Z:frzOk (keysOf X)=true:=(frzOk_append hfz).1;have r1:Rel w0 Pr M0 M β (st.strike (present st.heap (keysOf X))) a w:=r.strike _ (λb h=>h) λb h=>.inl h;generalize S:st.strike (present st.heap (keysOf X))=st1 at r1;have hst1s:∀(i s:Nat) (b0:Blk),ss[i]?=some s->bl[i]?=some b0->look st1.heap s=some b0:=by
        intro i s b0 G O;obtain⟨b,A,B,J⟩:=site_at i s G;rw[O]at A;cases A;rw[<- S,look_strike,if_neg,B]
        . show some (b0.kill _)=some b0;congr 1;cases b0 with
          | arr=>rfl
          | log=>rfl
          | box cs =>
           simp only[pureBlk,Option.isSome_iff_exists]at J;obtain⟨vs,hp⟩:=J;have hcs:=pures_ok hp;subst hcs;simp only[Blk.kill,Blk.box.injEq];apply List.ext_getElem?;intro n;rw[killEnv_get];cases hx:(vs.map AV.p)[n]? with
           | none=>rfl
           | some v =>simp only[List.getElem?_map,Option.map_eq_some_iff]at hx;obtain⟨x,_,rfl⟩:=hx;rfl
        . intro Y;exact noneApart_mem hna s (present_sub Y).1 (qLe G)
       have W:=back_look (ss:=ss) (bl:=bl) (bl':=bl') (hp:=st1.heap) hnd b1 q.len;have idx_of:∀ s,s∈ss->∃(i:Nat) (b0 b1:Blk),ss[i]?=some s/\bl[i]?=some b0/\bl'[i]?=some b1:=by intro s H;obtain⟨i,G⟩:=List.mem_iff_getElem?.1 H;grind[q.len]
       have r2:Rel w0 Pr M0 M' β {st1 with heap:=putAll st1.heap (backBlks ss bl bl')} a w':=by
        refine r1.moved q.size q.os q.tape q.output (λb O Y=>q.keep b O λi o G h=>?_) (λb n O _ hr=>q.room b n O hr) q.msub (λb h=>?_) (λs H=>?_) (λs blk H=>?_)
        . have V:i<ss.length:=by omega
          rw[place i ss[i] (by simp)]at h;obtain⟨b0,A,B,J⟩:=site_at i ss[i] (by simp);obtain⟨o1,o2,o3⟩:=r.own ss[i] b o (by rw[B];rfl) h;grind
        . rcases q.mnew b h with h1 | h1
          . exact .inl h1
          . exact .inr ⟨h1,q.mlt b h⟩
        . grind
        . by_cases Y:s∈ss
          . obtain⟨i,b0,b1,A,B,J⟩:=idx_of s Y;have:=hst1s i s b0 A B;rw[this]at H;cases H;obtain⟨k1,k2,k3,k4⟩:=q.blk i blk b1 B J;refine⟨b1,by rw[W.2 i s blk b1 A B J,backBlk_eq k3],.inr ⟨k2,k1.pure_move k4 (place i s A).symm⟩⟩
          . refine⟨blk,by rw[W.1 s Y];exact H,.inl ⟨rfl,λb o h=>?_⟩⟩;have hl:(look st1.heap s).isSome=true:=by rw[H];rfl
            refine q.keep b (r1.own s b o hl h).2.1 λi o' G h'=>?_;have V:i<ss.length:=by omega
            rw[place i ss[i] (by simp)]at h';obtain⟨b0,A,B,J⟩:=site_at i ss[i] (by simp);have:=r1.inj s ss[i] b o o' hl (by rw[hst1s i ss[i] b0 (by simp) A];rfl) h h';grind
       obtain⟨β',r3,hβ⟩:=r2.results (d:=d) q.res U (λs H=>by
        show look (putAll st1.heap (backBlks ss bl bl')) s=none;rw[W.1 s (noneApart_mem hna s H),<- S];exact by simpa using struck_none (st:=st) (fz:=[]) H) (λb o O=>by
        obtain⟨A,B,J⟩:=q.own b o O;refine⟨A,B,⟨.inl (by have:=r.size;omega),by have:=r.size;have:=w0.le';omega⟩,λs' o' hs' hβ=>?_⟩;have hs'':(look st1.heap s').isSome=true:=by
         by_cases Y:s'∈ss
         . grind
         grind
        have:=(r1.own s' b o' hs'' hβ).2.1;omega) (λj s blk hj O=>by
        rw[look_init0]at O;obtain⟨b0,A,B,J⟩:=site_at j s hj;refine⟨?_,(place j s hj).symm⟩;show look (putAll st1.heap (backBlks ss bl bl')) s=_;rw[W.2 j s b0 blk hj A O,backBlk_eq (q.blk j b0 blk A O).2.2.1])
       refine⟨β',I,q.drawn,λ_=>⟨?_,λs H=>hβ s λI=>?_,argsLike_apply λk b hkb=>?_⟩⟩
       . rw[hd];have e:st.apply (some d) {val:=wrapRes xs,chg:=backBlks ss bl bl'++X,new:=keysOf X}={env:=Skm.setEnv st1.env (some d) (wrapRes xs),heap:=putAll (putAll st1.heap (backBlks ss bl bl')) X}:=by simp[putAll_append,S,St.apply,St.kill]
         grind
       . have:=frzOk_lt Z s I;omega
       . rcases List.mem_append.1 hkb with h | h
         . obtain⟨i,b0,b1',k1,k2,k3,rfl⟩:=backBlks_mem b1 q.len h;obtain⟨b,A,B,J⟩:=site_at i k k1;rw[k2]at A;cases A;obtain⟨q1,q2,q3,q4⟩:=q.blk i b0 b1' k2 k3;exact .inr ⟨b0,B,by rw[backBlk_eq q3];exact q2⟩
         . refine .inl (frzOk_lt Z k ?_);have:∀(l:List (Nat × Blk)),(k,b)∈l->k∈keysOf l:=by
            intro l;induction l with
            | nil=>intro h;simp at h
            | cons x r ih=>grind[keysOf]
           grind
     . exact⟨β,I,q.drawn,λh=>absurd h hfz⟩
end
end
section
variable {M':Nat -> Prop}{h h':Nat->Option Blk}{pre:List AV}{f s:Nat}{sa:Bool}{ks:List Kd}{xs:List PV}{C:CallF}{cargs:Array Value}
section
variable {P:Program} {T:Tab} {w0:Base} {Pr M0 M:Nat->Prop} {β:Nat->Option (Nat × Nat)} {st:St} {a:Act} {w:World} {o:Oper}
theorem Rel.more(r:Rel w0 Pr M0 M β st a w)(h1:∀ b,M b->M' b)
    (h2:∀ b,M' b->M b\/(b<w.heap.size/\(w0.n0<=b/\(w0.heap.size<=b\/Pr b))/\∀ s o,(look st.heap s).isSome=true->β s≠some (b,o))):Rel w0 Pr M0 M' β st a w:=by
  have J:∀ b,M b->M' b/\w.heap[b]?=w.heap[b]?:=λb h=>⟨h1 b h,rfl⟩;have l:∀(v:AV) (c:Value),AR w M β (look st.heap) v c->AR w M' β (look st.heap) v c:=λv c h =>h.mono J λs blk _ q=>⟨blk,q,Like.refl _,rfl,λ_ _ _ _ h=>h⟩;refine⟨r.tsize,λt v h=>l _ _ (r.env t v h),λs blk q=>?_,λs b o q O=>?_,r.inj,λb h=>?_,λb h=>?_,λb h=>h1 b (r.mold b h),r.keep,r.room,r.size,r.os,r.tape,r.output,λp hp=>⟨h1 _ (r.glob p hp).1,(r.glob p hp).2⟩⟩
  . cases r.heap s blk q with
    | box cs b o C e fr A z u I H G=>exact .box _ b o C e fr A z u I H λj c B=>l _ _ (G j c B)
    | arrE a ks=>exact .arrE a ks
    | log on ys=>exact .log on ys
    | arr a ks xs b o C e fr A z u I H G=>exact .arr a ks xs b o C e fr A z u I H λi x j c N B=>(G i x j c N B).mono J
  . obtain⟨A,z,u⟩:=r.own s b o q O;grind
  . rcases h2 b h with h |⟨h,_⟩
    . exact r.msub b h
    . exact h
  . rcases h2 b h with h |⟨_,h,_⟩
    . exact r.mnew b h
    grind
theorem look_var{b0 b1:Blk}(s:Nat):look (varHeap [b0,b1]) s=if s=argSite then some b0 else if s=99999 then some b1 else none:=by simp only[varHeap,look];grind
theorem varSite_ne:(99999:Nat)≠argSite:=by decide
theorem unsnoc_app{β:Type}:∀{l:List β} {r:List β} {x:β},unsnoc l=some (r,x)->l=r++[x]
 |[],r,x,h=>by cases h
 |[y],r,x,h=>by simp[unsnoc]at h;obtain⟨rfl,rfl⟩:=h;rfl
 | y::z::l,r,x,h=>by
  simp only[unsnoc]at h;split at h
  . rename_i q p e;simp only[qOa,Prod.mk.injEq]at h;obtain⟨rfl,rfl⟩:=h;rw[unsnoc_app e];rfl
  . cases h
theorem listR_last{v:AV}{cs:List Value}(l:ListR w M β h (pre++[v]) cs):AR w M β h v (cs.getD pre.length undef)/\∀(i:Nat) (x:AV) (c:Value),pre[i]?=some x->cs[i]?=some c->AR w M β h x c:=by
 have r:cs.length=pre.length+1:=by have:=l.1;simp at this;omega
 refine⟨?_,λi x c q p=>l.2 i x c (by rw[List.getElem?_append_left (qLa.1 q).1];exact q) p⟩;have p:cs[pre.length]?=some (cs.getD pre.length undef):=by grind
 exact l.2 pre.length v _ (by simp) p
theorem BR.arr_mono{w:World}{M:Nat->Prop}{β β':Nat->Option (Nat × Nat)}{s':Nat}(p:∀ b,M b->M' b)(l:BR w M β h s (.arr sa ks xs))(e:β' s'=β s):BR w M' β' h' s' (.arr sa ks xs):=by
 cases l with
 | arrE=>exact .arrE _ _
 | arr _ _ _ b o C G fr B A z u r q=>exact .arr _ _ _ b o C G fr (e.trans B) A z u r λi x j c h1 h2=>(q i x j c h1 h2).mono λb h=>⟨p b h,rfl⟩
theorem sim_varGo(ok:TabOk P T)(hC:CallOk P T w0.gl C)(r:Rel w0 Pr M0 M β st a w)(hsub:∀ s b,h' s=some b->look st.heap s=some b){d:Nat}{fi:FI} 
    {A z:Nat}{off len:Nat} 
    (hd:o.dst=some d)(hf:tlook T.funcs f=some fi)(hvc:fi.cfg.vcall=true)(hargs:ListR w M β (look st.heap) (pre++[.ptr s 0 0]) cargs.toList)(he:(execOp a.eval o).run P w=(callFunc f cargs).run P w)
    (hs:look st.heap s=some (.box [.slice A z off len]))(hA:look st.heap A=some (.arr sa ks xs)) :
    OpSim P w0 Pr M0 β st a w o (varGo T C h' d f fi pre s A sa ks off len xs):=by
  unfold varGo;cases hdp:deeps h' pre with
  | none=>exact⟨λ_ _ _ _ Y=>by simp[DT.run]at Y⟩
  | some q =>
  obtain⟨vs,ss⟩:=q;simp only;cases hchk:(Nat.blt s 100000&&(Nat.blt A 100000&&!(A==s)))&&(!(memN s ss)&&!(memN A ss))with
  | false=>exact⟨λ_ _ _ _ Y=>by simp[DT.run]at Y⟩
  | true =>
  simp only[qBa,qBb,Nat.blt_eq]at hchk;obtain⟨⟨hs1,hA1,hAs⟩,hss,N⟩:=hchk;have hAs:A≠s:=by simpa using hAs
  have hss:s ∉ ss:=memN_false.1 hss;have N:A ∉ ss:=memN_false.1 N;have hsA:s≠A:=λe=>hAs e.symm;simp only[qCt];refine⟨λhnd α k res Y rd n Q=>?_⟩;obtain⟨⟨rs,bl'⟩,hcall,Y⟩:=run_callD Y;obtain⟨hbody,hcalls⟩:=hC.var f fi _ _ _ _ _ _ _ rs bl' hf hvc hcall;obtain⟨hptr,hpre0⟩:=listR_last hargs;have hnum:cargs.size=pre.length+1:=by have:=hargs.1;simp at this;omega
  have hargs0:ListR w M β (look st.heap) pre (cargs.toList.take pre.length):=by refine⟨by simp;omega,λi x c hi hc=>?_⟩;grind
  obtain⟨d1,d2,d3⟩:=deeps_ok (λs b h=>r.heap s b (hsub s b h)) hsub hdp hargs0;have d1:vs.length=pre.length:=by rw[d1];simp;omega
  cases hres:resVals T d [] 0 fi.cfg.rets fi.fn.resultTypes.toList rs with
  | none=>rw[hres]at Y;simp[DT.run]at Y
  | some xb =>
  obtain⟨rv,bs⟩:=xb;rw[hres]at Y;cases bs with
  | cons x y=>simp[DT.run]at Y
  | nil =>
  simp only[DT.run]at Y;refine wpIn_exec hnd ?_;rw[he,enter_run ok hf hbody,Oper.uponIn_enter];refine⟨FW_depth rd,callsIn_fw rd ?_⟩;have his:(look st.heap s).isSome=true:=by rw[hs];rfl
  have Z:(look st.heap A).isSome=true:=by rw[hA];rfl
  let βc:Nat->Option (Nat × Nat):=λx=>if x=argSite then β s else if x=99999 then β A else none
  have bc0:βc argSite=β s:=by simp[βc]
  have S:βc 99999=β A:=by simp[βc,varSite_ne]
  have hlv:=λx=>look_var (b0:=.box [.slice 99999 ks.length off len]) (b1:=.arr sa ks xs) x;have hl0:=hlv argSite;rw[if_pos rfl]at hl0;have hl1:=hlv 99999;rw[if_neg varSite_ne,if_pos rfl]at hl1;have live:∀ x,(look (varHeap [.box [.slice 99999 ks.length off len],.arr sa ks xs]) x).isSome=true->x=argSite\/x=99999:=by
   intro x l;rw[hlv x]at l;by_cases h1:x=argSite
   . exact .inl h1
   . rw[if_neg h1]at l;by_cases h2:x=99999
     . exact .inr h2
     . rw[if_neg h2]at l;cases l
  have hup:∀ b,M b->Mplus M β ss b:=λb h=>.inl h;have hnss:∀ x b o,(look st.heap x).isSome=true->β x=some (b,o)->x ∉ ss->¬ Mplus M β ss b:=by
   intro x b o l B hn hm;rcases hm with hm |⟨s',J,hs',W⟩
   . exact(r.own x b o l B).1 hm
   . exact hn (by rw[r.inj x s' b o J l (d3 s' hs') B W];exact hs')
  have hpre:VarPre w (Mplus M β ss) βc (normArgs T fi.fn.params.toList vs++[.ptr argSite 0 0]) [.box [.slice 99999 ks.length off len],.arr sa ks xs] cargs:=by
   have V:(normArgs T fi.fn.params.toList vs).length=pre.length:=by simp[d1,normArgs_length]
   refine⟨by simp[V,hnum],λi x hi=>?_,λx b l=>?_,λx b o l B=>?_,λx y b o J l hy B W=>?_,λb B=>?_⟩
   . by_cases hi':i<pre.length
     . rw[List.getElem?_append_left (by rw[V];exact hi')]at hi;obtain⟨y,hy,hv⟩:=normArgs_get (T:=T) (w:=w) _ _ i x hi;have hc:(cargs.toList.take pre.length)[i]?=some (cargs.getD i undef):=by
        rw[List.getElem?_take,if_pos hi',qLd (by simp;omega)];have:i<cargs.size:=by omega
        simp[this]
       exact hv _ _ _ _ (d2 i y _ hy hc)
     . have e:i=pre.length:=by have:=(qLa.1 hi).1;simp[V]at this;omega
       subst e;rw[List.getElem?_append_right (by rw[V];exact qNr _),V,Nat.sub_self]at hi;simp at hi;subst hi;have e:cargs.getD pre.length undef=cargs.toList.getD pre.length undef:=by simp
       rw[e];generalize cargs.toList.getD pre.length undef=u at hptr;cases hptr with
       | ptrB _ _ cs b o h1 B=>exact .ptrB argSite 0 _ b o hl0 (bc0.trans B)
       | ptrA _ _ _ a ks xs b o h1 hi B=>rw[hs]at h1;cases h1
   . rcases live x (by rw[l];rfl)with rfl | rfl
     . rw[hl0]at l;cases l;cases r.heap s _ hs with
       | box _ b o C e fr g1 g2 g3 O g5 g6 =>
        refine .box _ b o C e fr (bc0.trans g1) g2 g3 O (λc hc=>by simp at hc;subst hc;rfl) λj c hj=>?_;cases j with
        | succ j=>simp at hj
        | zero =>
         simp at hj;subst hj;have hv:=g6 0 _ rfl;have hz:z=ks.length:=by
          generalize C.getD (o+0) undef=u at hv;cases hv with
          | slice _ _ _ a' ks' xs' b' J cap h1 hl B hcap hr=>rw[hA]at h1;cases h1;rfl
          | sliceE _ _ a' ks' xs' base h1 hl=>rw[hA]at h1;cases h1;rfl
         subst hz;exact hv.slice_move hA hl1 S
     . rw[hl1]at l;cases l;exact(r.heap A _ hA).arr_mono hup S
   . rcases live x l with rfl | rfl
     . rw[bc0]at B;exact⟨hnss s b o his B hss,(r.own s b o his B).2.1⟩
     . rw[S]at B;exact⟨hnss A b o Z B N,(r.own A b o Z B).2.1⟩
   . rcases live x l with rfl | rfl<;>rcases live y hy with rfl | rfl
     . rfl
     . rw[bc0]at B;rw[S]at W;exact absurd (r.inj s A b o J his Z B W) hsA
     . rw[S]at B;rw[bc0]at W;exact absurd (r.inj s A b J o his Z W B) hsA
     . rfl
   . rcases B with B |⟨s',o,hs',B⟩
     . exact r.msub b B
     . exact(r.own s' b o (d3 s' hs') B).2.1
  refine Calls.mono (hcalls w _ βc cargs (λp hp=>⟨.inl (r.glob p hp).1,(r.glob p hp).2⟩) hpre) λe w' hpost=>?_;obtain⟨cs,M',rfl,G⟩:=hpost;refine⟨⟨_,rfl⟩,?_⟩;show ∃ e M' β',_;obtain⟨H,I,ys,bb,bo,Cb,eb,fb,p,rfl,q1,q2,q3,q4,q5,q6,q7,q8⟩:=G.back;rw[bc0]at q1;have hkeep:∀ b,b<w.heap.size->b≠bb->(∀ o,β A≠some (b,o))->w'.heap[b]?=w.heap[b]?:=λb B h1 h2 =>G.keep b B (λo h=>by rw[bc0,q1]at h;cases h;exact h1 rfl) λo h=>by rw[S]at h;exact h2 o h
  obtain⟨ob1,ob2,ob3,ob4⟩:=r.own s bb bo his q1;have hargS:argSite=100000:=rfl;have hnb:w0.n0<=bb:=by rcases ob4 with h | h<;>omega
  have hnA:∀ b o,β A=some (b,o)->¬ M b/\b<w.heap.size/\(w0.heap.size<=b\/Pr b)/\w0.n0<=b:=by intro b o h;obtain⟨g1,g2,g3,O⟩:=r.own A b o Z h;exact⟨g1,g2,g3,by rcases O with h | h<;>omega⟩
  have hvar:varXs [Blk.box [.slice 99999 ks.length H I],.arr sa ks ys]=ys:=rfl;have hvV:varV [Blk.box [.slice 99999 ks.length H I],.arr sa ks ys]=.slice 99999 ks.length H I:=rfl;rw[hvar,hvV]at Y;simp only[AV.sOff,AV.sLen]at Y;obtain⟨β1,hh1,ps,hresL,hps⟩:=G.res;by_cases hfz:¬ frzOk ss=true
  . exact⟨_,M',β,Y,G.drawn,λh=>absurd h hfz⟩
  have hfz:frzOk ss=true:=Classical.not_not.1 hfz;have r1:Rel w0 Pr M0 (Mplus M β ss) β (st.strike ss) a w:=r.freeze [] ss hfz d3;have hst1:∀ x,look (st.strike ss).heap x=if x∈ss then none else(look st.heap x).map (Blk.kill ss):=λx=>look_strike _ x
  have hs1':look (st.strike ss).heap s=some (.box [.slice A z off len]):=by rw[hst1,if_neg hss,hs];show some (Blk.box [AV.kill ss (.slice A z off len)])=_;simp[AV.kill,AV.refers,memN_false.2 N]
  have hA1':look (st.strike ss).heap A=some (.arr sa ks xs):=by rw[hst1,if_neg N,hA];rfl
  have hlive1:∀ x,(look (st.strike ss).heap x).isSome=true->(look st.heap x).isSome=true:=λx l=>(struck_live l).2;generalize hst1e:st.strike ss=st1 at r1 hs1' hA1' hlive1;have hpo:∀ b o,p=some (b,o)->¬ M' b/\b<w'.heap.size/\((w0.heap.size<=b\/Pr b)/\(w0.n0<=b\/argSite<=A))/\b≠bb:=by
   intro b o hp;obtain⟨g1,g2,g3,O⟩:=q8 b o hp;refine⟨g1,g2,?_,g3⟩;rcases O with O |⟨J,O⟩
   . exact⟨.inl (by have:=r.size;omega),.inl (by have:=r.size;have:=w0.le';omega)⟩
   . rw[S]at O;obtain⟨_,_,k3,k4⟩:=hnA b J O;exact⟨k3,.inl k4⟩
  have hpl:∀ b o,p=some (b,o)->∀ x J,x≠A->(look st1.heap x).isSome=true->β x≠some (b,J):=by
   intro b o hp x J l hl B;obtain⟨_,_,_,O⟩:=q8 b o hp;rcases O with O |⟨o'',O⟩
   . have:=(r1.own x b J hl B).2.1;omega
   . rw[S]at O;exact l (r.inj x A b J o'' (hlive1 x hl) Z B O)
  have hkM:∀ b,b<w.heap.size->(Mplus M β ss b\/(b<w0.heap.size/\¬ Pr b))->w'.heap[b]?=w.heap[b]?:=by
   intro b B hm;refine hkeep b B (λe=>?_) λo h=>?_
   . subst e;rcases hm with hm |⟨h1,h2⟩
     . exact hnss s b bo his q1 hss hm
     . rcases ob3 with h | h
       . omega
       . exact h2 h
   . obtain⟨g1,g2,g3,O⟩:=hnA b o h;rcases hm with hm |⟨h1,h2⟩
     . exact hnss A b o Z h N hm
     . rcases g3 with h | h
       . omega
       . exact h2 h
  have hput:∀(hp:Heap) (x:Nat),look (putAll hp [(A,.arr sa ks ys),(s,.box [.slice A ks.length H I])]) x=if x=s then some (.box [.slice A ks.length H I])else if x=A then some (.arr sa ks ys)else look hp x:=by intro hp x;show look (put (put hp A _) s _) x=_;simp[look_put]
  have hchg:ChgOk st.heap [(A,.arr sa ks ys),(s,.box [.slice A ks.length H I])]:=by intro x b l;simp at l;omega
  have r2:Rel w0 Pr M0 (Mplus M β ss) β (st1.strike [A]) a w:=r1.strike [A] (λ_ h=>h) λ_ h=>.inl h;have U:∀ x,look (st1.strike [A]).heap x=if x=A then none else(look st1.heap x).map (Blk.kill [A]):=λx=>by rw[look_strike];simp
  have X:look (st1.strike [A]).heap s=some (.box [AV.kill [A] (.slice A z off len)]):=by rw[U,if_neg hsA,hs1'];rfl
  have hlive2:∀ x,(look (st1.strike [A]).heap x).isSome=true->x≠A/\(look st1.heap x).isSome=true:=by
   intro x l;rw[U]at l;by_cases e:x=A
   . rw[if_pos e]at l;cases l
   . rw[if_neg e]at l;exact⟨e,by simpa using l⟩
  have hapart:∀ x b o,(look (st1.strike [A]).heap x).isSome=true->β x=some (b,o)->∀ J,β A≠some (b,J):=by intro x b o l B J h;exact(hlive2 x l).1 (r1.inj x A b o J (hlive2 x l).2 (by rw[hA1'];rfl) B h)
  generalize hst2e:st1.strike [A]=st2 at r2 U X hlive2 hapart;have r3:Rel w0 Pr M0 (λb=>M' b/\(Mplus M β ss b\/w.heap.size<=b)) β {st2 with heap:=put st2.heap s (.box [.undef])} a w':=by
   refine r2.movedA G.size G.os G.tape G.output hkM (λb n B h hr=>?_) (λb h=>⟨G.msub b h,.inl h⟩) (λb B=>B.2.imp id λh=>⟨h,G.mlt b B.1⟩) (λx l=>?_) (λx blk l=>?_)
   . rcases h with⟨x,o,blk,h1,h2,h3⟩ |⟨h1,h2⟩
     . by_cases e1:x=s
       . subst e1;rw[X]at h1;cases h1;exact h3.elim
       . refine hr.of_block (hkeep b B (λe=>?_) (hapart x b o (by rw[h1];rfl) h2));subst e;exact e1 (r2.inj x s b o bo (by rw[h1];rfl) (by rw[X];rfl) h2 q1)
     . refine hr.of_block (hkeep b B (λe=>by omega) λJ h=>?_);have:=(hnA b J h).2.2.2;omega
   . have h1:x≠s:=by rintro rfl;rw[X]at l;cases l
     rw[look_put,if_neg h1];exact l
   . rw[look_put];by_cases e1:x=s
     . subst e1;rw[X]at l;cases l;refine⟨_,if_pos rfl,.inr ⟨rfl,?_⟩⟩;refine .box _ bb bo Cb eb fb q1 q3 (by simpa using q4) q5 (λc hc=>by simp at hc;subst hc;rfl) λj c hj=>?_;cases j with
       | succ j=>simp at hj
       | zero=>simp at hj;subst hj;exact .undef _
     . refine⟨blk,by rw[if_neg e1];exact l,.inl ⟨rfl,λb o h=>hkeep b (r2.own x b o (by rw[l];rfl) h).2.1 (λe=>?_) (hapart x b o (by rw[l];rfl) h)⟩⟩;subst e;exact e1 (r2.inj x s b o bo (by rw[l];rfl) (by rw[X];rfl) h q1)
  have hlive3:∀ x,(look (put st2.heap s (.box [.undef])) x).isSome=true->(look st2.heap x).isSome=true:=by
   intro x l;rw[look_put]at l;by_cases e:x=s
   . subst e;rw[X];rfl
   . rw[if_neg e]at l;exact l
  have r4:Rel w0 Pr M0 M' β {st2 with heap:=put st2.heap s (.box [.undef])} a w':=by
   refine r3.more (λb h=>h.1) λb B=>?_;rcases G.mnew b B with h | h |⟨o,h⟩
   . exact .inl ⟨B,.inl h⟩
   . exact .inl ⟨B,.inr h⟩
   . rw[S]at h;obtain⟨g1,g2,g3,O⟩:=hnA b o h;exact .inr ⟨by have:=G.size;omega,⟨O,g3⟩,λx J l W=>hapart x b J (hlive3 x l) W o h⟩
  have hfree:look (put st2.heap s (.box [.undef])) A=none:=by rw[look_put,if_neg hAs,U,if_pos rfl]
  have r5:=r4.lay (s:=A) (blk:=.arr sa ks ys) hfree (p:=p) (λb o hp=>by obtain⟨g1,g2,g3,O⟩:=hpo b o hp;exact⟨g1,g2,g3,λx J l=>hpl b o hp x J (hlive2 x (hlive3 x l)).1 (hlive2 x (hlive3 x l)).2⟩) (q7.arr_mono (λ_ h=>h) (by simp));have r6:Rel w0 Pr M0 M' (λx=>if x=A then p else β x) {st2 with heap:=put (put (put st2.heap s (.box [.undef])) A (.arr sa ks ys)) s (.box [.slice A ks.length H I])} a w':=by
   refine r5.movedA (qNr _) rfl rfl rfl (λ_ _ _=>rfl) (λ_ _ _ _ h=>h) (λ_ h=>h) (λ_ h=>.inl h) (λx l=>?_) (λx blk l=>?_)
   . have h1:x≠s:=by rintro rfl;have l:look (put (put st2.heap x (.box [.undef])) A (.arr sa ks ys)) x=none:=l;rw[look_put,if_neg hsA,look_put,if_pos rfl]at l;cases l
     rw[look_put,if_neg h1];exact l
   . rw[look_put];by_cases e1:x=s
     . subst e1;have l:look (put (put st2.heap x (.box [.undef])) A (.arr sa ks ys)) x=some blk:=l;rw[look_put,if_neg hsA,look_put,if_pos rfl]at l;cases l;refine⟨_,if_pos rfl,.inr ⟨rfl,?_⟩⟩;refine .box _ bb bo Cb eb fb (by simp only[if_neg hsA];exact q1) q3 (by simpa using q4) q5 (λc hc=>by simp at hc;subst hc;rfl) λj c hj=>?_;cases j with
       | succ j=>simp at hj
       | zero =>simp at hj;subst hj;exact q6.slice_move rfl (by rw[look_put,if_neg hAs,look_put,if_pos rfl]) (by simp)
     . exact⟨blk,by rw[if_neg e1];exact l,.inl ⟨rfl,λ_ _ _=>rfl⟩⟩
  obtain⟨β2,r7,hβ⟩:=r6.results (d:=d) hresL hres (λs hs=>by simp[keysOf]at hs) (λb o B=>absurd (hps _ B) (by simp)) (λj s blk hj=>by simp at hj);refine⟨_,M',β2,Y,G.drawn,λ_=>⟨?_,λx l=>(hβ x (by simp[keysOf])).trans (if_neg (by omega)),argsLike_apply hchg⟩⟩;rw[hd];have e:st.apply (some d) {val:=wrapRes rv,chg:=[(A,.arr sa ks ys),(s,.box [.slice A ks.length H I])],cut:=[A],frz:=ss}={env:=Skm.setEnv st2.env (some d) (wrapRes rv),heap:=putAll (killHeap [A] st1.heap) [(A,.arr sa ks ys),(s,.box [.slice A ks.length H I])]}:=by rw[<- hst2e,<- hst1e];rfl
  rw[e];refine Rel.congr (st:={env:=Skm.setEnv st2.env (some d) (wrapRes rv),heap:=put (put (put st2.heap s (.box [.undef])) A (.arr sa ks ys)) s (.box [.slice A ks.length H I])}) r7 λx=>?_;show look (putAll (killHeap [A] st1.heap) _) x=look (put (put (put st2.heap s (.box [.undef])) A (.arr sa ks ys)) s (.box [.slice A ks.length H I])) x;rw[hput,look_put];by_cases e1:x=s
  . rw[if_pos e1,if_pos e1]
  . rw[if_neg e1,if_neg e1,look_put];by_cases e2:x=A
    . rw[if_pos e2,if_pos e2]
    . rw[if_neg e2,if_neg e2,look_put,if_neg e1,look_killHeap,U,if_neg e2]
theorem sim_var(ok:TabOk P T)(N:CallOk P T w0.gl C)(r:Rel w0 Pr M0 M β st a w)(l:∀ s b,h' s=some b->look st.heap s=some b){args:List AV} 
    (q:(cfgOf T f).vcall=true)(hargs:ListR w M β (look st.heap) args cargs.toList)(I:(execOp a.eval o).run P w=(callFunc f cargs).run P w):OpSim P w0 Pr M0 β st a w o (stepVar T C h' o.dst f args):=by
  have fail:OpSim P w0 Pr M0 β st a w o .fail:=⟨λ_ _ _ _ H=>by simp[DT.run]at H⟩;unfold stepVar;split
  . rename_i d fi pre s hd u B;have p:fi.cfg.vcall=true:=by rw[<- q];simp[cfgOf,u]
    have J:=unsnoc_app B;subst J;split
    . rename_i A z off len G;split
      . rename_i sa ks xs hA;exact sim_varGo ok N r l hd u p hargs I (l _ _ G) (l _ _ hA)
      . exact fail
    . exact fail
  . exact fail
end
end
section
section
variable {P:Program} {T:Tab} {w0:Base} {Pr M0 M:Nat->Prop} {β:Nat->Option (Nat × Nat)} {st:St} {a:Act} {w:World} {o:Oper}
theorem zl{b1:Blk}(s:Nat):look [(99999,b1)] s=if s=99999 then some b1 else none:=by simp only[look];grind
theorem Tc(ok:TabOk P T){C:CallF}(hC:CallOk P T w0.gl C)(r:Rel w0 Pr M0 M β st a w){h':Nat->Option Blk}(U:∀ s b,h' s=some b->look st.heap s=some b){f:Nat}{args:List AV}{cargs:Array Value}
    (htk:(cfgOf T f).take=true)(hargs:ListR w M β (look st.heap) args cargs.toList)(he:(execOp a.eval o).run P w=(callFunc f cargs).run P w):OpSim P w0 Pr M0 β st a w o (BK T C h' o.dst f args):=by
  have fail:OpSim P w0 Pr M0 β st a w o .fail:=⟨λ_ _ _ _ O=>by simp[DT.run]at O⟩;unfold BK;split
  case h_2=>exact fail
  rename_i d fi A z off len rest hd hf;have ac6:fi.cfg.take=true:=by rw[<- htk];simp[cfgOf,hf]
  split
  case h_2=>exact fail
  rename_i sa ks xs hA0;have hA:=U _ _ hA0;split
  case h_2=>exact fail
  rename_i vs hdp;refine⟨λhnd α k res O rd n Q=>?_⟩;obtain⟨⟨rs,bl'⟩,hcall,O⟩:=run_callD O;obtain⟨hbody,hcalls⟩:=hC.take f fi _ _ _ _ rs bl' hf ac6 hcall;have hnum:cargs.size=rest.length+1:=by have:=hargs.1;simp at this;omega
  have h0:AR w M β (look st.heap) (.slice A z off len) (cargs.getD 0 undef):=by
   have hc:cargs.toList[0]?=some (cargs.getD 0 undef):=by simp_all
   exact hargs.2 0 _ _ rfl hc
  have hargs0:ListR w M β (look st.heap) rest cargs.toList.tail:=by refine⟨by simp;omega,λi x c Z hc=>hargs.2 (i+1) x c (by simpa using Z) (by simpa using hc)⟩
  obtain⟨d1,d2,d3⟩:=deeps_ok (λs b h=>r.heap s b (U s b h)) U hdp hargs0;have d1:vs.length=rest.length:=by rw[d1];simp;omega
  cases V:resVals T d [] 0 fi.cfg.rets fi.fn.resultTypes.toList rs with
  | none=>rw[V]at O;simp[DT.run]at O
  | some xb =>
  obtain⟨rv,N⟩:=xb;rw[V]at O;simp only[DT.run]at O;refine wpIn_exec hnd ?_;rw[he,enter_run ok hf hbody,Oper.uponIn_enter];refine⟨FW_depth rd,callsIn_fw rd ?_⟩;have W:(look st.heap A).isSome=true:=by rw[hA];rfl
  have hz:z=ks.length:=by
   generalize cargs.getD 0 undef=u at h0;cases h0 with
   | slice _ _ _ a' ks' xs' b' B cap h1 hl G hcap hr=>rw[hA]at h1;cases h1;rfl
   | sliceE _ _ a' ks' xs' base h1 hl=>rw[hA]at h1;cases h1;rfl
  subst hz;have hpre:Ew w (Mplus M β []) (λ_=>β A) (.slice 99999 ks.length off len::vs.map .p) (.arr sa ks xs) cargs:=by
   refine⟨by simp[d1,hnum],λi x Z=>?_,?_,λb B G=>?_,λb G=>?_⟩
   . cases i with
     | zero =>simp at Z;subst Z;exact(h0.slice_move hA (by rw[zl,if_pos rfl]) rfl)
     | succ i =>
      simp only[List.getElem?_cons_succ,List.getElem?_map,Option.map_eq_some_iff]at Z;obtain⟨y,hy,rfl⟩:=Z;have hlt:=(qLa.1 hy).1;have hc:cargs.toList.tail[i]?=some (cargs.getD (i+1) undef):=by simp_all
      exact .p _ _ (d2 i y _ hy hc)
   . exact(r.heap A _ hA).arr_mono (λb h=>.inl h) rfl
   . obtain⟨g1,g2,_⟩:=r.own A b B W G;refine⟨λh=>?_,g2⟩;rcases h with h |⟨s',_,I,_⟩;all_goals grind
   . rcases G with G |⟨s',_,I,_⟩
     . exact r.msub b G
     . simp at I
  refine Calls.mono (hcalls w _ (λ_=>β A) cargs (λp hp=>⟨.inl (r.glob p hp).1,(r.glob p hp).2⟩) hpre) λe w' hpost=>?_;obtain⟨cs,ps,M',rfl,q⟩:=hpost;refine⟨⟨_,rfl⟩,?_⟩;show ∃ e M' β',_;have hM0:∀ b,Mplus M β [] b↔M b:=λb=>⟨λh=>by
   rcases h with h |⟨s',_,I,_⟩
   . exact h
   . simp at I,.inl⟩
  refine⟨{val:=wrapRes rv,chg:=N,new:=A::keysOf N},M',?_⟩;by_cases J:¬ frzOk ((A::keysOf N)++[])=true
  . exact⟨β,O,q.drawn,λh=>absurd h J⟩
  have J:frzOk ((A::keysOf N)++[])=true:=Classical.not_not.1 J;have hargS:argSite=100000:=rfl;have hA1:A<100000:=frzOk_lt J A (by simp);have r1:Rel w0 Pr M0 M β (st.strike (present st.heap (A::keysOf N)++[])) a w:=r.strike _ (λ_ h=>h) λ_ h=>.inl h;have hnA:(look (st.strike (present st.heap (A::keysOf N)++[])).heap A)=none:=struck_none (by simp);have hnk:∀ s∈keysOf N,look (st.strike (present st.heap (A::keysOf N)++[])).heap s=none:=λs hs=>struck_none (by simp[hs]);have hlive1:∀ x,(look (st.strike (present st.heap (A::keysOf N)++[])).heap x).isSome=true->(look st.heap x).isSome=true:=λx S=>(struck_live S).2;generalize hst1:st.strike (present st.heap (A::keysOf N)++[])=st1 at r1 hnA hnk hlive1;obtain⟨oA1,oA2,oA3⟩:(∀ b B,β A=some (b,B)->¬ M b)/\(∀ b B,β A=some (b,B)->b<w.heap.size)/\(∀ b B,β A=some (b,B)->(w0.heap.size<=b\/Pr b)/\w0.n0<=b):=by refine⟨λb B h=>(r.own A b B W h).1,λb B h=>(r.own A b B W h).2.1,λb B h=>?_⟩;obtain⟨_,_,Y,g4⟩:=r.own A b B W h;grind
  have hapart:∀ x b B,(look st1.heap x).isSome=true->β x=some (b,B)->∀ H,β A≠some (b,H):=by intro x b B S G H h;have:=r.inj x A b B H (hlive1 x S) W G h;grind
  have hkM:∀ b,b<w.heap.size->(M b\/(b<w0.heap.size/\¬ Pr b))->w'.heap[b]?=w.heap[b]?:=by intro b G hm;refine q.keep b G λB h=>?_;grind
  have r3:Rel w0 Pr M0 (λb=>M' b/\(M b\/w.heap.size<=b)) β {st1 with heap:=st1.heap} a w':=by
   refine r1.movedA q.size q.os q.tape q.output hkM (λb n G h hr=>?_) (λb h=>⟨q.msub b (.inl h),.inl h⟩) (λb G=>G.2.imp id λh=>⟨h,q.mlt b G.1⟩) (λx S=>S) (λx blk S=>?_)
   . rcases h with⟨x,B,blk,h1,h2,h3⟩ |⟨h1,h2⟩
     . exact hr.of_block (q.keep b G (hapart x b B (by rw[h1];rfl) h2))
     . refine hr.of_block (q.keep b G λB h'=>?_);grind
   . exact⟨blk,S,.inl ⟨rfl,λb B h=>q.keep b (r1.own x b B (by rw[S];rfl) h).2.1 (hapart x b B (by rw[S];rfl) h)⟩⟩
  have r4:Rel w0 Pr M0 M' β st1 a w':=by
   refine r3.more (λb h=>h.1) λb G=>?_;rcases q.mnew b G with h | h |⟨B,h⟩
   . grind
   . grind
   . exact .inr ⟨by have:=oA2 b B h;have:=q.size;omega,⟨(oA3 b B h).2,(oA3 b B h).1⟩,λx H S hb'=>hapart x b H S hb' B h⟩
  obtain⟨β1,h1,hresL⟩:=q.res;obtain⟨β2,r5,X⟩:=r4.results (d:=d) hresL V hnk (λb B G=>by
   obtain⟨g1,g2,Y⟩:=q.own b B G;refine⟨g1,g2,?_,λs' H I X=>?_⟩
   . rcases Y with Y |⟨H,Y⟩
     . exact⟨.inl (by have:=r.size;omega),by have:=r.size;have:=w0.le';omega⟩
     grind
   . rcases Y with Y |⟨o3,Y⟩
     . have:=(r1.own s' b H I X).2.1;omega
     grind) (λj s blk hj=>by simp at hj)
  refine⟨β2,O,q.drawn,λ_=>⟨?_,λs hs=>X s λO=>?_,argsLike_apply λk b hkb=>.inl ?_⟩⟩
  . rw[hd];have e:st.apply (some d) {val:=wrapRes rv,chg:=N,new:=A::keysOf N}={env:=Skm.setEnv st1.env (some d) (wrapRes rv),heap:=putAll st1.heap N}:=by rw[<- hst1];rfl
    grind
  . have:=frzOk_lt J s (by simp[O]);omega
  . refine frzOk_lt J k ?_;have:∀(l:List (Nat × Blk)),(k,b)∈l->k∈keysOf l:=by
     intro l;induction l with
     | nil=>intro h;simp at h
     | cons x r ih=>grind[keysOf]
    grind
end
end
section
variable {D:DT}{f:Nat}{args:List AV}{cargs:Array Value}{C:CallF}{h':Nat -> Option Blk}{ρ:Operand -> Value}{dst:Option Tmp}{ts:Array TypeId}{type:TypeId}{pos:String}{after:Array Edge}{guard:Option (Nat × Bool)}
section
variable {P:Program} {T:Tab} {w0:Base} {Pr M0 M:Nat->Prop} {β:Nat->Option (Nat × Nat)} {st:St} {a:Act} {w:World} {o:Oper}
theorem Rel.evalOs(r:Rel w0 Pr M0 M β st a w):∀(l:List Operand),ListR w M β (look st.heap) (Skm.evalOs st.env l) (l.map a.eval)
 |[]=>⟨rfl,λi x c h=>by simp[Skm.evalOs]at h⟩
 | x::l=>by
  obtain⟨h1,h2⟩:=r.evalOs l;refine⟨by simp[Skm.evalOs,h1],λi y c p q=>?_⟩;cases i with
  | zero=>simp[Skm.evalOs]at p q;subst p q;exact r.evalO x
  | succ i=>simp only[Skm.evalOs,List.map_cons,List.getElem?_cons_succ]at p q;exact h2 i y c p q
theorem Rel.evalOs'(r:Rel w0 Pr M0 M β st a w)(l:Array Operand):ListR w M β (look st.heap) (Skm.evalOs st.env l.toList) (l.map a.eval).toList:=by rw[Array.toList_map];exact r.evalOs l.toList
theorem Rel.partsEval(r:Rel w0 Pr M0 M β st a w):∀(l:List (Nat × Operand)),PartsR w M β (look st.heap) (Skm.partsEval st.env l) (l.map λ(i,x)=>(i,a.eval x))
 |[]=>⟨rfl,λi x c h=>by simp[Skm.partsEval]at h⟩
 |(n,x)::l=>by
  obtain⟨h1,h2⟩:=r.partsEval l;refine⟨by simp[Skm.partsEval,h1],λi y c p q=>?_⟩;cases i with
  | zero=>simp[Skm.partsEval]at p q;subst p q;exact⟨rfl,r.evalO x⟩
  | succ i=>simp only[Skm.partsEval,List.map_cons,List.getElem?_cons_succ]at p q;exact h2 i y c p q
theorem Rel.partsEval'(r:Rel w0 Pr M0 M β st a w)(l:Array (Nat × Operand)):PartsR w M β (look st.heap) (Skm.partsEval st.env l.toList) (l.map λ(i,x)=>(i,a.eval x)).toList:=by rw[Array.toList_map];exact r.partsEval l.toList
theorem Rel.optEval(r:Rel w0 Pr M0 M β st a w)(x:Option Operand):OptR w M β (look st.heap) (Skm.optEval st.env x) (x.map a.eval):=by
 cases x with
 | none=>exact True.intro
 | some x=>exact r.evalO x
theorem OpSim.fail:OpSim P w0 Pr M0 β st a w o .fail:=⟨λ_ _ _ _ l=>by simp[DT.run]at l⟩
theorem OpSim.val(r:Rel w0 Pr M0 M β st a w){sem:Sem Value}(h:ValSim P w M β (look st.heap) D sem)(e:execOp a.eval o=(do pure (.value (<- sem)))):OpSim P w0 Pr M0 β st a w o D:=
 StSim.op (by rw[e];exact StSim.of_val r h)
theorem StSim.run_congr{d:Option Nat}{l s2:Sem Next}(h:StSim P w0 Pr M0 β st a w d D l)(e:s2.run P w=l.run P w):StSim P w0 Pr M0 β st a w d D s2:=
 ⟨λα k q p=>by rw[e];exact h.sim α k q p⟩
theorem OpSim.of{sem:Sem Next}(h:StSim P w0 Pr M0 β st a w o.dst D sem)(e:execOp a.eval o=sem):OpSim P w0 Pr M0 β st a w o D:=
 StSim.op (by rw[e];exact h)
theorem sim_nil(r:Rel w0 Pr M0 M β st a w){d:Nat}{sa:Bool}{ks:List Kd} :
    StSim P w0 Pr M0 β st a w (some d) (.ret {val:=.slice d ks.length 0 0,chg:=[(d,.arr sa ks [])],new:=[d]}) (pure (.value (.slice none 0 0))):=by
  refine StSim.ret (nv:=.value (.slice none 0 0)) (c:=.slice none 0 0) (w':=w) (M':=M) (β':=λx=>if x=d then none else β x) (by simp) (.inl rfl) (λ_=>?_) (λz=>new_arg (ss:=[]) z);have l:Rel w0 Pr M0 M β (st.strike (present st.heap [d]++[])) a w:=r.strike _ (λb h=>h) λb h=>.inl h;have q:look (st.strike (present st.heap [d]++[])).heap d=none:=struck_none (by simp);rw[strike_env_ok];generalize st.strike (present st.heap [d]++[])=st1 at l q;have u:=l.lay (s:=d) (blk:=.arr sa ks []) q (p:=none) (λb o h=>by cases h) (.arrE _ _);refine u.setEnv (some d) ?_;exact .sliceE d 0 sa ks [] none (by simp[look_put]) (by simp)
theorem Td(ok:TabOk P T)(r:Rel w0 Pr M0 M β st a w)(hp:(cfgOf T f).prim.is=true)
    (hargs:ListR w M β (look st.heap) args cargs.toList)(W:(execOp a.eval o).run P w=(callFunc f cargs).run P w):OpSim P w0 Pr M0 β st a w o (stepPrim (cfgOf T f).prim o.dst args):=by
  obtain⟨fi,H,z⟩:∃ fi,tlook T.funcs f=some fi/\cfgOf T f=fi.cfg:=by
   unfold cfgOf at hp ⊢;cases H:tlook T.funcs f with
   | none=>rw[H]at hp;cases hp
   | some fi=>exact⟨fi,rfl,rfl⟩
  rw[z]at hp ⊢;have N:=ok.prims f fi H;cases u:fi.cfg.prim with
  | carry b =>
   rw[u]at N;unfold stepPrim;split
   all_goals first
    | exact OpSim.fail
    |(next heq=>cases heq)
    | skip
   next d b' x y c hd hb =>
    cases hb;obtain⟨G,B,A,I⟩:∃ G B A,cargs=#[G,B,A]:=by have:=hargs.1;simp only[qLl,List.length_nil,Array.length_toList]at this;exact⟨cargs[0],cargs[1],cargs[2],by grind⟩
    subst I;have U:=(hargs.2 0 _ G rfl rfl).p_int;have S:=(hargs.2 1 _ B rfl rfl).p_int;have O:=(hargs.2 2 _ A rfl rfl).p_int;subst U S O;refine StSim.op (StSim.chk λJ=>?_);simp only[qBa,qDa]at J;obtain⟨V,h1,h2,X⟩:=J;have q:=N w x.toNat y.toNat c.toNat (by omega);rw[Int.toNat_of_nonneg V,Int.toNat_of_nonneg h1,Int.toNat_of_nonneg h2]at q;refine StSim.run_congr (StSim.of_val r (ValSim.ret (c:=.tuple #[.int .u64 (jh b x.toNat y.toNat c.toNat),.int .u64 (jA b x.toNat y.toNat c.toNat)]) (sem:=pure (.tuple #[.int .u64 (jh b x.toNat y.toNat c.toNat),.int .u64 (jA b x.toNat y.toNat c.toNat)])) ?_ rfl)) ?_
    . refine .tup _ _ rfl λi c l=>?_
      match i,l with
      | 0,l=>cases l;exact .p _ _ (.int _ _)
      | 1,l=>cases l;exact .p _ _ (.int _ _)
      | i+2,l=>simp at l
    simp_all
  | none=>rw[u]at hp;cases hp
theorem sim_opcall(ok:TabOk P T)(q:CallOk P T w0.gl C)(r:Rel w0 Pr M0 M β st a w)(l:∀ s b,h' s=some b->look st.heap s=some b) 
    (hargs:ListR w M β (look st.heap) args cargs.toList)(p:(execOp a.eval o).run P w=(callFunc f cargs).run P w):OpSim P w0 Pr M0 β st a w o (stepCall T C h' o.dst f args):=by
  unfold stepCall;cases hp:(cfgOf T f).prim.is with
  | true =>simp only[qCt];exact Td ok r hp hargs p
  | false =>
  simp only[qCf];cases u:(cfgOf T f).vcall with
  | true=>exact sim_var ok q r l u hargs p
  | false =>
  simp only[qCf];cases z:(cfgOf T f).take with
  | true=>exact Tc ok q r l z hargs p
  | false =>
  simp only[qCf];cases hd:o.dst with
  | none=>simp only[stepCall0];exact OpSim.fail
  | some d =>
   cases A:tlook T.funcs f with
   | none=>simp only[stepCall0,A];exact OpSim.fail
   | some fi =>
    rw[<- hd];cases B:fi.cfg.byRef with
    | false=>exact sim_callV ok q r l hd A B hargs p
    | true=>exact sim_callR ok q r l hd A B hargs p
theorem exec_builtin{b:Builtin}{args:Array Operand}:
    execOp ρ ⟨dst,.call ⟨.builtin b,args,ts⟩,type,pos,after,guard⟩=builtin b ts type (args.map λ| .const _=>true | _=>false) (args.map ρ):=rfl
theorem exec_value{l:Operand}{args:Array Operand}{vs:Array Value}(h:ρ l=.func (.func f) #[] vs) :
    (execOp ρ ⟨dst,.call ⟨.value l,args,ts⟩,type,pos,after,guard⟩)=callFunc f (args.map ρ++vs):=by
  simp only[execOp,resolve,h,Deferred.ofValue];simp[invoke]
theorem ListR.append{w:World}{M:Nat->Prop}{β:Nat->Option (Nat × Nat)}{h:Nat->Option Blk}:∀{xs ys:List AV} {cs ds:List Value},ListR w M β h xs cs->ListR w M β h ys ds->ListR w M β h (xs++ys) (cs++ds)
 |[],ys,[],ds,_,h2=>h2
 | x::xs,ys,c::cs,ds,h1,h2=>by obtain⟨z,p⟩:=h1.cons;obtain⟨l,q⟩:=p.append h2;refine⟨by simp[l],λi y e r u=>?_⟩;grind
 |[],_,_::_,_,h1,_=>by have:=h1.1;simp at this
 | _::_,_,[],_,h1,_=>by have:=h1.1;simp at this
theorem sim_op(ok:TabOk P T)(Y:CallOk P T w0.gl C)(r:Rel w0 Pr M0 M β st a w)(q:∀ s b,h' s=some b->look st.heap s=some b) :
    OpSim P w0 Pr M0 β st a w o (stepOp T C st.env h' o):=by
  have hh:=r.heap;obtain⟨dst,op,type,pos,after,guard⟩:=o;cases op with
  | move x=>exact OpSim.of (sem:=pure (.value (a.eval x))) (StSim.ret (nv:=.value (a.eval x)) (by simp) (.inl rfl) (λ_=>r.setEnv dst (r.evalO x)) (λ_ _ _=>rfl) (λ_=>chg_nil)) rfl
  | assign x =>
   have plain:StSim P w0 Pr M0 β st a w dst (.ret {val:=Skm.evalO st.env x}) (pure (.value (a.eval x))):=
    StSim.ret (nv:=.value (a.eval x)) (by simp) (.inl rfl) (λ_=>r.setEnv dst (r.evalO x)) (λ_ _ _=>rfl) (λ_=>chg_nil)
   simp only[stepOp];split
   . exact OpSim.of (sim_nil r) rfl
   . exact OpSim.of plain rfl
  | pick c x y=>refine OpSim.of ((StSim.of_val r (sim_pick (r.evalO c) (r.evalO x) (r.evalO y))).run_congr (s2:=do pure (.value (if <- asBool (a.eval c)then a.eval x else a.eval y))) ?_) rfl;simp
  | alloc t=>exact OpSim.of (sim_alloc ok r) rfl
  | box t v=>exact OpSim.of (sim_box r (r.evalO v)) rfl
  | build t J=>exact OpSim.val r (sim_build ok (r.partsEval' J)) rfl
  | buildSlice t len J =>exact OpSim.of (sim_buildSlice ok r q (r.partsEval' J)) rfl
  | load t x=>exact OpSim.val r (sim_load ok q hh (r.evalO x)) rfl
  | store t x v=>exact OpSim.of (sim_store ok r q (r.evalO x) (r.evalO v)) rfl
  | binOp op t x y _=>exact OpSim.val r (sim_bin ok x y (r.evalO x) (r.evalO y)) rfl
  | unOp op _ x=>exact OpSim.val r (sim_un (r.evalO x)) rfl
  | convert s t x=>exact OpSim.of (sim_convert ok r q (r.evalO x)) rfl
  | makeFunc fn first u=>exact OpSim.val r (sim_makeFunc (r.evalOs' first) (r.evalOs' u)) rfl
  | makeSlice t l c=>exact OpSim.of (sim_makeSlice ok r (r.evalO l) (r.evalO c)) rfl
  | slice t x lo V N =>
   simp only[stepOp];split
   . rename_i n e hu;exact OpSim.val r (sim_sliceArr ok q hu (r.evalO x) (r.optEval lo) (r.optEval V) (r.optEval N)) rfl
   . split
     . exact OpSim.fail
     . rename_i U;refine OpSim.val r (sim_slice ok (r.evalO x) (r.optEval lo) (r.optEval V) (r.optEval N) ?_) rfl;intro h;cases N with
       | none=>simp[Skm.optEval]at h
       | some m =>
        cases V with
        | none=>exact absurd rfl (U m rfl)
        | some _=>rfl
  | fieldAddr t x f=>exact OpSim.val r (sim_fieldAddr ok (r.evalO x)) rfl
  | field t x f=>exact OpSim.val r (sim_field ok (r.evalO x)) rfl
  | indexAddr t x i=>exact OpSim.val r (sim_indexAddr ok (r.evalO x) (r.evalO i)) rfl
  | index t x i=>exact OpSim.val r (sim_index ok (r.evalO x) (r.evalO i)) rfl
  | extract x i=>exact OpSim.val r (sim_extract (r.evalO x)) rfl
  | nilCheck x =>
   have z:=r.evalO x;refine OpSim.of (sem:=execOp a.eval ⟨dst,.nilCheck x,type,pos,after,guard⟩) ?_ rfl;simp only[stepOp];generalize B:Skm.evalO st.env x=v at z;have Z:(∃ s i o,v=.ptr s i o)\/(∃ sa ks y o,v=.lptr sa ks y o)\/(∃ cs,v=.p (.ref cs))\/(∃ f cs,v=.p (.fn f cs))\/(∃ f cs,v=.fn f cs)->StSim P w0 Pr M0 β st a w dst (.ret {val:=v}) (execOp a.eval ⟨dst,.nilCheck x,type,pos,after,guard⟩):=by
    intro h;refine StSim.ret (nv:=.value (a.eval x)) (c:=a.eval x) ?_ (.inl rfl) (λ_=>r.setEnv dst z) (λ_ _ _=>rfl) (λ_=>chg_nil);simp only[execOp];generalize a.eval x=c at z;rcases h with⟨s,i,o,rfl⟩ |⟨sa,ks,y,o,rfl⟩ |⟨cs,rfl⟩ |⟨f,cs,rfl⟩ |⟨f,cs,rfl⟩
    . cases z<;>rfl
    . cases z<;>rfl
    . cases z;rename_i B;cases B;rfl
    . cases z;rename_i B;cases B;rfl
    . cases z;rfl
   unfold stepNilCheck;split
   . grind
   . grind
   . grind
   . grind
   . grind
   . exact StSim.fail
  | call c =>
   obtain⟨callee,args,argTypes⟩:=c;simp only[stepOp];split
   . -- len
     split
     . rename_i x t ts h1 h2;have I:args=#[x]:=by rw[<- Array.toList_inj];exact h1
       have H:argTypes[0]?=some t:=by rw[<- Array.getElem?_toList,h2];rfl
       subst I;exact OpSim.val r (sim_len ok H (ty:=type) (r.evalO x)) (by rw[exec_builtin];simp[builtin])
     . exact OpSim.fail
   . exact OpSim.val r (sim_minmax (g:=Builtin.min2) (r.evalOs' args) (λj x y=>by simp[Builtin.min2,goMin])) exec_builtin
   . exact OpSim.val r (sim_minmax (g:=Builtin.max2) (r.evalOs' args) (λj x y=>by simp[Builtin.max2,goMax])) exec_builtin
   . -- append
     split
     . rename_i x y t X h1 h2;have I:args=#[x,y]:=by rw[<- Array.toList_inj];exact h1
       have H:argTypes=#[t,X]:=by rw[<- Array.toList_inj];exact h2
       subst I H;exact OpSim.of (sim_append ok r q (ty:=type) (ts:=#[t,X]) rfl rfl (r.evalO x) (r.evalO y)) (by rw[exec_builtin];simp[builtin])
     . exact OpSim.fail
   . split
     . rename_i x y t ts h1 h2;have I:args=#[x,y]:=by rw[<- Array.toList_inj];exact h1
       have H:argTypes[0]?=some t:=by rw[<- Array.getElem?_toList,h2];rfl
       subst I;exact OpSim.of (sim_copy ok r q H (ty:=type) (r.evalO x) (r.evalO y)) (by rw[exec_builtin];simp[builtin])
     . exact OpSim.fail
   . split
     . rename_i x t ts h1 h2;have I:args=#[x]:=by rw[<- Array.toList_inj];exact h1
       have H:argTypes[0]?=some t:=by rw[<- Array.getElem?_toList,h2];rfl
       subst I;exact OpSim.of (sim_clear ok r q H (ty:=type) (r.evalO x)) (by rw[exec_builtin];simp[builtin])
     . exact OpSim.fail
   . rename_i G;have A:=r.evalO G;split
     . rename_i f u B;rw[B]at A;have:∃ vs:Array Value,a.eval G=.func (.func f) #[] vs/\ListR w M β (look st.heap) (u.map .p) vs.toList:=by
        generalize a.eval G=c at A;cases A with
        | p _ _ B =>
         cases B with
         | fn _ _ vs S W =>refine⟨vs,rfl,by simp[S],λi x c z O=>?_⟩;simp only[List.getElem?_map,Option.map_eq_some_iff]at z;obtain⟨y,z,rfl⟩:=z;have:=W i y z;rw[Array.getElem?_toList]at O;rw[qAb,O]at this;exact .p _ _ this
       obtain⟨vs,h1,h2⟩:=this;refine sim_opcall (o:=⟨dst,.call ⟨.value G,args,argTypes⟩,type,pos,after,guard⟩) ok Y r q (cargs:=args.map a.eval++vs) ?_ (by rw[exec_value h1]);rw[Array.toList_append];exact(r.evalOs' args).append h2
     . rename_i f u B;rw[B]at A;have:∃ vs:Array Value,a.eval G=.func (.func f) #[] vs/\ListR w M β (look st.heap) u vs.toList:=by
        generalize a.eval G=c at A;cases A with
        | fn _ _ vs S W =>refine⟨vs,rfl,by simp[S],λi x c z O=>?_⟩;have:=W i x z;simp_all
       obtain⟨vs,h1,h2⟩:=this;refine sim_opcall (o:=⟨dst,.call ⟨.value G,args,argTypes⟩,type,pos,after,guard⟩) ok Y r q (cargs:=args.map a.eval++vs) ?_ (by rw[exec_value h1]);rw[Array.toList_append];exact(r.evalOs' args).append h2
     . exact OpSim.fail
   . exact OpSim.fail
  | _=>exact OpSim.fail
end
end
section
variable {env:List AV}{g j n s t:Nat}{α:Type}{draw:Bool}{hd:List (List Nat)}{all rest:List Oper}{o:Oper}{st:St}{M M':Nat->Prop}{β β':Nat->Option (Nat × Nat)}{hp hp':Heap}{w':World}{L:List (Nat × Obj)}{ds:List Nat}{h:Nat->Option Blk}{ops:Array Oper}{C:CallF}{rd:Option Nat}{K:Act->World->Prop}{Q:Exit->Act->World->Prop}
section
variable {α:Type}
theorem forceNat_eq(m:Nat)(k:Nat->Option α):forceNat m k=k m:=by cases m<;>rfl
theorem forceInt_eq(n:Int)(k:Int->Option α):forceInt n k=k n:=by cases n<;>simp[forceInt,forceNat_eq]
mutual
theorem forcePV_eq(b:Bool):∀(v:PV) (k:PV->Option α),forcePV b v k=k v
 | .bool c,k=>by cases b<;>cases c<;>simp[forcePV]
 | .int j n,k=>by cases b<;>simp[forcePV,forceInt_eq]
 | .str s,k=>by simp[forcePV]
 | .agg cs,k=>by simp[forcePV,forcePVs_eq b cs]
 | .list a ks xs,k=>by cases b<;>simp[forcePV,forcePVs_eq _ xs]
 | .full a ks xs,k=>by cases b<;>simp[forcePV,forcePVs_eq _ xs]
 | .nil,k=>by simp[forcePV]
 | .fn f cs,k=>by cases b<;>simp[forcePV,forcePVs_eq _ cs]
 | .ref cs,k=>by simp[forcePV,forcePVs_eq b cs]
 | .nilp,k=>by simp[forcePV]
 | .nilfn,k=>by simp[forcePV]
theorem forcePVs_eq(b:Bool):∀(v:List PV) (k:List PV->Option α),forcePVs b v k=k v
 |[],k=>by simp[forcePVs]
 | v::r,k=>by simp[forcePVs,forcePV_eq b v,forcePVs_eq b r]
end
mutual
theorem forceAV_eq(b:Bool):∀(v:AV) (k:AV->Option α),forceAV b v k=k v
 | .undef,k=>by simp[forceAV]
 | .p v,k=>by cases b<;>simp[forceAV,forcePV_eq]
 | .slice s z o l,k=>by cases b<;>simp[forceAV,forceNat_eq]
 | .bslice s o l,k=>by cases b<;>simp[forceAV,forceNat_eq]
 | .ptr s i o,k=>by cases b<;>simp[forceAV,forceNat_eq]
 | .lptr a ks x o,k=>by cases b<;>simp[forceAV,forceNat_eq,forcePV_eq]
 | .fn f cs,k=>by simp[forceAV,forceAVs_eq b cs]
 | .agg cs,k=>by simp[forceAV,forceAVs_eq b cs]
 | .tup cs,k=>by simp[forceAV,forceAVs_eq b cs]
 | .fresh a ks xs,k=>by cases b<;>simp[forceAV,forcePVs_eq]
 | .yld,k=>by simp[forceAV]
theorem forceAVs_eq(b:Bool):∀(v:List AV) (k:List AV->Option α),forceAVs b v k=k v
 |[],k=>by simp[forceAVs]
 | v::r,k=>by simp[forceAVs,forceAV_eq b v,forceAVs_eq b r]
end
theorem spine_eq:∀(v:List AV) (k:List AV->Option α),spine v k=k v
 |[],k=>rfl
 | v::r,k=>by simp[spine,spine_eq r]
theorem forceBlk_eq(b:Bool):∀(v:Blk) (k:Blk->Option α),forceBlk b v k=k v
 | .box cs,k=>by simp[forceBlk,forceAVs_eq]
 | .arr a ks xs,k=>by cases b<;>simp[forceBlk,forcePVs_eq]
 | .log on xs,k=>by cases b<;>simp[forceBlk,forcePVs_eq]
theorem forceBlks_eq(b:Bool):∀(v:List Blk) (k:List Blk->Option α),forceBlks b v k=k v
 |[],k=>rfl
 | v::r,k=>by simp[forceBlks,forceBlk_eq,forceBlks_eq b r]
theorem forceChg_eq(b:Bool):∀(v:List (Nat × Blk)) (k:List (Nat × Blk)->Option α),forceChg b v k=k v
 |[],k=>rfl
 |(s,x)::r,k=>by simp[forceChg,forceBlk_eq,forceChg_eq b r]
theorem spineH_eq:∀(v:Heap) (k:Heap->Option α),spineH v k=k v
 |[],k=>rfl
 |(s,x)::r,k=>by simp[spineH,spineH_eq r]
theorem forceSt_eq(st:St)(k:St->Option α):forceSt st k=k st:=by simp[forceSt,spine_eq,spineH_eq]
theorem forceEff_eq(b:Bool)(st:St)(d:Option Nat)(e:Eff)(k:St->Option α):forceEff b st d e k=k (st.apply d e):=by simp[forceEff,forceAV_eq,forceChg_eq,forceSt_eq]
theorem DT.run_bind:∀(D:DT) (k:Eff->Option α),D.run k=(D.run some).bind k
 | .fail,k=>rfl
 | .ret e,k=>rfl
 | .ite c x y,k=>by cases c<;>simp[DT.run,DT.run_bind x k,DT.run_bind y k]
 | .call o f,k=>by
  cases o with
  | none=>rfl
  | some r=>simp only[DT.run];exact DT.run_bind (f r) k
end
section
variable (T:Tab) (C:CallF)
def act1(all:List Oper)(o:Oper)(env:List AV)(h:Nat->Option Blk):Option (Option Eff):=
 match o.guard with
 | none=>((stepOp T C env h o).run some).map some
 | some (g,want) =>
  match dstOf all g with
  | none=>none
  | some t =>
   match env.getD t .undef with
   | .p (.bool b)=>if b=want then((stepOp T C env h o).run some).map some else some none
   | .tup []=>some none
   | _=>none
def step1(draw:Bool)(hd:List Nat)(all:List Oper)(o:Oper)(st:St):Option St:=
 match act1 T C all o st.env (hideH hd (look st.heap))with
 | none=>none
 | some none=>some {st with env:=setEnv st.env o.dst (.tup [])}
 | some (some e)=>if(frzOk (e.new++e.frz)&&quietEff draw (opClass T all o) (opSites all o) st.heap e)=true then some (st.apply o.dst e)else none
theorem set_self{v:AV}(h:env.getD t .undef=v)(l:v≠.undef):env.set t v=env:=by apply List.ext_getElem?;grind
def guardOf(all:List Oper)(o:Oper)(env:List AV):Option Bool:=
 match o.guard with
 | none=>some true
 | some (g,want) =>
  match dstOf all g with
  | none=>none
  | some t =>
   match env.getD t .undef with
   | .p (.bool b)=>some (b==want)
   | .tup []=>some false
   | _=>none
theorem act1_guard(all:List Oper)(o:Oper)(env:List AV)(h:Nat->Option Blk):act1 T C all o env h=(match guardOf all o env with
    | none=>none
    | some false=>some none
    | some true=>((stepOp T C env h o).run some).map some):=by
  unfold act1 guardOf;cases o.guard with
  | none=>rfl
  | some l=>grind
theorem runOps_eq{k:St->Option α} :
    runOps T C draw hd all (o::rest) j st k=(match guardOf all o st.env with
     | none=>none
     | some false=>runOps T C draw hd all rest (j+1) {st with env:=setEnv st.env o.dst (.tup [])} k
     | some true=>match yieldAt draw st o with
      | some (xs,vs)=>fork (runOps T C draw hd all rest (j+1) (afterYield st o.dst xs vs false) k) (runOps T C draw hd all rest (j+1) (afterYield st o.dst xs vs true) k)
      | none=>((stepOp T C st.env (hideH (hd.getD j []) (look st.heap)) o).run some).bind λe =>
       if(frzOk (e.new++e.frz)&&quietEff draw (opClass T all o) (opSites all o) st.heap e)=true then runOps T C draw hd all rest (j+1) (st.apply o.dst e) k else none):=by
  have z:∀ st:St,(match yieldAt draw st o with
        | some (xs,vs)=>fork (forceSt (afterYield st o.dst xs vs false) λst=>runOps T C draw hd all rest (j+1) st k) (forceSt (afterYield st o.dst xs vs true) λst=>runOps T C draw hd all rest (j+1) st k)
        | none=>(stepOp T C st.env (hideH (hd.getD j []) (look st.heap)) o).run λe =>
        bif frzOk (e.new++e.frz)&&quietEff draw (opClass T all o) (opSites all o) st.heap e then forceEff T.strict st o.dst e λst=>runOps T C draw hd all rest (j+1) st k else none) =
      (match yieldAt draw st o with
        | some (xs,vs)=>fork (runOps T C draw hd all rest (j+1) (afterYield st o.dst xs vs false) k) (runOps T C draw hd all rest (j+1) (afterYield st o.dst xs vs true) k)
        | none=>((stepOp T C st.env (hideH (hd.getD j []) (look st.heap)) o).run some).bind λe =>
         if(frzOk (e.new++e.frz)&&quietEff draw (opClass T all o) (opSites all o) st.heap e)=true then runOps T C draw hd all rest (j+1) (st.apply o.dst e) k else none):=by
    intro st;cases yieldAt draw st o with
    | some p=>obtain⟨xs,vs⟩:=p;simp only[forceSt_eq]
    | none =>simp only;rw[DT.run_bind];congr 1;funext e;simp only[forceEff_eq];cases frzOk (e.new++e.frz)&&quietEff draw (opClass T all o) (opSites all o) st.heap e<;>simp
  rw[runOps];unfold guardOf;cases H:o.guard with
  | none=>exact z st
  | some G =>
   obtain⟨g,l⟩:=G;simp only;cases B:dstOf all g with
   | none=>rfl
   | some t =>
    simp only;by_cases r:∃ b,st.env.getD t .undef=.p (.bool b)
    . obtain⟨b,q⟩:=r;have A:=set_self q (by simp);rw[q];cases b
      . simp only[qCf];rw[A];cases l
        . simp only[qCf];exact z st
        . simp only[qCt,forceSt_eq];rfl
      . simp only[qCt];rw[A];cases l
        . simp only[qCf,forceSt_eq];rfl
        . simp only[qCt];exact z st
    . by_cases u:st.env.getD t .undef=.tup []
      . rw[u];simp only[forceSt_eq]
      . split
        . rename_i b q;exact absurd ⟨b,q⟩ r
        . rename_i q;exact absurd q u
        . have:(match st.env.getD t .undef with
            | .p (.bool b)=>some (b==l)
            | .tup []=>some false
            | _=>none:Option Bool)=none:=by
            split
            . rename_i b q;exact absurd ⟨b,q⟩ r
            . rename_i q;exact absurd q u
            . rfl
          rw[this]
theorem runOps_cons{k:St->Option α}(l:yieldAt draw st o=none) :
    runOps T C draw hd all (o::rest) j st k=(step1 T C draw (hd.getD j []) all o st).bind λst'=>runOps T C draw hd all rest (j+1) st' k:=by
  rw[runOps_eq,l];unfold step1;rw[act1_guard];cases guardOf all o st.env with
  | none=>rfl
  | some b =>
   cases b with
   | false=>rfl
   | true =>
    simp only;cases (stepOp T C st.env (hideH (hd.getD j []) (look st.heap)) o).run some with
    | none=>rfl
    | some e =>simp only[qOb,Option.map_some];cases frzOk (e.new++e.frz)&&quietEff draw (opClass T all o) (opSites all o) st.heap e<;>simp
theorem runOps_yield{k:St->Option α}{xs vs:List PV}(l:yieldAt draw st o=some (xs,vs)) :
    runOps T C draw hd all (o::rest) j st k=(match guardOf all o st.env with
     | none=>none
     | some false=>runOps T C draw hd all rest (j+1) {st with env:=setEnv st.env o.dst (.tup [])} k
     | some true=>fork (runOps T C draw hd all rest (j+1) (afterYield st o.dst xs vs false) k) (runOps T C draw hd all rest (j+1) (afterYield st o.dst xs vs true) k)):=by
  rw[runOps_eq,l]
theorem fork_some{p l:Option α}{x:α}(h:fork p l=some x):∃ r,p=some r/\l=some x:=by
 cases p with
 | none=>cases h
 | some r=>exact⟨r,rfl,h⟩
theorem fork_of{p l:Option α}{x r:α}(h1:p=some r)(q:l=some x):fork p l=some x:=by subst h1 q;rfl
end
structure Cx where
 w0:Base
 Pr:Nat->Prop
 M0:Nat->Prop
 β0:Nat->Option (Nat × Nat)
 hp0:Heap
 Wr:Nat->Prop
 t0:Array Value
 rd:Option Nat
 L0:List (Nat × Obj)
 nm:Nat
 Ys:Nat->Prop:=λ_=>False
 yv:Value:=undef
def Owned(β:Nat->Option (Nat × Nat))(hp:Heap)(b:Nat):Prop:=∃ s o,(look hp s).isSome=true/\β s=some (b,o)
def markOf(D:Nat):Deferred:={target:=.collected D,args:=#[]}
def NoLog(hp:Heap):Prop:=∀ xs,look hp argSite≠some (.log true xs)
structure Fix (cx:Cx) (M:Nat->Prop) (β:Nat->Option (Nat × Nat)) (hp:Heap) (a:Act) (w:World) (L:List (Nat × Obj)) (ds:List Nat):Prop where
 lies:∀ p∈L,w.heap[p.1]?=some p.2/\¬ Owned β hp p.1/\¬ M p.1
 sub:∀ p∈cx.L0,p∈L
 marks:a.defers=ds.map markOf
 nodup:ds.Nodup
 mark:∀ D∈ds,(D,Obj.deferred (some []))∈L/\cx.nm<=D/\((D,Obj.deferred (some []))∈cx.L0\/cx.w0.heap.size<=D)
 rd:∀ l,cx.rd=some l->∃ r,(l,Obj.loop r)∈L
 size:a.tmps.size=cx.t0.size
 tmps:∀ t,¬ cx.Wr t->a.tmps.getD t undef=cx.t0.getD t undef
 one:¬ NoLog cx.hp0->ds=[]
 yl:∀ t,cx.Ys t->a.tmps.getD t undef=cx.yv\/a.tmps.getD t undef=undef
 nml:cx.nm<=cx.w0.heap.size
def OpFit(cx:Cx)(o:Oper):Prop:=(∀ t,o.dst=some t->cx.Wr t)/\∀ t,o.dst=some t->cx.Ys t->∃ s,cx.Ys s/\(o.op=.move (.tmp s)\/o.op=.assign (.tmp s))
def Inv(cx:Cx)(st:St)(a:Act)(w:World):Prop:=
 ∃ M β L ds,Rel cx.w0 cx.Pr cx.M0 M β st a w/\(∀ s,argSite<=s->β s=cx.β0 s)/\ArgsLike cx.hp0 st.heap/\DrawnLe cx.w0.gl cx.w0.drawn w.drawn/\Fix cx M β st.heap a w L ds
section
variable {w0:Base} {Pr M0 M M':Nat->Prop} {β β':Nat->Option (Nat × Nat)} {st st':St} {a a':Act} {w w':World}
theorem Rel.rebase(r:Rel w0 Pr M0 M β st a w):Rel ⟨w,w0.n0,Nat.le_trans w0.le' r.size,w0.gl⟩ (Owned β st.heap) M M β st a w:=
 ⟨r.tsize,r.env,r.heap,λs b o l p=>⟨(r.own s b o l p).1,(r.own s b o l p).2.1,.inr ⟨s,o,l,p⟩,(r.own s b o l p).2.2.2⟩,r.inj,r.msub,λ_ h=>.inl h,λ_ h=>h,λ_ _ _=>rfl,λ_ _ _ _ h=>h,qNr _,rfl,rfl,rfl,r.glob⟩
theorem Rel.unbase(r:Rel w0 Pr M0 M β st a w){le:w0.n0<=w.heap.size}(l:Rel ⟨w,w0.n0,le,w0.gl⟩ (Owned β st.heap) M M' β' st' a' w'):Rel w0 Pr M0 M' β' st' a' w':=by
 have A:∀ b,Owned β st.heap b->w0.heap.size<=b\/Pr b:=λb ⟨s,o,u,p⟩=>(r.own s b o u p).2.2.1;have G:∀ b,b<w.heap.size->¬ Owned β st.heap b->w'.heap[b]?=w.heap[b]?:=l.keep;have q:w.heap.size<=w'.heap.size:=l.size;refine⟨l.tsize,l.env,l.heap,λs b o u p=>?_,l.inj,l.msub,λb h=>?_,λb h=>l.mold b (r.mold b h),λb h1 h2=>?_,λb n h1 h2 H=>?_,Nat.le_trans r.size q,l.os.trans r.os,l.tape.trans r.tape,l.output.trans r.output,l.glob⟩
 . obtain⟨O,N,J,I⟩:=l.own s b o u p;refine⟨O,N,?_,I⟩;rcases J with h | h
   . have h:w.heap.size<=b:=h;have:=r.size;left;omega
   grind
 . rcases l.mnew b h with h |⟨h,h'⟩
   . exact r.mnew b h
   . refine .inr ⟨h,?_⟩;rcases h' with h' | h'
     . have h':w.heap.size<=b:=h';have:=r.size;left;omega
     grind
 . have p:b<w.heap.size:=by have:=r.size;omega
   rw[G b p λh=>?_,r.keep b h1 h2];grind
 . have p:b<w.heap.size:=by have:=r.size;omega
   have z:=r.room b n h1 h2 H;by_cases B:Owned β st.heap b
   . exact l.room b n h1 B z
   . exact z.of_block (G b p B)
end
theorem put_defers(a:Act)(d:Option Nat)(c:Value):(a.put d c).defers=a.defers:=by cases d<;>rfl
theorem put_size(a:Act)(d:Option Nat)(c:Value):(a.put d c).tmps.size=a.tmps.size:=by cases d<;>simp[Act.put]
theorem put_get{a:Act}{d:Option Nat}{c:Value}(h:d≠some t):(a.put d c).tmps.getD t undef=a.tmps.getD t undef:=by
 cases d with
 | none=>rfl
 | some d=>simp_all[Act.put,qAb]
section
variable {P:Program} {T:Tab} {cx:Cx} {st st':St} {a:Act} {w:World} {o:Oper}
theorem Fix.put{M:Nat->Prop}{β:Nat->Option (Nat × Nat)}{hp:Heap}{L:List (Nat × Obj)}{ds:List Nat}(f:Fix cx M β hp a w L ds){d:Option Nat}(hd:∀ t,d=some t->cx.Wr t)(c:Value)(q:∀ t,d=some t->cx.Ys t->c=cx.yv\/c=undef):Fix cx M β hp (a.put d c) w L ds:=
 ⟨f.lies,f.sub,by rw[put_defers];exact f.marks,f.nodup,f.mark,f.rd,by rw[put_size];exact f.size,λt l=>by rw[put_get λe=>l (hd t e)];exact f.tmps t l,f.one,λt l=>by
   by_cases e:d=some t
   . subst e;by_cases p:t<a.tmps.size
     . have:(a.put (some t) c).tmps.getD t undef=c:=by simp[Act.put,p]
       grind
     grind[Act.put]
   . rw[put_get e];exact f.yl t l,f.nml⟩
theorem Fix.move(f:Fix cx M β hp a w L ds)(h:∀ p∈L,w'.heap[p.1]?=w.heap[p.1]?/\¬ Owned β' hp' p.1/\¬ M' p.1):Fix cx M' β' hp' a w' L ds:=
 ⟨λp hp=>⟨(h p hp).1.trans (f.lies p hp).1,(h p hp).2⟩,f.sub,f.marks,f.nodup,f.mark,f.rd,f.size,f.tmps,f.one,f.yl,f.nml⟩
theorem Fix.less(f:Fix cx M β hp a w L ds)(h:∀ p∈L,w'.heap[p.1]?=w.heap[p.1]?)(l:∀ b,Owned β' hp' b->Owned β hp b):Fix cx M β' hp' a w' L ds:=
 f.move λp hp=>⟨h p hp,λh'=>(f.lies p hp).2.1 (l _ h'),(f.lies p hp).2.2⟩
theorem Fix.step{w0:Base}{Pr M0:Nat->Prop}{a':Act}(f:Fix cx M β st.heap a w L ds)(_r:Rel w0 Pr M0 M β st a w){le:w0.n0<=w.heap.size}
    (l:Rel ⟨w,w0.n0,le,w0.gl⟩ (Owned β st.heap) M M' β' st' a' w'):Fix cx M' β' st'.heap a w' L ds:=by
  refine f.move λp hp=>?_;obtain⟨h1,h2,A⟩:=f.lies p hp;have q:p.1<w.heap.size:=(qAa.1 h1).1;refine⟨l.keep p.1 q h2,λ⟨s,o,r,z⟩=>?_,λu=>?_⟩
  . rcases(l.own s p.1 o r z).2.2.1 with h | h;all_goals grind
  . rcases l.mnew p.1 u with h |⟨_,h | h⟩;all_goals grind
theorem hide_sub{U:List Nat}{b:Blk}(l:hideH U h s=some b):h s=some b:=by unfold hideH at l;split at l;all_goals grind
theorem yielded_of(q:ops.toList=all)(hd:dstOf all g=some t)(i:Inv cx st a w){b:Bool}(u:st.env.getD t .undef=.p (.bool b)):yielded ops a.tmps g=some b:=by
 obtain⟨M,β,L,ds,r,_⟩:=i;subst q;have h1:=r.slot t;rw[u]at h1;have h2:=h1.p_bool;unfold yielded;unfold dstOf at hd;rw[Array.getElem?_toList]at hd;rw[hd];have l:t<a.tmps.size:=by
  have:t<st.env.length:=by grind
  have:=r.tsize;omega
 simp_all
theorem yielded_hole(p:ops.toList=all)(hd:dstOf all g=some t)(i:Inv cx st a w)(q:st.env.getD t .undef=.tup []):yielded ops a.tmps g=none:=by
 obtain⟨M,β,L,ds,r,_⟩:=i;subst p;have h1:=r.slot t;rw[q]at h1;unfold yielded;unfold dstOf at hd;rw[Array.getElem?_toList]at hd;rw[hd];simp only[qOb];cases l:a.tmps[t]? with
 | none=>rfl
 | some c =>
  rw[qAb,l]at h1;simp only[Option.getD_some]at h1;cases h1 with
  | tup _ vs u _=>rfl
theorem step_nodefer{e:Eff}(h1:(stepOp T C env h o).run some=some e):∀ c,o.op≠.defer c:=by grind[stepOp,DT.run]
theorem wpIn_hand(l:o.op=.move (.tmp s)\/o.op=.assign (.tmp s)):o.wpIn (FW rd) n P a w K Q↔K (a.put o.dst (a.tmps.getD s undef)) w:=by
 have p:∀ c,o.op≠.defer c:=λc r=>by rcases l with h | h<;>rw[h]at r<;>cases r
 have q:(execOp a.eval o).run P w=.ok (.value (a.tmps.getD s undef)) w:=by obtain⟨dst,op,type,pos,after,guard⟩:=o;rcases l with h | h<;>(simp only at h;subst h;simp[execOp,Act.eval])
 constructor
 . intro h;have h2:=h.2;rw[Oper.semAt_plain (FW rd) a.eval o p,q]at h2;exact h2
 . intro h;refine wpIn_exec p ?_;rw[q];exact h
theorem sim1(ok:TabOk P T)(hC:CallOk P T cx.w0.gl C){hd:List Nat}(he:ops.toList=all)(O:OpFit cx o)(i:Inv cx st a w)
    (h:step1 T C draw hd all o st=some st')(V:∀ a' w',Inv cx st' a' w'->K a' w'):
    if Region.wanted o (yielded ops a.tmps)then o.wpIn (FW rd) n P a w K Q else K (a.put o.dst undef) w:=by
  have key:∀ e,((stepOp T C st.env (hideH hd (look st.heap)) o).run some)=some e->frzOk (e.new++e.frz)=true->st'=st.apply o.dst e->o.wpIn (FW rd) n P a w K Q:=by
   intro e h1 h2 l;obtain⟨M,β,L,ds,r,N,J,I,H⟩:=i;have u:=(sim_op (w0:=⟨w,cx.w0.n0,Nat.le_trans cx.w0.le' r.size,cx.w0.gl⟩) (o:=o) ok hC r.rebase (h':=hideH hd (look st.heap)) λs b=>hide_sub).sim (step_nodefer h1) Eff some e h1 rd n Q;by_cases q:∃ t,o.dst=some t/\cx.Ys t
   . obtain⟨t,ht,S⟩:=q;obtain⟨s,q,U⟩:=O.2 t ht S;rw[wpIn_hand U]at u ⊢;obtain⟨_,e',M',β',h5,B,W⟩:=u;cases h5;obtain⟨G,Y,X⟩:=W h2;exact V _ w ⟨M',β',L,ds,by rw[l];exact r.unbase G,λs u=>(Y s u).trans (N s u),by rw[l];exact J.trans X,I.trans B,by rw[l];exact(H.step r G).put O.1 _ λ_ _ _=>H.yl s q⟩
   . refine Oper.wpIn_mono (λa' w' h4=>?_) u;obtain⟨⟨c,rfl⟩,e',M',β',h5,B,W⟩:=h4;cases h5;obtain⟨G,Y,X⟩:=W h2;exact V _ w' ⟨M',β',L,ds,by rw[l];exact r.unbase G,λs u=>(Y s u).trans (N s u),by rw[l];exact J.trans X,I.trans B,by rw[l];exact(H.step r G).put O.1 c λt h1 h2=>absurd ⟨t,h1,h2⟩ q⟩
  have skip:st'={st with env:=setEnv st.env o.dst (.tup [])}->K (a.put o.dst undef) w:=by intro l;obtain⟨M,β,L,ds,r,N,J,I,H⟩:=i;exact V _ _ ⟨M,β,L,ds,by rw[l];exact r.setEnv o.dst (.tup [] #[] rfl λi c h=>by simp at h),N,by rw[l];exact J,I,by rw[l];exact H.put O.1 _ λ_ _ _=>.inr rfl⟩
  have go:∀ x:Option Eff,x=((stepOp T C st.env (hideH hd (look st.heap)) o).run some)->(match x.map some with
        | none=>none
        | some none=>some {st with env:=setEnv st.env o.dst (.tup [])}
        | some (some e)=>if(frzOk (e.new++e.frz)&&quietEff draw (opClass T all o) (opSites all o) st.heap e)=true then some (st.apply o.dst e)else none:Option St)=some st'->o.wpIn (FW rd) n P a w K Q:=by
    intro x hx h;cases x with
    | none=>simp at h
    | some e=>grind
  unfold step1 act1 at h;cases hg:o.guard with
  | none=>simp_all[Region.wanted,if_true]
  | some gw =>
   obtain⟨g,Z⟩:=gw;rw[hg]at h;simp only at h;cases z:dstOf all g with
   | none=>rw[z]at h;simp at h
   | some t =>
    rw[z]at h;simp only at h;cases A:st.env.getD t .undef with
    | p v =>
     cases v with
     | bool b =>rw[A]at h;simp only at h;have hy:=yielded_of he z i A;grind[Region.wanted]
     | _=>rw[A]at h;simp at h
    | tup cs =>
     cases cs with
     | cons x r=>rw[A]at h;simp at h
     | nil =>rw[A]at h;simp only at h;have hy:=yielded_hole he z i A;grind[Region.wanted]
    | _=>rw[A]at h;simp at h
theorem noLog_like(h:NoLog hp)(l:ArgsLike hp hp'):NoLog hp':=by
 intro xs p;obtain⟨blk,h1,h2⟩:=l argSite (qNr _) _ p;cases blk with
 | box=>exact h2.elim
 | arr=>exact h2.elim
 | log on ys=>exact h ys (by rw[h1];cases (show on=true from h2);rfl)
theorem NoLog.yield(h:NoLog st.heap)(draw:Bool):yieldAt draw st o=none:=by
 cases draw with
 | true=>rfl
 | false =>
  show yieldOf st o=none;unfold yieldOf;split
  . split
    . split
      . split
        . rename_i h1 _;exact absurd h1 (h _)
        . rfl
      . rfl
    . rfl
  . rfl
theorem Inv.noLog(i:Inv cx st a w)(h:NoLog cx.hp0):NoLog st.heap:=by obtain⟨M,β,L,ds,r,q,l,p,u⟩:=i;exact noLog_like h l
theorem sim_text(ok:TabOk P T){C:CallF}(z:CallOk P T cx.w0.gl C){α:Type}{draw:Bool}{hd:List (List Nat)}{ops:Array Oper}(r:NoLog cx.hp0){rd:Option Nat}{n:Nat}{Q:Exit->Act->World->Prop}{k:St->Option α}{x:α}(u:∀ st' a' w',k st'=some x->Inv cx st' a' w'->Q .normal a' w') :
    ∀(l:List Oper) (j:Nat) (st:St) (a:Act) (w:World),(∀ o∈l,OpFit cx o)->runOps T C draw hd ops.toList l j st k=some x->Inv cx st a w->wpListIn (FW rd) n P ops Q l a w
  |[],j,st,a,w,_,h,i=>u st a w h i
  | o::rest,j,st,a,w,p,h,i=>by
   rw[runOps_cons _ _ ((i.noLog r).yield draw)]at h;cases h1:step1 T C draw (hd.getD j []) ops.toList o st with
   | none=>rw[h1]at h;cases h
   | some q =>
    rw[h1]at h;have:=sim1 ok z rfl (p o (by simp)) i h1 (rd:=rd) (n:=n) (K:=wpListIn (FW rd) n P ops Q rest) (λa' w' A=>sim_text ok z r u rest (j+1) q a' w' (λo B=>p o (by simp[B])) h A) (Q:=Q);unfold wpListIn;split
    . grind
    . rename_i p;rw[if_neg p]at this;exact⟨λ_ _=>trivial,this⟩
end
end
section
variable {env env':List AV}{x y:AV}{h h':Nat->Option Blk}{o:Oper}{all:List Oper}{op:BinOp}{t:TypeId}{e:Eff}{kc:Bool}
section
variable {T:Tab} {C:CallF}
theorem evalOs_congr{env env':List AV}:∀{l:List Operand},(∀ x∈l,evalO env x=evalO env' x)->evalOs env l=evalOs env' l
 |[],_=>rfl
 | x::r,h=>by have:=evalOs_congr (l:=r) λy p=>h y (List.mem_cons_of_mem _ p);simp_all[evalOs,this]
theorem partsEval_congr{env env':List AV}:∀{l:List (Nat × Operand)},(∀ x∈l,evalO env x.2=evalO env' x.2)->partsEval env l=partsEval env' l
 |[],_=>rfl
 |(i,x)::r,h=>by have:=partsEval_congr (l:=r) λy p=>h y (List.mem_cons_of_mem _ p);simp_all[partsEval,this]
theorem optEval_congr{x:Option Operand}(h:∀ y,x=some y->evalO env y=evalO env' y):optEval env x=optEval env' x:=by
 cases x with
 | none=>rfl
 | some y=>simp[optEval,h y rfl]
theorem stepOp_congr(p:∀ x∈o.op.operands,evalO env x=evalO env' x):stepOp T C env h o=stepOp T C env' h o:=by
 obtain⟨dst,op,type,pos,after,guard⟩:=o;cases op with
 | call c =>obtain⟨callee,args,ts⟩:=c;simp only[Op.operands,Call.operands]at p;have G:∀ x∈args.toList,evalO env x=evalO env' x:=λx q=>p x (by simp[Array.mem_toList_iff.1 q]);have H:=evalOs_congr G;simp only[stepOp];split;all_goals grind
 | build t z =>simp only[Op.operands]at p;simp only[stepOp];rw[partsEval_congr λx q=>p x.2 (by simp;exact⟨x.1,by simpa using q⟩)]
 | buildSlice t n z =>simp only[Op.operands]at p;simp only[stepOp];rw[partsEval_congr λx q=>p x.2 (by simp;exact⟨x.1,by simpa using q⟩)]
 | makeFunc fn first u =>simp only[Op.operands]at p;simp only[stepOp];rw[evalOs_congr λx q=>p x (by simp[Array.mem_toList_iff.1 q]),evalOs_congr (l:=u.toList) λx q=>p x (by simp[Array.mem_toList_iff.1 q])]
 | slice t x lo B A =>simp only[Op.operands]at p;simp only[stepOp];rw[p x (by simp),optEval_congr (x:=lo) λy r=>p y (by simp[r]),optEval_congr (x:=B) λy r=>p y (by simp[r]),optEval_congr (x:=A) λy r=>p y (by simp[r])]
 | assign x=>grind[Op.operands,stepOp]
 | _ =>
  simp only[Op.operands]at p;simp only[stepOp];try simp at p
  try simp only[p]
theorem tmpsOf_mem{t:Nat}:∀{l:List Operand},Operand.tmp t∈l->t∈tmpsOf l
 |[],h=>by simp at h
 | x::r,h=>by
  rcases List.mem_cons.1 h with rfl | h
  . simp[tmpsOf]
  . have:=tmpsOf_mem h;cases x<;>simp[tmpsOf,this]
def actE(T:Tab)(C:CallF)(all:List Oper)(o:Oper)(env:List AV)(h:Nat->Option Blk):Option Eff:=(act1 T C all o env h).map λx=>x.getD {val:=.tup []}
theorem act1_congr(q:∀ t∈looksOf all o,env.getD t .undef=env'.getD t .undef):act1 T C all o env h=act1 T C all o env' h:=by
 have p:stepOp T C env h o=stepOp T C env' h o:=stepOp_congr λx l=>by
  cases x with
  | tmp t =>show env.getD t .undef=env'.getD t .undef;exact q t (by unfold looksOf;exact List.mem_append_left _ (tmpsOf_mem (by simpa using l)))
  | _=>rfl
 unfold act1;rw[p];grind[looksOf,dstOf]
theorem actE_congr(l:∀ t∈looksOf all o,env.getD t .undef=env'.getD t .undef):actE T C all o env h=actE T C all o env' h:=by unfold actE;rw[act1_congr l]
theorem stepOp_pure(l:opClass T all o=.pure):stepOp T C env h o=stepOp T C env h' o:=by
 obtain⟨dst,op,type,pos,after,guard⟩:=o;cases op with
 | call c =>
  obtain⟨callee,args,ts⟩:=c;cases callee with
  | builtin b =>cases b<;>first | rfl |(simp only[opClass]at l;cases q:fullApp args.toList all<;>rw[q]at l<;>simp at l;done) |(simp[opClass]at l)
  | value f=>grind[opClass]
  | invoke r n=>simp[opClass]at l
 | slice t x lo z u=>grind[opClass,stepOp]
 | store t p v=>grind[opClass]
 | assign x=>rfl
 | move x=>rfl
 | _=>first | rfl |(simp[opClass]at l)
theorem actE_pure(l:opClass T all o=.pure):actE T C all o env h=actE T C all o env h':=by unfold actE act1;rw[stepOp_pure l (h':=h')]
theorem stepOp_const(l:opClass T all o=.const):∃ v,(v=.undef\/∃ x,v=.p x)/\∀ env h,stepOp T C env h o=.ret {val:=v}:=by
 have val:∀ x,isConstO x=true->∃ v,(v=.undef\/∃ y,v=.p y)/\∀ env,evalO env x=v:=by
  intro x q;cases x with
  | tmp t=>simp[isConstO]at q
  | global g=>simp[isConstO]at q
  | func f=>exact⟨.p (.fn f []),.inr ⟨_,rfl⟩,λ_=>rfl⟩
  | const v =>
   cases u:ofValue v with
   | none=>exact⟨.undef,.inl rfl,λenv=>by simp[evalO,u]⟩
   | some y=>exact⟨.p y,.inr ⟨_,rfl⟩,λenv=>by simp[evalO,u]⟩
 obtain⟨dst,op,type,pos,after,guard⟩:=o;cases op with
 | move x =>
  simp only[opClass]at l;cases q:isConstO x with
  | false =>rw[q]at l;simp only[qCf,moveCls]at l;grind
  | true=>simp_all[stepOp]
 | assign x =>
  simp only[opClass]at l;split at l
  . cases l
  . rename_i y A r;cases r;cases q:isConstO x with
    | false=>rw[q]at l;simp at l
    | true=>simp_all[stepOp]
  all_goals grind
 | call c=>grind[opClass]
 | slice t x lo B z=>grind[opClass]
 | store t p v=>grind[opClass]
 | _=>simp[opClass]at l
theorem isPV_or{v:AV}(h:v.isPV=true):v=.tup []\/∃ x,v=.p x:=by
 cases v with
 | p x=>exact .inr ⟨x,rfl⟩
 | tup l=>cases l with
  | nil=>exact .inl rfl
  | cons a l=>simp[AV.isPV]at h
 | _=>simp[AV.isPV]at h
theorem stepBin0_p(h:(stepBin0 T op t x y).run some=some e):∃ p q,x=.p p/\y=.p q:=by
 cases x with
 | p p=>cases y with
  | p q=>exact⟨p,q,rfl,rfl⟩
  | _=>cases p<;>simp[stepBin0,DT.run]at h
 | _=>simp[stepBin0,DT.run]at h
theorem stepNil_p{q:PV}(h:(stepNil T op t kc x (.p q)).run some=some e):∃ p,x=.p p:=by
 cases x with
 | p p=>exact⟨p,rfl⟩
 | _=>cases q<;>simp[stepNil,DT.run]at h
theorem stepBin_p(h:(stepBin T op t kc x y).run some=some e):∃ p q,x=.p p/\y=.p q:=by
 unfold stepBin at h;split at h
 . obtain⟨p,rfl⟩:=stepNil_p h;exact⟨p,_,rfl,rfl⟩
 . obtain⟨p,rfl⟩:=stepNil_p h;exact⟨p,_,rfl,rfl⟩
 . exact stepBin0_p h
theorem stepUn_p{op:UnOp}(h:(stepUn op x).run some=some e):∃ p,x=.p p:=by
 cases x with
 | p p=>exact⟨p,rfl⟩
 | _=>cases op<;>simp[stepUn,DT.run]at h
theorem stepOp_calc(I:opClass T all o=.plain)(r:(stepOp T C env h o).run some=some e)(hp:e.val.isPV=true)(env':List AV)(h':Nat->Option Blk)
    (H:∀ t∈tmpsOf o.op.operands.toList,∀ u:AV,u.isPV=true->env.getD t .undef=u->env'.getD t .undef=u):(stepOp T C env' h' o).run some=some e:=by
  have A:∀ x∈o.op.operands,∀ u:AV,u.isPV=true->evalO env x=u->evalO env' x=u:=by
   intro x B u G l;cases x with
   | tmp t=>exact H t (tmpsOf_mem (by simpa using B)) u G l
   | _=>exact l
  obtain⟨dst,op,type,pos,after,guard⟩:=o;cases op with
  | move x=>grind[stepOp,DT.run,qOa,Op.operands]
  | binOp op t x y z =>simp only[stepOp]at r ⊢;obtain⟨p,q,h1,h2⟩:=stepBin_p r;rw[A x (by simp[Op.operands]) (.p p) rfl h1,A y (by simp[Op.operands]) (.p q) rfl h2];grind
  | unOp op t x =>simp only[stepOp]at r ⊢;obtain⟨p,h1⟩:=stepUn_p r;rw[A x (by simp[Op.operands]) (.p p) rfl h1];grind
  | call c=>grind[opClass]
  | slice t x lo N J=>grind[opClass]
  | store t p v=>grind[opClass]
  | assign x=>grind[opClass]
  | _=>simp[opClass]at I
end
end
section
variable {h1 h2:Heap}{s st:St}{t:Nat}{draw:Bool}{o:Oper}{hd ss:List Nat}{all:List Oper}{env:List AV}{d:Option Nat}{v:AV}
def Same(s t:St):Prop:=s.env=t.env/\look s.heap=look t.heap
theorem Same.refl(s:St):Same s s:=⟨rfl,rfl⟩
theorem Same.trans{s t u:St}(h1:Same s t)(h2:Same t u):Same s u:=⟨h1.1.trans h2.1,h1.2.trans h2.2⟩
theorem Same.symm{s t:St}(h:Same s t):Same t s:=⟨h.1.symm,h.2.symm⟩
mutual
theorem refers_nil:∀(v:AV),AV.refers [] v=false
 | .undef | .p _ | .lptr _ _ _ _ | .fresh _ _ _ | .yld=>rfl
 | .slice _ _ _ _ | .bslice _ _ _ | .ptr _ _ _=>rfl
 | .fn _ cs | .agg cs | .tup cs=>by simp only[AV.refers];exact refersAny_nil cs
theorem refersAny_nil:∀(l:List AV),AV.refersAny [] l=false
 |[]=>rfl
 | v::r=>by simp[AV.refersAny,refers_nil v,refersAny_nil r]
end
theorem killEnv_nil:∀(l:List AV),killEnv [] l=l
 |[]=>rfl
 | v::r=>by simp[killEnv,AV.kill,refers_nil,killEnv_nil r]
def killH(ss:List Nat)(hp:Heap):Heap:=match ss with |[]=>hp | ss=>killHeap ss hp
def strikeH(ss:List Nat)(hp:Heap):Heap:=match ss with |[]=>hp | ss=>dropAll (killHeap ss hp) ss
theorem kill_eq(ss:List Nat)(st:St):st.kill ss=⟨killEnv ss st.env,killH ss st.heap⟩:=by
 cases ss with
 | nil=>simp[St.kill,killH,killEnv_nil]
 | cons s r=>rfl
theorem strike_eq(ss:List Nat)(st:St):st.strike ss=⟨killEnv ss st.env,strikeH ss st.heap⟩:=by
 cases ss with
 | nil=>simp[St.strike,strikeH,killEnv_nil]
 | cons s r=>rfl
theorem apply_eq(st:St)(d:Option Nat)(e:Eff):st.apply d e =
    ⟨setEnv (killEnv e.cut (killEnv (present st.heap e.new++e.frz) st.env)) d e.val,putAll (killH e.cut (strikeH (present st.heap e.new++e.frz) st.heap)) e.chg⟩:=by
  simp only[St.apply,kill_eq,strike_eq]
theorem present_congr{h1 h2:Heap}(h:look h1=look h2):∀(l:List Nat),present h1 l=present h2 l
 |[]=>rfl
 | s::r=>by simp only[present,h,present_congr h r]
theorem killH_congr(h:look h1=look h2)(ss:List Nat):look (killH ss h1)=look (killH ss h2):=by
 cases ss with
 | nil=>exact h
 | cons s r=>funext x;simp only[killH,look_killHeap,h]
theorem strikeH_congr(h:look h1=look h2)(ss:List Nat):look (strikeH ss h1)=look (strikeH ss h2):=by
 cases ss with
 | nil=>exact h
 | cons s r=>funext x;simp only[strikeH,look_dropAll,look_killHeap,h]
theorem put_congr(h:look h1=look h2)(s:Nat)(b:Blk):look (put h1 s b)=look (put h2 s b):=by funext x;simp only[look_put,h]
theorem putAll_congr:∀{c:List (Nat × Blk)} {h1 h2:Heap},look h1=look h2->look (putAll h1 c)=look (putAll h2 c)
 |[],_,_,h=>h
 |(s,b)::r,_,_,h=>putAll_congr (c:=r) (put_congr h s b)
theorem apply_congr{t:St}(h:Same s t)(d:Option Nat)(e:Eff):Same (s.apply d e) (t.apply d e):=by rw[apply_eq,apply_eq,present_congr h.2,h.1];exact⟨rfl,putAll_congr (killH_congr (strikeH_congr h.2 _) _)⟩
section
variable {T:Tab} {C:CallF}
theorem chgOk_congr{h1 h2:Heap}(h:look h1=look h2):∀ c:List (Nat × Blk),chgOk h1 c=chgOk h2 c
 |[]=>rfl
 |(s,.log _ _)::r=>rfl
 |(s,.box _)::r=>by simp only[chgOk,h,chgOk_congr h r]
 |(s,.arr _ _ _)::r=>by simp only[chgOk,h,chgOk_congr h r]
theorem quiet_congr{cls:Cls}{o:List Nat}(h:look h1=look h2)(e:Eff):quietEff draw cls o h1 e=quietEff draw cls o h2 e:=by unfold quietEff;rw[present_congr h,chgOk_congr h]
theorem step1_eq:
    step1 T C draw hd all o st=(actE T C all o st.env (hideH hd (look st.heap))).bind λe=>if(frzOk (e.new++e.frz)&&quietEff draw (opClass T all o) (opSites all o) st.heap e)=true then some (st.apply o.dst e)else none:=by
  unfold step1 actE;cases act1 T C all o st.env (hideH hd (look st.heap))with
  | none=>rfl
  | some x =>
   cases x with
   | none =>
    simp only[Option.map_some,Option.getD_none,qOb];have:quietEff draw (opClass T all o) (opSites all o) st.heap {val:=.tup []}=true:=by
     cases draw with
     | false=>rfl
     | true=>cases opClass T all o<;>rfl
    rw[if_pos (by simp[frzOk,this]),apply_eq];simp[present,killEnv_nil,killH,strikeH,putAll]
   | some e=>rfl
theorem step1_some{st':St}:step1 T C draw hd all o st=some st' ↔
    ∃ e,actE T C all o st.env (hideH hd (look st.heap))=some e/\frzOk (e.new++e.frz)=true/\quietEff draw (opClass T all o) (opSites all o) st.heap e=true/\st'=st.apply o.dst e:=by
  rw[step1_eq];cases h:actE T C all o st.env (hideH hd (look st.heap))with
  | none=>simp
  | some e=>grind
theorem step1_congr{t s':St}(h:Same s t)(h1:step1 T C draw hd all o s=some s'):∃ l,step1 T C draw hd all o t=some l/\Same s' l:=by
 obtain⟨e,r,q,p,rfl⟩:=step1_some.1 h1;refine⟨t.apply o.dst e,step1_some.2 ⟨e,?_,q,?_,rfl⟩,apply_congr h _ _⟩
 . grind[h.1,h.2]
 . rw[<- quiet_congr h.2];exact p
def lastOf:List (Nat × Blk)->Nat->Option Blk
 |[],_=>none
 |(s,b)::r,x=>match lastOf r x with
  | some c=>some c
  | none=>if x=s then some b else none
theorem look_putAll_last:∀(c:List (Nat × Blk)) (hp:Heap) (x:Nat),look (putAll hp c) x=match lastOf c x with | some b=>some b | none=>look hp x
 |[],hp,x=>rfl
 |(s,b)::r,hp,x=>by show look (putAll (put hp s b) r) x=_;rw[look_putAll_last r];grind[lastOf,look_put]
theorem lastOf_none{x:Nat}:∀{c:List (Nat × Blk)},x ∉ keysOf c->lastOf c x=none
 |[],_=>rfl
 |(s,b)::r,h=>by simp only[keysOf,List.mem_cons,not_or]at h;simp[lastOf,lastOf_none h.2,h.1]
theorem putAll_swap{c1 c2:List (Nat × Blk)}(h:∀ x,x∈keysOf c1->x ∉ keysOf c2)(hp:Heap):look (putAll (putAll hp c1) c2)=look (putAll (putAll hp c2) c1):=by
 funext x;simp only[look_putAll_last];by_cases h1:x∈keysOf c1
 . rw[lastOf_none (h x h1)]
 . rw[lastOf_none h1]
theorem keysIn_mem{ss:List Nat}:∀{c:List (Nat × Blk)},keysIn ss c=true->∀ x∈keysOf c,x∈ss
 |[],_,x,h=>by simp[keysOf]at h
 |(k,b)::r,h,x,l=>by
  simp only[keysIn,qBa]at h;simp only[keysOf,List.mem_cons]at l;rcases l with rfl | l
  . exact memN_iff.1 h.1
  . exact keysIn_mem h.2 x l
theorem subN_mem{ss:List Nat}:∀{l:List Nat},subN ss l=true->∀ x∈l,x∈ss
 |[],_,x,h=>by simp at h
 | y::r,h,x,p=>by
  simp only[subN,qBa]at h;rcases List.mem_cons.1 p with rfl | p
  . exact memN_iff.1 h.1
  . exact subN_mem h.2 x p
theorem hide_put{U:List Nat}{c:List (Nat × Blk)}(h:∀ x∈keysOf c,x∈U)(hp:Heap):hideH U (look (putAll hp c))=hideH U (look hp):=by
 cases U with
 | nil =>
  cases c with
  | nil=>rfl
  | cons p r=>obtain⟨k,b⟩:=p;exact absurd (h k (by simp[keysOf])) (by simp)
 | cons s r =>
  funext x;simp only[hideH];cases q:memN x (s::r)with
  | true=>rfl
  | false =>simp only[qCf];rw[look_putAll_last,lastOf_none λl=>memN_false.1 q (h x l)]
theorem present_empty{hp:Heap}:∀{l:List Nat},present hp l=[]↔∀ s∈l,look hp s=none
 |[]=>by simp[present]
 | s::r=>by
  simp only[present,List.mem_cons,forall_eq_or_imp];cases h:look hp s with
  | some b=>simp
  | none=>simp[present_empty]
theorem setEnv_comm{p l:Option Nat}{r q:AV}(h:∀ d,p=some d->l≠some d):setEnv (setEnv env p r) l q=setEnv (setEnv env l q) p r:=by
 cases p with
 | none=>rfl
 | some a =>
  cases l with
  | none=>rfl
  | some b=>exact List.set_comm _ _ λe=>h a rfl (by rw[e])
theorem setEnv_getD(h:d≠some t):(setEnv env d v).getD t .undef=env.getD t .undef:=by
 cases d with
 | none=>rfl
 | some a=>grind[setEnv,qLb]
theorem killEnv_set(h:v=.undef\/v=.tup []\/∃ x,v=.p x):killEnv ss (setEnv env d v)=setEnv (killEnv ss env) d v:=by
 have l:AV.kill ss v=v:=by rcases h with rfl | rfl |⟨x,rfl⟩<;>rfl
 cases d with
 | none=>rfl
 | some a =>apply List.ext_getElem?;grind[setEnv,killEnv_get,killEnv_length]
theorem killEnv_p{v:PV}:(killEnv ss env).getD t .undef=.p v↔env.getD t .undef=.p v:=by
 simp only[qLb,killEnv_get];cases env[t]? with
 | none=>simp
 | some u =>
  simp only[Option.map_some,Option.getD_some];unfold AV.kill;cases h:AV.refers ss u with
  | false=>simp
  | true =>simp only[qCt];grind[AV.refers]
theorem killEnv_hole:(killEnv ss env).getD t .undef=.tup []↔env.getD t .undef=.tup []:=by
 simp only[qLb,killEnv_get];cases env[t]? with
 | none=>simp
 | some u =>
  simp only[Option.map_some,Option.getD_some];unfold AV.kill;cases h:AV.refers ss u with
  | false=>simp
  | true =>simp only[qCt];grind[AV.refers,AV.refersAny]
def IsG(v:AV):Prop:=(∃ b,v=.p (.bool b))\/v=.tup []
theorem killEnv_g(l:IsG v):(killEnv ss env).getD t .undef=v↔env.getD t .undef=v:=by
 rcases l with⟨b,rfl⟩ | rfl
 . exact killEnv_p
 . exact killEnv_hole
theorem killEnv_v(l:v.isPV=true):(killEnv ss env).getD t .undef=v↔env.getD t .undef=v:=by
 rcases isPV_or l with rfl |⟨x,rfl⟩
 . exact killEnv_hole
 . exact killEnv_p
end
end
section
variable {all:List Oper}{o x:Oper}{st:St}{e:Eff}{env:List AV}{h:Heap}{cls:Cls}
section
variable {T:Tab} {C:CallF}
theorem noneIn_mem{ss:List Nat}:∀{l:List Nat},noneIn ss l=true->∀ x∈l,x ∉ ss
 |[],_,x,h=>by simp at h
 | y::r,h,x,p=>by
  simp only[noneIn,qBa,qBb]at h;rcases List.mem_cons.1 p with rfl | p
  . exact memN_false.1 h.1
  . exact noneIn_mem h.2 x p
theorem apartO_spec{y:Oper}(h:apartO all x y=true) :
    (∀ d,x.dst=some d->d ∉ looksOf all y)/\(∀ d,x.dst=some d->y.dst≠some d)/\(∀ d,y.dst=some d->d ∉ looksOf all x):=by
  unfold apartO at h;simp only[qBa]at h;refine⟨λd hd=>?_,λd hd=>?_,λd hd=>?_⟩
  . have:=h.1;rw[hd]at this;simp only[qBa,qBb]at this;exact memN_false.1 this.1
  . grind
  . have:=h.2;rw[hd]at this;simp only[qBb]at this;exact memN_false.1 this
theorem apply_simple{d:Option Nat}(h1:e.cut=[])(h2:e.frz=[])(l:present st.heap e.new=[]):st.apply d e=⟨setEnv st.env d e.val,putAll st.heap e.chg⟩:=by grind[apply_eq,killEnv_nil,killH,strikeH]
theorem actE_const(J:opClass T all o=.const){h:Nat->Option Blk}(q:actE T C all o env h=some e) :
    (∃ v,e={val:=v}/\(v=.undef\/v=.tup []\/∃ x,v=.p x)) /\
    ∀ env' h',(∀ g l t v,o.guard=some (g,l)->dstOf all g=some t->IsG v->env.getD t .undef=v->env'.getD t .undef=v)->actE T C all o env' h'=some e:=by
  obtain⟨v,G,H⟩:=stepOp_const (C:=C) J;have B:v=.undef\/v=.tup []\/∃ x,v=.p x:=G.imp id .inr;unfold actE act1 at q ⊢;simp only[H]at q ⊢;cases I:o.guard with
  | none=>grind[DT.run]
  | some N =>
   obtain⟨g,l⟩:=N;rw[I]at q;simp only at q ⊢;cases hd:dstOf all g with
   | none=>rw[hd]at q;simp at q
   | some t =>
    rw[hd]at q;simp only at q ⊢;by_cases A:∃ b,env.getD t .undef=.p (.bool b)
    . obtain⟨b,z⟩:=A;rw[z]at q;simp only at q;refine⟨?_,λenv' h' r=>?_⟩
      . grind[DT.run]
      . rw[r g l t _ rfl hd (.inl ⟨b,rfl⟩) z];exact q
    . by_cases u:env.getD t .undef=.tup []
      . rw[u]at q;simp only[Option.map_some,Option.getD_none,qOa]at q;subst q;refine⟨⟨.tup [],rfl,.inr (.inl rfl)⟩,λenv' h' r=>?_⟩;rw[r g l t _ rfl hd (.inr rfl) u];rfl
      grind
theorem guard_looks{g t:Nat}{l:Bool}(p:o.guard=some (g,l))(hd:dstOf all g=some t):t∈looksOf all o:=by grind[looksOf,dstOf]
theorem actE_calc(X:opClass T all o=.plain){h Y:Heap}{N:Nat->Option Blk}{ss:List Nat}(l:actE T C all o env N=some e)(I:quietEff true .plain ss Y e=true) :
    (∃ v,e={val:=v}/\(v=.undef\/v=.tup []\/∃ x,v=.p x)) /\
    ∀ env' h',(∀ t∈looksOf all o,∀ u:AV,u.isPV=true->env.getD t .undef=u->env'.getD t .undef=u)->actE T C all o env' h'=some e:=by
  have _:=h;simp only[quietEff,qBa,List.isEmpty_iff]at I;obtain⟨H,G,B,A,z⟩:=I;obtain⟨ev,ec,en,eu,ef⟩:=e;simp only at H G B A z;subst H G B A;refine⟨⟨ev,rfl,.inr (isPV_or z)⟩,λenv' h' J=>?_⟩;have hs:∀{q:Eff},(stepOp T C env N o).run some=some q->q.val.isPV=true->(stepOp T C env' h' o).run some=some q:=λh1 h2 =>stepOp_calc X h1 h2 env' h' λt V=>J t (List.mem_append_left _ V);unfold actE act1 at l ⊢;cases O:o.guard with
  | none=>simp_all
  | some Z =>
   obtain⟨g,r⟩:=Z;rw[O]at l;simp only at l ⊢;cases hd:dstOf all g with
   | none=>rw[hd]at l;simp at l
   | some t =>
    rw[hd]at l;simp only at l ⊢;have W:=guard_looks O hd;by_cases U:∃ b,env.getD t .undef=.p (.bool b)
    . obtain⟨b,S⟩:=U;rw[J t W _ rfl S];rw[S]at l;simp only at l ⊢;split at l;all_goals simp_all
    grind
def Facts(o:List Nat)(e:Eff):Cls->Prop
 | .read=>(∀ x∈keysOf e.chg,x∈o)/\(∀ x∈e.new,x∈o)
 | .own t=>(∀ x∈keysOf e.chg,x∈[t])/\e.new=[]
 | .store=>e.new=[]
 | _=>e.chg=[]/\e.new=[]
def notHeavy:Cls->Bool
 | .heavy=>false
 | _=>true
theorem quiet_facts{o:List Nat}(l:quietEff true cls o h e=true)(q:notHeavy cls=true) :
    e.cut=[]/\e.frz=[]/\present h e.new=[] /\
    Facts o e cls:=by
  cases cls with
  | heavy=>cases q
  | read =>simp only[quietEff,qBa,List.isEmpty_iff]at l;exact⟨l.1,l.2.1,l.2.2.2.2,λx p=>keysIn_mem l.2.2.1 x p,λx p=>subN_mem l.2.2.2.1 x p⟩
  | own t =>simp only[quietEff,qBa,List.isEmpty_iff]at l;exact⟨l.1,l.2.1,by rw[l.2.2.2];rfl,λx p=>keysIn_mem l.2.2.1 x p,l.2.2.2⟩
  | store =>simp only[quietEff,qBa,List.isEmpty_iff]at l;exact⟨l.1,l.2.1,by rw[l.2.2];rfl,l.2.2⟩
  | pure =>simp only[quietEff,qBa,List.isEmpty_iff]at l;exact⟨l.1,l.2.1,by rw[l.2.2.2];rfl,l.2.2.1,l.2.2.2⟩
  | const =>simp only[quietEff,qBa,List.isEmpty_iff]at l;exact⟨l.1,l.2.1,by rw[l.2.2.2];rfl,l.2.2.1,l.2.2.2⟩
  | plain =>simp only[quietEff,qBa,List.isEmpty_iff]at l;exact⟨l.1,l.2.1,by rw[l.2.2.2.1];rfl,l.2.2.1,l.2.2.2.1⟩
theorem quiet_move{o:List Nat}{h':Heap}(l:quietEff true cls o h e=true)(hp:present h' e.new=[]):quietEff true cls o h' e=true:=by
 cases cls with
 | read=>grind[quietEff]
 | _=>exact l
theorem swap{hx V:List Nat}{st1 st2:St}(h1:step1 T C true hx all x st=some st1)(h2:step1 T C true V all o st1=some st2)(hcl:clashFree T all hx V x o=true)
    (s1:∀ s∈opSites all x,s∈V)(s2:∀ s∈opSites all o,s∈hx):∃ st1' Z,step1 T C true V all o st=some st1'/\step1 T C true hx all x st1'=some Z/\Same Z st2:=by
  obtain⟨H,x1,x2,x3,rfl⟩:=step1_some.1 h1;obtain⟨r,O,o2,N,rfl⟩:=step1_some.1 h2;unfold clashFree at hcl;simp only[qBa]at hcl;obtain⟨hap,hno,l⟩:=hcl;obtain⟨a1,a2,a3⟩:=apartO_spec hap;have hno:=noneIn_mem hno;by_cases hcx:opClass T all x=.const
  . -- the first one is constant
    obtain⟨⟨v,rfl,S⟩,hk⟩:=actE_const hcx x1;have I:st.apply x.dst {val:=v}=⟨setEnv st.env x.dst v,st.heap⟩:=apply_simple rfl rfl rfl;rw[I]at O N ⊢;have z:actE T C all o st.env (hideH V (look st.heap))=some r:=by rw[<- O];exact actE_congr λt B=>(setEnv_getD λe=>a1 t e B).symm
    refine⟨st.apply o.dst r,_,step1_some.2 ⟨r,z,o2,N,rfl⟩,step1_some.2 ⟨{val:=v},hk _ _ λg want t u hg hd U X=>?_,x2,by rw[hcx];rfl,rfl⟩,?_⟩
    . rw[apply_eq];simp only;rw[setEnv_getD λe=>a3 t e (guard_looks hg hd),killEnv_g U,killEnv_g U];exact X
    . rw[apply_simple rfl rfl rfl,apply_eq,apply_eq];refine⟨?_,rfl⟩;simp only;rw[killEnv_set S,killEnv_set S];exact setEnv_comm λd hd e=>a2 d e hd
  . by_cases W:opClass T all o=.const
    . -- the second one is constant
      obtain⟨⟨v,rfl,S⟩,hk⟩:=actE_const W O;have z:actE T C all o st.env (hideH V (look st.heap))=some {val:=v}:=by refine hk _ _ λg want t u hg hd U X=>?_;rw[apply_eq]at X;simp only at X;rwa[setEnv_getD λe=>a1 t e (guard_looks hg hd),killEnv_g U,killEnv_g U]at X
      have I:st.apply o.dst {val:=v}=⟨setEnv st.env o.dst v,st.heap⟩:=apply_simple rfl rfl rfl;refine⟨st.apply o.dst {val:=v},st.apply o.dst {val:=v} |>.apply x.dst H,step1_some.2 ⟨{val:=v},z,o2,by rw[W];rfl,rfl⟩,step1_some.2 ⟨H,?_,x2,by rw[I];exact x3,rfl⟩,?_⟩
      . rw[I,<- x1];exact actE_congr λt B=>setEnv_getD λe=>a3 t e B
      . rw[I,apply_simple (st:=st.apply x.dst H) rfl rfl rfl,apply_eq,apply_eq];refine⟨?_,rfl⟩;simp only;rw[killEnv_set S,killEnv_set S];exact(setEnv_comm λd hd e=>a2 d hd e).symm
    . by_cases G:opClass T all x=.plain
      . -- the first one is a calculation
        rw[G]at x3;obtain⟨⟨v,rfl,S⟩,hk⟩:=actE_calc (h:=[]) G x1 x3;have I:st.apply x.dst {val:=v}=⟨setEnv st.env x.dst v,st.heap⟩:=apply_simple rfl rfl rfl;rw[I]at O N ⊢;have z:actE T C all o st.env (hideH V (look st.heap))=some r:=by rw[<- O];exact actE_congr λt B=>(setEnv_getD λe=>a1 t e B).symm
        refine⟨st.apply o.dst r,_,step1_some.2 ⟨r,z,o2,N,rfl⟩,step1_some.2 ⟨{val:=v},hk _ _ λt B u U X=>?_,x2,by rw[G];exact x3,rfl⟩,?_⟩
        . rw[apply_eq];simp only;rw[setEnv_getD λe=>a3 t e B,killEnv_v U,killEnv_v U];exact X
        . rw[apply_simple rfl rfl rfl,apply_eq,apply_eq];refine⟨?_,rfl⟩;simp only;rw[killEnv_set S,killEnv_set S];exact setEnv_comm λd hd e=>a2 d e hd
      . by_cases q:opClass T all o=.plain
        . -- the second one is a calculation
          rw[q]at N;obtain⟨⟨v,rfl,S⟩,hk⟩:=actE_calc (h:=[]) q O N;have z:actE T C all o st.env (hideH V (look st.heap))=some {val:=v}:=by refine hk _ _ λt B u U X=>?_;rw[apply_eq]at X;simp only at X;rwa[setEnv_getD λe=>a1 t e B,killEnv_v U,killEnv_v U]at X
          have I:st.apply o.dst {val:=v}=⟨setEnv st.env o.dst v,st.heap⟩:=apply_simple rfl rfl rfl;refine⟨st.apply o.dst {val:=v},st.apply o.dst {val:=v} |>.apply x.dst H,step1_some.2 ⟨{val:=v},z,o2,by rw[q];exact N,rfl⟩,step1_some.2 ⟨H,?_,x2,by rw[I];exact x3,rfl⟩,?_⟩
          . rw[I,<- x1];exact actE_congr λt B=>setEnv_getD λe=>a3 t e B
          . rw[I,apply_simple (st:=st.apply x.dst H) rfl rfl rfl,apply_eq,apply_eq];refine⟨?_,rfl⟩;simp only;rw[killEnv_set S,killEnv_set S];exact(setEnv_comm λd hd e=>a2 d hd e).symm
        . -- neither: both only write slots and lay blocks
          have cx:notHeavy (opClass T all x)=true:=by
           cases A:opClass T all x<;>rw[A]at l<;>first | rfl | skip
           grind
          have co:notHeavy (opClass T all o)=true:=by
           cases p:opClass T all o<;>rw[p]at l<;>first | rfl | skip
           grind
          obtain⟨p1,p2,p3,Y⟩:=quiet_facts x3 cx;obtain⟨q1,q2,q3,J⟩:=quiet_facts N co;have I:=apply_simple (d:=x.dst) p1 p2 p3;rw[I]at O N q3 ⊢;rw[apply_simple q1 q2 q3];simp only at O N q3 ⊢;have facts:(opClass T all o=.pure\/∀ s∈keysOf H.chg,s∈V)/\(opClass T all x=.pure\/∀ s∈keysOf r.chg,s∈hx)/\(∀ s∈keysOf H.chg,s ∉ keysOf r.chg)/\(∀ s∈H.new,s ∉ keysOf r.chg):=by
           cases A:opClass T all x with
           | const=>exact absurd A hcx
           | plain=>exact absurd A G
           | heavy=>rw[A]at cx;cases cx
           | pure =>rw[A]at Y;simp[Facts,Y.1,Y.2,keysOf]
           | read =>
            rw[A]at Y l;simp only[Facts]at Y;cases p:opClass T all o with
            | const=>exact absurd p W
            | plain=>exact absurd p q
            | heavy=>rw[p]at co;cases co
            | pure =>rw[p]at J;simp[Facts,J.1,keysOf]
            | read=>grind[Facts]
            | own t =>
             rw[p]at J l;simp only[Facts,qBa,qBb]at J l;have B:∀ s∈keysOf r.chg,s∈hx/\s ∉ opSites all x:=λs hs=>by have:=J.1 s hs;simp at this;subst this;exact⟨memN_iff.1 l.1,memN_false.1 l.2⟩
             grind
            | store=>rw[p]at l;simp at l
           | own t =>
            rw[A]at Y l;simp only[Facts]at Y;cases p:opClass T all o with
            | const=>exact absurd p W
            | plain=>exact absurd p q
            | heavy=>rw[p]at co;cases co
            | pure =>rw[p]at J;simp[Facts,J.1,keysOf]
            | read =>
             rw[p]at J l;simp only[Facts,qBa,qBb]at J l;have B:∀ s∈keysOf H.chg,s∈V/\s ∉ opSites all o:=λs hs=>by have:=Y.1 s hs;simp at this;subst this;exact⟨memN_iff.1 l.1,memN_false.1 l.2⟩
             grind
            | own t=>rw[p]at l;simp at l
            | store=>rw[p]at l;simp at l
           | store =>
            rw[A]at Y l;simp only[Facts]at Y;cases p:opClass T all o with
            | const=>exact absurd p W
            | plain=>exact absurd p q
            | heavy=>rw[p]at co;cases co
            | pure =>rw[p]at J;simp[Facts,J.1,keysOf]
            | read=>rw[p]at l;simp at l
            | own t=>rw[p]at l;simp at l
            | store=>rw[p]at l;simp at l
          obtain⟨f1,f2,f3,f4⟩:=facts;have n1:present st.heap r.new=[]:=by grind[present_empty,look_putAll_last]
          have z:actE T C all o st.env (hideH V (look st.heap))=some r:=by
           rw[actE_congr λt B=>setEnv_getD λe=>a1 t e B]at O;rcases f1 with f1 | f1
           . rw[<- O];exact actE_pure f1
           . rwa[hide_put f1]at O
          have n2:present (putAll st.heap r.chg) H.new=[]:=by rw[present_empty]at p3 ⊢;intro s hs;rw[look_putAll_last,lastOf_none (f4 s hs)];exact p3 s hs
          refine⟨⟨setEnv st.env o.dst r.val,putAll st.heap r.chg⟩,⟨setEnv (setEnv st.env o.dst r.val) x.dst H.val,putAll (putAll st.heap r.chg) H.chg⟩,step1_some.2 ⟨r,z,o2,quiet_move N n1,(apply_simple q1 q2 n1).symm⟩,step1_some.2 ⟨H,?_,x2,quiet_move x3 n2,(apply_simple (st:=⟨setEnv st.env o.dst r.val,putAll st.heap r.chg⟩) p1 p2 n2).symm⟩,?_⟩
          . simp only;rw[actE_congr λt B=>setEnv_getD λe=>a3 t e B];rcases f2 with f2 | f2
            . rw[<- x1];exact actE_pure f2
            . rw[hide_put f2];exact x1
          . exact⟨(setEnv_comm λd hd e=>a2 d hd e).symm,(putAll_swap (λs h1=>f3 s h1) st.heap).symm⟩
end
end
section
variable {i j:Nat}{o:Oper}
section
variable {T:Tab} {C:CallF} {hd:List (List Nat)} {all:List Oper}
def runsL(T:Tab)(C:CallF)(hd:List (List Nat))(all:List Oper):List (Nat × Oper)->St->St->Prop
 |[],st,fin=>Same st fin
 |(j,o)::r,st,fin=>∃ st1,step1 T C true (hd.getD j []) all o st=some st1/\runsL T C hd all r st1 fin
def num:Nat->List Oper->List (Nat × Oper)
 | _,[]=>[]
 | k,o::r=>(k,o)::num (k+1) r
theorem runsL_congr:∀{l:List (Nat × Oper)} {s t fin:St},Same s t->runsL T C hd all l s fin->runsL T C hd all l t fin
 |[],s,t,fin,h,h1=>h.symm.trans h1
 |(j,o)::r,s,t,fin,h,h1=>by obtain⟨u,h2,q⟩:=h1;obtain⟨p,h4,h5⟩:=step1_congr h h2;exact⟨p,h4,runsL_congr h5 q⟩
theorem runsL_of{α:Type}{k:St->Option α}{x:α}:∀{l:List Oper} {j:Nat} {st:St},runOps T C true hd all l j st k=some x->∃ fin,runsL T C hd all (num j l) st fin/\k fin=some x
 |[],j,st,h=>⟨st,Same.refl st,h⟩
 | o::r,j,st,h=>by
  rw[runOps_cons _ _ rfl]at h;cases h1:step1 T C true (hd.getD j []) all o st with
  | none=>rw[h1]at h;cases h
  | some p =>rw[h1]at h;obtain⟨fin,h2,q⟩:=runsL_of (l:=r) (j:=j+1) (st:=p) h;exact⟨fin,⟨p,h1,h2⟩,q⟩
theorem front{i:Nat}{o:Oper}{R2:List (Nat × Oper)}:∀{R1:List (Nat × Oper)} {st fin:St},runsL T C hd all (R1 ++ (i,o)::R2) st fin ->
    (∀ p∈R1,clashFree T all (hd.getD p.1 []) (hd.getD i []) p.2 o=true/\(∀ s∈opSites all p.2,s∈hd.getD i [])/\(∀ s∈opSites all o,s∈hd.getD p.1 [])) ->
    ∃ l,step1 T C true (hd.getD i []) all o st=some l/\runsL T C hd all (R1++R2) l fin
  |[],st,fin,h,_=>h
  |(j,x)::R1,st,fin,h,hp=>by obtain⟨B,h1,h2⟩:=h;obtain⟨s2,A,h4⟩:=front (R1:=R1) h2 λp hp'=>hp p (by simp[hp']);obtain⟨c1,c2,c3⟩:=hp (j,x) (by simp);obtain⟨r,q,h5,z,u⟩:=swap h1 A c1 c2 c3;exact⟨r,h5,q,z,runsL_congr u.symm h4⟩
def filt(listed:Array Bool)(l:List (Nat × Oper)):List (Nat × Oper):=l.filter λp=>!listed.getD p.1 true
theorem filt_ne{listed:Array Bool}{i:Nat}:∀{l:List Oper} {k:Nat},i<k->filt (listed.setIfInBounds i true) (num k l)=filt listed (num k l)
 |[],_,_=>rfl
 | o::r,k,h=>by have h1:=filt_ne (listed:=listed) (l:=r) (k:=k+1) (i:=i) (by omega);unfold filt at h1 ⊢;simp only[num,List.filter_cons,h1,getD_set_ne true (show i≠k by omega)]
theorem rest_split{listed:Array Bool}{i:Nat}{o:Oper}(z:listed.getD i true=false):∀{l:List Oper} {k:Nat},k<=i->l[i-k]?=some o ->
    ∃ R1 R2,filt listed (num k l)=R1++(i,o)::R2/\filt (listed.setIfInBounds i true) (num k l)=R1++R2/\∀ p∈R1,k<=p.1/\p.1<i/\l[p.1-k]?=some p.2/\listed.getD p.1 true=false
  |[],k,_,h=>by simp at h
  | x::r,k,hk,h=>by
   by_cases A:k=i
   . subst A;simp at h;subst h;refine⟨[],filt listed (num (k+1) r),?_,?_,by simp⟩
     . simp only[filt,num,List.filter_cons,z];simp
     . have:=filt_ne (listed:=listed) (l:=r) (k:=k+1) (i:=k) (by omega);have h2:(listed.setIfInBounds k true).getD k true=true:=by simp
       unfold filt at this ⊢;simp only[num,List.filter_cons,h2,this];simp
   . have h':r[i-(k+1)]?=some o:=by grind
     obtain⟨R1,R2,G,B,H⟩:=rest_split z (l:=r) (k:=k+1) (by omega) h';have q:(listed.setIfInBounds i true).getD k true=listed.getD k true:=getD_set_ne true (Ne.symm A);have up:∀ p∈R1,k<=p.1/\p.1<i/\(x::r)[p.1-k]?=some p.2/\listed.getD p.1 true=false:=λp hp=>by grind
     cases u:listed.getD k true with
     | true =>
      refine⟨R1,R2,?_,?_,up⟩
      . rw[<- G];simp only[filt,num,List.filter_cons,u];simp
      . rw[<- B];simp only[filt,num,List.filter_cons,q,u];simp
     | false =>
      refine⟨(k,x)::R1,R2,?_,?_,λp hp=>?_⟩
      . rw[List.cons_append,<- G];simp only[filt,num,List.filter_cons,u];simp
      . rw[List.cons_append,<- B];simp only[filt,num,List.filter_cons,q,u];simp
      . rcases List.mem_cons.1 hp with rfl | hp
        . grind
        grind
theorem addAll_mem{x:Nat}:∀{l acc:List Nat},x∈addAll acc l↔x∈acc\/x∈l
 |[],acc=>by simp[addAll]
 | y::r,acc=>by
  simp only[addAll,addAll_mem (l:=r),List.mem_cons];cases h:memN y acc with
  | true =>have:=memN_iff.1 h;grind
  | false=>grind
theorem preds_mem{p:List (List Nat)}{x:Nat}:∀{l:List Edge} {acc:List Nat},x∈l.foldl (λacc e=>match e.ground with
    | .textOnly _=>acc
    | .gcOnly _=>acc
    | _=>addAll (addAll acc [e.on]) (p.getD e.on [])) acc->x∈acc\/∃ e∈l,Region.binds .any e=true/\(x=e.on\/x∈p.getD e.on [])
  |[],acc,h=>.inl h
  | e::r,acc,h=>by simp only[List.foldl_cons]at h;rcases preds_mem h with h |⟨q,h1,h2⟩;all_goals grind[addAll_mem,List.mem_singleton,Region.binds]
theorem predTable_get:∀{l:List Oper} {acc:List (List Nat)},(∀ n,n<acc.length->(predTable l acc)[n]?=acc[n]?) /\
    ∀ n o,l[n]?=some o->∃ p,(predTable l acc)[acc.length+n]?=some (predsOf p o)/\∀ m,p.getD m []=[]\/p.getD m []=(predTable l acc).getD m []
  |[],acc=>⟨λn _=>rfl,λn o h=>by simp at h⟩
  | x::r,acc=>by
   obtain⟨h1,h2⟩:=predTable_get (l:=r) (acc:=acc++[predsOf acc x]);have e:predTable (x::r) acc=predTable r (acc++[predsOf acc x]):=rfl;rw[e];have pre:∀ n,n<acc.length->(predTable r (acc++[predsOf acc x]))[n]?=acc[n]?:=λn q=>by grind
   refine⟨pre,λn o q=>?_⟩;cases n with
   | zero=>grind
   | succ n=>grind
theorem pred_of{x:Nat}(r:all[i]?=some o)(p:x∈(predTable all []).getD i []):∃ e∈o.after,Region.binds .any e=true/\(x=e.on\/x∈(predTable all []).getD e.on []):=by obtain⟨_,h⟩:=predTable_get (l:=all) (acc:=[]);obtain⟨q,h1,h2⟩:=h i o r;simp only[List.length_nil,qNz]at h1;rw[qLb,h1]at p;simp only[Option.getD_some]at p;unfold predsOf at p;rcases preds_mem p with u |⟨e,u,h4,h5⟩;all_goals grind
theorem okDraw_get{tab:List (List Nat)}:∀{l:List Oper} {k:Nat},okDraw T all tab hd k l=true->∀ n o,l[n]?=some o->backEdges (k+n) o=true/\openOk T all hd (tab.getD (k+n) []) (k+n) o 0 all=true
 |[],k,_,n,o,h=>by simp at h
 | x::r,k,h,n,o,ho=>by
  simp only[okDraw,qBa]at h;cases n with
  | zero=>simp at ho;subst ho;exact⟨h.1.1,h.1.2⟩
  | succ n =>simp at ho;have:=okDraw_get h.2 n o ho;grind
theorem openOk_get{preds:List Nat}{j:Nat}{o:Oper}:∀{l:List Oper} {k:Nat},openOk T all hd preds j o k l=true->∀ n x,l[n]?=some x->k+n<j->k+n ∉ preds->clashFree T all (hd.getD (k+n) []) (hd.getD j []) x o=true
 |[],k,_,n,x,h=>by simp at h
 | y::r,k,h,n,x,hx=>by
  intro p hp;have q:Nat.ble j k=false:=by
   cases u:Nat.ble j k with
   | false=>rfl
   | true=>have:=Nat.le_of_ble_eq_true u;omega
  simp only[openOk,q,qCf,qBa]at h;cases n with
  | zero =>simp at hx;subst hx;have h1:=h.1;rw[memN_false.2 (by simpa using hp)]at h1;grind
  | succ n =>
   simp at hx;have e:k+(n+1)=k+1+n:=by omega
   rw[e]at p hp ⊢;exact openOk_get h.2 n x hx p hp
theorem back_lt(h:backEdges j o=true){e:Edge}(l:e∈o.after)(p:Region.binds .any e=true):e.on<j:=by unfold backEdges at h;have:=List.all_eq_true.1 h e (by simpa using l);unfold Region.binds at p;split at this;all_goals simp_all
theorem openSites_mem{all:List Oper}{tab:List (List Nat)}{j s:Nat}{x:Oper}:∀{l:List Oper} {k n:Nat},l[n]?=some x->k+n≠j->k+n ∉ tab.getD j []->j ∉ tab.getD (k+n) []->s∈opSites all x->s∈openSites T all tab j k l
 |[],k,n,h=>by simp at h
 | y::r,k,n,h=>by
  intro h1 h2 p h4;simp only[openSites];cases n with
  | zero =>
   simp at h;subst h;have:(k==j||memN k (tab.getD j [])||memN j (tab.getD k []))=false:=by
    have q:(k==j)=false:=by simpa using h1
    rw[q,memN_false.2 (by simpa using h2),memN_false.2 (by simpa using p)];rfl
   grind
  | succ n =>
   simp at h;have e:k+(n+1)=k+1+n:=by omega
   rw[e]at h1 h2 p;have:=openSites_mem (k:=k+1) h h1 h2 p h4;grind
theorem sameNats_eq:∀{a b:List (List Nat)},sameNats a b=true->a=b
 |[],[],_=>rfl
 | x::xs,y::ys,h=>by simp only[sameNats,qBa,beq_iff_eq]at h;rw[h.1,sameNats_eq h.2]
 |[],_::_,h=>by simp[sameNats]at h
 | _::_,[],h=>by simp[sameNats]at h
section
variable (hok:okDraw T all (predTable all []) hd 0 all=true)
include hok
theorem pred_lt:∀{i x:Nat} {o:Oper},all[i]?=some o->x∈(predTable all []).getD i []->x<i:=by
 intro i;induction i using Nat.strongRecOn with
 | _ i u =>intro x o l q;obtain⟨e,h1,h2,z⟩:=pred_of l q;have p:=(okDraw_get hok i o l).1;rw[qNz]at p;have r:=back_lt p h1 h2;grind
theorem open_pair(B:sameNats hd (hidesOf T all)=true){x:Oper}(A:all[i]?=some o)(q:all[j]?=some x)(G:j<i)(hp:j ∉ (predTable all []).getD i []) :
    clashFree T all (hd.getD j []) (hd.getD i []) x o=true/\(∀ s∈opSites all x,s∈hd.getD i [])/\(∀ s∈opSites all o,s∈hd.getD j []):=by
  have H:=sameNats_eq B;have l:∀ n,n<all.length->hd.getD n []=openSites T all (predTable all []) n 0 all:=by grind[hidesOf]
  have z:=(qLa.1 A).1;have u:=(qLa.1 q).1;have p:i ∉ (predTable all []).getD j []:=λh=>by have:=pred_lt hok q h;omega
  refine⟨?_,λs r=>?_,λs r=>?_⟩
  . have:=openOk_get (okDraw_get hok i o A).2 j x q (by omega) (by simpa using hp);grind
  . rw[l i z];exact openSites_mem (k:=0) (n:=j) q (by omega) (by simpa using hp) (by simpa using p) r
  . rw[l j u];exact openSites_mem (k:=0) (n:=i) A (by omega) (by simpa using p) (by simpa using hp) r
end
end
end
section
variable {ops:Array Oper}{hd:List (List Nat)}{Q:Exit->Act->World->Prop}{fin:St}{rd:Option Nat}{id j jc n:Nat}{α:Type}
section
variable {P:Program} {T:Tab} {C:CallF} {cx:Cx} {st st':St} {a:Act} {w:World}
theorem Inv.same(i:Inv cx st a w)(h:Same st st'):Inv cx st' a w:=by
 obtain⟨M,β,L,ds,r,B,A,z,H⟩:=i;have u:=r.congr (hp:=st'.heap) λs=>by rw[h.2]
 have e:({st with heap:=st'.heap}:St)=st':=by cases st;cases st';simp only[St.mk.injEq,and_true];exact h.1
 rw[e]at u;refine⟨M,β,L,ds,u,B,λs l b q=>A s l b ?_,z,H.less (λp hp=>rfl) λb G=>?_⟩
 . rw[h.2];exact q
 . obtain⟨s,o,l,q⟩:=G;exact⟨s,o,by rw[h.2];exact l,q⟩
theorem Inv.drew(i:Inv cx st a w):Inv cx st a {w with drawn:=w.drawn+1}:=by obtain⟨M,β,L,ds,r,u,q,l,z⟩:=i;exact⟨M,β,L,ds,r.world (w':={w with drawn:=w.drawn+1}) (qNr _) rfl rfl rfl (λ_ _ _=>rfl) (λb n _ _ _ h=>h) (λb h=>h) (λb h=>.inl h),u,q,l.trans λ_=>Nat.le_succ _,z.less (λp hp=>rfl) λ_ h=>h⟩
theorem strike_owned{β:Nat->Option (Nat × Nat)}{ss:List Nat}{b:Nat}(h:Owned β (st.strike ss).heap b):Owned β st.heap b:=by obtain⟨s,o,p,l⟩:=h;refine⟨s,o,?_,l⟩;grind[look_strike]
theorem Inv.strike(i:Inv cx st a w)(ss:List Nat):Inv cx (st.strike ss) a w:=by obtain⟨M,β,L,ds,r,u,q,l,A⟩:=i;exact⟨M,β,L,ds,r.strike ss (λb h=>h) λb h=>.inl h,u,q.trans (strike_like st ss),l,A.less (λp hp=>rfl) λ_ z=>strike_owned z⟩
theorem sim_any(ok:TabOk P T)(hC:CallOk P T cx.w0.gl C)(hok:okDraw T ops.toList (predTable ops.toList []) hd 0 ops.toList=true)(V:sameNats hd (hidesOf T ops.toList)=true)
    (hQ:∀ a w,Inv cx fin a w->Q .normal a w)(S:∀ o∈ops.toList,OpFit cx o):
    ∀(u:Nat) (listed:Array Bool) (st:St) (a:Act) (w:World),u=(filt listed (num 0 ops.toList)).length ->
     (∀ q,listed.getD q false=true->∀ p∈(predTable ops.toList []).getD q [],listed.getD p false=true)->listed.size=ops.size ->
     runsL T C hd ops.toList (filt listed (num 0 ops.toList)) st fin->Inv cx st a w->wpAnyIn (FW rd) n P .any ops Q u listed a w:=by
  intro u;induction u with
  | zero =>intro listed st a w J N A B i;have h0:filt listed (num 0 ops.toList)=[]:=List.length_eq_zero_iff.1 J.symm;rw[h0]at B;refine⟨?_,hQ a w (i.same B)⟩;rw[List.eq_nil_iff_forall_not_mem];intro j U;obtain⟨h1,o,h2,_⟩:=mem_ready.1 U;obtain⟨R1,R2,g1,_⟩:=rest_split h1 (l:=ops.toList) (k:=0) (o:=o) (by omega) (by simpa using h2);grind
  | succ u ih =>
   intro listed st a w J N A B i;refine⟨λhnil=>?_,λj U=>?_⟩
   . -- the first that is not listed is ready
     exfalso;cases hL:filt listed (num 0 ops.toList)with
     | nil=>rw[hL]at J;simp at J
     | cons p r =>
      have W:∃ n,n<ops.size/\listed.getD n true=false:=by
       have hp:p∈filt listed (num 0 ops.toList):=by rw[hL];simp
       grind[filt]
      have H:∃ n,(n<ops.size/\listed.getD n true=false)/\∀ m,m<n->¬(m<ops.size/\listed.getD m true=false):=by
       obtain⟨n,hn⟩:=W;induction n using Nat.strongRecOn with
       | _ n ihn=>grind
      obtain⟨n,⟨h1,h2⟩,h3⟩:=H;have:n∈Region.ready .any ops listed:=by rw[mem_ready];refine⟨h2,ops[n],by simp,λe he hb=>?_⟩;have hlt:=back_lt (okDraw_get hok n ops[n] (by simp)).1 he hb;grind
      grind
   . obtain⟨h1,o,h2,h3⟩:=mem_ready.1 U;have z:ops.toList[j]?=some o:=by simpa using h2
     obtain⟨R1,R2,g1,g2,g3⟩:=rest_split h1 (l:=ops.toList) (k:=0) (o:=o) (by omega) (by simpa using h2);have G:∀ p∈(predTable ops.toList []).getD j [],listed.getD p false=true:=by intro p hp;obtain⟨e,q1,Y,X⟩:=pred_of z hp;grind
     rw[g1]at B J;obtain⟨O,k1,k2⟩:=front B λp hp=>by obtain⟨q1,Y,X,q4⟩:=g3 p hp;refine open_pair hok V z (by simpa using X) Y λhm=>?_;grind
     have Z:=sim1 ok hC rfl (S o (qLe z)) i k1 (rd:=rd) (n:=n) (K:=wpAnyIn (FW rd) n P .any ops Q u (listed.setIfInBounds j true)) (λa' w' i'=>ih (listed.setIfInBounds j true) O a' w' (by
      grind) (λq hq p hp=>by
      by_cases I:j=q
      . subst I;exact getD_set_true (G p hp)
      . rw[getD_set_ne false I]at hq;exact getD_set_true (N q hq p hp)) (by simpa using A) (by rw[g2];exact k2) i') (Q:=Q)
     unfold wpOpIn;rw[h2];simp only;split
     . grind
     . rename_i S;rw[if_neg S]at Z;exact⟨λ_ _=>trivial,Z⟩
theorem allBelow_mem{l:List Nat}:∀{n m:Nat},allBelow l n=true->m<n->m∈l
 | 0,m,_,h=>by omega
 | n+1,m,ha,h=>by
  simp only[allBelow,qBa]at ha;by_cases e:m=n
  . subst e;exact memN_iff.1 ha.1
  . exact allBelow_mem ha.2 (by omega)
theorem chain_get{tab:List (List Nat)}{j:Nat}:∀{l:List Oper} {k n:Nat} {o:Oper},chainFrom tab j k l=true->l[n]?=some o->j<=k+n->∀ m,m<k+n->m∈tab.getD (k+n) []
 |[],k,n,o,_,h=>by simp at h
 | x::r,k,0,o,hc,h=>by
  intro q m p;simp only[chainFrom,qBa,Bool.or_eq_true]at hc;rcases hc.1 with h1 | h1
  . grind[Nat.blt_eq]
  . exact allBelow_mem h1 p
 | x::r,k,n+1,o,hc,h=>by intro q m p;simp only[chainFrom,qBa]at hc;simp at h;have:=chain_get (n:=n) hc.2 h (by omega) m (by omega);grind
theorem wpAny_list(hok:okDraw T ops.toList (predTable ops.toList []) hd 0 ops.toList=true)(X:chainFrom (predTable ops.toList []) j 0 ops.toList=true){F:Fence}:
    ∀(l:List Oper) (i:Nat) (listed:Array Bool) (a:Act) (w:World),j<=i->ops.toList.drop i=l->listed.size=ops.size->(∀ q,q<ops.size->listed.getD q false=decide (q<i))->wpListIn F n P ops Q l a w->wpAnyIn F n P .any ops Q l.length listed a w:=by
  have gd:∀(listed:Array Bool) (q:Nat),q<listed.size->listed.getD q true=listed.getD q false:=λlisted q h=>by simp[h]
  intro l;induction l with
  | nil =>intro i listed a w U z A p h;refine⟨?_,h⟩;rw[List.eq_nil_iff_forall_not_mem];intro q S;obtain⟨h1,o,h2,_⟩:=mem_ready.1 S;have G:q<ops.size:=(qAa.1 h2).1;rw[gd listed q (by omega),p q G]at h1;have:ops.toList.length<=i:=List.drop_eq_nil_iff.1 z;grind
  | cons o r ih =>
   intro i listed a w U z A p h;have hi:ops.toList[i]?=some o:=by
    have:(ops.toList.drop i)[0]?=some o:=by rw[z];rfl
    grind
   have hr:ops.toList.drop (i+1)=r:=by rw[<- List.drop_drop,z];rfl
   have u:ops[i]?=some o:=by simpa using hi
   have V:i<ops.size:=(qAa.1 u).1;have B:i∈Region.ready .any ops listed:=by rw[mem_ready];refine⟨by rw[gd listed i (by omega),p i V];simp,o,u,λe I hb=>?_⟩;have G:=back_lt (okDraw_get hok i o hi).1 I hb;grind
   refine⟨λh0=>by rw[h0]at B;simp at B,λq S=>?_⟩;obtain⟨h1,oq,h2,h3⟩:=mem_ready.1 S;have hql:q<ops.size:=(qAa.1 h2).1;have hqi:i<=q:=by grind
   have O:q=i:=by
    by_cases e:q=i
    . exact e
    . exfalso;have hm:i∈(predTable ops.toList []).getD q []:=by have:=chain_get (k:=0) (n:=q) (o:=oq) X (by simpa using h2) (by omega) i (by omega);grind
      obtain⟨J,Z,Y,N⟩:=pred_of (by simpa using h2) hm;have I:=h3 J Z Y;have W:=back_lt (okDraw_get hok q oq (by simpa using h2)).1 Z Y;rw[qNz]at W;rw[p J.on (by omega)]at I;have I:J.on<i:=by simpa using I
      rcases N with N | N
      . omega
      . have:=pred_lt hok (i:=J.on) (x:=i) (o:=ops.toList[J.on]'(by simp;omega)) (by simp) N;omega
   subst O;rw[u]at h2;cases h2;unfold wpListIn at h;unfold wpOpIn;rw[u];simp only;have H:∀ k,k<ops.size->(listed.setIfInBounds q true).getD k false=decide (k<q+1):=λk hk=>by
    by_cases e:q=k
    . simp_all
    . rw[getD_set_ne false e,p k hk];grind
   have next:∀ a w,wpListIn F n P ops Q r a w->wpAnyIn F n P .any ops Q r.length (listed.setIfInBounds q true) a w:=λa w h=>ih (q+1) (listed.setIfInBounds q true) a w (by omega) hr (by simpa using A) H h
   split
   . rename_i hw;rw[if_pos hw]at h;exact Oper.wpIn_mono next h
   grind
theorem num_bound{p:Nat × Oper}:∀{l:List Oper} {k:Nat},p∈num k l->k<=p.1/\p.1<k+l.length
 |[],k,h=>by simp[num]at h
 | o::r,k,h=>by
  simp only[num,List.mem_cons]at h;rcases h with rfl | h
  . simp
  . have:=num_bound h;grind
theorem sim_anyT(ok:TabOk P T)(hC:CallOk P T cx.w0.gl C)(hok:okDraw T ops.toList (predTable ops.toList []) hd 0 ops.toList=true)(hhd:sameNats hd (hidesOf T ops.toList)=true)
    (hjc:jc<=ops.size)(V:chainFrom (predTable ops.toList []) jc 0 ops.toList=true) 
    (hQ:∀ a w,Inv cx fin a w->wpListIn (FW rd) n P ops Q (ops.toList.drop jc) a w)(hw:∀ o∈ops.toList,OpFit cx o) :
    ∀(u:Nat) (listed:Array Bool) (st:St) (a:Act) (w:World),u=(filt listed (num 0 (ops.toList.take jc))).length->(∀ q,jc<=q->q<ops.size->listed.getD q false=false) ->
     (∀ q,listed.getD q false=true->∀ p∈(predTable ops.toList []).getD q [],listed.getD p false=true)->listed.size=ops.size ->
     runsL T C hd ops.toList (filt listed (num 0 (ops.toList.take jc))) st fin->Inv cx st a w->wpAnyIn (FW rd) n P .any ops Q (u+(ops.size-jc)) listed a w:=by
  intro u;induction u with
  | zero =>
   intro listed st a w B G U A H i;have h0:filt listed (num 0 (ops.toList.take jc))=[]:=List.length_eq_zero_iff.1 B.symm;rw[h0]at H;have hls:∀ q,q<ops.size->listed.getD q false=decide (q<jc):=λq W=>by
    by_cases e:q<jc
    . have N:q<listed.size:=by omega
      cases X:listed.getD q false with
      | true=>simp[e]
      | false =>
       exfalso;have h1:listed.getD q true=false:=by simpa[N] using X
       obtain⟨R1,R2,g1,_⟩:=rest_split h1 (l:=ops.toList.take jc) (k:=0) (o:=ops.toList[q]'(by simpa using W)) (by omega) (by grind);grind
    grind
   have O:(ops.toList.drop jc).length=ops.size-jc:=by simp
   rw[qNz,<- O];exact wpAny_list hok V (ops.toList.drop jc) jc listed a w (qNr _) rfl A hls (hQ a w (i.same H))
  | succ u ih =>
   intro listed st a w B G U A H i;rw[show u+1+(ops.size-jc)=(u+(ops.size-jc))+1 from by omega];refine⟨λhnil=>?_,λj hj=>?_⟩
   . -- the first that is not listed is ready
     exfalso;cases Y:filt listed (num 0 (ops.toList.take jc))with
     | nil=>rw[Y]at B;simp at B
     | cons p r =>
      have hex:∃ n,n<ops.size/\listed.getD n true=false:=by
       have hp:p∈filt listed (num 0 (ops.toList.take jc)):=by rw[Y];simp
       grind[filt]
      have J:∃ n,(n<ops.size/\listed.getD n true=false)/\∀ m,m<n->¬(m<ops.size/\listed.getD m true=false):=by
       obtain⟨n,hn⟩:=hex;induction n using Nat.strongRecOn with
       | _ n ihn =>
        by_cases hm:∃ m,m<n/\(m<ops.size/\listed.getD m true=false)
        . obtain⟨m,h1,h2⟩:=hm;exact ihn m h1 h2
        grind
      obtain⟨n,⟨h1,h2⟩,h3⟩:=J;have:n∈Region.ready .any ops listed:=by rw[mem_ready];refine⟨h2,ops[n],by simp,λe he X=>?_⟩;have N:=back_lt (okDraw_get hok n ops[n] (by simp)).1 he X;grind
      grind
   . obtain⟨h1,o,h2,h3⟩:=mem_ready.1 hj;have z:ops.toList[j]?=some o:=by simpa using h2
     have hjl:j<ops.size:=(qAa.1 h2).1;have hpre0:∀ p∈(predTable ops.toList []).getD j [],listed.getD p false=true:=by intro p hp;obtain⟨e,q1,q2,q3⟩:=pred_of z hp;grind
     have hjj:j<jc:=by
      by_cases e:j<jc
      . exact e
      . exfalso;have hp0:∃ p,p∈filt listed (num 0 (ops.toList.take jc)):=by
         cases Y:filt listed (num 0 (ops.toList.take jc))with
         | nil=>rw[Y]at B;simp at B
         | cons p r=>exact⟨p,by simp⟩
        obtain⟨p,hp⟩:=hp0;unfold filt at hp;rw[List.mem_filter]at hp;have X:=num_bound hp.1;have hpl:p.1<jc:=by grind
        have h1:listed.getD p.1 true=false:=by simpa using hp.2
        have hm:p.1∈(predTable ops.toList []).getD j []:=by have:=chain_get (k:=0) (n:=j) (o:=o) V z (by omega) p.1 (by omega);grind
        grind
     obtain⟨R1,R2,g1,g2,g3⟩:=rest_split h1 (l:=ops.toList.take jc) (k:=0) (o:=o) (by omega) (by rw[Nat.sub_zero,List.getElem?_take_of_lt hjj];exact z);have I:∀ p∈(predTable ops.toList []).getD j [],listed.getD p false=true:=by omega
     rw[g1]at H B;obtain⟨Z,k1,k2⟩:=front H λp hp=>by
      obtain⟨q1,q2,q3,q4⟩:=g3 p hp;have q3':ops.toList[p.1]?=some p.2:=by grind
      refine open_pair hok hhd z q3' q2 λhm=>?_;grind
     have hs:=sim1 ok hC rfl (hw o (qLe z)) i k1 (rd:=rd) (n:=n) (K:=wpAnyIn (FW rd) n P .any ops Q (u+(ops.size-jc)) (listed.setIfInBounds j true)) (λa' w' i'=>ih (listed.setIfInBounds j true) Z a' w' (by
      grind) (λq hq1 hq2=>by
      rw[getD_set_ne false (show j≠q by omega)];exact G q hq1 hq2) (λq W p hp=>by
      by_cases S:j=q
      . subst S;exact getD_set_true (I p hp)
      . rw[getD_set_ne false S]at W;exact getD_set_true (U q W p hp)) (by simpa using A) (by rw[g2];exact k2) i') (Q:=Q)
     unfold wpOpIn;rw[h2];simp only;split
     . grind
     . rename_i hw;rw[if_neg hw]at hs;exact⟨λ_ _=>trivial,hs⟩
theorem num_length:∀(l:List Oper) (k:Nat),(num k l).length=l.length
 |[],_=>rfl
 | o::r,k=>by simp[num,num_length r]
theorem filt_none{n:Nat}:∀{l:List Oper} {k:Nat},k+l.length<=n->filt (Array.replicate n false) (num k l)=num k l
 |[],_,_=>rfl
 | o::r,k,h=>by
  simp only[qLl]at h;have:=filt_none (n:=n) (l:=r) (k:=k+1) (by omega);unfold filt at this ⊢;have p:(Array.replicate n false).getD k true=false:=by
   have:k<n:=by omega
   simp[this]
  simp only[num,List.filter_cons,p,this];simp
theorem sim_draw(ok:TabOk P T)(B:CallOk P T cx.w0.gl C)(hok:okDraw T ops.toList (predTable ops.toList []) hd 0 ops.toList=true)(l:sameNats hd (hidesOf T ops.toList)=true)
    {k:St->Option α}{x:α}(r:runOps T C true hd ops.toList ops.toList 0 st k=some x)(p:∀ o∈ops.toList,OpFit cx o)(i:Inv cx st a w)
    (A:∀ st' a' w',k st'=some x->Inv cx st' a' w'->Q .normal a' w'):(Code.region id ops true).wpIn (FW rd) n P Q a w:=by
  obtain⟨fin,h1,h2⟩:=runsL_of r;have e:filt (Array.replicate ops.size false) (num 0 ops.toList)=num 0 ops.toList:=filt_none (by simp);refine wpIn_region_any ok.mixed (sim_any ok B hok l (λa w i=>A fin a w h2 i) p ops.size (Array.replicate ops.size false) st a _ ?_ ?_ (by simp) (by rw[e];exact h1) i.drew)
  . grind[num_length]
  . intro q u;by_cases z:q<ops.size<;>simp[z]at u
theorem sim_cut(ok:TabOk P T)(J:CallOk P T cx.w0.gl C)(hok:okDraw T ops.toList (predTable ops.toList []) hd 0 ops.toList=true)(z:sameNats hd (hidesOf T ops.toList)=true)
    (G:chainFrom (predTable ops.toList []) jc 0 ops.toList=true){k:St->Option α}{x:α}(N:runOps T C true hd ops.toList (ops.toList.take jc) 0 st k=some x)(H:∀ o∈ops.toList,OpFit cx o)(i:Inv cx st a w)
    (I:∀ st' a' w',k st'=some x->Inv cx st' a' w'->(∃ l,runsL T C hd ops.toList l st st')->wpListIn (FW rd) n P ops Q (ops.toList.drop jc) a' w'):(Code.region id ops true).wpIn (FW rd) n P Q a w:=by
  obtain⟨fin,h1,h2⟩:=runsL_of N;by_cases B:jc<=ops.size
  . have e:filt (Array.replicate ops.size false) (num 0 (ops.toList.take jc))=num 0 (ops.toList.take jc):=filt_none (by simp;omega);have u:(num 0 (ops.toList.take jc)).length=jc:=by rw[num_length];simp;omega
    have p:=sim_anyT ok J hok z B G (rd:=rd) (n:=n) (Q:=Q) (λa w i=>I fin a w h2 i ⟨_,h1⟩) H jc (Array.replicate ops.size false) st a {w with drawn:=w.drawn+1} (by rw[e,u]) (λq _ r=>by simp[r]) (by intro q r;by_cases A:q<ops.size<;>simp[A]at r) (by simp) (by rw[e];exact h1) i.drew;rw[show jc+(ops.size-jc)=ops.size from by omega]at p;exact wpIn_region_any ok.mixed p
  . have O:ops.toList.take jc=ops.toList:=List.take_of_length_le (by simp;omega);have S:ops.toList.drop jc=[]:=List.drop_eq_nil_iff.2 (by simp;omega);have e:filt (Array.replicate ops.size false) (num 0 ops.toList)=num 0 ops.toList:=filt_none (by simp);rw[O]at h1;refine wpIn_region_any ok.mixed (sim_any ok J hok z (λa w i=>by have:=I fin a w h2 i ⟨_,h1⟩;rw[S]at this;exact this) H ops.size (Array.replicate ops.size false) st a _ ?_ ?_ (by simp) (by rw[e];exact h1) i.drew)
    . grind[num_length]
    . intro q r;by_cases A:q<ops.size<;>simp[A]at r
theorem yCut_chain{ys:List Nat}{ops:List Oper}(h:yCut ys ops=some j):chainFrom (predTable ops []) j 0 ops=true:=by unfold yCut at h;grind
theorem sim_undrawn(ok:TabOk P T)(u:CallOk P T cx.w0.gl C)(q:NoLog cx.hp0){k:St->Option α}{x:α}(p:runOps T C false hd ops.toList ops.toList 0 st k=some x)
    (l:∀ o∈ops.toList,OpFit cx o)(i:Inv cx st a w)
    (r:∀ st' a' w',k st'=some x->Inv cx st' a' w'->Q .normal a' w'):(Code.region id ops false).wpIn (FW rd) n P Q a w:=
  wpIn_region_list (sim_text ok u q r ops.toList 0 st a w l p i)
end
end
section
variable {d s:Nat}
theorem rens_get(s d:Nat):∀(l:List AV) (i:Nat),(AV.rens s d l)[i]?=(l[i]?).map (AV.ren s d)
 |[],i=>by simp[AV.rens]
 | v::r,0=>by simp[AV.rens]
 | v::r,i+1=>by simp[AV.rens,rens_get s d r i]
theorem rens_length(s d:Nat):∀(l:List AV),(AV.rens s d l).length=l.length
 |[]=>rfl
 | v::r=>by simp[AV.rens,rens_length s d r]
theorem ren_leaf(s d:Nat)(v:AV):(AV.ren s d v).leaf=v.leaf:=by cases v<;>simp[AV.ren,AV.leaf]
theorem renS_ne{x:Nat}(h:x≠s):renS s d x=x:=by
 have:(x==s)=false:=by simpa using h
 simp[renS,this]
theorem look_renHeap{s d:Nat}(p:s≠d)(x:Nat):∀{hp:Heap},look hp d=none->look (renHeap s d hp) x=if x=d then(look hp s).map (Blk.ren s d)else if x=s then none else(look hp x).map (Blk.ren s d)
 |[],_=>by simp[renHeap,look]
 |(k,b)::r,h=>by
  have z:k≠d:=by grind[look]
  have q:(k==d)=false:=by simpa using z
  have u:look r d=none:=by simpa[look,q] using h
  have B:=look_renHeap p x u;simp only[renHeap,look];by_cases l:k=s
  . subst l;have A:renS k d k=d:=by simp[renS]
    grind
  . have A:renS s d k=k:=renS_ne l;grind
theorem AR.renamed{w:World}{M:Nat->Prop}{β β':Nat->Option (Nat × Nat)}{h h':Nat->Option Blk}(r:∀ x blk,h x=some blk->h' (renS s d x)=some (blk.ren s d)/\β' (renS s d x)=β x)
    {v:AV}{c:Value}(A:AR w M β h v c):AR w M β' h' (v.ren s d) c:=by
  induction A with
  | undef c=>exact .undef c
  | p v c A=>exact .p v c A
  | slice x off len a ks xs b o cap h1 u z q O=>exact .slice _ off len a ks xs b o cap (r x _ h1).1 u ((r x _ h1).2.trans z) q O
  | sliceE x off a ks xs base h1 u=>exact .sliceE _ off a ks xs base (r x _ h1).1 u
  | bslice x off len cs b o cap h1 u z q=>exact .bslice _ off len (AV.rens s d cs) b o cap (r x _ h1).1 (by rw[rens_length];exact u) ((r x _ h1).2.trans z) q
  | bsliceE x off cs base h1 u=>exact .bsliceE _ off (AV.rens s d cs) base (r x _ h1).1 (by rw[rens_length];exact u)
  | ptrB x off cs b o h1 z=>exact .ptrB _ off (AV.rens s d cs) b o (r x _ h1).1 ((r x _ h1).2.trans z)
  | ptrA x H off a ks xs b o h1 G z=>exact .ptrA _ H off a ks xs b o (r x _ h1).1 G ((r x _ h1).2.trans z)
  | lptr a ks x off b o f S N I A=>exact .lptr a ks x off b o f S N I A
  | fn f cs vs B _ J =>refine .fn f _ vs (by rw[rens_length];exact B) λi c G=>?_;grind[rens_get]
  | agg cs vs B u _ J =>
   refine .agg _ vs (by rw[rens_length];exact B) (λc I=>?_) λi c G=>?_
   . obtain⟨i,G⟩:=List.mem_iff_getElem?.1 I;grind[rens_get,ren_leaf]
   grind[rens_get]
  | tup cs vs B _ J =>refine .tup _ vs (by rw[rens_length];exact B) λi c G=>?_;grind[rens_get]
  | yld l=>exact .yld l
section
variable {P:Program} {T:Tab} {w0:Base} {Pr M0 M:Nat->Prop} {β β0:Nat->Option (Nat × Nat)} {hp0:Heap} {st st':St} {a:Act} {w:World}
theorem Rel.rename(r:Rel w0 Pr M0 M β st a w)(hne:s≠d)(hd:look st.heap d=none)(hs:s<argSite) :
    Rel w0 Pr M0 M (λx=>if x=d then β s else β x) {env:=AV.rens s d st.env,heap:=renHeap s d st.heap} a w:=by
  have hlk:=λx=>look_renHeap (s:=s) (d:=d) hne x hd;have hh:∀ x blk,look st.heap x=some blk->look (renHeap s d st.heap) (renS s d x)=some (blk.ren s d)/\(if renS s d x=d then β s else β (renS s d x))=β x:=by grind[renS]
  have W:∀{v:AV} {c:Value},AR w M β (look st.heap) v c->AR w M (λx=>if x=d then β s else β x) (look (renHeap s d st.heap)) (v.ren s d) c:=λh=>h.renamed hh;have from_:∀ x blk',look (renHeap s d st.heap) x=some blk'->∃ y blk,look st.heap y=some blk/\blk'=blk.ren s d/\x=renS s d y/\(if x=d then β s else β x)=β y:=by
   intro x blk' l;rw[hlk]at l;by_cases p:x=d
   . rw[if_pos p]at l;cases A:look st.heap s with
     | none=>rw[A]at l;cases l
     | some b=>rw[A]at l;cases l;exact⟨s,b,A,rfl,by simp[renS,p],by simp[p]⟩
   . rw[if_neg p]at l;by_cases H:x=s
     . grind
     . rw[if_neg H]at l;cases A:look st.heap x with
       | none=>rw[A]at l;cases l
       | some b=>rw[A]at l;cases l;exact⟨x,b,A,rfl,(renS_ne H).symm,by simp[p]⟩
  refine⟨by simp only[rens_length];exact r.tsize,λt v I=>?_,λx blk' l=>?_,λx b o l z=>?_,λx U b o o' l B z q=>?_,r.msub,r.mnew,r.mold,r.keep,r.room,r.size,r.os,r.tape,r.output,r.glob⟩
  . simp only[rens_get]at I;cases he:st.env[t]? with
    | none=>rw[he]at I;cases I
    | some u=>rw[he]at I;cases I;exact W (r.env t u he)
  . obtain⟨y,blk,N,rfl,rfl,G⟩:=from_ x blk' l;cases r.heap y blk N with
    | box cs b o C e fr k1 k2 Z Y X k6 =>
     refine .box _ b o C e fr (G.trans k1) k2 (by rw[rens_length];exact Z) Y (λc hc=>?_) λj c hj=>?_
     . obtain⟨i,J⟩:=List.mem_iff_getElem?.1 hc;rw[rens_get]at J;cases l:cs[i]? with
       | none=>rw[l]at J;cases J
       | some x=>rw[l]at J;cases J;rw[ren_leaf];exact X x (qLe l)
     . rw[rens_get]at hj;grind
    | arrE a ks=>exact .arrE a ks
    | log on ys=>exact .log on ys
    | arr a ks xs b o C e fr k1 k2 Z Y X k6=>exact .arr a ks xs b o C e fr (G.trans k1) k2 Z Y X k6
  . obtain⟨blk',l⟩:=Option.isSome_iff_exists.1 l;obtain⟨y,blk,N,_,g3,G⟩:=from_ x blk' l;have z:(if x=d then β s else β x)=some (b,o):=z;rw[G]at z;obtain⟨o1,o2,V⟩:=r.own y b o (by rw[N];rfl) z;refine⟨o1,o2,V.1,V.2.imp id λV=>?_⟩;have hys:y≠s:=by omega
    have:renS s d y=y:=renS_ne hys;omega
  . obtain⟨S,l⟩:=Option.isSome_iff_exists.1 l;obtain⟨O,B⟩:=Option.isSome_iff_exists.1 B;obtain⟨y,b1,N,_,g3,G⟩:=from_ x S l;obtain⟨y',b2,g1',_,g3',g4'⟩:=from_ U O B;have z:(if x=d then β s else β x)=some (b,o):=z;have q:(if U=d then β s else β U)=some (b,o'):=q;rw[G]at z;rw[g4']at q;rw[g3,g3',r.inj y y' b o o' (by rw[N];rfl) (by rw[g1'];rfl) z q]
theorem Blk.ren_like(s d:Nat)(b:Blk):Like b (b.ren s d):=by
 cases b with
 | box cs=>simp[Blk.ren,Like,rens_length]
 | arr=>exact Like.refl _
 | log=>exact Like.refl _
theorem rename_owned{β:Nat->Option (Nat × Nat)}{hp:Heap}(u:s≠d)(hd:look hp d=none){b:Nat}(h:Owned (λx=>if x=d then β s else β x) (renHeap s d hp) b):Owned β hp b:=by
 obtain⟨x,o,p,q⟩:=h;rw[look_renHeap u x hd]at p;by_cases l:x=d
 . rw[if_pos l]at p;simp only[l,if_true]at q;exact⟨s,o,by simpa using p,q⟩
 . rw[if_neg l]at p;simp only[if_neg l]at q;by_cases r:x=s
   . grind
   . rw[if_neg r]at p;exact⟨x,o,by simpa using p,q⟩
theorem Inv.rehome{cx:Cx}(i:Inv cx st a w){s d:Nat}(q:s≠d)(G:s<argSite)(hd:d<argSite):Inv cx (st.rehome s d) a w:=by
 have A:=i.strike [d];have u:look (st.strike [d]).heap d=none:=by rw[look_strike];simp
 unfold St.rehome;generalize st.strike [d]=st1 at A u;obtain⟨M,β,L,ds,r,V,U,S,O⟩:=A;refine⟨M,_,L,ds,r.rename q u G,λx B=>?_,λx B blk' I=>?_,S,O.less (λp hp=>rfl) λ_ H=>rename_owned q u H⟩
 . grind
 . have h1:x≠d:=by omega
   have h2:x≠s:=by omega
   have l:look (renHeap s d st1.heap) x=some blk':=I;rw[look_renHeap q x u,if_neg h1,if_neg h2]at l;cases z:look st1.heap x with
   | none=>rw[z]at l;cases l
   | some b =>rw[z]at l;cases l;obtain⟨b0,N,J⟩:=U x B b z;exact⟨b0,N,J.trans (Blk.ren_like s d b)⟩
theorem Inv.rehomes{cx:Cx}(nv:Nat)(p:nv<=argSite):∀(l:List Oper) {st:St},Inv cx st a w->Inv cx (Skm.rehomes nv l st) a w
 |[],st,i=>i
 | o::r,st,i=>by
  simp only[Skm.rehomes];split
  . rename_i d _ _;split
    . rename_i s _ _ _ _;cases q:Nat.ble nv s&&(Nat.blt d nv&&Nat.blt s 100000)with
      | false=>exact Inv.rehomes nv p r i
      | true =>
       simp only[qBa]at q;have h2:d<nv:=Nat.le_of_ble_eq_true q.2.1;have h1:s≠d:=by intro e;exact absurd (Nat.le_of_ble_eq_true q.1) (Nat.not_le_of_lt (by rw[e];exact h2))
       have u:s<100000:=Nat.le_of_ble_eq_true q.2.2;have z:argSite=100000:=rfl;exact Inv.rehomes nv p r (i.rehome h1 u (Nat.lt_of_lt_of_le h2 p))
    . exact Inv.rehomes nv p r i
  . exact Inv.rehomes nv p r i
theorem Inv.freeze1{cx:Cx}(i:Inv cx st a w){x:PV}{ss:List Nat}(hd:deep (look st.heap) (st.env.getD d .undef)=some (x,ss))(H:frzOk ss=true) :
    Inv cx {(st.strike ss)with env:=(st.strike ss).env.set d (.p x)} a w:=by
  by_cases q:d<st.env.length
  . obtain⟨M,β,L,ds,r,B,A,z,O⟩:=i;have G:st.env[d]?=some (st.env.getD d .undef):=by rw[qLb,qLd q];rfl
    obtain⟨N,J⟩:=deep_ok (λs b h=>r.heap s b h) (λs b h=>h) hd (r.env d _ G);have l:=r.rebase.freeze [] ss H J;rw[List.nil_append]at l
    have u:Rel _ _ _ (Mplus M β ss) β {(st.strike ss)with env:=(st.strike ss).env.set d (.p x)} a w:=
     ⟨by simpa using l.tsize,λt v h=>by
       simp only at h;rw[List.getElem?_set]at h;split at h
       . rename_i I;split at h
         . cases h;subst I;exact .p _ _ N
         . cases h
       . exact l.env t v h,l.heap,l.own,l.inj,l.msub,l.mnew,l.mold,l.keep,l.room,l.size,l.os,l.tape,l.output,l.glob⟩
    refine⟨Mplus M β ss,β,L,ds,r.unbase u,B,A.trans (strike_like st ss),z,O.step r u⟩
  . grind[List.getD,deep,deepC,deep1]
theorem Inv.mM{cx:Cx}:∀(xs:List Nat) {st:St},Inv cx st a w->Inv cx (Skm.mM xs st) a w
 |[],st,i=>i
 | x::r,st,i=>by
  simp only[Skm.mM];split
  . rename_i v ss hd;cases l:frzOk ss with
    | false=>exact Inv.mM r i
    | true=>exact Inv.mM r (i.freeze1 hd l)
  . exact Inv.mM r i
theorem Inv.freezes{cx:Cx}(ts:List Nat):∀(l:List Oper) {st:St},Inv cx st a w->Inv cx (Skm.freezes ts l st) a w
 |[],st,i=>i
 | o::r,st,i=>by
  simp only[Skm.freezes];split
  . exact Inv.freezes ts r (i.mM _)
  . exact Inv.freezes ts r i
theorem Inv.settle{cx:Cx}{F:FCfg}(i:Inv cx st a w)(p:F.nvars<=argSite)(l:List Oper):Inv cx (Skm.settle F l st) a w:=by exact(i.rehomes _ p l).freezes _ l
theorem keepEnv_get{p:List Nat}:∀(l:List AV) (k i:Nat) (v:AV),(keepEnv p k l)[i]?=some v->v=.undef\/l[i]?=some v
 |[],k,i,v,h=>by simp[keepEnv]at h
 | u::r,k,0,v,h=>by grind[keepEnv]
 | u::r,k,i+1,v,h=>by simp only[keepEnv,List.getElem?_cons_succ]at h;simpa using keepEnv_get r (k+1) i v h
theorem keepEnv_length{p:List Nat}:∀(l:List AV) (k:Nat),(keepEnv p k l).length=l.length
 |[],_=>rfl
 | u::r,k=>by simp[keepEnv,keepEnv_length r]
theorem Inv.forget{cx:Cx}(i:Inv cx st a w)(l sites:List Nat):Inv cx (st.forget l sites) a w:=by obtain⟨M,β,L,ds,r,z,u,q,p⟩:=i;exact Inv.strike ⟨M,β,L,ds,r.lessEnv (keepEnv_length _ _) (λt v h=>keepEnv_get _ _ _ _ h),z,u,q,p⟩ _
theorem Inv.forgetAt{cx:Cx}(i:Inv cx st a w)(F:FCfg)(c:Code):Inv cx (Skm.forgetAt F c st) a w:=by
 unfold Skm.forgetAt;split
 . exact i
 . split
   . exact i
   . exact i.forget _ _
theorem Inv.relog{cx:Cx}(i:Inv cx st a w){α:Type}{b:Option Blk}(q:∀ on xs,b=some (.log on xs)->∃ ys,look cx.hp0 argSite=some (.log on ys)){k:St->Option α}{x:α}(h:Skm.relog b st k=some x):∃ st',k st'=some x/\Inv cx st' a w /\
    ∀ on xs,look st'.heap argSite=some (.log on xs)->b=some (.log on xs):=by
  unfold Skm.relog at h;split at h
  . rename_i B xs0 X;split at h
    . rename_i on xs;refine⟨_,h,?_,λon' xs' he=>?_⟩
      . obtain⟨ys,W⟩:=q on xs rfl;obtain⟨M,β,L,ds,r,e1,Z,e3,fx⟩:=i;have z:∀ s,look (put st.heap argSite (.log on xs)) s=if s=argSite then some (.log on xs)else look st.heap s:=λs=>look_put _ _ _ _
        have V:on=B:=by obtain⟨b0,Y,g2⟩:=Z argSite (qNr _) _ X;rw[W]at Y;cases Y;exact g2
        have A:∀{v:AV} {c:Value},AR w M β (look st.heap) v c->AR w M β (look (put st.heap argSite (.log on xs))) v c:=by
         intro v c S;refine S.mono (λb q=>⟨q,rfl⟩) λs blk _ l=>?_;by_cases e:s=argSite
         . subst e;rw[X]at l;cases l;exact⟨.log on xs,by rw[z,if_pos rfl],V.symm,rfl,λ_ _ _ _ h=>h⟩
         . exact⟨blk,by rw[z,if_neg e];exact l,Like.refl _,rfl,λ_ _ _ _ h=>h⟩
        have u:∀ s,(look (put st.heap argSite (.log on xs)) s).isSome=true->(look st.heap s).isSome=true:=by grind
        refine⟨M,β,L,ds,⟨r.tsize,λt v S=>A (r.env t v S),λs blk l=>?_,λs b o l q=>r.own s b o (u s l) q,λs s' b o o' l U=>r.inj s s' b o o' (u s l) (u s' U),r.msub,r.mnew,r.mold,r.keep,r.room,r.size,r.os,r.tape,r.output,r.glob⟩,e1,λs l blk q=>?_,e3,fx.less (λp hp=>rfl) λ_ ⟨s,o,l,q⟩=>⟨s,o,u s l,q⟩⟩
        . have l:look (put st.heap argSite (.log on xs)) s=some blk:=l;rw[z]at l;by_cases e:s=argSite
          . rw[if_pos e]at l;cases l;exact .log _ _
          . rw[if_neg e]at l;cases r.heap s blk l with
            | box cs b o C e fr O N J I H G=>exact .box cs b o C e fr O N J I H λj c hj=>A (G j c hj)
            | arrE a ks=>exact .arrE a ks
            | log on ys=>exact .log on ys
            | arr a ks xs b o C e fr O N J I H G=>exact .arr a ks xs b o C e fr O N J I H G
        . have q:look (put st.heap argSite (.log on xs)) s=some blk:=q;rw[z]at q;by_cases e:s=argSite
          . rw[if_pos e]at q;cases q;subst e;exact⟨_,W,rfl⟩
          . rw[if_neg e]at q;exact Z s l blk q
      grind[look_put]
    . cases h
  . grind
def Ex.toExit:Ex->Exit
 | .normal=>.normal
 | .exit id=>.exit id
 | .ret=>.ret
end
end
section
variable {c:Code}
section scopes
variable {E:Fence} {n:Nat} {P:Program} {Q:Exit->Act->World->Prop} {b:Frame} {a:Act} {k:List Item} {cs:List Frame} {w:World}
theorem stepR_scope:step P (lone (b.atR a (.code (.scope c)::k)) cs w)=.next (lone (b.atR a (.code c::.inScope c::k)) cs w):=
 step_lone_go (by simp[stepG,stepG.exec,Frame.atR])
theorem stepR_inScope:step P (lone (b.atR a (.inScope c::k)) cs w)=.next (lone (b.atR a k) cs w):=
 step_lone_go (by simp[stepG,stepG.exec,Frame.atR])
theorem wpIn_scope(h:c.wpIn E n P (Exit.noGoto Q) a w):(Code.scope c).wpIn E n P Q a w:=by
 intro b k cs A I G;have z:(lone (b.atR a (.code (.scope c)::k)) cs w).fenced P E:=fenced_calm I G rfl;obtain⟨e,r,q,u,p⟩:=h b (.inScope c::k) cs A I G;cases e with
 | normal=>exact⟨.normal,r,q,u,.head z stepR_scope (StepsIn.trans p (.one (fenced_calm I G rfl) stepR_inScope))⟩
 | exit id =>
  have J:exitTo id (.inScope c::k)=exitTo id k:=by simp[exitTo]
  exact⟨.exit id,r,q,u,λN H=>.head z stepR_scope (p.1 N (by rw[J];exact H)),
   λB H=>let ⟨k₁,h1,h2⟩:=p.2 B (by rw[J];exact H);⟨k₁,h1,.head z stepR_scope h2⟩⟩
 | goto l=>exact u.elim
 | ret=>exact⟨_,r,q,u,.of_steps (.one z stepR_scope) p⟩
 | panic O=>exact⟨_,r,q,u,.of_steps (.one z stepR_scope) p⟩
 | outgrown=>exact⟨_,r,q,u,.of_steps (.one z stepR_scope) p⟩
end scopes
section
variable {α ι:Type} (T:Tab) (C:CallF) (F:FI) (n:Option Nat)
noncomputable def seqK(z:Code)(k:Ex->St->Option α):Ex->St->Option α:=λex st' =>
 match ex with
 | .normal=>runCode T C F n z (forgetAt F.cfg z st') k
 | .exit id=>k (.exit id) st'
 | .ret=>k .ret st'
def blockK(id:Nat)(k:Ex->St->Option α):Ex->St->Option α:=λex st' =>
 match ex with
 | .normal=>k .normal st'
 | .exit i=>bif i==id then k .normal st' else k (.exit i) st'
 | .ret=>k .ret st'
noncomputable def loopK(c:Code)(m:Nat)(k:Ex->St->Option α):Ex->St->Option α:=λex st' =>
 match ex with
 | .normal=>forceSt (forgetAt F.cfg c st') λst'=>loopN (forgetAt F.cfg c) (λst' k'=>runCode T C F n c st' k') m st' k
 | .exit id=>k (.exit id) st'
 | .ret=>k .ret st'
theorem runCode_seq(y z:Code)(st:St)(k:Ex->St->Option α):runCode T C F n (.seq y z) st k=runCode T C F n y st (seqK T C F n z k):=rfl
theorem runCode_block(id:Nat)(c:Code)(st:St)(k:Ex->St->Option α):runCode T C F n (.block id c) st k=runCode T C F n c st (blockK id k):=rfl
theorem loopN_loopK(c:Code)(m:Nat)(st:St)(k:Ex->St->Option α):loopN (forgetAt F.cfg c) (λst' l=>runCode T C F n c st' l) (m+1) st k=runCode T C F n c st (loopK T C F n c m k):=rfl
theorem zZ{fg:St->St}{b:St->(Ex->St->Option α)->Option α}{q:Option Nat}{st:St}{k:Ex->St->Option α}{x:α}(h:DR fg b q st k=some x):∃ j,(∀ i,q=some i->j<=i)/\loopN fg b j st k=some x:=by
 cases q with
 | some i=>exact⟨i,λ_ h=>by cases h;exact qNr i,h⟩
 | none =>simp only[DR,lim]at h;split at h;all_goals grind
structure CodeSim (P:Program) (m:Nat) (KP:(Ex->St->Option α)->Prop) (rd:ι->Option Nat) (Fit:ι->Oper->Prop) (I:ι->α->St->Act->World->Prop):Prop where
 reg:∀ (i:ι) (id:Nat) (ops:Array Oper) (draw:Bool) (st:St) (a:Act) (w:World) (k:Ex->St->Option α) (x:α) (Q:Exit->Act->World->Prop),KP k->runCode T C F n (.region id ops draw) st k=some x ->
  drawsOk T F.hides (.region id ops draw)=true->(∀ o∈opsOf (.region id ops draw),Fit i o)->I i x st a w ->
  (∀ x' st' a' w',k .normal st'=some x'->I i x' st' a' w'->Q .normal a' w')->(Code.region id ops draw).wpIn (FW (rd i)) m P Q a w
 forget:∀ (i:ι) (x:α) (st:St) (a:Act) (w:World) (c:Code),I i x st a w->I i x (forgetAt F.cfg c st) a w
 cond:∀ (i:ι) (x:α) (st:St) (a:Act) (w:World) (c:Operand) (b:Bool),I i x st a w->evalO st.env c=.p (.bool b)->a.eval c=.bool b
 kseq:∀ (z:Code) (k:Ex->St->Option α),KP k->KP (seqK T C F n z k)
 kblock:∀ (id:Nat) (k:Ex->St->Option α),KP k->KP (blockK id k)
 kloop:∀ (c:Code) (j:Nat) (k:Ex->St->Option α),KP k->KP (loopK T C F n c j k)
def SimC(ng:Bool)(P:Program)(m:Nat)(KP:(Ex->St->Option α)->Prop)(rd:ι->Option Nat)(Fit:ι->Oper->Prop)(I:ι->α->St->Act->World->Prop)(c:Code):Prop:=
 ∀(i:ι) (st:St) (a:Act) (w:World) (k:Ex->St->Option α) (x:α) (Q:Exit->Act->World->Prop),KP k->runCode T C F n c st k=some x->drawsOk T F.hides c=true->(ng=true->noRange c=true)->(∀ o∈opsOf c,Fit i o)->I i x st a w ->
  (∀ ex x' st' a' w',k ex st'=some x'->I i x' st' a' w'->Q ex.toExit a' w')->c.wpIn (FW (rd i)) m P Q a w
variable {T C F n}
theorem sim_codeG{ng:Bool}{P:Program}{m:Nat}{KP:(Ex->St->Option α)->Prop}{rd:ι->Option Nat}{Fit:ι->Oper->Prop}{I:ι->α->St->Act->World->Prop}(S:CodeSim T C F n P m KP rd Fit I)
    (l:ng=false->∀ f X y z,SimC T C F n ng P m KP rd Fit I y->SimC T C F n ng P m KP rd Fit I z->SimC T C F n ng P m KP rd Fit I (.rangeFunc f X y z)):∀ c:Code,SimC T C F n ng P m KP rd Fit I c
  | .skip=>λ_ st a w _ x _ _ h _ _ _ i r=>wpIn_skip (r .normal x st a w h i)
  | .region id ops draw=>λi st a w k x Q O h hd _ J H r=>S.reg i id ops draw st a w k x Q O h hd J H λA st' a' w' h1 h2=>r .normal A st' a' w' h1 h2
  | .seq y z=>λi st a w k x Q O h hd u J H r=>by
   rw[runCode_seq]at h;simp only[drawsOk,qBa]at hd;have B:ng=true->noRange y=true/\noRange z=true:=λe=>by have:=u e;simpa[noRange] using this
   refine wpIn_seq (sim_codeG S l y i st a w _ x _ (S.kseq z k O) h hd.1 (λe=>(B e).1) (λo N=>J o (by simp[opsOf,N])) H λU A st' a' w' h1 G=>?_);cases U with
   | normal=>exact sim_codeG S l z i _ a' w' k A Q O h1 hd.2 (λe=>(B e).2) (λo N=>J o (by simp[opsOf,N])) (S.forget _ _ _ _ _ _ G) r
   | exit id=>exact r (.exit id) A st' a' w' h1 G
   | ret=>exact r .ret A st' a' w' h1 G
  | .cond c y z=>λi st a w k x Q O h hd u J H r=>by
   simp only[runCode]at h;simp only[drawsOk,qBa]at hd;have B:ng=true->noRange y=true/\noRange z=true:=λe=>by have:=u e;simpa[noRange] using this
   cases V:Skm.evalO st.env c with
   | p v =>
    cases v with
    | bool b =>
     have hc:=S.cond i x st a w c b H V;rw[V]at h;simp only at h;refine wpIn_cond hc ?_;cases b with
     | true=>exact sim_codeG S l y i st a w k x Q O h hd.1 (λe=>(B e).1) (λo N=>J o (by simp[opsOf,N])) H r
     | false=>exact sim_codeG S l z i st a w k x Q O h hd.2 (λe=>(B e).2) (λo N=>J o (by simp[opsOf,N])) H r
    | _=>rw[V]at h;simp at h
   | _=>rw[V]at h;simp at h
  | .block id c=>λi st a w k x Q O h hd u J H r=>by
   rw[runCode_block]at h;simp only[drawsOk]at hd;refine wpIn_block (sim_codeG S l c i st a w _ x _ (S.kblock id k O) h hd (λe=>by simpa[noRange] using u e) (λo N=>J o (by simpa[opsOf] using N)) H λU A st' a' w' h1 G=>?_);cases U with
   | normal=>exact r .normal A st' a' w' h1 G
   | exit j =>
    simp only[Ex.toExit,Exit.inBlock];simp only[blockK]at h1;by_cases W:j=id
    . rw[if_pos W];have:(j==id)=true:=by simpa using W
      simp only[this,qCt]at h1;exact r .normal A st' a' w' h1 G
    . rw[if_neg W];have:(j==id)=false:=by simpa using W
      simp only[this,qCf]at h1;exact r (.exit j) A st' a' w' h1 G
   | ret=>exact r .ret A st' a' w' h1 G
  | .loop c=>λi st a w k x Q O h hd u J H r=>by
   simp only[runCode]at h;simp only[drawsOk]at hd;obtain⟨q,_,h⟩:=zZ h;refine wpIn_loop_rounds q ?_;have Y:∀(j:Nat) (st:St) (a:Act) (w:World) (x:α),loopN (Skm.forgetAt F.cfg c) (λst' k'=>runCode T C F n c st' k') j st k=some x->I i x st a w->Code.roundsIn (FW (rd i)) m P c Q j a w:=by
    intro j;induction j with
    | zero=>intro st a w x h;simp[loopN]at h
    | succ j ih =>
     intro st a w x h H;rw[loopN_loopK]at h;rw[roundsIn_succ];refine sim_codeG S l c i st a w _ x _ (S.kloop c j k O) h hd (λe=>by simpa[noRange] using u e) (λo N=>J o (by simpa[opsOf] using N)) H λU A st' a' w' h1 G=>?_;cases U with
     | normal =>simp only[loopK,forceSt_eq]at h1;exact ih _ a' w' A h1 (S.forget _ _ _ _ _ _ G)
     | exit id=>exact r (.exit id) A st' a' w' h1 G
     | ret=>exact r .ret A st' a' w' h1 G
   exact Y q _ a w x h (S.forget _ _ _ _ _ _ H)
  | .exit id=>λ_ st a w _ x _ _ h _ _ _ i r=>wpIn_exit (r (.exit id) x st a w h i)
  | .ret=>λ_ st a w _ x _ _ h _ _ _ i r=>wpIn_ret (r .ret x st a w h i)
  | .label _=>λ_ st a w _ x _ _ h _ _ _ i r=>wpIn_label (r .normal x st a w h i)
  | .rangeFunc f X y z=>by
   cases Z:ng with
   | false=>exact Z▸l Z f X y z (sim_codeG S l y) (sim_codeG S l z)
   | true=>exact λ_ st a w _ x _ _ _ _ u _ _ _=>by have:=u rfl;simp[noRange]at this
  | .scope c=>λi st a w k x Q O h hd u J H r=>by
   have h:runCode T C F n c st k=some x:=h;simp only[drawsOk]at hd;refine wpIn_scope (sim_codeG S l c i st a w k x _ O h hd (λe=>by simpa[noRange] using u e) (λo N=>J o (by simpa[opsOf] using N)) H λU A st' a' w' h1 G=>?_);cases U with
   | normal=>exact r .normal A st' a' w' h1 G
   | exit j=>exact r (.exit j) A st' a' w' h1 G
   | ret=>exact r .ret A st' a' w' h1 G
  | .goto ..=>λ_ st a w _ x _ _ h _ _ _ i r=>by simp[runCode]at h
  | .refuse ..=>λ_ st a w _ x _ _ h _ _ _ i r=>by simp[runCode]at h
end
section
variable {P:Program} {T:Tab} {C:CallF} {F:FI} {n m:Nat} {α:Type}
abbrev CxN(gl:Option (List (Nat × Obj))):={cx:Cx // NoLog cx.hp0/\cx.w0.gl=gl}
theorem codeSim_inv(ok:TabOk P T){gl:Option (List (Nat × Obj))}(z:CallOk P T gl C)(u:F.cfg.nvars<=argSite)(W:α):CodeSim T C F n P m (λ_:Ex->St->Option α=>True) (λi:CxN gl=>i.1.rd) (λi=>OpFit i.1) (λi x st a w=>x=W/\Inv i.1 st a w) where
 reg:=by
  intro i id ops draw st a w k x Q _ h hd hw ⟨N,B⟩ O;have p:∀ o∈ops.toList,OpFit i.1 o:=hw;have z:CallOk P T i.1.w0.gl C:=by rw[i.2.2];exact z
  have fin:∀ st' a' w',(forceSt (settle F.cfg ops.toList st') λst'=>k .normal st')=some x->Inv i.1 st' a' w'->Q .normal a' w':=by intro st' a' w' h1 q;rw[forceSt_eq]at h1;exact O x _ a' w' h1 ⟨N,q.settle u _⟩
  simp only[runCode]at h;cases draw with
  | false =>exact sim_undrawn ok z i.2.1 h p B fin
  | true =>
   simp only[drawsOk]at hd;cases U:tlook F.hides id with
   | none=>rw[U]at h;cases h
   | some hid =>
    rw[U]at h hd;simp only[qBa]at hd;simp only[forceSt_eq]at h;have I:=B.strike (present st.heap (allSites ops.toList ops.toList));have back:∀{G:St->Option α} {st':St} {a':Act} {w':World},Skm.relog (look (st.strike (present st.heap (allSites ops.toList ops.toList))).heap argSite) st' G=some x->Inv i.1 st' a' w'->∃ l,G l=some x/\Inv i.1 l a' w':=by
     intro G st' a' w' h1 q;obtain⟨l,h2,A,_⟩:=q.relog (λon xs he=>by
      have H:=I;obtain⟨M,β,L,ds,r,e1,e2,e3,fx⟩:=H;obtain⟨b0,g1,S⟩:=e2 argSite (qNr _) _ he;cases b0 with
      | box=>exact S.elim
      | arr=>exact S.elim
      | log o ys=>cases (show o=on from S);exact⟨ys,g1⟩) h1
     grind
    cases J:yCut F.cfg.ys ops.toList with
    | none =>rw[J]at h;refine sim_draw ok z hd.1 hd.2 h p I λst' a' w' h1 q=>?_;obtain⟨l,h2,A⟩:=back h1 q;exact O x _ a' w' h2 ⟨N,A.settle u _⟩
    | some jc =>rw[J]at h;refine sim_cut ok z hd.1 hd.2 (yCut_chain J) h p I λst' a' w' h1 q _=>?_;obtain⟨l,h2,A⟩:=back h1 q;exact sim_text ok z i.2.1 (λY a3 X h3 Z=>O x _ a3 X h3 ⟨N,Z.settle u _⟩) (ops.toList.drop jc) jc l a' w' (λo ho=>p o (List.mem_of_mem_drop ho)) h2 A
 forget:=λi _ st a w c h=>⟨h.1,h.2.forgetAt _ _⟩
 cond:=by intro i x st a w c b B hv;obtain⟨_,M,β,L,ds,r,_⟩:=B;have V:=r.evalO c;rw[hv]at V;exact V.p_bool
 kseq:=λ_ _ _=>trivial
 kblock:=λ_ _ _=>trivial
 kloop:=λ_ _ _ _=>trivial
end
end
end Go.Skm
