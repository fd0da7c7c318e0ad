import Derived.Test.YtoheflpoanjihaaGreatSkmB
import Derived.OrdersIn
import Derived.TacticsIn
import Derived.OwnWalkIn
import Derived.LoopNIn
import Derived.Scope
set_option linter.all false
namespace Go.Skm
section
variable {d n s:Nat}{P:Program}{f:FuncId}{args:Array Value}{w:World}{R:Ending->World->Prop}{rd:Option Nat}{xs:List AV}{cs:List Value}{ss:List Nat}{fi:FI}
def FW(rd:Option Nat):Fence:={Fence.wide with round:=rd}
theorem Az(rd:Option Nat):(FW rd).depth.isSome=true->1<=n:=λh=>by simp[FW,Fence.wide]at h
theorem zi(rd:Option Nat)(h:Calls P f args w R):CallsIn (FW rd) n P f args w R:=
 (callsIn_wide (n:=n)).2 h
theorem Jt(h:CallsIn (FW rd) n P f args w R):Calls P f args w R:=
 (callsIn_wide (n:=n)).1 h
theorem zC{o:Oper}{a:Act}{K:Act->World->Prop}{Q:Exit->Act->World->Prop}(l:∀ c,o.op≠.defer c)
    (h:o.uponIn (FW rd) n P a K Q ((execOp a.eval o).run P w)):o.wpIn (FW rd) n P a w K Q:=
  ⟨λ_ _=>trivial,by rw[Oper.semAt_plain (FW rd) a.eval o l];exact h⟩
structure iC (P:Program) (w0:Base) (Pr M0:Nat->Prop) (β:Nat->Option (Nat × Nat)) (st:St) (a:Act) (w:World) (o:Oper) (D:DT):Prop where
 sim:(∀ c,o.op≠.defer c)->∀ (α:Type) (k:Eff->Option α) (r:α),D.run k=some r->∀ (rd:Option Nat) (n:Nat) Q,Oper.wpIn (FW rd) n P o a w (λa' w'=>(∃ c,a'=a.put o.dst c)/\∃ e M' β',k e=some r/\mF w0.gl w.drawn w'.drawn/\(kC (e.new++e.Ip)=true ->
  Rel w0 Pr M0 M' β' (st.apply o.dst e) a' w'/\(∀ s,ah<=s->β' s=β s)/\nZ st.heap (st.apply o.dst e).heap)) Q
section
variable {P:Program} {T:Tab} {w0:Base} {Pr M0 M:Nat->Prop} {β:Nat->Option (Nat × Nat)} {st:St} {a:Act} {w:World} {o:Oper}
theorem LW{α:Type}{c:Option (List AV × List bZ)}{f:List AV × List bZ->DT}{k:Eff->Option α}{r:α}(h:(DT.call c f).run k=some r):∃ x,c=some x/\(f x).run k=some r:=by
 cases c with
 | none=>simp[DT.run]at h
 | some x=>exact⟨x,rfl,by simpa[DT.run] using h⟩
theorem dK.op{D:DT}(h:dK P w0 Pr M0 β st a w o.dst D (execOp a.eval o)):iC P w0 Pr M0 β st a w o D:=by
 refine⟨λl α k r p rd n Q=>?_⟩;obtain⟨e,nv,c,w',M',β',h1,h2,q,h4⟩:=h.sim α k r p;refine zC l ?_;have hd:mF w0.gl w.drawn w'.drawn:=λ_=>ahu _ h2;rw[h2];rcases q with rfl |⟨rfl,rfl⟩
 . exact⟨⟨_,rfl⟩,e,M',β',h1,hd,h4⟩
 . exact⟨⟨_,rfl⟩,e,M',β',h1,hd,h4⟩
theorem Oc{s:Nat}:∀{l:List Uc},s∈keysOf (Kv l)↔∃ x∈l,x.1=s
 |[]=>by simp[Kv,keysOf]
 |(k,b,p)::r=>by have q:=Oc (s:=s) (l:=r);simp only[Kv,List.map_cons,keysOf,List.mem_cons]at q ⊢;grind
theorem al6{h:Nat->Option bZ}(l:xs.length=cs.length)(p:∀(k:Nat) (v:AV),xs[k]?=some v->∃ c,cs[k]?=some c/\AR w M β h v c):AR w M β h (pO xs) (BN cs):=by
 match xs,cs,l,p with
 |[v],[c],_,p =>obtain⟨r,h1,h2⟩:=p 0 v rfl;simp at h1;subst h1;exact h2
 |[],[],_,_=>exact .vM [] #[] rfl λi c q=>by simp at q
 | x::y::xs,c::d::cs,l,p =>refine .vM _ _ (by simp at l;simp[l]) λi v q=>?_;obtain⟨r,h1,h2⟩:=p i v q;simp_all
 |[],_::_,l,_=>simp at l
 | _::_,[],l,_=>simp at l
 |[_],_::_::_,l,_=>simp at l
 | _::_::_,[_],l,_=>simp at l
theorem Rel.results(r:Rel w0 Pr M0 M β st a w){q:Nat->Option (Nat × Nat)}{S:Nat->Option bZ}{O:List nC}{ts:List TypeId}{J:List AV}{N:List (Option (Nat × Nat))}
    {G:List (Nat × bZ)}(hr:FK T w M q S O ts J cs N)(hv:uQ T d ss 0 O ts J=some (xs,G))(hfree:∀ s∈keysOf G,look st.heap s=none)
    (u:∀ b o,some (b,o)∈N->¬ M b/\b<w.heap.size/\((w0.heap.size<=b\/Pr b)/\w0.n0<=b)/\∀ s' o',(look st.heap s').isSome=true->β s'≠some (b,o'))
    (B:∀ j s blk,ss[j]?=some s->S (ah+j)=some blk->look st.heap s=some blk/\β s=q (ah+j)) :
    ∃ β',Rel w0 Pr M0 M β' {env:=Skm.setEnv st.env (some d) (pO xs),heap:=gZ st.heap G} (a.put (some d) (BN cs)) w/\∀ s,s ∉ keysOf G->β' s=β s:=by
  obtain⟨l,rfl,q2,H,Z,Y,X,W,V⟩:=aeS hr hv;have A:∀ x∈l,look st.heap x.1=none:=λx p=>hfree x.1 (Oc.2 ⟨x,p,rfl⟩);have U:=Rel.lays l r H A Z (λx p b o e=>u b o (Y x p b o e)) X;refine⟨overlay β l,U.setEnv (some d) (al6 W (V _ _ (λx p=>⟨YZ H p,Xd H p⟩) λj s blk h1 h2=>?_)),λs hs=>EU λx p e=>hs (Oc.2 ⟨x,p,e⟩)⟩;obtain⟨I,g2⟩:=B j s blk h1 h2;have z:∀ x∈l,x.1≠s:=λx p e=>by rw[<- e,A x p]at I;cases I
  exact⟨(Ob z).trans I,(EU z).trans g2⟩
theorem Hf(ok:fB P T){f:Nat}(l:dZ T.funcs f=some fi)(q:∃ c,fi.fn.body=some c)(args:Array Value):(callFunc f args).run P w=.ok (.enter f args) w:=by obtain⟨h1,h2,_⟩:=ok.funcs f fi l;obtain⟨c,p⟩:=q;unfold callFunc;simp only[Sem.run_bind,program,Sem.run,qRa,h1,h2,p,Option.isNone_some,Bool.false_eq_true,if_false,Sem.run_pure]
theorem X8(st:St)(d:Option Nat)(v:AV)(p:List (Nat × bZ))(l fz:List Nat):st.apply d {val:=v,uz:=p,new:=l,Ip:=fz} =
    {env:=Skm.setEnv (st.strike (present st.heap l++fz)).env d v,heap:=gZ (st.strike (present st.heap l++fz)).heap p}:=rfl
theorem AZ{l fz:List Nat}(q:s∈l):look (st.strike (present st.heap l++fz)).heap s=none:=by
 rw[iw];by_cases p:s∈present st.heap l++fz
 . grind
 . rw[if_neg p];cases hd:look st.heap s with
   | none=>rfl
   | some x=>exact absurd (List.mem_append.2 (.inl (AY q (by rw[hd];rfl)))) p
theorem Tc(h:(look (st.strike ss).heap s).isSome=true):s ∉ ss/\(look st.heap s).isSome=true:=by grind[iw]
theorem Xg:∀(ks:List Kd) (cs:List PV),(NV ks cs).length=cs.length/\∀(i:Nat) (c:PV),(NV ks cs)[i]?=some c->cs[i]?=some c\/(cs[i]?=some .nil/\∃ a ks,c=.list a ks [])
 |[],cs=>by cases cs<;>exact⟨rfl,λ_ _ h=>.inl h⟩
 | k::r,[]=>by cases k<;>exact⟨rfl,λ_ _ h=>.inl h⟩
 | k::r,x::cs=>by
  obtain⟨h1,h2⟩:=Xg r cs;have l:∀ y,(y=x\/(x=.nil/\∃ a ks,y=.list a ks []))->(y::NV r cs).length=(x::cs).length/\∀(i:Nat) (c:PV),(y::NV r cs)[i]?=some c->(x::cs)[i]?=some c\/((x::cs)[i]?=some .nil/\∃ a ks,c=.list a ks []):=λy q=>by
   refine⟨by simp[h1],λi c p=>?_⟩;cases i with
   | zero=>simp only [List.getElem?_cons_zero,qOa]at p ⊢;subst p;rcases q with e | e
           . exact .inl e.symm
           . exact .inr e
   | succ i=>simpa using h2 i c (by simpa using p)
  cases k<;>cases x<;>first | exact l _ (.inl rfl) | exact l _ (.inr ⟨rfl,_,_,rfl⟩)
theorem ahK{sh:Bool × List Kd}{x:PV}{M:Nat->Prop}{c:Value}(h:VR w M x c):VR w M (aeF sh x) c:=by
 unfold aeF;split
 . cases h;exact .wW _ _ none 0
 . rename_i ks cs;cases h with
   | agg _ vs q r p =>
    obtain⟨h1,h2⟩:=Xg ks cs;refine .agg _ vs (by rw[h1];exact q) (λy l=>?_) λi y l=>?_
    . obtain⟨i,z⟩:=List.getElem?_of_mem l;rcases h2 i y z with e |⟨_,a,k,rfl⟩
      . exact r y (qLe e)
      . rfl
    . rcases h2 i y l with e |⟨e,a,k,rfl⟩
      . exact p i y e
      . have:=p i _ e;generalize vs.getD i undef=u at this;cases this;exact .wW _ _ none 0
 . exact h
theorem BG:∀(ts:List TypeId) (vs:List PV),(normArgs T ts vs).length=vs.length
 |[],vs=>by simp[normArgs]
 | t::ts,[]=>rfl
 | t::ts,v::vs=>by simp[normArgs,BG ts vs]
theorem IG:∀(ts:List TypeId) (vs:List PV) (i:Nat) (v:AV),(normArgs T ts vs)[i]?=some v->∃ x,vs[i]?=some x/\∀(M:Nat->Prop) (β:Nat->Option (Nat × Nat)) (h:Nat->Option bZ) (c:Value),VR w M x c->AR w M β h v c
 |[],vs,i,v,h=>by simp only[normArgs,List.getElem?_map,Option.map_eq_some_iff]at h;obtain⟨x,q,rfl⟩:=h;exact⟨x,q,λM β h c l=>.p _ _ l⟩
 | t::ts,[],i,v,h=>by simp[normArgs]at h
 | t::ts,x::vs,0,v,h=>by simp only[normArgs,List.getElem?_cons_zero,qOa]at h;subst h;exact⟨x,rfl,λM β h c l=>.p _ _ (ahK l)⟩
 | t::ts,x::vs,i+1,v,h=>by simp only[normArgs,List.getElem?_cons_succ]at h;simpa using IG ts vs i v h
theorem ahL(ok:fB P T){C:aH}(hC:jT P T w0.gl C)(r:Rel w0 Pr M0 M β st a w){h':Nat->Option bZ}(I:∀ s b,h' s=some b->look st.heap s=some b){f:Nat}{args:List AV}{bF:Array Value}
    (hd:o.dst=some d)(W:dZ T.funcs f=some fi)(hm:fi.cfg.D9=false)(hargs:oW w M β (look st.heap) args bF.toList)(he:(execOp a.eval o).run P w=(callFunc f bF).run P w) :
    iC P w0 Pr M0 β st a w o (xE T C h' o.dst f args):=by
  rw[hd];simp only[xE,W,hm];cases X:JY h' args with
  | none=>exact⟨λ_ _ _ _ A=>by simp[DT.run]at A⟩
  | some q =>
   obtain⟨vs,ss⟩:=q;refine⟨λV α k res A rd n Q=>?_⟩;obtain⟨⟨S,nJ⟩,hcall,A⟩:=LW A;obtain⟨hbody,Oe⟩:=hC.plain f fi _ [] S nJ W (by simp) hcall;obtain⟨d1,d2,d3⟩:=J8 (λs b h=>r.heap s b (I s b h)) I X hargs;cases B:uQ T d [] 0 fi.cfg.rets fi.fn.resultTypes.toList S with
   | none=>rw[B]at A;simp[DT.run]at A
   | some xb =>
    obtain⟨xs,O⟩:=xb;rw[B]at A;simp only[DT.run]at A;refine zC V ?_;rw[he,Hf ok W hbody,Oper.uponIn_enter];refine⟨Az rd,zi rd ?_⟩;have N:wI w (eG M β ss) β (normArgs T fi.fn.params.toList vs) [] bF:=by
     refine⟨by simp[d1,BG],λi v G=>?_,λi b0 G=>by simp at G,λi b o G=>by simp at G,λi j b o o' G=>by simp at G,λb z=>?_⟩
     . obtain⟨x,hx,hv⟩:=IG (T:=T) (w:=w) _ _ i v G;have hlt:i<bF.toList.length:=by rw[<- d1];exact(qLa.1 hx).1
       have hc:bF.toList[i]?=some (bF.getD i undef):=by simp_all
       grind
     . rcases z with z |⟨s,o,J,z⟩
       . exact r.iU b z
       . exact(r.own s b o (d3 s J) z).2.1
    refine Calls.mono (Oe w _ β bF (λp hp=>⟨.inl (r.glob p hp).1,(r.glob p hp).2⟩) N) λe w' hpost=>?_;obtain⟨cs,ps,M',rfl,u⟩:=hpost;have hkeep:∀ b,b<w.heap.size->w'.heap[b]?=w.heap[b]?:=λb z=>u.keep b z λi o G=>by simp at G
    refine⟨⟨_,rfl⟩,?_⟩;show ∃ e M' β',_
    obtain ⟨M'',hM1,hM2,Z,Y⟩:∃ M'':Nat->Prop,(∀ b,eG M β (cond fi.cfg.shares ss []) b->M'' b)/\(∀ b,M'' b->eG M β (cond fi.cfg.shares ss []) b\/(w.heap.size<=b/\b<w'.heap.size))/\(∀ b,M'' b->M' b) /\
        FK T w' M'' β (look (iW 0 nJ)) fi.cfg.rets fi.fn.resultTypes.toList S cs ps:=by
      cases J:fi.cfg.shares with
      | true=>exact⟨M',λb z=>u.iU b z,λb z=>(u.oD b z).imp id λh=>⟨h,u.mlt b z⟩,λ_ h=>h,u.res⟩
      | false =>
       obtain⟨M2,k1,k2⟩:=u.res2 hm J;refine⟨λb=>eG M β [] b\/M2 b,λ_ h=>.inl h,λb h=>h.imp id λh=>⟨(k1 b h).2,u.mlt b (k1 b h).1⟩,λb z=>?_,k2.mono λ_ h=>.inr h⟩;rcases z with (z |⟨s,o,J,_⟩) | z
       . exact u.iU b (.inl z)
       all_goals grind
    refine⟨{val:=pO xs,uz:=O,new:=keysOf O,Ip:=cond fi.cfg.shares ss []},M'',?_⟩;by_cases H:kC (keysOf O++cond fi.cfg.shares ss [])=true
    . have r1:=r.freeze (present st.heap (keysOf O)) (cond fi.cfg.shares ss []) (o7 H).2 (by grind)
      have r2:Rel w0 Pr M0 M'' β (st.strike (present st.heap (keysOf O)++cond fi.cfg.shares ss [])) a w':=
       r1.world u.size u.os u.tape u.output (λb z _=>hkeep b z) (λb n _ z _ hr=>hr.of_block (hkeep b z)) hM1 hM2
      obtain⟨β',r3,AX⟩:=r2.results (d:=d) Y B (λs J=>AZ J) (λb o z=>by obtain⟨g1,g2,g3⟩:=u.own b o z;refine⟨λh=>g1 (Z b h),g2,⟨.inl (by have:=r.size;omega),by have:=r.size;have:=w0.le';omega⟩,λs' o' U AX=>?_⟩;have:=(r1.own s' b o' U AX).2.1;omega) (λj s blk hj=>by simp at hj);refine⟨β',A,u.drawn,λ_=>⟨?_,λs J=>AX s λA=>?_,ou λk b hkb=>.inl ?_⟩⟩
      . rw[hd];exact r3
      . have:=rM (o7 H).1 s A;omega
      . refine rM (o7 H).1 k ?_;have:∀(l:List (Nat × bZ)),(k,b)∈l->k∈keysOf l:=by
         intro l;induction l with
         | nil=>intro h;simp at h
         | cons x r ih=>grind[keysOf]
        grind
    . exact⟨β,A,u.drawn,λh=>absurd h H⟩
end
end
section
variable {ss:List Nat}{β':Nat->Option (Nat × Nat)}{h h':Nat->Option bZ}{s s':Nat}{blk:bZ}
section
variable {P:Program} {T:Tab} {w0:Base} {Pr M0 M:Nat->Prop} {β:Nat->Option (Nat × Nat)} {st:St} {a:Act} {w:World} {o:Oper}
theorem aeT(h:ss.Nodup)(s:Nat):(addN ss s).Nodup:=by
 unfold addN;cases l:l7 s ss with
 | true=>exact h
 | false =>simp only[qCf];have:=iV.1 l;grind
mutual
theorem ac2:∀(v:AV) (acc:List Nat),acc.Nodup->(AV.sites acc v).Nodup
 | .slice s _ _ _,ac3,h | .bslice s _ _,ac3,h | .ptr s _ _,ac3,h=>aeT h s
 | .fn _ cs,acc,h | .agg cs,acc,h | .vM cs,acc,h=>Ej cs acc h
 | .undef,ac3,h | .p _,ac3,h | .rE _ _ _ _,ac3,h | .fresh _ _ _,ac3,h | .yL,ac3,h=>h
theorem Ej:∀(l:List AV) (acc:List Nat),acc.Nodup->(AV.AO acc l).Nodup
 |[],ac3,h=>h
 | v::r,acc,h=>Ej r _ (ac2 v acc h)
end
theorem Xh{s:Nat}:∀{l:List Nat} {i j:Nat},idxOf s l i=some j->∃ n,j=i+n/\l[n]?=some s
 |[],i,j,h=>by simp[idxOf]at h
 | x::r,i,j,h=>by
  simp only[idxOf]at h;cases p:x==s with
  | true=>simp_all
  | false =>rw[p]at h;obtain⟨n,h1,h2⟩:=Xh h;exact⟨n+1,by omega,by simpa using h2⟩
theorem Xi{h:Nat->Option bZ}:∀{ss:List Nat} {bl:List bZ},LD h ss=some bl->bl.length=ss.length/\∀(i s:Nat),ss[i]?=some s->∃ b,bl[i]?=some b/\h s=some b/\iI b=true
 |[],bl,hb=>by grind[LD]
 | x::r,bl,hb=>by
  simp only[LD]at hb;split at hb
  . rename_i b q h1 h2;cases hp:iI b with
    | false=>rw[hp]at hb;cases hb
    | true =>rw[hp]at hb;simp at hb;subst hb;obtain⟨p,l⟩:=Xi h2;grind
  . cases hb
theorem Y0{ss:List Nat}:∀{args l:List AV},Ro ss args=some l->l.length=args.length/\∀(i:Nat) (v:AV),l[i]?=some v->∃ u,args[i]?=some u/\toArg ss u=some v
 |[],l,h=>by grind[Ro]
 | u::r,l,h=>by
  simp only[Ro]at h;split at h
  . rename_i x xs h1 h2;cases h;obtain⟨q,p⟩:=Y0 h2;grind
  . cases h
def Ky(β:Nat->Option (Nat × Nat))(ss:List Nat)(x:Nat):Option (Nat × Nat):=if ah<=x then(ss[x-ah]?).bind β else none
theorem ac4(i:Nat):Ky β ss (ah+i)=(ss[i]?).bind β:=by simp[Ky]
theorem AR.aj9{M':Nat->Prop}{i off:Nat}{c:Value}(z:AR w M β h (.ptr s i off) c)(l:h s=some blk)(u:h' s'=some blk)(r:β' s'=β s):AR w M' β' h' (.ptr s' i off) c:=by
 cases z with
 | ptrB _ _ cs b o p q=>rw[p]at l;cases l;exact .ptrB s' off cs b o u (r.trans q)
 | ptrA _ _ _ a ks xs b o p A q=>rw[p]at l;cases l;exact .ptrA s' i off a ks xs b o u A (r.trans q)
theorem BR.RF(O:BR w M β h s blk)(hp:iI blk=true)(e:β' s'=β s):BR w M β' h' s' blk:=by
 cases O with
 | lU=>exact .lU _ _
 | log=>exact .log _ _
 | arr _ _ _ b o C J fr I H G B A z=>exact .arr _ _ _ b o C J fr (e.trans I) H G B A z
 | box cs b o C J fr I H G B A z =>
  refine .box cs b o C J fr (e.trans I) H G B A λj c r=>?_;simp only[iI,Option.isSome_iff_exists]at hp;obtain⟨vs,hp⟩:=hp;have q:=AQ hp;subst q;have l:=z j c r;simp only[List.getElem?_map,Option.map_eq_some_iff]at r;obtain⟨x,_,rfl⟩:=r;generalize C.getD (o+j) undef=u at l;cases l with
  | p _ _ N=>exact .p _ _ N
theorem P8:∀(cs ds l:List AV) (n:Nat),xH cs ds=true->(∀(i:Nat) (d:AV),ds[i]?=some d->l.getD (n+i) .undef=d)->wF.xC cs l n=ds
 |[],[],_,_,_,_=>rfl
 |[],_::_,_,_,h,_=>by simp[xH]at h
 | _::_,[],_,_,h,_=>by simp[xH]at h
 | c::cs,d::ds,l,n,h,hg=>by
  simp only[xH,qBa]at h;have u:l.getD n .undef=d:=by simpa using hg 0 d rfl
  have r:=P8 cs ds l (n+1) h.2 λi x q=>by have:=hg (i+1) x (by simpa using q);grind
  have h1:=h.1;unfold wF.xC;split<;>rename_i p<;>first |(cases p;done) | skip
  all_goals (try (simp only[List.cons.injEq]at p;obtain⟨rfl,rfl⟩:=p))
  all_goals rw[r,u]
  all_goals (try (cases d<;>simp[acM]at h1))
  all_goals (try (rename_i v;cases v<;>simp at h1))
  all_goals (try subst h1)
  all_goals simp[AV.pv,PV.toInt,PV.toBool,PV.toStr,PV.toList]
  all_goals exact⟨h1.1,Kd.uD _ _ h1.2⟩
theorem Og{b0 b1:bZ}(h:backOk b0 b1=true):wF b0 b1=b1:=by
 cases b0 with
 | log on ys=>rfl
 | arr a ks xs =>
  cases b1 with
  | box=>simp[backOk]at h
  | log=>simp[backOk]at h
  | arr b ls ys =>simp only[backOk,qBa,beq_iff_eq]at h;obtain⟨rfl,h2⟩:=h;have:=Kd.uD _ _ h2;subst this;rfl
 | box cs =>
  cases b1 with
  | arr=>simp[backOk]at h
  | log=>simp[backOk]at h
  | box ds =>simp only[wF,bZ.cs,bZ.box.injEq];exact P8 cs ds ds 0 h λi d l=>by simp[List.getD,l]
end
section
variable {P:Program} {T:Tab} {w0:Base} {Pr M0 M:Nat->Prop} {β:Nat->Option (Nat × Nat)} {st:St} {a:Act} {w:World} {o:Oper}
theorem Y1:∀{ss:List Nat} {i j s:Nat},ss.Nodup->ss[i]?=some s->ss[j]?=some s->i=j
 |[],i,j,s,_,h,_=>by simp at h
 | x::r,0,0,s,_,_,_=>rfl
 | x::r,0,j+1,s,h,hi,hj=>by grind
 | x::r,i+1,0,s,h,hi,hj=>by grind
 | x::r,i+1,j+1,s,h,hi,hj=>by simp at hi hj;rw[Y1 (List.nodup_cons.1 h).2 hi hj]
theorem FM{ss:List Nat}:∀{l:List Nat},LG ss l=true->∀ x∈l,x ∉ ss
 |[],_,x,p=>by simp at p
 | y::r,h,x,p=>by
  simp only[LG,qBa,qBb]at h;rcases List.mem_cons.1 p with rfl | p
  . exact iV.1 h.1
  . exact FM h.2 x p
theorem Na:∀(p l:List (Nat × bZ)) (hp:Heap),gZ hp (p++l)=gZ (gZ hp p) l
 |[],_l2,_hp=>rfl
 |(s,b)::r,l,hp=>Na r l (put hp s b)
theorem Y2:∀{ss:List Nat} {bl nJ:List bZ} {hp:Heap},ss.Nodup->bl.length=ss.length->nJ.length=bl.length ->
    (∀ s,s ∉ ss->look (gZ hp (kQ ss bl nJ)) s=look hp s)/\(∀(i s:Nat) (b0 b1:bZ),ss[i]?=some s->bl[i]?=some b0->nJ[i]?=some b1->look (gZ hp (kQ ss bl nJ)) s=some (wF b0 b1))
  |[],bl,nJ,hp,_,_,_=>by simp[kQ,gZ]
  | x::r,[],nJ,hp,_,h,_=>by simp at h
  | x::r,b::bl,[],hp,_,_,h=>by simp at h
  | x::r,b::bl,c::nJ,hp,hd,h1,h2=>by
   rw[List.nodup_cons]at hd;have q:=Y2 (ss:=r) (bl:=bl) (nJ:=nJ) (hp:=put hp x (wF b c)) hd.2 (by simpa using h1) (by simpa using h2);have e:kQ (x::r) (b::bl) (c::nJ)=(x,wF b c)::kQ r bl nJ:=rfl;rw[e];refine⟨λs u=>?_,λi s b0 b1 l p h4=>?_⟩
   . simp only[List.mem_cons,not_or]at u;show look (gZ (put hp x (wF b c)) (kQ r bl nJ)) s=_;grind[eH]
   . cases i with
     | zero =>simp at l p h4;subst l p h4;show look (gZ (put hp x (wF b c)) (kQ r bl nJ)) x=_;grind[eH]
     | succ i=>simp at l p h4;exact q.2 i s b0 b1 l p h4
theorem P9:∀{ss:List Nat} {bl nJ:List bZ} {k:Nat} {b:bZ},bl.length=ss.length->nJ.length=bl.length->(k,b)∈kQ ss bl nJ->∃(i:Nat) (b0 b1:bZ),ss[i]?=some k/\bl[i]?=some b0/\nJ[i]?=some b1/\b=wF b0 b1
 |[],bl,nJ,k,b,_,_,h=>by simp[kQ]at h
 | x::r,[],nJ,k,b,h,_,_=>by simp at h
 | x::r,c::bl,[],k,b,_,h,_=>by simp at h
 | x::r,c::bl,d::nJ,k,b,h1,h2,h=>by
  have e:kQ (x::r) (c::bl) (d::nJ)=(x,wF c d)::kQ r bl nJ:=rfl;rw[e]at h;rcases List.mem_cons.1 h with h | h
  . cases h;exact⟨0,c,d,rfl,rfl,rfl,rfl⟩
  . obtain⟨i,b0,b1,u,q,p,l⟩:=P9 (by simpa using h1) (by simpa using h2) h;exact⟨i+1,b0,b1,by simpa using u,by simpa using q,by simpa using p,l⟩
theorem ahM(ok:fB P T){C:aH}(hC:jT P T w0.gl C)(r:Rel w0 Pr M0 M β st a w)(hsub:∀ s b,h' s=some b->look st.heap s=some b){d f:Nat}{fi:FI}{args:List AV}{bF:Array Value}
    (hd:o.dst=some d)(hf:dZ T.funcs f=some fi)(Z:fi.cfg.D9=true)(hargs:oW w M β (look st.heap) args bF.toList)(he:(execOp a.eval o).run P w=(callFunc f bF).run P w) :
    iC P w0 Pr M0 β st a w o (xE T C h' o.dst f args):=by
  rw[hd];simp only[xE,hf,Z];have hnd:(AV.AO [] args).Nodup:=Ej args [] List.nodup_nil;generalize AV.AO [] args=ss at hnd;cases hta:Ro ss args with
  | none=>exact⟨λ_ _ _ _ I=>by simp[DT.run]at I⟩
  | some as_ =>
   cases hab:LD h' ss with
   | none=>exact⟨λ_ _ _ _ I=>by simp[DT.run]at I⟩
   | some bl =>
    refine⟨λhnd' α k res I rd nd Q=>?_⟩;obtain⟨⟨rs,nJ⟩,hcall,I⟩:=LW I;obtain⟨b1,b2⟩:=Xi hab;obtain⟨hbody,Oe⟩:=hC.plain f fi _ bl rs nJ hf (λb O=>by
     obtain⟨i,G⟩:=List.mem_iff_getElem?.1 O;have W:i<ss.length:=by rw[<- b1];exact(qLa.1 G).1
     obtain⟨b',h1,_,h2⟩:=b2 i ss[i] (by simp);grind) hcall
    obtain⟨t1,t2⟩:=Y0 hta;cases U:uQ T d ss 0 fi.cfg.rets fi.fn.resultTypes.toList rs with
    | none=>rw[U]at I;simp[DT.run]at I
    | some xb =>
     obtain⟨xs,Y⟩:=xb;rw[U]at I;obtain⟨hna,I⟩:=aaK I;simp only[DT.run]at I;refine zC hnd' ?_;rw[he,Hf ok hf hbody,Oper.uponIn_enter];refine⟨Az rd,zi rd ?_⟩;have anV:∀(i:Nat) (b0:bZ),bl[i]?=some b0->∃ s,ss[i]?=some s/\look st.heap s=some b0/\iI b0=true:=by grind
     have V:∀(i s:Nat),ss[i]?=some s->∃ b0,bl[i]?=some b0/\look st.heap s=some b0/\iI b0=true:=by grind
     have place:∀(i s:Nat),ss[i]?=some s->Ky β ss (ah+i)=β s:=by grind[ac4]
     have arg1:∀(u v:AV) (c:Value),toArg ss u=some v->AR w M β (look st.heap) u c->AR w M (Ky β ss) (look (iW 0 bl)) v c:=by
      intro u v c N hc;unfold toArg at N;split at N
      . cases N;cases hc with
        | p _ _ hv=>exact .p _ _ hv
      . rename_i s z off len;cases G:idxOf s ss 0 with
        | none=>rw[G]at N;cases N
        | some i =>
         rw[G]at N;simp at N;subst N;obtain⟨n,hn,H⟩:=Xh G;obtain rfl:i=n:=by omega
         obtain⟨b0,A,B,J⟩:=V i s H;exact hc.oz B (by rw[wS];exact A) (place i s H)
      . rename_i s idx off;cases G:idxOf s ss 0 with
        | none=>rw[G]at N;cases N
        | some i =>
         rw[G]at N;simp at N;subst N;obtain⟨n,hn,H⟩:=Xh G;obtain rfl:i=n:=by omega
         obtain⟨b0,A,B,J⟩:=V i s H;exact hc.aj9 B (by rw[wS];exact A) (place i s H)
      . cases N
     have hpre:wI w M (Ky β ss) as_ bl bF:=by
      refine⟨?_,λi v G=>?_,λi b0 G=>?_,λi b o G h=>?_,λi j b o o' G hj h1 h2=>?_,r.iU⟩
      . have:=hargs.1;grind
      . obtain⟨u,A,B⟩:=t2 i v G;have W:i<bF.toList.length:=by rw[<- hargs.1];exact(qLa.1 A).1
        have hc:bF.toList[i]?=some (bF.getD i undef):=by simp_all
        exact arg1 u v _ B (hargs.2 i u _ A hc)
      . obtain⟨s,A,B,J⟩:=anV i b0 G;exact(r.heap s b0 B).RF J (place i s A)
      . have W:i<ss.length:=by omega
        rw[place i ss[i] (by simp)]at h;obtain⟨b0,A,B,J⟩:=V i ss[i] (by simp);have:=r.own ss[i] b o (by rw[B];rfl) h;grind
      . have hli:i<ss.length:=by omega
        have hlj:j<ss.length:=by omega
        rw[place i ss[i] (by simp)]at h1;rw[place j ss[j] (by simp)]at h2;obtain⟨b0,A,B,J⟩:=V i ss[i] (by simp);obtain⟨b0',g1',g2',g3'⟩:=V j ss[j] (by simp);have:=r.inj ss[i] ss[j] b o o' (by rw[B];rfl) (by rw[g2'];rfl) h1 h2;exact Y1 (s:=ss[j]) hnd (by rw[<- this];simp) (by simp)
     refine Calls.mono (Oe w _ _ bF r.glob hpre) λe w' hpost=>?_;obtain⟨cs,ps,M',rfl,q⟩:=hpost;refine⟨⟨_,rfl⟩,?_⟩;show ∃ e M' β',_;refine⟨{val:=pO xs,uz:=kQ ss bl nJ++Y,new:=keysOf Y},M',?_⟩;by_cases hfz:kC (keysOf Y++[])=true
     . have hfz':kC (keysOf Y)=true:=(o7 hfz).1;have r1:Rel w0 Pr M0 M β (st.strike (present st.heap (keysOf Y))) a w:=r.strike _ (λb h=>h) λb h=>.inl h;generalize S:st.strike (present st.heap (keysOf Y))=st1 at r1;have amQ:∀(i s:Nat) (b0:bZ),ss[i]?=some s->bl[i]?=some b0->look st1.heap s=some b0:=by
        intro i s b0 G O;obtain⟨b,A,B,J⟩:=V i s G;rw[O]at A;cases A;rw[<- S,iw,if_neg,B]
        . show some (b0.kill _)=some b0;congr 1;cases b0 with
          | arr=>rfl
          | log=>rfl
          | box cs =>
           simp only[iI,Option.isSome_iff_exists]at J;obtain⟨vs,hp⟩:=J;have hcs:=AQ hp;subst hcs;simp only[bZ.kill,bZ.box.injEq];apply List.ext_getElem?;intro n;rw[l9];cases hx:(vs.map AV.p)[n]? with
           | none=>rfl
           | some v =>simp only[List.getElem?_map,Option.map_eq_some_iff]at hx;obtain⟨x,_,rfl⟩:=hx;rfl
        . intro Z;exact FM hna s (xJ Z).1 (qLe G)
       have X:=Y2 (ss:=ss) (bl:=bl) (nJ:=nJ) (hp:=st1.heap) hnd b1 q.len;have anW:∀ s,s∈ss->∃(i:Nat) (b0 b1:bZ),ss[i]?=some s/\bl[i]?=some b0/\nJ[i]?=some b1:=by intro s H;obtain⟨i,G⟩:=List.mem_iff_getElem?.1 H;grind[q.len]
       have r2:Rel w0 Pr M0 M' β {st1 with heap:=gZ st1.heap (kQ ss bl nJ)} a w':=by
        refine r1.moved q.size q.os q.tape q.output (λb O Z=>q.keep b O λi o G h=>?_) (λb n O _ hr=>q.room b n O hr) q.iU (λb h=>?_) (λs H=>?_) (λs blk H=>?_)
        . have W:i<ss.length:=by omega
          rw[place i ss[i] (by simp)]at h;obtain⟨b0,A,B,J⟩:=V i ss[i] (by simp);obtain⟨o1,o2,o3⟩:=r.own ss[i] b o (by rw[B];rfl) h;grind
        . rcases q.oD b h with h1 | h1
          . exact .inl h1
          . exact .inr ⟨h1,q.mlt b h⟩
        . grind
        . by_cases Z:s∈ss
          . obtain⟨i,b0,b1,A,B,J⟩:=anW s Z;have:=amQ i s b0 A B;rw[this]at H;cases H;obtain⟨k1,k2,k3,k4⟩:=q.blk i blk b1 B J;refine⟨b1,by rw[X.2 i s blk b1 A B J,Og k3],.inr ⟨k2,k1.RF k4 (place i s A).symm⟩⟩
          . refine⟨blk,by rw[X.1 s Z];exact H,.inl ⟨rfl,λb o h=>?_⟩⟩;have hl:(look st1.heap s).isSome=true:=by rw[H];rfl
            refine q.keep b (r1.own s b o hl h).2.1 λi o' G h'=>?_;have W:i<ss.length:=by omega
            rw[place i ss[i] (by simp)]at h';obtain⟨b0,A,B,J⟩:=V i ss[i] (by simp);have:=r1.inj s ss[i] b o o' hl (by rw[amQ i ss[i] b0 (by simp) A];rfl) h h';grind
       obtain⟨β',r3,AX⟩:=r2.results (d:=d) q.res U (λs H=>by
        show look (gZ st1.heap (kQ ss bl nJ)) s=none;rw[X.1 s (FM hna s H),<- S];exact by simpa using AZ (st:=st) (fz:=[]) H) (λb o O=>by
        obtain⟨A,B,J⟩:=q.own b o O;refine⟨A,B,⟨.inl (by have:=r.size;omega),by have:=r.size;have:=w0.le';omega⟩,λs' o' hs' AX=>?_⟩;have avY:(look st1.heap s').isSome=true:=by
         by_cases Z:s'∈ss
         . grind
         grind
        have:=(r1.own s' b o' avY AX).2.1;omega) (λj s blk hj O=>by
        rw[wS]at O;obtain⟨b0,A,B,J⟩:=V j s hj;refine⟨?_,(place j s hj).symm⟩;show look (gZ st1.heap (kQ ss bl nJ)) s=_;rw[X.2 j s b0 blk hj A O,Og (q.blk j b0 blk A O).2.2.1])
       refine⟨β',I,q.drawn,λ_=>⟨?_,λs H=>AX s λI=>?_,ou λk b hkb=>?_⟩⟩
       . rw[hd];have e:st.apply (some d) {val:=pO xs,uz:=kQ ss bl nJ++Y,new:=keysOf Y}={env:=Skm.setEnv st1.env (some d) (pO xs),heap:=gZ (gZ st1.heap (kQ ss bl nJ)) Y}:=by simp[Na,S,St.apply,St.kill]
         grind
       . have:=rM hfz' s I;omega
       . rcases List.mem_append.1 hkb with h | h
         . obtain⟨i,b0,b1',k1,k2,k3,rfl⟩:=P9 b1 q.len h;obtain⟨b,A,B,J⟩:=V i k k1;rw[k2]at A;cases A;obtain⟨q1,q2,q3,q4⟩:=q.blk i b0 b1' k2 k3;exact .inr ⟨b0,B,by rw[Og q3];exact q2⟩
         . refine .inl (rM hfz' k ?_);have:∀(l:List (Nat × bZ)),(k,b)∈l->k∈keysOf l:=by
            intro l;induction l with
            | nil=>intro h;simp at h
            | cons x r ih=>grind[keysOf]
           grind
     . exact⟨β,I,q.drawn,λh=>absurd h hfz⟩
end
end
section
variable {M':Nat -> Prop}{h h':Nat->Option bZ}{pre:List AV}{f s:Nat}{sa:Bool}{ks:List Kd}{xs:List PV}{C:aH}{bF:Array Value}
section
variable {P:Program} {T:Tab} {w0:Base} {Pr M0 M:Nat->Prop} {β:Nat->Option (Nat × Nat)} {st:St} {a:Act} {w:World} {o:Oper}
theorem Rel.more(r:Rel w0 Pr M0 M β st a w)(h1:∀ b,M b->M' b)
    (h2:∀ b,M' b->M b\/(b<w.heap.size/\(w0.n0<=b/\(w0.heap.size<=b\/Pr b))/\∀ s o,(look st.heap s).isSome=true->β s≠some (b,o))):Rel w0 Pr M0 M' β st a w:=by
  have J:∀ b,M b->M' b/\w.heap[b]?=w.heap[b]?:=λb h=>⟨h1 b h,rfl⟩;have l:∀(v:AV) (c:Value),AR w M β (look st.heap) v c->AR w M' β (look st.heap) v c:=λv c h =>h.mono J λs blk _ q=>⟨blk,q,Like.refl _,rfl,λ_ _ _ _ h=>h⟩;refine⟨r.qK,λt v h=>l _ _ (r.env t v h),λs blk q=>?_,λs b o q O=>?_,r.inj,λb h=>?_,λb h=>?_,λb h=>h1 b (r.vW b h),r.keep,r.room,r.size,r.os,r.tape,r.output,λp hp=>⟨h1 _ (r.glob p hp).1,(r.glob p hp).2⟩⟩
  . cases r.heap s blk q with
    | box cs b o C e fr A z u I H G=>exact .box _ b o C e fr A z u I H λj c B=>l _ _ (G j c B)
    | lU a ks=>exact .lU a ks
    | log on ys=>exact .log on ys
    | arr a ks xs b o C e fr A z u I H G=>exact .arr a ks xs b o C e fr A z u I H λi x j c N B=>(G i x j c N B).mono J
  . obtain⟨A,z,u⟩:=r.own s b o q O;grind
  . rcases h2 b h with h |⟨h,_⟩
    . exact r.iU b h
    . exact h
  . rcases h2 b h with h |⟨_,h,_⟩
    . exact r.oD b h
    grind
theorem Xj{b0 b1:bZ}(s:Nat):look (sH [b0,b1]) s=if s=ah then some b0 else if s=99999 then some b1 else none:=by grind[sH,look]
theorem Xk:(99999:Nat)≠ah:=by decide
theorem Xl{β:Type}:∀{l:List β} {r:List β} {x:β},Wv l=some (r,x)->l=r++[x]
 |[],r,x,h=>by cases h
 |[y],r,x,h=>by simp[Wv]at h;obtain⟨rfl,rfl⟩:=h;rfl
 | y::z::l,r,x,h=>by
  simp only[Wv]at h;split at h
  . rename_i q p e;simp only[qOa,Prod.mk.injEq]at h;obtain⟨rfl,rfl⟩:=h;rw[Xl e];rfl
  . cases h
theorem aeU{v:AV}{cs:List Value}(l:oW w M β h (pre++[v]) cs):AR w M β h v (cs.getD pre.length undef)/\∀(i:Nat) (x:AV) (c:Value),pre[i]?=some x->cs[i]?=some c->AR w M β h x c:=by
 have r:cs.length=pre.length+1:=by have:=l.1;simp at this;omega
 refine⟨?_,λi x c q p=>l.2 i x c (by rw[List.getElem?_append_left (qLa.1 q).1];exact q) p⟩;have p:cs[pre.length]?=some (cs.getD pre.length undef):=by grind
 exact l.2 pre.length v _ (by simp) p
theorem BR.Qa{w:World}{M:Nat->Prop}{β β':Nat->Option (Nat × Nat)}{s':Nat}(p:∀ b,M b->M' b)(l:BR w M β h s (.arr sa ks xs))(e:β' s'=β s):BR w M' β' h' s' (.arr sa ks xs):=by
 cases l with
 | lU=>exact .lU _ _
 | arr _ _ _ b o C G fr B A z u r q=>exact .arr _ _ _ b o C G fr (e.trans B) A z u r λi x j c h1 h2=>(q i x j c h1 h2).mono λb h=>⟨p b h,rfl⟩
theorem ahN(ok:fB P T)(hC:jT P T w0.gl C)(r:Rel w0 Pr M0 M β st a w)(hsub:∀ s b,h' s=some b->look st.heap s=some b){d:Nat}{fi:FI} 
    {A z:Nat}{off len:Nat} 
    (hd:o.dst=some d)(hf:dZ T.funcs f=some fi)(hvc:fi.cfg.vcall=true)(hargs:oW w M β (look st.heap) (pre++[.ptr s 0 0]) bF.toList)(he:(execOp a.eval o).run P w=(callFunc f bF).run P w)
    (hs:look st.heap s=some (.box [.slice A z off len]))(hA:look st.heap A=some (.arr sa ks xs)) :
    iC P w0 Pr M0 β st a w o (YT T C h' d f fi pre s A sa ks off len xs):=by
  unfold YT;cases hdp:JY h' pre with
  | none=>exact⟨λ_ _ _ _ W=>by simp[DT.run]at W⟩
  | some q =>
  obtain⟨vs,ss⟩:=q;simp only;cases aqb:(Nat.blt s 100000&&(Nat.blt A 100000&&!(A==s)))&&(!(l7 s ss)&&!(l7 A ss))with
  | false=>exact⟨λ_ _ _ _ W=>by simp[DT.run]at W⟩
  | true =>
  simp only[qBa,qBb,Nat.blt_eq]at aqb;obtain⟨⟨hs1,hA1,hAs⟩,hss,al7⟩:=aqb;have hAs:A≠s:=by simpa using hAs
  have hss:s ∉ ss:=iV.1 hss;have al7:A ∉ ss:=iV.1 al7;have hsA:s≠A:=λe=>hAs e.symm;simp only[qCt];refine⟨λhnd α k res W rd n Q=>?_⟩;obtain⟨⟨rs,nJ⟩,hcall,W⟩:=LW W;obtain⟨hbody,Oe⟩:=hC.var f fi _ _ _ _ _ _ _ rs nJ hf hvc hcall;obtain⟨aqc,hpre0⟩:=aeU hargs;have hnum:bF.size=pre.length+1:=by have:=hargs.1;simp at this;omega
  have hargs0:oW w M β (look st.heap) pre (bF.toList.take pre.length):=by refine⟨by simp;omega,λi x c hi hc=>?_⟩;grind
  obtain⟨d1,d2,d3⟩:=J8 (λs b h=>r.heap s b (hsub s b h)) hsub hdp hargs0;have d1:vs.length=pre.length:=by rw[d1];simp;omega
  cases hres:uQ T d [] 0 fi.cfg.rets fi.fn.resultTypes.toList rs with
  | none=>rw[hres]at W;simp[DT.run]at W
  | some xb =>
  obtain⟨rv,bs⟩:=xb;rw[hres]at W;cases bs with
  | cons x y=>simp[DT.run]at W
  | nil =>
  simp only[DT.run]at W;refine zC hnd ?_;rw[he,Hf ok hf hbody,Oper.uponIn_enter];refine⟨Az rd,zi rd ?_⟩;have his:(look st.heap s).isSome=true:=by rw[hs];rfl
  have hiA:(look st.heap A).isSome=true:=by rw[hA];rfl
  let βc:Nat->Option (Nat × Nat):=λx=>if x=ah then β s else if x=99999 then β A else none
  have X:βc ah=β s:=by simp[βc]
  have S:βc 99999=β A:=by simp[βc,Xk]
  have hlv:=λx=>Xj (b0:=.box [.slice 99999 ks.length off len]) (b1:=.arr sa ks xs) x;have hl0:=hlv ah;rw[if_pos rfl]at hl0;have hl1:=hlv 99999;rw[if_neg Xk,if_pos rfl]at hl1;have Y:∀ x,(look (sH [.box [.slice 99999 ks.length off len],.arr sa ks xs]) x).isSome=true->x=ah\/x=99999:=by grind
  have hup:∀ b,M b->eG M β ss b:=λb h=>.inl h;have aqd:∀ x b o,(look st.heap x).isSome=true->β x=some (b,o)->x ∉ ss->¬ eG M β ss b:=by
   intro x b o l B hn hm;rcases hm with hm |⟨s',J,hs',O⟩
   . exact(r.own x b o l B).1 hm
   . exact hn (by rw[r.inj x s' b o J l (d3 s' hs') B O];exact hs')
  have hpre:aaS w (eG M β ss) βc (normArgs T fi.fn.params.toList vs++[.ptr ah 0 0]) [.box [.slice 99999 ks.length off len],.arr sa ks xs] bF:=by
   have Z:(normArgs T fi.fn.params.toList vs).length=pre.length:=by simp[d1,BG]
   refine⟨by simp[Z,hnum],λi x hi=>?_,λx b l=>?_,λx b o l B=>?_,λx y b o J l hy B O=>?_,λb B=>?_⟩
   . by_cases hi':i<pre.length
     . rw[List.getElem?_append_left (by rw[Z];exact hi')]at hi;obtain⟨y,hy,hv⟩:=IG (T:=T) (w:=w) _ _ i x hi;have hc:(bF.toList.take pre.length)[i]?=some (bF.getD i undef):=by
        rw[List.getElem?_take,if_pos hi',qLd (by simp;omega)];have:i<bF.size:=by omega
        simp[this]
       grind
     . have e:i=pre.length:=by grind
       subst e;rw[List.getElem?_append_right (by rw[Z];exact qNr _),Z,Nat.sub_self]at hi;simp at hi;subst hi;have e:bF.getD pre.length undef=bF.toList.getD pre.length undef:=by simp
       rw[e];generalize bF.toList.getD pre.length undef=u at aqc;cases aqc with
       | ptrB _ _ cs b o h1 B=>exact .ptrB ah 0 _ b o hl0 (X.trans B)
       | ptrA _ _ _ a ks xs b o h1 hi B=>rw[hs]at h1;cases h1
   . rcases Y x (by rw[l];rfl)with rfl | rfl
     . rw[hl0]at l;cases l;cases r.heap s _ hs with
       | box _ b o C e fr g1 g2 g3 U g5 g6 =>
        refine .box _ b o C e fr (X.trans g1) g2 g3 U (λc hc=>by simp at hc;subst hc;rfl) λj c hj=>?_;cases j with
        | succ j=>simp at hj
        | zero =>
         simp at hj;subst hj;have hv:=g6 0 _ rfl;have hz:z=ks.length:=by
          generalize C.getD (o+0) undef=u at hv;cases hv with
          | slice _ _ _ a' ks' xs' b' J cap h1 hl B hcap hr=>rw[hA]at h1;cases h1;rfl
          | sliceE _ _ a' ks' xs' base h1 hl=>rw[hA]at h1;cases h1;rfl
         subst hz;exact hv.oz hA hl1 S
     . rw[hl1]at l;cases l;exact(r.heap A _ hA).Qa hup S
   . rcases Y x l with rfl | rfl
     . rw[X]at B;exact⟨aqd s b o his B hss,(r.own s b o his B).2.1⟩
     . rw[S]at B;exact⟨aqd A b o hiA B al7,(r.own A b o hiA B).2.1⟩
   . rcases Y x l with rfl | rfl<;>rcases Y y hy with rfl | rfl
     . rfl
     . rw[X]at B;rw[S]at O;exact absurd (r.inj s A b o J his hiA B O) hsA
     . rw[S]at B;rw[X]at O;exact absurd (r.inj s A b J o his hiA O B) hsA
     . rfl
   . rcases B with B |⟨s',o,hs',B⟩
     . exact r.iU b B
     . exact(r.own s' b o (d3 s' hs') B).2.1
  refine Calls.mono (Oe w _ βc bF (λp hp=>⟨.inl (r.glob p hp).1,(r.glob p hp).2⟩) hpre) λe w' hpost=>?_;obtain⟨cs,M',rfl,G⟩:=hpost;refine⟨⟨_,rfl⟩,?_⟩;show ∃ e M' β',_;obtain⟨H,I,ys,bb,bo,Cb,eb,fb,p,rfl,q1,q2,q3,q4,q5,q6,q7,q8⟩:=G.back;rw[X]at q1;have hkeep:∀ b,b<w.heap.size->b≠bb->(∀ o,β A≠some (b,o))->w'.heap[b]?=w.heap[b]?:=λb B h1 h2 =>G.keep b B (λo h=>by rw[X,q1]at h;cases h;exact h1 rfl) λo h=>by rw[S]at h;exact h2 o h
  obtain⟨ob1,ob2,ob3,ob4⟩:=r.own s bb bo his q1;have aqe:ah=100000:=rfl;have hnb:w0.n0<=bb:=by rcases ob4 with h | h<;>omega
  have hnA:∀ b o,β A=some (b,o)->¬ M b/\b<w.heap.size/\(w0.heap.size<=b\/Pr b)/\w0.n0<=b:=by intro b o h;obtain⟨g1,g2,g3,U⟩:=r.own A b o hiA h;grind
  have hvar:abA [bZ.box [.slice 99999 ks.length H I],.arr sa ks ys]=ys:=rfl;have hvV:ZF [bZ.box [.slice 99999 ks.length H I],.arr sa ks ys]=.slice 99999 ks.length H I:=rfl;rw[hvar,hvV]at W;simp only[AV.qM,AV.sLen]at W;obtain⟨β1,hh1,ps,akb,hps⟩:=G.res;by_cases hfz:¬ kC ss=true
  . exact⟨_,M',β,W,G.drawn,λh=>absurd h hfz⟩
  have hfz:kC ss=true:=Classical.not_not.1 hfz;have r1:Rel w0 Pr M0 (eG M β ss) β (st.strike ss) a w:=r.freeze [] ss hfz d3;have hst1:∀ x,look (st.strike ss).heap x=if x∈ss then none else(look st.heap x).map (bZ.kill ss):=λx=>iw _ x
  have hs1':look (st.strike ss).heap s=some (.box [.slice A z off len]):=by rw[hst1,if_neg hss,hs];show some (bZ.box [AV.kill ss (.slice A z off len)])=_;grind[AV.kill,AV.refers]
  have aqf:look (st.strike ss).heap A=some (.arr sa ks xs):=by rw[hst1,if_neg al7,hA];rfl
  have Xm:∀ x,(look (st.strike ss).heap x).isSome=true->(look st.heap x).isSome=true:=λx l=>(Tc l).2;generalize aqg:st.strike ss=st1 at r1 hs1' aqf Xm;have hpo:∀ b o,p=some (b,o)->¬ M' b/\b<w'.heap.size/\((w0.heap.size<=b\/Pr b)/\(w0.n0<=b\/ah<=A))/\b≠bb:=by
   intro b o hp;obtain⟨g1,g2,g3,U⟩:=q8 b o hp;refine⟨g1,g2,?_,g3⟩;rcases U with U |⟨J,U⟩
   . exact⟨.inl (by have:=r.size;omega),.inl (by have:=r.size;have:=w0.le';omega)⟩
   grind
  have hpl:∀ b o,p=some (b,o)->∀ x J,x≠A->(look st1.heap x).isSome=true->β x≠some (b,J):=by
   intro b o hp x J l hl B;obtain⟨_,_,_,U⟩:=q8 b o hp;rcases U with U |⟨o'',U⟩
   . have:=(r1.own x b J hl B).2.1;omega
   . rw[S]at U;exact l (r.inj x A b J o'' (Xm x hl) hiA B U)
  have hkM:∀ b,b<w.heap.size->(eG M β ss b\/(b<w0.heap.size/\¬ Pr b))->w'.heap[b]?=w.heap[b]?:=by
   intro b B hm;refine hkeep b B (λe=>?_) λo h=>?_
   . grind
   . obtain⟨g1,g2,g3,U⟩:=hnA b o h;grind
  have hput:∀(hp:Heap) (x:Nat),look (gZ hp [(A,.arr sa ks ys),(s,.box [.slice A ks.length H I])]) x=if x=s then some (.box [.slice A ks.length H I])else if x=A then some (.arr sa ks ys)else look hp x:=by intro hp x;show look (put (put hp A _) s _) x=_;simp[eH]
  have avZ:acU st.heap [(A,.arr sa ks ys),(s,.box [.slice A ks.length H I])]:=by intro x b l;simp at l;omega
  have r2:Rel w0 Pr M0 (eG M β ss) β (st1.strike [A]) a w:=r1.strike [A] (λ_ h=>h) λ_ h=>.inl h;have N:∀ x,look (st1.strike [A]).heap x=if x=A then none else(look st1.heap x).map (bZ.kill [A]):=λx=>by rw[iw];simp
  have V:look (st1.strike [A]).heap s=some (.box [AV.kill [A] (.slice A z off len)]):=by rw[N,if_neg hsA,hs1'];rfl
  have Xn:∀ x,(look (st1.strike [A]).heap x).isSome=true->x≠A/\(look st1.heap x).isSome=true:=by
   intro x l;rw[N]at l;by_cases e:x=A
   . rw[if_pos e]at l;cases l
   . rw[if_neg e]at l;exact⟨e,by simpa using l⟩
  have hapart:∀ x b o,(look (st1.strike [A]).heap x).isSome=true->β x=some (b,o)->∀ J,β A≠some (b,J):=by intro x b o l B J h;exact(Xn x l).1 (r1.inj x A b o J (Xn x l).2 (by rw[aqf];rfl) B h)
  generalize aqh:st1.strike [A]=st2 at r2 N V Xn hapart;have r3:Rel w0 Pr M0 (λb=>M' b/\(eG M β ss b\/w.heap.size<=b)) β {st2 with heap:=put st2.heap s (.box [.undef])} a w':=by
   refine r2.aaT G.size G.os G.tape G.output hkM (λb n B h hr=>?_) (λb h=>⟨G.iU b h,.inl h⟩) (λb B=>B.2.imp id λh=>⟨h,G.mlt b B.1⟩) (λx l=>?_) (λx blk l=>?_)
   . rcases h with⟨x,o,blk,h1,h2,h3⟩ |⟨h1,h2⟩
     . by_cases e1:x=s
       . subst e1;rw[V]at h1;cases h1;exact h3.elim
       . refine hr.of_block (hkeep b B (λe=>?_) (hapart x b o (by rw[h1];rfl) h2));subst e;exact e1 (r2.inj x s b o bo (by rw[h1];rfl) (by rw[V];rfl) h2 q1)
     . refine hr.of_block (hkeep b B (λe=>by omega) λJ h=>?_);have:=(hnA b J h).2.2.2;omega
   . have h1:x≠s:=by rintro rfl;rw[V]at l;cases l
     rw[eH,if_neg h1];exact l
   . rw[eH];by_cases e1:x=s
     . subst e1;rw[V]at l;cases l;refine⟨_,if_pos rfl,.inr ⟨rfl,?_⟩⟩;refine .box _ bb bo Cb eb fb q1 q3 (by simpa using q4) q5 (λc hc=>by simp at hc;subst hc;rfl) λj c hj=>?_;cases j with
       | succ j=>simp at hj
       | zero=>simp at hj;subst hj;exact .undef _
     . refine⟨blk,by rw[if_neg e1];exact l,.inl ⟨rfl,λb o h=>hkeep b (r2.own x b o (by rw[l];rfl) h).2.1 (λe=>?_) (hapart x b o (by rw[l];rfl) h)⟩⟩;subst e;exact e1 (r2.inj x s b o bo (by rw[l];rfl) (by rw[V];rfl) h q1)
  have aeV:∀ x,(look (put st2.heap s (.box [.undef])) x).isSome=true->(look st2.heap x).isSome=true:=by
   intro x l;rw[eH]at l;by_cases e:x=s
   . subst e;rw[V];rfl
   grind
  have r4:Rel w0 Pr M0 M' β {st2 with heap:=put st2.heap s (.box [.undef])} a w':=by
   refine r3.more (λb h=>h.1) λb B=>?_;rcases G.oD b B with h | h |⟨o,h⟩
   . grind
   . grind
   . rw[S]at h;obtain⟨g1,g2,g3,U⟩:=hnA b o h;exact .inr ⟨by have:=G.size;omega,⟨U,g3⟩,λx J l O=>hapart x b J (aeV x l) O o h⟩
  have hfree:look (put st2.heap s (.box [.undef])) A=none:=by rw[eH,if_neg hAs,N,if_pos rfl]
  have r5:=r4.lay (s:=A) (blk:=.arr sa ks ys) hfree (p:=p) (λb o hp=>by obtain⟨g1,g2,g3,U⟩:=hpo b o hp;exact⟨g1,g2,g3,λx J l=>hpl b o hp x J (Xn x (aeV x l)).1 (Xn x (aeV x l)).2⟩) (q7.Qa (λ_ h=>h) (by simp));have r6:Rel w0 Pr M0 M' (λx=>if x=A then p else β x) {st2 with heap:=put (put (put st2.heap s (.box [.undef])) A (.arr sa ks ys)) s (.box [.slice A ks.length H I])} a w':=by
   refine r5.aaT (qNr _) rfl rfl rfl (λ_ _ _=>rfl) (λ_ _ _ _ h=>h) (λ_ h=>h) (λ_ h=>.inl h) (λx l=>?_) (λx blk l=>?_)
   . have h1:x≠s:=by rintro rfl;have l:look (put (put st2.heap x (.box [.undef])) A (.arr sa ks ys)) x=none:=l;rw[eH,if_neg hsA,eH,if_pos rfl]at l;cases l
     rw[eH,if_neg h1];exact l
   . rw[eH];by_cases e1:x=s
     . subst e1;have l:look (put (put st2.heap x (.box [.undef])) A (.arr sa ks ys)) x=some blk:=l;rw[eH,if_neg hsA,eH,if_pos rfl]at l;cases l;refine⟨_,if_pos rfl,.inr ⟨rfl,?_⟩⟩;refine .box _ bb bo Cb eb fb (by simp only[if_neg hsA];exact q1) q3 (by simpa using q4) q5 (λc hc=>by simp at hc;subst hc;rfl) λj c hj=>?_;cases j with
       | succ j=>simp at hj
       | zero =>simp at hj;subst hj;exact q6.oz rfl (by rw[eH,if_neg hAs,eH,if_pos rfl]) (by simp)
     . exact⟨blk,by rw[if_neg e1];exact l,.inl ⟨rfl,λ_ _ _=>rfl⟩⟩
  obtain⟨β2,r7,AX⟩:=r6.results (d:=d) akb hres (λs hs=>by simp[keysOf]at hs) (λb o B=>absurd (hps _ B) (by simp)) (λj s blk hj=>by simp at hj);refine⟨_,M',β2,W,G.drawn,λ_=>⟨?_,λx l=>(AX x (by simp[keysOf])).trans (if_neg (by omega)),ou avZ⟩⟩;rw[hd];have e:st.apply (some d) {val:=pO rv,uz:=[(A,.arr sa ks ys),(s,.box [.slice A ks.length H I])],cut:=[A],Ip:=ss}={env:=Skm.setEnv st2.env (some d) (pO rv),heap:=gZ (jL [A] st1.heap) [(A,.arr sa ks ys),(s,.box [.slice A ks.length H I])]}:=by rw[<- aqh,<- aqg];rfl
  rw[e];refine Rel.congr (st:={env:=Skm.setEnv st2.env (some d) (pO rv),heap:=put (put (put st2.heap s (.box [.undef])) A (.arr sa ks ys)) s (.box [.slice A ks.length H I])}) r7 λx=>?_;show look (gZ (jL [A] st1.heap) _) x=look (put (put (put st2.heap s (.box [.undef])) A (.arr sa ks ys)) s (.box [.slice A ks.length H I])) x;rw[hput,eH];by_cases e1:x=s
  . grind
  . rw[if_neg e1,if_neg e1,eH];by_cases e2:x=A
    . grind
    . rw[if_neg e2,if_neg e2,eH,if_neg e1,jO,N,if_neg e2]
theorem al8(ok:fB P T)(N:jT P T w0.gl C)(r:Rel w0 Pr M0 M β st a w)(l:∀ s b,h' s=some b->look st.heap s=some b){args:List AV} 
    (p:(pI T f).vcall=true)(hargs:oW w M β (look st.heap) args bF.toList)(I:(execOp a.eval o).run P w=(callFunc f bF).run P w):iC P w0 Pr M0 β st a w o (UA T C h' o.dst f args):=by
  have fail:iC P w0 Pr M0 β st a w o .fail:=⟨λ_ _ _ _ H=>by simp[DT.run]at H⟩;unfold UA;split
  . rename_i d fi pre s hd u B;have q:fi.cfg.vcall=true:=by rw[<- p];simp[pI,u]
    have J:=Xl B;subst J;split
    . rename_i A z off len G;split
      . rename_i sa ks xs hA;exact ahN ok N r l hd u q hargs I (l _ _ G) (l _ _ hA)
      . exact fail
    . exact fail
  . exact fail
end
end
section
section
variable {P:Program} {T:Tab} {w0:Base} {Pr M0 M:Nat->Prop} {β:Nat->Option (Nat × Nat)} {st:St} {a:Act} {w:World} {o:Oper}
theorem LX{b1:bZ}(s:Nat):look [(99999,b1)] s=if s=99999 then some b1 else none:=by simp only[look];grind
theorem akc(ok:fB P T){C:aH}(hC:jT P T w0.gl C)(r:Rel w0 Pr M0 M β st a w){h':Nat->Option bZ}(U:∀ s b,h' s=some b->look st.heap s=some b){f:Nat}{args:List AV}{bF:Array Value}
    (htk:(pI T f).take=true)(hargs:oW w M β (look st.heap) args bF.toList)(he:(execOp a.eval o).run P w=(callFunc f bF).run P w):iC P w0 Pr M0 β st a w o (PY T C h' o.dst f args):=by
  have fail:iC P w0 Pr M0 β st a w o .fail:=⟨λ_ _ _ _ O=>by simp[DT.run]at O⟩;unfold PY;split
  case h_2=>exact fail
  rename_i d fi A z off len rest hd hf;have av3:fi.cfg.take=true:=by rw[<- htk];simp[pI,hf]
  split
  case h_2=>exact fail
  rename_i sa ks xs hA0;have hA:=U _ _ hA0;split
  case h_2=>exact fail
  rename_i vs hdp;refine⟨λhnd α k res O rd n Q=>?_⟩;obtain⟨⟨rs,nJ⟩,hcall,O⟩:=LW O;obtain⟨hbody,Oe⟩:=hC.take f fi _ _ _ _ rs nJ hf av3 hcall;have hnum:bF.size=rest.length+1:=by have:=hargs.1;simp at this;omega
  have h0:AR w M β (look st.heap) (.slice A z off len) (bF.getD 0 undef):=by
   have hc:bF.toList[0]?=some (bF.getD 0 undef):=by simp_all
   exact hargs.2 0 _ _ rfl hc
  have hargs0:oW w M β (look st.heap) rest bF.toList.tail:=by refine⟨by simp;omega,λi x c Y hc=>hargs.2 (i+1) x c (by simpa using Y) (by simpa using hc)⟩
  obtain⟨d1,d2,d3⟩:=J8 (λs b h=>r.heap s b (U s b h)) U hdp hargs0;have d1:vs.length=rest.length:=by rw[d1];simp;omega
  cases V:uQ T d [] 0 fi.cfg.rets fi.fn.resultTypes.toList rs with
  | none=>rw[V]at O;simp[DT.run]at O
  | some xb =>
  obtain⟨rv,N⟩:=xb;rw[V]at O;simp only[DT.run]at O;refine zC hnd ?_;rw[he,Hf ok hf hbody,Oper.uponIn_enter];refine⟨Az rd,zi rd ?_⟩;have W:(look st.heap A).isSome=true:=by rw[hA];rfl
  have hz:z=ks.length:=by
   generalize bF.getD 0 undef=u at h0;cases h0 with
   | slice _ _ _ a' ks' xs' b' B cap h1 hl G hcap hr=>rw[hA]at h1;cases h1;rfl
   | sliceE _ _ a' ks' xs' base h1 hl=>rw[hA]at h1;cases h1;rfl
  subst hz;have hpre:UC w (eG M β []) (λ_=>β A) (.slice 99999 ks.length off len::vs.map .p) (.arr sa ks xs) bF:=by
   refine⟨by simp[d1,hnum],λi x Y=>?_,?_,λb B G=>?_,λb G=>?_⟩
   . cases i with
     | zero =>simp at Y;subst Y;exact(h0.oz hA (by rw[LX,if_pos rfl]) rfl)
     | succ i =>
      simp only[List.getElem?_cons_succ,List.getElem?_map,Option.map_eq_some_iff]at Y;obtain⟨y,hy,rfl⟩:=Y;have hlt:=(qLa.1 hy).1;have hc:bF.toList.tail[i]?=some (bF.getD (i+1) undef):=by simp_all
      exact .p _ _ (d2 i y _ hy hc)
   . exact(r.heap A _ hA).Qa (λb h=>.inl h) rfl
   . obtain⟨g1,g2,_⟩:=r.own A b B W G;refine⟨λh=>?_,g2⟩;rcases h with h |⟨s',_,I,_⟩;all_goals grind
   . rcases G with G |⟨s',_,I,_⟩
     . exact r.iU b G
     . simp at I
  refine Calls.mono (Oe w _ (λ_=>β A) bF (λp hp=>⟨.inl (r.glob p hp).1,(r.glob p hp).2⟩) hpre) λe w' hpost=>?_;obtain⟨cs,ps,M',rfl,q⟩:=hpost;refine⟨⟨_,rfl⟩,?_⟩;show ∃ e M' β',_;have hM0:∀ b,eG M β [] b↔M b:=λb=>⟨λh=>by
   rcases h with h |⟨s',_,I,_⟩
   . exact h
   . simp at I,.inl⟩
  refine⟨{val:=pO rv,uz:=N,new:=A::keysOf N},M',?_⟩;by_cases J:¬ kC ((A::keysOf N)++[])=true
  . exact⟨β,O,q.drawn,λh=>absurd h J⟩
  have J:kC ((A::keysOf N)++[])=true:=Classical.not_not.1 J;have aqe:ah=100000:=rfl;have hA1:A<100000:=rM J A (by simp);have r1:Rel w0 Pr M0 M β (st.strike (present st.heap (A::keysOf N)++[])) a w:=r.strike _ (λ_ h=>h) λ_ h=>.inl h;have hnA:(look (st.strike (present st.heap (A::keysOf N)++[])).heap A)=none:=AZ (by simp);have hnk:∀ s∈keysOf N,look (st.strike (present st.heap (A::keysOf N)++[])).heap s=none:=λs hs=>AZ (by simp[hs]);have Xm:∀ x,(look (st.strike (present st.heap (A::keysOf N)++[])).heap x).isSome=true->(look st.heap x).isSome=true:=λx S=>(Tc S).2;generalize hst1:st.strike (present st.heap (A::keysOf N)++[])=st1 at r1 hnA hnk Xm;obtain⟨oA1,oA2,Z⟩:(∀ b B,β A=some (b,B)->¬ M b)/\(∀ b B,β A=some (b,B)->b<w.heap.size)/\(∀ b B,β A=some (b,B)->(w0.heap.size<=b\/Pr b)/\w0.n0<=b):=by refine⟨λb B h=>(r.own A b B W h).1,λb B h=>(r.own A b B W h).2.1,λb B h=>?_⟩;obtain⟨_,_,X,g4⟩:=r.own A b B W h;grind
  have hapart:∀ x b B,(look st1.heap x).isSome=true->β x=some (b,B)->∀ H,β A≠some (b,H):=by intro x b B S G H h;have:=r.inj x A b B H (Xm x S) W G h;grind
  have hkM:∀ b,b<w.heap.size->(M b\/(b<w0.heap.size/\¬ Pr b))->w'.heap[b]?=w.heap[b]?:=by intro b G hm;refine q.keep b G λB h=>?_;grind
  have r3:Rel w0 Pr M0 (λb=>M' b/\(M b\/w.heap.size<=b)) β {st1 with heap:=st1.heap} a w':=by
   refine r1.aaT q.size q.os q.tape q.output hkM (λb n G h hr=>?_) (λb h=>⟨q.iU b (.inl h),.inl h⟩) (λb G=>G.2.imp id λh=>⟨h,q.mlt b G.1⟩) (λx S=>S) (λx blk S=>?_)
   . rcases h with⟨x,B,blk,h1,h2,h3⟩ |⟨h1,h2⟩
     . exact hr.of_block (q.keep b G (hapart x b B (by rw[h1];rfl) h2))
     . refine hr.of_block (q.keep b G λB h'=>?_);grind
   . exact⟨blk,S,.inl ⟨rfl,λb B h=>q.keep b (r1.own x b B (by rw[S];rfl) h).2.1 (hapart x b B (by rw[S];rfl) h)⟩⟩
  have r4:Rel w0 Pr M0 M' β st1 a w':=by
   refine r3.more (λb h=>h.1) λb G=>?_;rcases q.oD b G with h | h |⟨B,h⟩
   . grind
   . grind
   . exact .inr ⟨by have:=oA2 b B h;have:=q.size;omega,⟨(Z b B h).2,(Z b B h).1⟩,λx H S hb'=>hapart x b H S hb' B h⟩
  obtain⟨β1,h1,akb⟩:=q.res;obtain⟨β2,r5,AX⟩:=r4.results (d:=d) akb V hnk (λb B G=>by
   obtain⟨g1,g2,X⟩:=q.own b B G;refine⟨g1,g2,?_,λs' H I AX=>?_⟩
   . rcases X with X |⟨H,X⟩
     . exact⟨.inl (by have:=r.size;omega),by have:=r.size;have:=w0.le';omega⟩
     grind
   . rcases X with X |⟨o3,X⟩
     . have:=(r1.own s' b H I AX).2.1;omega
     grind) (λj s blk hj=>by simp at hj)
  refine⟨β2,O,q.drawn,λ_=>⟨?_,λs hs=>AX s λO=>?_,ou λk b hkb=>.inl ?_⟩⟩
  . rw[hd];have e:st.apply (some d) {val:=pO rv,uz:=N,new:=A::keysOf N}={env:=Skm.setEnv st1.env (some d) (pO rv),heap:=gZ st1.heap N}:=by rw[<- hst1];rfl
    grind
  . have:=rM J s (by simp[O]);omega
  . refine rM J k ?_;have:∀(l:List (Nat × bZ)),(k,b)∈l->k∈keysOf l:=by
     intro l;induction l with
     | nil=>intro h;simp at h
     | cons x r ih=>grind[keysOf]
    grind
end
end
section
variable {D:DT}{f:Nat}{args:List AV}{bF:Array Value}{C:aH}{h':Nat -> Option bZ}{ρ:Operand -> Value}{dst:Option Tmp}{ts:Array TypeId}{type:TypeId}{pos:String}{after:Array Edge}{guard:Option (Nat × Bool)}
section
variable {P:Program} {T:Tab} {w0:Base} {Pr M0 M:Nat->Prop} {β:Nat->Option (Nat × Nat)} {st:St} {a:Act} {w:World} {o:Oper}
theorem Rel.og(r:Rel w0 Pr M0 M β st a w):∀(l:List Operand),oW w M β (look st.heap) (Skm.og st.env l) (l.map a.eval)
 |[]=>⟨rfl,λi x c h=>by simp[Skm.og]at h⟩
 | x::l=>by
  obtain⟨h1,h2⟩:=r.og l;refine⟨by simp[Skm.og,h1],λi y c p q=>?_⟩;cases i with
  | zero=>simp[Skm.og]at p q;subst p q;exact r.dP x
  | succ i=>simp only[Skm.og,List.map_cons,List.getElem?_cons_succ]at p q;exact h2 i y c p q
theorem Rel.LY(r:Rel w0 Pr M0 M β st a w)(l:Array Operand):oW w M β (look st.heap) (Skm.og st.env l.toList) (l.map a.eval).toList:=by rw[Array.toList_map];exact r.og l.toList
theorem Rel.lJ(r:Rel w0 Pr M0 M β st a w):∀(l:List (Nat × Operand)),WT w M β (look st.heap) (Skm.lJ st.env l) (l.map λ(i,x)=>(i,a.eval x))
 |[]=>⟨rfl,λi x c h=>by simp[Skm.lJ]at h⟩
 |(n,x)::l=>by
  obtain⟨h1,h2⟩:=r.lJ l;refine⟨by simp[Skm.lJ,h1],λi y c p q=>?_⟩;cases i with
  | zero=>simp[Skm.lJ]at p q;subst p q;exact⟨rfl,r.dP x⟩
  | succ i=>simp only[Skm.lJ,List.map_cons,List.getElem?_cons_succ]at p q;exact h2 i y c p q
theorem Rel.Xo(r:Rel w0 Pr M0 M β st a w)(l:Array (Nat × Operand)):WT w M β (look st.heap) (Skm.lJ st.env l.toList) (l.map λ(i,x)=>(i,a.eval x)).toList:=by rw[Array.toList_map];exact r.lJ l.toList
theorem Rel.oC(r:Rel w0 Pr M0 M β st a w)(x:Option Operand):WV w M β (look st.heap) (Skm.oC st.env x) (x.map a.eval):=by
 cases x with
 | none=>exact True.intro
 | some x=>exact r.dP x
theorem iC.fail:iC P w0 Pr M0 β st a w o .fail:=⟨λ_ _ _ _ l=>by simp[DT.run]at l⟩
theorem iC.val(r:Rel w0 Pr M0 M β st a w){sem:Sem Value}(h:aJ P w M β (look st.heap) D sem)(e:execOp a.eval o=(do pure (.value (<- sem)))):iC P w0 Pr M0 β st a w o D:=
 dK.op (by rw[e];exact dK.Rx r h)
theorem dK.Y3{d:Option Nat}{l s2:Sem Next}(h:dK P w0 Pr M0 β st a w d D l)(e:s2.run P w=l.run P w):dK P w0 Pr M0 β st a w d D s2:=
 ⟨λα k q p=>by rw[e];exact h.sim α k q p⟩
theorem iC.of{sem:Sem Next}(h:dK P w0 Pr M0 β st a w o.dst D sem)(e:execOp a.eval o=sem):iC P w0 Pr M0 β st a w o D:=
 dK.op (by rw[e];exact h)
theorem al9(r:Rel w0 Pr M0 M β st a w){d:Nat}{sa:Bool}{ks:List Kd} :
    dK P w0 Pr M0 β st a w (some d) (.ret {val:=.slice d ks.length 0 0,uz:=[(d,.arr sa ks [])],new:=[d]}) (pure (.value (.slice none 0 0))):=by
  refine dK.ret (nv:=.value (.slice none 0 0)) (c:=.slice none 0 0) (w':=w) (M':=M) (β':=λx=>if x=d then none else β x) (by simp) (.inl rfl) (λ_=>?_) (λz=>zV (ss:=[]) z);have l:Rel w0 Pr M0 M β (st.strike (present st.heap [d]++[])) a w:=r.strike _ (λb h=>h) λb h=>.inl h;have q:look (st.strike (present st.heap [d]++[])).heap d=none:=AZ (by simp);rw[X8];generalize st.strike (present st.heap [d]++[])=st1 at l q;have u:=l.lay (s:=d) (blk:=.arr sa ks []) q (p:=none) (λb o h=>by cases h) (.lU _ _);refine u.setEnv (some d) ?_;exact .sliceE d 0 sa ks [] none (by simp[eH]) (by simp)
theorem akd(ok:fB P T)(r:Rel w0 Pr M0 M β st a w)(hp:(pI T f).Nr.is=true)
    (hargs:oW w M β (look st.heap) args bF.toList)(W:(execOp a.eval o).run P w=(callFunc f bF).run P w):iC P w0 Pr M0 β st a w o (WA (pI T f).Nr o.dst args):=by
  obtain⟨fi,G,I⟩:∃ fi,dZ T.funcs f=some fi/\pI T f=fi.cfg:=by
   unfold pI at hp ⊢;cases G:dZ T.funcs f with
   | none=>rw[G]at hp;cases hp
   | some fi=>exact⟨fi,rfl,rfl⟩
  rw[I]at hp ⊢;have N:=ok.ait f fi G;cases u:fi.cfg.Nr with
  | carry b =>
   rw[u]at N;unfold WA;split
   all_goals first
    | exact iC.fail
    |(next heq=>cases heq)
    | skip
   next d b' x y c hd hb =>
    cases hb;obtain⟨B,A,z,H⟩:∃ B A z,bF=#[B,A,z]:=by have:=hargs.1;simp only[qLl,List.length_nil,Array.length_toList]at this;exact⟨bF[0],bF[1],bF[2],by grind⟩
    subst H;have U:=(hargs.2 0 _ B rfl rfl).Ef;have S:=(hargs.2 1 _ A rfl rfl).Ef;have O:=(hargs.2 2 _ z rfl rfl).Ef;subst U S O;refine dK.op (dK.chk λJ=>?_);simp only[qBa,qDa]at J;obtain⟨V,h1,h2,X⟩:=J;have q:=N w x.toNat y.toNat c.toNat (by omega);rw[Int.toNat_of_nonneg V,Int.toNat_of_nonneg h1,Int.toNat_of_nonneg h2]at q;refine dK.Y3 (dK.Rx r (aJ.ret (c:=.tuple #[.int .u64 (nS b x.toNat y.toNat c.toNat),.int .u64 (pq b x.toNat y.toNat c.toNat)]) (sem:=pure (.tuple #[.int .u64 (nS b x.toNat y.toNat c.toNat),.int .u64 (pq b x.toNat y.toNat c.toNat)])) ?_ rfl)) ?_
    . refine .vM _ _ rfl λi c l=>?_
      match i,l with
      | 0,l=>cases l;exact .p _ _ (.int _ _)
      | 1,l=>cases l;exact .p _ _ (.int _ _)
      | i+2,l=>simp at l
    simp_all
  | none=>rw[u]at hp;cases hp
theorem Xp(ok:fB P T)(q:jT P T w0.gl C)(r:Rel w0 Pr M0 M β st a w)(l:∀ s b,h' s=some b->look st.heap s=some b) 
    (hargs:oW w M β (look st.heap) args bF.toList)(p:(execOp a.eval o).run P w=(callFunc f bF).run P w):iC P w0 Pr M0 β st a w o (Ec T C h' o.dst f args):=by
  unfold Ec;cases hp:(pI T f).Nr.is with
  | true =>simp only[qCt];exact akd ok r hp hargs p
  | false =>
  simp only[qCf];cases u:(pI T f).vcall with
  | true=>exact al8 ok q r l u hargs p
  | false =>
  simp only[qCf];cases z:(pI T f).take with
  | true=>exact akc ok q r l z hargs p
  | false =>
  simp only[qCf];cases hd:o.dst with
  | none=>simp only[xE];exact iC.fail
  | some d =>
   cases A:dZ T.funcs f with
   | none=>simp only[xE,A];exact iC.fail
   | some fi =>
    rw[<- hd];cases B:fi.cfg.D9 with
    | false=>exact ahL ok q r l hd A B hargs p
    | true=>exact ahM ok q r l hd A B hargs p
theorem uV{b:Builtin}{args:Array Operand}:
    execOp ρ ⟨dst,.call ⟨.builtin b,args,ts⟩,type,pos,after,guard⟩=builtin b ts type (args.map λ| .const _=>true | _=>false) (args.map ρ):=rfl
theorem Xq{l:Operand}{args:Array Operand}{vs:Array Value}(h:ρ l=.func (.func f) #[] vs) :
    (execOp ρ ⟨dst,.call ⟨.value l,args,ts⟩,type,pos,after,guard⟩)=callFunc f (args.map ρ++vs):=by
  simp only[execOp,resolve,h,Deferred.ofValue];simp[invoke]
theorem oW.append{w:World}{M:Nat->Prop}{β:Nat->Option (Nat × Nat)}{h:Nat->Option bZ}:∀{xs ys:List AV} {cs ds:List Value},oW w M β h xs cs->oW w M β h ys ds->oW w M β h (xs++ys) (cs++ds)
 |[],ys,[],ds,_,h2=>h2
 | x::xs,ys,c::cs,ds,h1,h2=>by obtain⟨z,p⟩:=h1.cons;obtain⟨l,q⟩:=p.append h2;refine⟨by simp[l],λi y e r u=>?_⟩;grind
 |[],_,_::_,_,h1,_=>by have:=h1.1;simp at this
 | _::_,_,[],_,h1,_=>by have:=h1.1;simp at this
theorem anX(ok:fB P T)(Y:jT P T w0.gl C)(r:Rel w0 Pr M0 M β st a w)(q:∀ s b,h' s=some b->look st.heap s=some b) :
    iC P w0 Pr M0 β st a w o (iq T C st.env h' o):=by
  have hh:=r.heap;obtain⟨dst,op,type,pos,after,guard⟩:=o;cases op with
  | move x=>exact iC.of (sem:=pure (.value (a.eval x))) (dK.ret (nv:=.value (a.eval x)) (by simp) (.inl rfl) (λ_=>r.setEnv dst (r.dP x)) (λ_ _ _=>rfl) (λ_=>P7)) rfl
  | assign x =>
   have plain:dK P w0 Pr M0 β st a w dst (.ret {val:=Skm.dP st.env x}) (pure (.value (a.eval x))):=
    dK.ret (nv:=.value (a.eval x)) (by simp) (.inl rfl) (λ_=>r.setEnv dst (r.dP x)) (λ_ _ _=>rfl) (λ_=>P7)
   simp only[iq];split
   . exact iC.of (al9 r) rfl
   . exact iC.of plain rfl
  | pick c x y=>refine iC.of ((dK.Rx r (ajT (r.dP c) (r.dP x) (r.dP y))).Y3 (s2:=do pure (.value (if <- asBool (a.eval c)then a.eval x else a.eval y))) ?_) rfl;simp
  | alloc t=>exact iC.of (ahC ok r) rfl
  | box t v=>exact iC.of (al4 r (r.dP v)) rfl
  | build t J=>exact iC.val r (ahy ok (r.Xo J)) rfl
  | buildSlice t len J =>exact iC.of (W9 ok r q (r.Xo J)) rfl
  | load t x=>exact iC.val r (acQ ok q hh (r.dP x)) rfl
  | store t x v=>exact iC.of (ahG ok r q (r.dP x) (r.dP v)) rfl
  | binOp op t x y _=>exact iC.val r (al2 ok x y (r.dP x) (r.dP y)) rfl
  | unOp op _ x=>exact iC.val r (anS (r.dP x)) rfl
  | convert s t x=>exact iC.of (acY ok r q (r.dP x)) rfl
  | makeFunc fn first u=>exact iC.val r (aaR (r.LY first) (r.LY u)) rfl
  | makeSlice t l c=>exact iC.of (X7 ok r (r.dP l) (r.dP c)) rfl
  | slice t x lo V N =>
   simp only[iq];split
   . rename_i n e hu;exact iC.val r (aaN ok q hu (r.dP x) (r.oC lo) (r.oC V) (r.oC N)) rfl
   . split
     . exact iC.fail
     . rename_i U;refine iC.val r (ahz ok (r.dP x) (r.oC lo) (r.oC V) (r.oC N) ?_) rfl;intro h;cases N with
       | none=>simp[Skm.oC]at h
       | some m =>
        cases V with
        | none=>exact absurd rfl (U m rfl)
        | some _=>rfl
  | fieldAddr t x f=>exact iC.val r (X4 ok (r.dP x)) rfl
  | field t x f=>exact iC.val r (ahx ok (r.dP x)) rfl
  | indexAddr t x i=>exact iC.val r (X5 ok (r.dP x) (r.dP i)) rfl
  | index t x i=>exact iC.val r (ahA ok (r.dP x) (r.dP i)) rfl
  | extract x i=>exact iC.val r (acO (r.dP x)) rfl
  | nilCheck x =>
   have z:=r.dP x;refine iC.of (sem:=execOp a.eval ⟨dst,.nilCheck x,type,pos,after,guard⟩) ?_ rfl;simp only[iq];generalize B:Skm.dP st.env x=v at z;have Z:(∃ s i o,v=.ptr s i o)\/(∃ sa ks y o,v=.rE sa ks y o)\/(∃ cs,v=.p (.ref cs))\/(∃ f cs,v=.p (.fn f cs))\/(∃ f cs,v=.fn f cs)->dK P w0 Pr M0 β st a w dst (.ret {val:=v}) (execOp a.eval ⟨dst,.nilCheck x,type,pos,after,guard⟩):=by
    intro h;refine dK.ret (nv:=.value (a.eval x)) (c:=a.eval x) ?_ (.inl rfl) (λ_=>r.setEnv dst z) (λ_ _ _=>rfl) (λ_=>P7);simp only[execOp];generalize a.eval x=c at z;rcases h with⟨s,i,o,rfl⟩ |⟨sa,ks,y,o,rfl⟩ |⟨cs,rfl⟩ |⟨f,cs,rfl⟩ |⟨f,cs,rfl⟩
    . cases z<;>rfl
    . cases z<;>rfl
    . cases z;rename_i B;cases B;rfl
    . cases z;rename_i B;cases B;rfl
    . cases z;rfl
   unfold PW;split
   . grind
   . grind
   . grind
   . grind
   . grind
   . exact dK.fail
  | call c =>
   obtain⟨callee,args,argTypes⟩:=c;simp only[iq];split
   . -- len
     split
     . rename_i x t ts h1 h2;have I:args=#[x]:=by rw[<- Array.toList_inj];exact h1
       have H:argTypes[0]?=some t:=by rw[<- Array.getElem?_toList,h2];rfl
       subst I;exact iC.val r (al3 ok H (ty:=type) (r.dP x)) (by rw[uV];simp[builtin])
     . exact iC.fail
   . exact iC.val r (WX (g:=Builtin.min2) (r.LY args) (λj x y=>by simp[Builtin.min2,sV])) uV
   . exact iC.val r (WX (g:=Builtin.max2) (r.LY args) (λj x y=>by simp[Builtin.max2,sW])) uV
   . -- append
     split
     . rename_i x y t X h1 h2;have I:args=#[x,y]:=by rw[<- Array.toList_inj];exact h1
       have H:argTypes=#[t,X]:=by rw[<- Array.toList_inj];exact h2
       subst I H;exact iC.of (aeQ ok r q (ty:=type) (ts:=#[t,X]) rfl rfl (r.dP x) (r.dP y)) (by rw[uV];simp[builtin])
     . exact iC.fail
   . split
     . rename_i x y t ts h1 h2;have I:args=#[x,y]:=by rw[<- Array.toList_inj];exact h1
       have H:argTypes[0]?=some t:=by rw[<- Array.getElem?_toList,h2];rfl
       subst I;exact iC.of (aj3 ok r q H (ty:=type) (r.dP x) (r.dP y)) (by rw[uV];simp[builtin])
     . exact iC.fail
   . split
     . rename_i x t ts h1 h2;have I:args=#[x]:=by rw[<- Array.toList_inj];exact h1
       have H:argTypes[0]?=some t:=by rw[<- Array.getElem?_toList,h2];rfl
       subst I;exact iC.of (ahH ok r q H (ty:=type) (r.dP x)) (by rw[uV];simp[builtin])
     . exact iC.fail
   . rename_i G;have A:=r.dP G;split
     . rename_i f u B;rw[B]at A;have:∃ vs:Array Value,a.eval G=.func (.func f) #[] vs/\oW w M β (look st.heap) (u.map .p) vs.toList:=by
        generalize a.eval G=c at A;cases A with
        | p _ _ B =>
         cases B with
         | fn _ _ vs S W =>refine⟨vs,rfl,by simp[S],λi x c z O=>?_⟩;simp only[List.getElem?_map,Option.map_eq_some_iff]at z;obtain⟨y,z,rfl⟩:=z;have:=W i y z;rw[Array.getElem?_toList]at O;rw[qAb,O]at this;exact .p _ _ this
       obtain⟨vs,h1,h2⟩:=this;refine Xp (o:=⟨dst,.call ⟨.value G,args,argTypes⟩,type,pos,after,guard⟩) ok Y r q (bF:=args.map a.eval++vs) ?_ (by rw[Xq h1]);rw[Array.toList_append];exact(r.LY args).append h2
     . rename_i f u B;rw[B]at A;have:∃ vs:Array Value,a.eval G=.func (.func f) #[] vs/\oW w M β (look st.heap) u vs.toList:=by
        generalize a.eval G=c at A;cases A with
        | fn _ _ vs S W =>refine⟨vs,rfl,by simp[S],λi x c z O=>?_⟩;have:=W i x z;simp_all
       obtain⟨vs,h1,h2⟩:=this;refine Xp (o:=⟨dst,.call ⟨.value G,args,argTypes⟩,type,pos,after,guard⟩) ok Y r q (bF:=args.map a.eval++vs) ?_ (by rw[Xq h1]);rw[Array.toList_append];exact(r.LY args).append h2
     . exact iC.fail
   . exact iC.fail
  | _=>exact iC.fail
end
end
section
variable {env:List AV}{g j n s t:Nat}{α:Type}{draw:Bool}{hd:List (List Nat)}{all rest:List Oper}{o:Oper}{st:St}{M M':Nat->Prop}{β β':Nat->Option (Nat × Nat)}{hp hp':Heap}{w':World}{L:List (Nat × Obj)}{ds:List Nat}{h:Nat->Option bZ}{ops:Array Oper}{C:aH}{rd:Option Nat}{K:Act->World->Prop}{Q:Exit->Act->World->Prop}
section
variable {α:Type}
theorem A8(m:Nat)(k:Nat->Option α):vT m k=k m:=by cases m<;>rfl
theorem ac6(n:Int)(k:Int->Option α):WB n k=k n:=by cases n<;>simp[WB,A8]
mutual
theorem Oh(b:Bool):∀(v:PV) (k:PV->Option α),qV b v k=k v
 | .bool c,k=>by cases b<;>cases c<;>simp[qV]
 | .int j n,k=>by cases b<;>simp[qV,ac6]
 | .str s,k=>by simp[qV]
 | .agg cs,k=>by simp[qV,o8 b cs]
 | .list a ks xs,k=>by cases b<;>simp[qV,o8 _ xs]
 | .full a ks xs,k=>by cases b<;>simp[qV,o8 _ xs]
 | .nil,k=>by simp[qV]
 | .fn f cs,k=>by cases b<;>simp[qV,o8 _ cs]
 | .ref cs,k=>by simp[qV,o8 b cs]
 | .aau,k=>by simp[qV]
 | .sF,k=>by simp[qV]
theorem o8(b:Bool):∀(v:List PV) (k:List PV->Option α),rJ b v k=k v
 |[],k=>by simp[rJ]
 | v::r,k=>by simp[rJ,Oh b v,o8 b r]
end
mutual
theorem Xr(b:Bool):∀(v:AV) (k:AV->Option α),sJ b v k=k v
 | .undef,k=>by simp[sJ]
 | .p v,k=>by cases b<;>simp[sJ,Oh]
 | .slice s z o l,k=>by cases b<;>simp[sJ,A8]
 | .bslice s o l,k=>by cases b<;>simp[sJ,A8]
 | .ptr s i o,k=>by cases b<;>simp[sJ,A8]
 | .rE a ks x o,k=>by cases b<;>simp[sJ,A8,Oh]
 | .fn f cs,k=>by simp[sJ,iP b cs]
 | .agg cs,k=>by simp[sJ,iP b cs]
 | .vM cs,k=>by simp[sJ,iP b cs]
 | .fresh a ks xs,k=>by cases b<;>simp[sJ,o8]
 | .yL,k=>by simp[sJ]
theorem iP(b:Bool):∀(v:List AV) (k:List AV->Option α),qE b v k=k v
 |[],k=>by simp[qE]
 | v::r,k=>by simp[qE,Xr b v,iP b r]
end
theorem ac7:∀(v:List AV) (k:List AV->Option α),spine v k=k v
 |[],k=>rfl
 | v::r,k=>by simp[spine,ac7 r]
theorem Td(b:Bool):∀(v:bZ) (k:bZ->Option α),G6 b v k=k v
 | .box cs,k=>by simp[G6,iP]
 | .arr a ks xs,k=>by cases b<;>simp[G6,o8]
 | .log on xs,k=>by cases b<;>simp[G6,o8]
theorem kS(b:Bool):∀(v:List bZ) (k:List bZ->Option α),zx b v k=k v
 |[],k=>rfl
 | v::r,k=>by simp[zx,Td,kS b r]
theorem Tf(b:Bool):∀(v:List (Nat × bZ)) (k:List (Nat × bZ)->Option α),PZ b v k=k v
 |[],k=>rfl
 |(s,x)::r,k=>by simp[PZ,Td,Tf b r]
theorem Y4:∀(v:Heap) (k:Heap->Option α),aaD v k=k v
 |[],k=>rfl
 |(s,x)::r,k=>by simp[aaD,Y4 r]
theorem dS(st:St)(k:St->Option α):jZ st k=k st:=by simp[jZ,ac7,Y4]
theorem ac8(b:Bool)(st:St)(d:Option Nat)(e:Eff)(k:St->Option α):P5 b st d e k=k (st.apply d e):=by simp[P5,Xr,Tf,dS]
theorem DT.run_bind:∀(D:DT) (k:Eff->Option α),D.run k=(D.run some).bind k
 | .fail,k=>rfl
 | .ret e,k=>rfl
 | .ite c x y,k=>by cases c<;>simp[DT.run,DT.run_bind x k,DT.run_bind y k]
 | .call o f,k=>by
  cases o with
  | none=>rfl
  | some r=>simp only[DT.run];exact DT.run_bind (f r) k
end
section
variable (T:Tab) (C:aH)
def Jd(all:List Oper)(o:Oper)(env:List AV)(h:Nat->Option bZ):Option (Option Eff):=
 match o.guard with
 | none=>((iq T C env h o).run some).map some
 | some (g,want) =>
  match BX all g with
  | none=>none
  | some t =>
   match env.getD t .undef with
   | .p (.bool b)=>if b=want then((iq T C env h o).run some).map some else some none
   | .vM []=>some none
   | _=>none
def step1(draw:Bool)(hd:List Nat)(all:List Oper)(o:Oper)(st:St):Option St:=
 match Jd T C all o st.env (oh hd (look st.heap))with
 | none=>none
 | some none=>some {st with env:=setEnv st.env o.dst (.vM [])}
 | some (some e)=>if(kC (e.new++e.Ip)&&iK draw (eF T all o) (jA all o) st.heap e)=true then some (st.apply o.dst e)else none
theorem set_self{v:AV}(h:env.getD t .undef=v)(l:v≠.undef):env.set t v=env:=by apply List.ext_getElem?;grind
def guardOf(all:List Oper)(o:Oper)(env:List AV):Option Bool:=
 match o.guard with
 | none=>some true
 | some (g,want) =>
  match BX all g with
  | none=>none
  | some t =>
   match env.getD t .undef with
   | .p (.bool b)=>some (b==want)
   | .vM []=>some false
   | _=>none
theorem Xt(all:List Oper)(o:Oper)(env:List AV)(h:Nat->Option bZ):Jd T C all o env h=(match guardOf all o env with
    | none=>none
    | some false=>some none
    | some true=>((iq T C env h o).run some).map some):=by
  unfold Jd guardOf;cases o.guard with
  | none=>rfl
  | some l=>grind
theorem Y5{k:St->Option α} :
    iY T C draw hd all (o::rest) j st k=(match guardOf all o st.env with
     | none=>none
     | some false=>iY T C draw hd all rest (j+1) {st with env:=setEnv st.env o.dst (.vM [])} k
     | some true=>match wG draw st o with
      | some (xs,vs)=>fork (iY T C draw hd all rest (j+1) (mP st o.dst xs vs false) k) (iY T C draw hd all rest (j+1) (mP st o.dst xs vs true) k)
      | none=>((iq T C st.env (oh (hd.getD j []) (look st.heap)) o).run some).bind λe =>
       if(kC (e.new++e.Ip)&&iK draw (eF T all o) (jA all o) st.heap e)=true then iY T C draw hd all rest (j+1) (st.apply o.dst e) k else none):=by
  have z:∀ st:St,(match wG draw st o with
        | some (xs,vs)=>fork (jZ (mP st o.dst xs vs false) λst=>iY T C draw hd all rest (j+1) st k) (jZ (mP st o.dst xs vs true) λst=>iY T C draw hd all rest (j+1) st k)
        | none=>(iq T C st.env (oh (hd.getD j []) (look st.heap)) o).run λe =>
        bif kC (e.new++e.Ip)&&iK draw (eF T all o) (jA all o) st.heap e then P5 T.strict st o.dst e λst=>iY T C draw hd all rest (j+1) st k else none) =
      (match wG draw st o with
        | some (xs,vs)=>fork (iY T C draw hd all rest (j+1) (mP st o.dst xs vs false) k) (iY T C draw hd all rest (j+1) (mP st o.dst xs vs true) k)
        | none=>((iq T C st.env (oh (hd.getD j []) (look st.heap)) o).run some).bind λe =>
         if(kC (e.new++e.Ip)&&iK draw (eF T all o) (jA all o) st.heap e)=true then iY T C draw hd all rest (j+1) (st.apply o.dst e) k else none):=by
    intro st;cases wG draw st o with
    | some p=>obtain⟨xs,vs⟩:=p;simp only[dS]
    | none =>simp only;rw[DT.run_bind];congr 1;funext e;simp only[ac8];cases kC (e.new++e.Ip)&&iK draw (eF T all o) (jA all o) st.heap e<;>simp
  rw[iY];unfold guardOf;cases H:o.guard with
  | none=>exact z st
  | some G =>
   obtain⟨g,l⟩:=G;simp only;cases B:BX all g with
   | none=>rfl
   | some t =>
    simp only;by_cases r:∃ b,st.env.getD t .undef=.p (.bool b)
    . obtain⟨b,q⟩:=r;have A:=set_self q (by simp);rw[q];cases b
      . simp only[qCf];rw[A];cases l
        . simp only[qCf];exact z st
        . simp only[qCt,dS];rfl
      . simp only[qCt];rw[A];cases l
        . simp only[qCf,dS];rfl
        . simp only[qCt];exact z st
    . by_cases u:st.env.getD t .undef=.vM []
      . rw[u];simp only[dS]
      . split
        . rename_i b q;exact absurd ⟨b,q⟩ r
        . rename_i q;exact absurd q u
        . have:(match st.env.getD t .undef with
            | .p (.bool b)=>some (b==l)
            | .vM []=>some false
            | _=>none:Option Bool)=none:=by
            split
            . rename_i b q;exact absurd ⟨b,q⟩ r
            . rename_i q;exact absurd q u
            . rfl
          rw[this]
theorem xK{k:St->Option α}(l:wG draw st o=none) :
    iY T C draw hd all (o::rest) j st k=(step1 T C draw (hd.getD j []) all o st).bind λst'=>iY T C draw hd all rest (j+1) st' k:=by
  rw[Y5,l];unfold step1;rw[Xt];cases guardOf all o st.env with
  | none=>rfl
  | some b =>
   cases b with
   | false=>rfl
   | true =>
    simp only;cases (iq T C st.env (oh (hd.getD j []) (look st.heap)) o).run some with
    | none=>rfl
    | some e =>simp only[qOb,Option.map_some];cases kC (e.new++e.Ip)&&iK draw (eF T all o) (jA all o) st.heap e<;>simp
theorem yJ{k:St->Option α}{xs vs:List PV}(l:wG draw st o=some (xs,vs)) :
    iY T C draw hd all (o::rest) j st k=(match guardOf all o st.env with
     | none=>none
     | some false=>iY T C draw hd all rest (j+1) {st with env:=setEnv st.env o.dst (.vM [])} k
     | some true=>fork (iY T C draw hd all rest (j+1) (mP st o.dst xs vs false) k) (iY T C draw hd all rest (j+1) (mP st o.dst xs vs true) k)):=by
  rw[Y5,l]
theorem RG{p l:Option α}{x:α}(h:fork p l=some x):∃ r,p=some r/\l=some x:=by
 cases p with
 | none=>cases h
 | some r=>exact⟨r,rfl,h⟩
theorem afR{p l:Option α}{x r:α}(h1:p=some r)(q:l=some x):fork p l=some x:=by subst h1 q;rfl
end
structure Cx where
 w0:Base
 Pr:Nat->Prop
 M0:Nat->Prop
 XR:Nat->Option (Nat × Nat)
 hp0:Heap
 Wr:Nat->Prop
 t0:Array Value
 rd:Option Nat
 L0:List (Nat × Obj)
 nm:Nat
 Ys:Nat->Prop:=λ_=>False
 yv:Value:=undef
def oQ(β:Nat->Option (Nat × Nat))(hp:Heap)(b:Nat):Prop:=∃ s o,(look hp s).isSome=true/\β s=some (b,o)
def Fj(D:Nat):Deferred:={target:=.collected D,args:=#[]}
def BO(hp:Heap):Prop:=∀ xs,look hp ah≠some (.log true xs)
structure Fix (cx:Cx) (M:Nat->Prop) (β:Nat->Option (Nat × Nat)) (hp:Heap) (a:Act) (w:World) (L:List (Nat × Obj)) (ds:List Nat):Prop where
 lies:∀ p∈L,w.heap[p.1]?=some p.2/\¬ oQ β hp p.1/\¬ M p.1
 sub:∀ p∈cx.L0,p∈L
 marks:a.defers=ds.map Fj
 nodup:ds.Nodup
 mark:∀ D∈ds,(D,Obj.deferred (some []))∈L/\cx.nm<=D/\((D,Obj.deferred (some []))∈cx.L0\/cx.w0.heap.size<=D)
 rd:∀ l,cx.rd=some l->∃ r,(l,Obj.loop r)∈L
 size:a.tmps.size=cx.t0.size
 tmps:∀ t,¬ cx.Wr t->a.tmps.getD t undef=cx.t0.getD t undef
 one:¬ BO cx.hp0->ds=[]
 yl:∀ t,cx.Ys t->a.tmps.getD t undef=cx.yv\/a.tmps.getD t undef=undef
 nml:cx.nm<=cx.w0.heap.size
def EW(cx:Cx)(o:Oper):Prop:=(∀ t,o.dst=some t->cx.Wr t)/\∀ t,o.dst=some t->cx.Ys t->∃ s,cx.Ys s/\(o.op=.move (.tmp s)\/o.op=.assign (.tmp s))
def Inv(cx:Cx)(st:St)(a:Act)(w:World):Prop:=
 ∃ M β L ds,Rel cx.w0 cx.Pr cx.M0 M β st a w/\(∀ s,ah<=s->β s=cx.XR s)/\nZ cx.hp0 st.heap/\mF cx.w0.gl cx.w0.drawn w.drawn/\Fix cx M β st.heap a w L ds
section
variable {w0:Base} {Pr M0 M M':Nat->Prop} {β β':Nat->Option (Nat × Nat)} {st st':St} {a a':Act} {w w':World}
theorem Rel.ake(r:Rel w0 Pr M0 M β st a w):Rel ⟨w,w0.n0,Nat.le_trans w0.le' r.size,w0.gl⟩ (oQ β st.heap) M M β st a w:=
 ⟨r.qK,r.env,r.heap,λs b o l p=>⟨(r.own s b o l p).1,(r.own s b o l p).2.1,.inr ⟨s,o,l,p⟩,(r.own s b o l p).2.2.2⟩,r.inj,r.iU,λ_ h=>.inl h,λ_ h=>h,λ_ _ _=>rfl,λ_ _ _ _ h=>h,qNr _,rfl,rfl,rfl,r.glob⟩
theorem Rel.aeW(r:Rel w0 Pr M0 M β st a w){le:w0.n0<=w.heap.size}(l:Rel ⟨w,w0.n0,le,w0.gl⟩ (oQ β st.heap) M M' β' st' a' w'):Rel w0 Pr M0 M' β' st' a' w':=by
 have A:∀ b,oQ β st.heap b->w0.heap.size<=b\/Pr b:=λb ⟨s,o,u,p⟩=>(r.own s b o u p).2.2.1;have G:∀ b,b<w.heap.size->¬ oQ β st.heap b->w'.heap[b]?=w.heap[b]?:=l.keep;have q:w.heap.size<=w'.heap.size:=l.size;refine⟨l.qK,l.env,l.heap,λs b o u p=>?_,l.inj,l.iU,λb h=>?_,λb h=>l.vW b (r.vW b h),λb h1 h2=>?_,λb n h1 h2 H=>?_,Nat.le_trans r.size q,l.os.trans r.os,l.tape.trans r.tape,l.output.trans r.output,l.glob⟩
 . obtain⟨O,N,J,I⟩:=l.own s b o u p;refine⟨O,N,?_,I⟩;rcases J with h | h
   . have h:w.heap.size<=b:=h;have:=r.size;left;omega
   grind
 . rcases l.oD b h with h |⟨h,h'⟩
   . exact r.oD b h
   . refine .inr ⟨h,?_⟩;rcases h' with h' | h'
     . have h':w.heap.size<=b:=h';have:=r.size;left;omega
     grind
 . have p:b<w.heap.size:=by have:=r.size;omega
   rw[G b p λh=>?_,r.keep b h1 h2];grind
 . have p:b<w.heap.size:=by have:=r.size;omega
   have z:=r.room b n h1 h2 H;by_cases B:oQ β st.heap b
   . exact l.room b n h1 B z
   . exact z.of_block (G b p B)
end
theorem put_defers(a:Act)(d:Option Nat)(c:Value):(a.put d c).defers=a.defers:=by cases d<;>rfl
theorem qp(a:Act)(d:Option Nat)(c:Value):(a.put d c).tmps.size=a.tmps.size:=by cases d<;>simp[Act.put]
theorem aaV{a:Act}{d:Option Nat}{c:Value}(h:d≠some t):(a.put d c).tmps.getD t undef=a.tmps.getD t undef:=by
 cases d with
 | none=>rfl
 | some d=>simp_all[Act.put,qAb]
section
variable {P:Program} {T:Tab} {cx:Cx} {st st':St} {a:Act} {w:World} {o:Oper}
theorem Fix.put{M:Nat->Prop}{β:Nat->Option (Nat × Nat)}{hp:Heap}{L:List (Nat × Obj)}{ds:List Nat}(f:Fix cx M β hp a w L ds){d:Option Nat}(hd:∀ t,d=some t->cx.Wr t)(c:Value)(q:∀ t,d=some t->cx.Ys t->c=cx.yv\/c=undef):Fix cx M β hp (a.put d c) w L ds:=
 ⟨f.lies,f.sub,by rw[put_defers];exact f.marks,f.nodup,f.mark,f.rd,by rw[qp];exact f.size,λt l=>by rw[aaV λe=>l (hd t e)];exact f.tmps t l,f.one,λt l=>by
   by_cases e:d=some t
   . subst e;by_cases p:t<a.tmps.size
     . have:(a.put (some t) c).tmps.getD t undef=c:=by simp[Act.put,p]
       grind
     grind[Act.put]
   . rw[aaV e];exact f.yl t l,f.nml⟩
theorem Fix.move(f:Fix cx M β hp a w L ds)(h:∀ p∈L,w'.heap[p.1]?=w.heap[p.1]?/\¬ oQ β' hp' p.1/\¬ M' p.1):Fix cx M' β' hp' a w' L ds:=
 ⟨λp hp=>⟨(h p hp).1.trans (f.lies p hp).1,(h p hp).2⟩,f.sub,f.marks,f.nodup,f.mark,f.rd,f.size,f.tmps,f.one,f.yl,f.nml⟩
theorem Fix.less(f:Fix cx M β hp a w L ds)(h:∀ p∈L,w'.heap[p.1]?=w.heap[p.1]?)(l:∀ b,oQ β' hp' b->oQ β hp b):Fix cx M β' hp' a w' L ds:=
 f.move λp hp=>⟨h p hp,λh'=>(f.lies p hp).2.1 (l _ h'),(f.lies p hp).2.2⟩
theorem Fix.step{w0:Base}{Pr M0:Nat->Prop}{a':Act}(f:Fix cx M β st.heap a w L ds)(_r:Rel w0 Pr M0 M β st a w){le:w0.n0<=w.heap.size}
    (l:Rel ⟨w,w0.n0,le,w0.gl⟩ (oQ β st.heap) M M' β' st' a' w'):Fix cx M' β' st'.heap a w' L ds:=by
  refine f.move λp hp=>?_;obtain⟨h1,h2,A⟩:=f.lies p hp;have q:p.1<w.heap.size:=(qAa.1 h1).1;refine⟨l.keep p.1 q h2,λ⟨s,o,r,z⟩=>?_,λu=>?_⟩
  . rcases(l.own s p.1 o r z).2.2.1 with h | h;all_goals grind
  . rcases l.oD p.1 u with h |⟨_,h | h⟩;all_goals grind
theorem akf{U:List Nat}{b:bZ}(l:oh U h s=some b):h s=some b:=by unfold oh at l;split at l;all_goals grind
theorem Xu(q:ops.toList=all)(hd:BX all g=some t)(i:Inv cx st a w){b:Bool}(u:st.env.getD t .undef=.p (.bool b)):yielded ops a.tmps g=some b:=by
 obtain⟨M,β,L,ds,r,_⟩:=i;subst q;have h1:=r.slot t;rw[u]at h1;have h2:=h1.IC;unfold yielded;unfold BX at hd;rw[Array.getElem?_toList]at hd;rw[hd];have l:t<a.tmps.size:=by
  have:t<st.env.length:=by grind
  have:=r.qK;omega
 simp_all
theorem Qb(p:ops.toList=all)(hd:BX all g=some t)(i:Inv cx st a w)(q:st.env.getD t .undef=.vM []):yielded ops a.tmps g=none:=by
 obtain⟨M,β,L,ds,r,_⟩:=i;subst p;have h1:=r.slot t;rw[q]at h1;unfold yielded;unfold BX at hd;rw[Array.getElem?_toList]at hd;rw[hd];simp only[qOb];cases l:a.tmps[t]? with
 | none=>rfl
 | some c =>
  rw[qAb,l]at h1;simp only[Option.getD_some]at h1;cases h1 with
  | vM _ vs u _=>rfl
theorem aaW{e:Eff}(h1:(iq T C env h o).run some=some e):∀ c,o.op≠.defer c:=by grind[iq,DT.run]
theorem ahO(l:o.op=.move (.tmp s)\/o.op=.assign (.tmp s)):o.wpIn (FW rd) n P a w K Q↔K (a.put o.dst (a.tmps.getD s undef)) w:=by
 have p:∀ c,o.op≠.defer c:=λc r=>by rcases l with h | h<;>rw[h]at r<;>cases r
 have q:(execOp a.eval o).run P w=.ok (.value (a.tmps.getD s undef)) w:=by obtain⟨dst,op,type,pos,after,guard⟩:=o;rcases l with h | h<;>(simp only at h;subst h;simp[execOp,Act.eval])
 constructor
 . intro h;have h2:=h.2;rw[Oper.semAt_plain (FW rd) a.eval o p,q]at h2;exact h2
 . intro h;refine zC p ?_;rw[q];exact h
theorem ama(ok:fB P T)(hC:jT P T cx.w0.gl C){hd:List Nat}(he:ops.toList=all)(O:EW cx o)(i:Inv cx st a w)
    (h:step1 T C draw hd all o st=some st')(V:∀ a' w',Inv cx st' a' w'->K a' w'):
    if Region.wanted o (yielded ops a.tmps)then o.wpIn (FW rd) n P a w K Q else K (a.put o.dst undef) w:=by
  have key:∀ e,((iq T C st.env (oh hd (look st.heap)) o).run some)=some e->kC (e.new++e.Ip)=true->st'=st.apply o.dst e->o.wpIn (FW rd) n P a w K Q:=by
   intro e h1 h2 l;obtain⟨M,β,L,ds,r,N,J,I,H⟩:=i;have u:=(anX (w0:=⟨w,cx.w0.n0,Nat.le_trans cx.w0.le' r.size,cx.w0.gl⟩) (o:=o) ok hC r.ake (h':=oh hd (look st.heap)) λs b=>akf).sim (aaW h1) Eff some e h1 rd n Q;by_cases q:∃ t,o.dst=some t/\cx.Ys t
   . obtain⟨t,ht,S⟩:=q;obtain⟨s,q,U⟩:=O.2 t ht S;rw[ahO U]at u ⊢;obtain⟨_,e',M',β',h5,B,W⟩:=u;cases h5;obtain⟨G,Y,X⟩:=W h2;exact V _ w ⟨M',β',L,ds,by rw[l];exact r.aeW G,λs u=>(Y s u).trans (N s u),by rw[l];exact J.trans X,I.trans B,by rw[l];exact(H.step r G).put O.1 _ λ_ _ _=>H.yl s q⟩
   . refine Oper.wpIn_mono (λa' w' h4=>?_) u;obtain⟨⟨c,rfl⟩,e',M',β',h5,B,W⟩:=h4;cases h5;obtain⟨G,Y,X⟩:=W h2;exact V _ w' ⟨M',β',L,ds,by rw[l];exact r.aeW G,λs u=>(Y s u).trans (N s u),by rw[l];exact J.trans X,I.trans B,by rw[l];exact(H.step r G).put O.1 c λt h1 h2=>absurd ⟨t,h1,h2⟩ q⟩
  have skip:st'={st with env:=setEnv st.env o.dst (.vM [])}->K (a.put o.dst undef) w:=by intro l;obtain⟨M,β,L,ds,r,N,J,I,H⟩:=i;exact V _ _ ⟨M,β,L,ds,by rw[l];exact r.setEnv o.dst (.vM [] #[] rfl λi c h=>by simp at h),N,by rw[l];exact J,I,by rw[l];exact H.put O.1 _ λ_ _ _=>.inr rfl⟩
  have go:∀ x:Option Eff,x=((iq T C st.env (oh hd (look st.heap)) o).run some)->(match x.map some with
        | none=>none
        | some none=>some {st with env:=setEnv st.env o.dst (.vM [])}
        | some (some e)=>if(kC (e.new++e.Ip)&&iK draw (eF T all o) (jA all o) st.heap e)=true then some (st.apply o.dst e)else none:Option St)=some st'->o.wpIn (FW rd) n P a w K Q:=by
    intro x hx h;cases x with
    | none=>simp at h
    | some e=>grind
  unfold step1 Jd at h;cases hg:o.guard with
  | none=>simp_all[Region.wanted,if_true]
  | some gw =>
   obtain⟨g,Z⟩:=gw;rw[hg]at h;simp only at h;cases z:BX all g with
   | none=>rw[z]at h;simp at h
   | some t =>
    rw[z]at h;simp only at h;cases A:st.env.getD t .undef with
    | p v =>
     cases v with
     | bool b =>rw[A]at h;simp only at h;have hy:=Xu he z i A;grind[Region.wanted]
     | _=>rw[A]at h;simp at h
    | vM cs =>
     cases cs with
     | cons x r=>rw[A]at h;simp at h
     | nil =>rw[A]at h;simp only at h;have hy:=Qb he z i A;grind[Region.wanted]
    | _=>rw[A]at h;simp at h
theorem aeX(h:BO hp)(l:nZ hp hp'):BO hp':=by
 intro xs p;obtain⟨blk,h1,h2⟩:=l ah (qNr _) _ p;cases blk with
 | box=>exact h2.elim
 | arr=>exact h2.elim
 | log on ys=>exact h ys (by rw[h1];cases (show on=true from h2);rfl)
theorem BO.yield(h:BO st.heap)(draw:Bool):wG draw st o=none:=by
 cases draw with
 | true=>rfl
 | false =>
  show yieldOf st o=none;unfold yieldOf;split
  . split
    . split
      . split
        . rename_i h1 _;exact absurd h1 (h _)
        . rfl
      . rfl
    . rfl
  . rfl
theorem Inv.abH(i:Inv cx st a w)(h:BO cx.hp0):BO st.heap:=by obtain⟨M,β,L,ds,r,q,l,p,u⟩:=i;exact aeX h l
theorem Xv(ok:fB P T){C:aH}(z:jT P T cx.w0.gl C){α:Type}{draw:Bool}{hd:List (List Nat)}{ops:Array Oper}(r:BO cx.hp0){rd:Option Nat}{n:Nat}{Q:Exit->Act->World->Prop}{k:St->Option α}{x:α}(u:∀ st' a' w',k st'=some x->Inv cx st' a' w'->Q .normal a' w') :
    ∀(l:List Oper) (j:Nat) (st:St) (a:Act) (w:World),(∀ o∈l,EW cx o)->iY T C draw hd ops.toList l j st k=some x->Inv cx st a w->wpListIn (FW rd) n P ops Q l a w
  |[],j,st,a,w,_,h,i=>u st a w h i
  | o::rest,j,st,a,w,p,h,i=>by
   rw[xK _ _ ((i.abH r).yield draw)]at h;cases h1:step1 T C draw (hd.getD j []) ops.toList o st with
   | none=>rw[h1]at h;cases h
   | some q =>
    rw[h1]at h;have:=ama ok z rfl (p o (by simp)) i h1 (rd:=rd) (n:=n) (K:=wpListIn (FW rd) n P ops Q rest) (λa' w' A=>Xv ok z r u rest (j+1) q a' w' (λo B=>p o (by simp[B])) h A) (Q:=Q);unfold wpListIn;split
    . grind
    . rename_i p;rw[if_neg p]at this;exact⟨λ_ _=>trivial,this⟩
end
end
section
variable {env env':List AV}{x y:AV}{h h':Nat->Option bZ}{o:Oper}{all:List Oper}{op:BinOp}{t:TypeId}{e:Eff}{kc:Bool}
section
variable {T:Tab} {C:aH}
theorem Df{env env':List AV}:∀{l:List Operand},(∀ x∈l,dP env x=dP env' x)->og env l=og env' l
 |[],_=>rfl
 | x::r,h=>by have:=Df (l:=r) λy p=>h y (List.mem_cons_of_mem _ p);simp_all[og,this]
theorem BH{env env':List AV}:∀{l:List (Nat × Operand)},(∀ x∈l,dP env x.2=dP env' x.2)->lJ env l=lJ env' l
 |[],_=>rfl
 |(i,x)::r,h=>by have:=BH (l:=r) λy p=>h y (List.mem_cons_of_mem _ p);simp_all[lJ,this]
theorem FN{x:Option Operand}(h:∀ y,x=some y->dP env y=dP env' y):oC env x=oC env' x:=by
 cases x with
 | none=>rfl
 | some y=>simp[oC,h y rfl]
theorem aaX(p:∀ x∈o.op.operands,dP env x=dP env' x):iq T C env h o=iq T C env' h o:=by
 obtain⟨dst,op,type,pos,after,guard⟩:=o;cases op with
 | call c =>obtain⟨callee,args,ts⟩:=c;simp only[Op.operands,Call.operands]at p;have G:∀ x∈args.toList,dP env x=dP env' x:=λx q=>p x (by simp[Array.mem_toList_iff.1 q]);have H:=Df G;simp only[iq];split;all_goals grind
 | build t z =>simp only[Op.operands]at p;simp only[iq];rw[BH λx q=>p x.2 (by simp;exact⟨x.1,by simpa using q⟩)]
 | buildSlice t n z =>simp only[Op.operands]at p;simp only[iq];rw[BH λx q=>p x.2 (by simp;exact⟨x.1,by simpa using q⟩)]
 | makeFunc fn first u =>simp only[Op.operands]at p;simp only[iq];rw[Df λx q=>p x (by simp[Array.mem_toList_iff.1 q]),Df (l:=u.toList) λx q=>p x (by simp[Array.mem_toList_iff.1 q])]
 | slice t x lo B A =>simp only[Op.operands]at p;simp only[iq];rw[p x (by simp),FN (x:=lo) λy r=>p y (by simp[r]),FN (x:=B) λy r=>p y (by simp[r]),FN (x:=A) λy r=>p y (by simp[r])]
 | assign x=>grind[Op.operands,iq]
 | _ =>
  simp only[Op.operands]at p;simp only[iq];try simp at p
  try simp only[p]
theorem Oi{t:Nat}:∀{l:List Operand},Operand.tmp t∈l->t∈tmpsOf l
 |[],h=>by simp at h
 | x::r,h=>by
  rcases List.mem_cons.1 h with rfl | h
  . simp[tmpsOf]
  . have:=Oi h;cases x<;>simp[tmpsOf,this]
def FP(T:Tab)(C:aH)(all:List Oper)(o:Oper)(env:List AV)(h:Nat->Option bZ):Option Eff:=(Jd T C all o env h).map λx=>x.getD {val:=.vM []}
theorem aeY(q:∀ t∈yH all o,env.getD t .undef=env'.getD t .undef):Jd T C all o env h=Jd T C all o env' h:=by
 have p:iq T C env h o=iq T C env' h o:=aaX λx l=>by
  cases x with
  | tmp t =>show env.getD t .undef=env'.getD t .undef;exact q t (by unfold yH;exact List.mem_append_left _ (Oi (by simpa using l)))
  | _=>rfl
 unfold Jd;rw[p];grind[yH,BX]
theorem zD(l:∀ t∈yH all o,env.getD t .undef=env'.getD t .undef):FP T C all o env h=FP T C all o env' h:=by unfold FP;rw[aeY l]
theorem ac9(l:eF T all o=.pure):iq T C env h o=iq T C env h' o:=by
 obtain⟨dst,op,type,pos,after,guard⟩:=o;cases op with
 | call c =>
  obtain⟨callee,args,ts⟩:=c;cases callee with
  | builtin b =>cases b<;>first | rfl |(simp only[eF]at l;cases q:aaE args.toList all<;>rw[q]at l<;>simp at l;done) |(simp[eF]at l)
  | value f=>grind[eF]
  | invoke r n=>simp[eF]at l
 | slice t x lo z u=>grind[eF,iq]
 | store t p v=>grind[eF]
 | assign x=>rfl
 | move x=>rfl
 | _=>first | rfl |(simp[eF]at l)
theorem Y6(l:eF T all o=.pure):FP T C all o env h=FP T C all o env h':=by unfold FP Jd;rw[ac9 l (h':=h')]
theorem aaY(l:eF T all o=.const):∃ v,(v=.undef\/∃ x,v=.p x)/\∀ env h,iq T C env h o=.ret {val:=v}:=by
 have val:∀ x,Ed x=true->∃ v,(v=.undef\/∃ y,v=.p y)/\∀ env,dP env x=v:=by
  intro x q;cases x with
  | tmp t=>simp[Ed]at q
  | global g=>simp[Ed]at q
  | func f=>exact⟨.p (.fn f []),.inr ⟨_,rfl⟩,λ_=>rfl⟩
  | const v =>
   cases u:ofValue v with
   | none=>exact⟨.undef,.inl rfl,λenv=>by simp[dP,u]⟩
   | some y=>exact⟨.p y,.inr ⟨_,rfl⟩,λenv=>by simp[dP,u]⟩
 obtain⟨dst,op,type,pos,after,guard⟩:=o;cases op with
 | move x =>
  simp only[eF]at l;cases q:Ed x with
  | false =>rw[q]at l;simp only[qCf,agb]at l;grind
  | true=>simp_all[iq]
 | assign x =>
  simp only[eF]at l;split at l
  . cases l
  . rename_i y A r;cases r;cases q:Ed x with
    | false=>rw[q]at l;simp at l
    | true=>simp_all[iq]
  all_goals grind
 | call c=>grind[eF]
 | slice t x lo B z=>grind[eF]
 | store t p v=>grind[eF]
 | _=>simp[eF]at l
theorem agm{v:AV}(h:v.X3=true):v=.vM []\/∃ x,v=.p x:=by
 cases v with
 | p x=>exact .inr ⟨x,rfl⟩
 | vM l=>cases l with
  | nil=>exact .inl rfl
  | cons a l=>simp[AV.X3]at h
 | _=>simp[AV.X3]at h
theorem aeZ(h:(G5 T op t x y).run some=some e):∃ p q,x=.p p/\y=.p q:=by
 cases x with
 | p p=>cases y with
  | p q=>exact⟨p,q,rfl,rfl⟩
  | _=>cases p<;>simp[G5,DT.run]at h
 | _=>simp[G5,DT.run]at h
theorem Y7{q:PV}(h:(LC T op t kc x (.p q)).run some=some e):∃ p,x=.p p:=by
 cases x with
 | p p=>exact⟨p,rfl⟩
 | _=>cases q<;>simp[LC,DT.run]at h
theorem ahP(h:(PU T op t kc x y).run some=some e):∃ p q,x=.p p/\y=.p q:=by
 unfold PU at h;split at h
 . obtain⟨p,rfl⟩:=Y7 h;exact⟨p,_,rfl,rfl⟩
 . obtain⟨p,rfl⟩:=Y7 h;exact⟨p,_,rfl,rfl⟩
 . exact aeZ h
theorem akg{op:UnOp}(h:(Wq op x).run some=some e):∃ p,x=.p p:=by
 cases x with
 | p p=>exact⟨p,rfl⟩
 | _=>cases op<;>simp[Wq,DT.run]at h
theorem ada(I:eF T all o=.plain)(r:(iq T C env h o).run some=some e)(hp:e.val.X3=true)(env':List AV)(h':Nat->Option bZ)
    (H:∀ t∈tmpsOf o.op.operands.toList,∀ u:AV,u.X3=true->env.getD t .undef=u->env'.getD t .undef=u):(iq T C env' h' o).run some=some e:=by
  have A:∀ x∈o.op.operands,∀ u:AV,u.X3=true->dP env x=u->dP env' x=u:=by
   intro x B u G l;cases x with
   | tmp t=>exact H t (Oi (by simpa using B)) u G l
   | _=>exact l
  obtain⟨dst,op,type,pos,after,guard⟩:=o;cases op with
  | move x=>grind[iq,DT.run,qOa,Op.operands]
  | binOp op t x y z =>simp only[iq]at r ⊢;obtain⟨p,q,h1,h2⟩:=ahP r;rw[A x (by simp[Op.operands]) (.p p) rfl h1,A y (by simp[Op.operands]) (.p q) rfl h2];grind
  | unOp op t x =>simp only[iq]at r ⊢;obtain⟨p,h1⟩:=akg r;rw[A x (by simp[Op.operands]) (.p p) rfl h1];grind
  | call c=>grind[eF]
  | slice t x lo N J=>grind[eF]
  | store t p v=>grind[eF]
  | assign x=>grind[eF]
  | _=>simp[eF]at I
end
end
section
variable {h1 h2:Heap}{s st:St}{t:Nat}{draw:Bool}{o:Oper}{hd ss:List Nat}{all:List Oper}{env:List AV}{d:Option Nat}{v:AV}
def Same(s t:St):Prop:=s.env=t.env/\look s.heap=look t.heap
theorem Same.refl(s:St):Same s s:=⟨rfl,rfl⟩
theorem Same.trans{s t u:St}(h1:Same s t)(h2:Same t u):Same s u:=⟨h1.1.trans h2.1,h1.2.trans h2.2⟩
theorem Same.symm{s t:St}(h:Same s t):Same t s:=⟨h.1.symm,h.2.symm⟩
mutual
theorem Xw:∀(v:AV),AV.refers [] v=false
 | .undef | .p _ | .rE _ _ _ _ | .fresh _ _ _ | .yL=>rfl
 | .slice _ _ _ _ | .bslice _ _ _ | .ptr _ _ _=>rfl
 | .fn _ cs | .agg cs | .vM cs=>by simp only[AV.refers];exact Nc cs
theorem Nc:∀(l:List AV),AV.kY [] l=false
 |[]=>rfl
 | v::r=>by simp[AV.kY,Xw v,Nc r]
end
theorem xM:∀(l:List AV),jQ [] l=l
 |[]=>rfl
 | v::r=>by simp[jQ,AV.kill,Xw,xM r]
def Ti(ss:List Nat)(hp:Heap):Heap:=match ss with |[]=>hp | ss=>jL ss hp
def EX(ss:List Nat)(hp:Heap):Heap:=match ss with |[]=>hp | ss=>sG (jL ss hp) ss
theorem amb(ss:List Nat)(st:St):st.kill ss=⟨jQ ss st.env,Ti ss st.heap⟩:=by
 cases ss with
 | nil=>simp[St.kill,Ti,xM]
 | cons s r=>rfl
theorem ahQ(ss:List Nat)(st:St):st.strike ss=⟨jQ ss st.env,EX ss st.heap⟩:=by
 cases ss with
 | nil=>simp[St.strike,EX,xM]
 | cons s r=>rfl
theorem mY(st:St)(d:Option Nat)(e:Eff):st.apply d e =
    ⟨setEnv (jQ e.cut (jQ (present st.heap e.new++e.Ip) st.env)) d e.val,gZ (Ti e.cut (EX (present st.heap e.new++e.Ip) st.heap)) e.uz⟩:=by
  simp only[St.apply,amb,ahQ]
theorem FQ{h1 h2:Heap}(h:look h1=look h2):∀(l:List Nat),present h1 l=present h2 l
 |[]=>rfl
 | s::r=>by simp only[present,h,FQ h r]
theorem adb(h:look h1=look h2)(ss:List Nat):look (Ti ss h1)=look (Ti ss h2):=by
 cases ss with
 | nil=>exact h
 | cons s r=>funext x;simp only[Ti,jO,h]
theorem X9(h:look h1=look h2)(ss:List Nat):look (EX ss h1)=look (EX ss h2):=by
 cases ss with
 | nil=>exact h
 | cons s r=>funext x;simp only[EX,yI,jO,h]
theorem ahR(h:look h1=look h2)(s:Nat)(b:bZ):look (put h1 s b)=look (put h2 s b):=by funext x;simp only[eH,h]
theorem Qc:∀{c:List (Nat × bZ)} {h1 h2:Heap},look h1=look h2->look (gZ h1 c)=look (gZ h2 c)
 |[],_,_,h=>h
 |(s,b)::r,_,_,h=>Qc (c:=r) (ahR h s b)
theorem ade{t:St}(h:Same s t)(d:Option Nat)(e:Eff):Same (s.apply d e) (t.apply d e):=by rw[mY,mY,FQ h.2,h.1];exact⟨rfl,Qc (adb (X9 h.2 _) _)⟩
section
variable {T:Tab} {C:aH}
theorem Kz{h1 h2:Heap}(h:look h1=look h2):∀ c:List (Nat × bZ),EP h1 c=EP h2 c
 |[]=>rfl
 |(s,.log _ _)::r=>rfl
 |(s,.box _)::r=>by simp only[EP,h,Kz h r]
 |(s,.arr _ _ _)::r=>by simp only[EP,h,Kz h r]
theorem adf{cls:Cls}{o:List Nat}(h:look h1=look h2)(e:Eff):iK draw cls o h1 e=iK draw cls o h2 e:=by unfold iK;rw[FQ h,Kz h]
theorem akh:
    step1 T C draw hd all o st=(FP T C all o st.env (oh hd (look st.heap))).bind λe=>if(kC (e.new++e.Ip)&&iK draw (eF T all o) (jA all o) st.heap e)=true then some (st.apply o.dst e)else none:=by
  unfold step1 FP;cases Jd T C all o st.env (oh hd (look st.heap))with
  | none=>rfl
  | some x =>
   cases x with
   | none =>
    simp only[Option.map_some,Option.getD_none,qOb];have:iK draw (eF T all o) (jA all o) st.heap {val:=.vM []}=true:=by
     cases draw with
     | false=>rfl
     | true=>cases eF T all o<;>rfl
    rw[if_pos (by simp[kC,this]),mY];simp[present,xM,Ti,EX,gZ]
   | some e=>rfl
theorem kT{st':St}:step1 T C draw hd all o st=some st' ↔
    ∃ e,FP T C all o st.env (oh hd (look st.heap))=some e/\kC (e.new++e.Ip)=true/\iK draw (eF T all o) (jA all o) st.heap e=true/\st'=st.apply o.dst e:=by
  rw[akh];cases h:FP T C all o st.env (oh hd (look st.heap))with
  | none=>simp
  | some e=>grind
theorem adg{t s':St}(h:Same s t)(h1:step1 T C draw hd all o s=some s'):∃ l,step1 T C draw hd all o t=some l/\Same s' l:=by
 obtain⟨e,r,q,p,rfl⟩:=kT.1 h1;refine⟨t.apply o.dst e,kT.2 ⟨e,?_,q,?_,rfl⟩,ade h _ _⟩
 . grind[h.1,h.2]
 . rw[<- adf h.2];exact p
def lastOf:List (Nat × bZ)->Nat->Option bZ
 |[],_=>none
 |(s,b)::r,x=>match lastOf r x with
  | some c=>some c
  | none=>if x=s then some b else none
theorem qG:∀(c:List (Nat × bZ)) (hp:Heap) (x:Nat),look (gZ hp c) x=match lastOf c x with | some b=>some b | none=>look hp x
 |[],hp,x=>rfl
 |(s,b)::r,hp,x=>by show look (gZ (put hp s b) r) x=_;rw[qG r];grind[lastOf,eH]
theorem Ba{x:Nat}:∀{c:List (Nat × bZ)},x ∉ keysOf c->lastOf c x=none
 |[],_=>rfl
 |(s,b)::r,h=>by simp only[keysOf,List.mem_cons,not_or]at h;simp[lastOf,Ba h.2,h.1]
theorem adh{c1 c2:List (Nat × bZ)}(h:∀ x,x∈keysOf c1->x ∉ keysOf c2)(hp:Heap):look (gZ (gZ hp c1) c2)=look (gZ (gZ hp c2) c1):=by
 funext x;simp only[qG];by_cases h1:x∈keysOf c1
 . rw[Ba (h x h1)]
 . rw[Ba h1]
theorem Oj{ss:List Nat}:∀{c:List (Nat × bZ)},WE ss c=true->∀ x∈keysOf c,x∈ss
 |[],_,x,h=>by simp[keysOf]at h
 |(k,b)::r,h,x,l=>by
  simp only[WE,qBa]at h;simp only[keysOf,List.mem_cons]at l;rcases l with rfl | l
  . exact oV.1 h.1
  . exact Oj h.2 x l
theorem adi{ss:List Nat}:∀{l:List Nat},alX ss l=true->∀ x∈l,x∈ss
 |[],_,x,h=>by simp at h
 | y::r,h,x,p=>by
  simp only[alX,qBa]at h;rcases List.mem_cons.1 p with rfl | p
  . exact oV.1 h.1
  . exact adi h.2 x p
theorem adk{U:List Nat}{c:List (Nat × bZ)}(h:∀ x∈keysOf c,x∈U)(hp:Heap):oh U (look (gZ hp c))=oh U (look hp):=by
 cases U with
 | nil =>
  cases c with
  | nil=>rfl
  | cons p r=>obtain⟨k,b⟩:=p;exact absurd (h k (by simp[keysOf])) (by simp)
 | cons s r =>
  funext x;simp only[oh];cases q:l7 x (s::r)with
  | true=>rfl
  | false =>simp only[qCf];rw[qG,Ba λl=>iV.1 q (h x l)]
theorem FT{hp:Heap}:∀{l:List Nat},present hp l=[]↔∀ s∈l,look hp s=none
 |[]=>by simp[present]
 | s::r=>by
  simp only[present,List.mem_cons,forall_eq_or_imp];cases h:look hp s with
  | some b=>simp
  | none=>simp[FT]
theorem Bc{p l:Option Nat}{r q:AV}(h:∀ d,p=some d->l≠some d):setEnv (setEnv env p r) l q=setEnv (setEnv env l q) p r:=by
 cases p with
 | none=>rfl
 | some a =>
  cases l with
  | none=>rfl
  | some b=>exact List.set_comm _ _ λe=>h a rfl (by rw[e])
theorem nK(h:d≠some t):(setEnv env d v).getD t .undef=env.getD t .undef:=by
 cases d with
 | none=>rfl
 | some a=>grind[setEnv,qLb]
theorem qL(h:v=.undef\/v=.vM []\/∃ x,v=.p x):jQ ss (setEnv env d v)=setEnv (jQ ss env) d v:=by
 have l:AV.kill ss v=v:=by rcases h with rfl | rfl |⟨x,rfl⟩<;>rfl
 cases d with
 | none=>rfl
 | some a =>apply List.ext_getElem?;grind[setEnv,l9,uo]
theorem Y8{v:PV}:(jQ ss env).getD t .undef=.p v↔env.getD t .undef=.p v:=by
 simp only[qLb,l9];cases env[t]? with
 | none=>simp
 | some u =>
  simp only[Option.map_some,Option.getD_some];unfold AV.kill;cases h:AV.refers ss u with
  | false=>simp
  | true =>simp only[qCt];grind[AV.refers]
theorem Qd:(jQ ss env).getD t .undef=.vM []↔env.getD t .undef=.vM []:=by
 simp only[qLb,l9];cases env[t]? with
 | none=>simp
 | some u =>
  simp only[Option.map_some,Option.getD_some];unfold AV.kill;cases h:AV.refers ss u with
  | false=>simp
  | true =>simp only[qCt];grind[AV.refers,AV.kY]
def IsG(v:AV):Prop:=(∃ b,v=.p (.bool b))\/v=.vM []
theorem LZ(l:IsG v):(jQ ss env).getD t .undef=v↔env.getD t .undef=v:=by
 rcases l with⟨b,rfl⟩ | rfl
 . exact Y8
 . exact Qd
theorem L6(l:v.X3=true):(jQ ss env).getD t .undef=v↔env.getD t .undef=v:=by
 rcases agm l with rfl |⟨x,rfl⟩
 . exact Qd
 . exact Y8
end
end
section
variable {all:List Oper}{o x:Oper}{st:St}{e:Eff}{env:List AV}{h:Heap}{cls:Cls}
section
variable {T:Tab} {C:aH}
theorem Xx{ss:List Nat}:∀{l:List Nat},aaF ss l=true->∀ x∈l,x ∉ ss
 |[],_,x,h=>by simp at h
 | y::r,h,x,p=>by
  simp only[aaF,qBa,qBb]at h;rcases List.mem_cons.1 p with rfl | p
  . exact iV.1 h.1
  . exact Xx h.2 x p
theorem adl{y:Oper}(h:aeG all x y=true) :
    (∀ d,x.dst=some d->d ∉ yH all y)/\(∀ d,x.dst=some d->y.dst≠some d)/\(∀ d,y.dst=some d->d ∉ yH all x):=by
  unfold aeG at h;simp only[qBa]at h;refine⟨λd hd=>?_,λd hd=>?_,λd hd=>?_⟩
  . have:=h.1;rw[hd]at this;simp only[qBa,qBb]at this;exact iV.1 this.1
  . grind
  . have:=h.2;rw[hd]at this;simp only[qBb]at this;exact iV.1 this
theorem jR{d:Option Nat}(h1:e.cut=[])(h2:e.Ip=[])(l:present st.heap e.new=[]):st.apply d e=⟨setEnv st.env d e.val,gZ st.heap e.uz⟩:=by grind[mY,xM,Ti,EX]
theorem Xy(J:eF T all o=.const){h:Nat->Option bZ}(q:FP T C all o env h=some e) :
    (∃ v,e={val:=v}/\(v=.undef\/v=.vM []\/∃ x,v=.p x)) /\
    ∀ env' h',(∀ g l t v,o.guard=some (g,l)->BX all g=some t->IsG v->env.getD t .undef=v->env'.getD t .undef=v)->FP T C all o env' h'=some e:=by
  obtain⟨v,G,H⟩:=aaY (C:=C) J;have B:v=.undef\/v=.vM []\/∃ x,v=.p x:=G.imp id .inr;unfold FP Jd at q ⊢;simp only[H]at q ⊢;cases I:o.guard with
  | none=>grind[DT.run]
  | some N =>
   obtain⟨g,l⟩:=N;rw[I]at q;simp only at q ⊢;cases hd:BX all g with
   | none=>rw[hd]at q;simp at q
   | some t =>
    rw[hd]at q;simp only at q ⊢;by_cases A:∃ b,env.getD t .undef=.p (.bool b)
    . obtain⟨b,z⟩:=A;rw[z]at q;simp only at q;refine⟨?_,λenv' h' r=>?_⟩
      . grind[DT.run]
      . rw[r g l t _ rfl hd (.inl ⟨b,rfl⟩) z];exact q
    . by_cases u:env.getD t .undef=.vM []
      . rw[u]at q;simp only[Option.map_some,Option.getD_none,qOa]at q;subst q;refine⟨⟨.vM [],rfl,.inr (.inl rfl)⟩,λenv' h' r=>?_⟩;rw[r g l t _ rfl hd (.inr rfl) u];rfl
      grind
theorem guard_looks{g t:Nat}{l:Bool}(p:o.guard=some (g,l))(hd:BX all g=some t):t∈yH all o:=by grind[yH,BX]
theorem Y9(X:eF T all o=.plain){h Y:Heap}{N:Nat->Option bZ}{ss:List Nat}(l:FP T C all o env N=some e)(I:iK true .plain ss Y e=true) :
    (∃ v,e={val:=v}/\(v=.undef\/v=.vM []\/∃ x,v=.p x)) /\
    ∀ env' h',(∀ t∈yH all o,∀ u:AV,u.X3=true->env.getD t .undef=u->env'.getD t .undef=u)->FP T C all o env' h'=some e:=by
  have _:=h;simp only[iK,qBa,List.isEmpty_iff]at I;obtain⟨H,G,B,A,z⟩:=I;obtain⟨ev,ec,en,eu,ef⟩:=e;simp only at H G B A z;subst H G B A;refine⟨⟨ev,rfl,.inr (agm z)⟩,λenv' h' J=>?_⟩;have hs:∀{q:Eff},(iq T C env N o).run some=some q->q.val.X3=true->(iq T C env' h' o).run some=some q:=λh1 h2 =>ada X h1 h2 env' h' λt V=>J t (List.mem_append_left _ V);unfold FP Jd at l ⊢;cases O:o.guard with
  | none=>simp_all
  | some Z =>
   obtain⟨g,r⟩:=Z;rw[O]at l;simp only at l ⊢;cases hd:BX all g with
   | none=>rw[hd]at l;simp at l
   | some t =>
    rw[hd]at l;simp only at l ⊢;have W:=guard_looks O hd;by_cases U:∃ b,env.getD t .undef=.p (.bool b)
    . obtain⟨b,S⟩:=U;rw[J t W _ rfl S];rw[S]at l;simp only at l ⊢;split at l;all_goals simp_all
    grind
def Facts(o:List Nat)(e:Eff):Cls->Prop
 | .read=>(∀ x∈keysOf e.uz,x∈o)/\(∀ x∈e.new,x∈o)
 | .own t=>(∀ x∈keysOf e.uz,x∈[t])/\e.new=[]
 | .store=>e.new=[]
 | _=>e.uz=[]/\e.new=[]
def Xz:Cls->Bool
 | .heavy=>false
 | _=>true
theorem Tj{o:List Nat}(l:iK true cls o h e=true)(q:Xz cls=true) :
    e.cut=[]/\e.Ip=[]/\present h e.new=[] /\
    Facts o e cls:=by
  cases cls with
  | heavy=>cases q
  | read =>simp only[iK,qBa,List.isEmpty_iff]at l;exact⟨l.1,l.2.1,l.2.2.2.2,λx p=>Oj l.2.2.1 x p,λx p=>adi l.2.2.2.1 x p⟩
  | own t =>simp only[iK,qBa,List.isEmpty_iff]at l;exact⟨l.1,l.2.1,by rw[l.2.2.2];rfl,λx p=>Oj l.2.2.1 x p,l.2.2.2⟩
  | store =>simp only[iK,qBa,List.isEmpty_iff]at l;exact⟨l.1,l.2.1,by rw[l.2.2];rfl,l.2.2⟩
  | pure =>simp only[iK,qBa,List.isEmpty_iff]at l;exact⟨l.1,l.2.1,by rw[l.2.2.2];rfl,l.2.2.1,l.2.2.2⟩
  | const =>simp only[iK,qBa,List.isEmpty_iff]at l;exact⟨l.1,l.2.1,by rw[l.2.2.2];rfl,l.2.2.1,l.2.2.2⟩
  | plain =>simp only[iK,qBa,List.isEmpty_iff]at l;exact⟨l.1,l.2.1,by rw[l.2.2.2.1];rfl,l.2.2.1,l.2.2.2.1⟩
theorem quiet_move{o:List Nat}{h':Heap}(l:iK true cls o h e=true)(hp:present h' e.new=[]):iK true cls o h' e=true:=by
 cases cls with
 | read=>grind[iK]
 | _=>exact l
theorem swap{hx U:List Nat}{st1 st2:St}(h1:step1 T C true hx all x st=some st1)(h2:step1 T C true U all o st1=some st2)(hcl:Dq T all hx U x o=true)
    (s1:∀ s∈jA all x,s∈U)(s2:∀ s∈jA all o,s∈hx):∃ st1' Z,step1 T C true U all o st=some st1'/\step1 T C true hx all x st1'=some Z/\Same Z st2:=by
  obtain⟨B,x1,x2,x3,rfl⟩:=kT.1 h1;obtain⟨q,N,o2,J,rfl⟩:=kT.1 h2;unfold Dq at hcl;simp only[qBa]at hcl;obtain⟨hap,hno,l⟩:=hcl;obtain⟨a1,a2,a3⟩:=adl hap;have hno:=Xx hno;by_cases hcx:eF T all x=.const
  . -- the first one is constant
    obtain⟨⟨v,rfl,O⟩,hk⟩:=Xy hcx x1;have G:st.apply x.dst {val:=v}=⟨setEnv st.env x.dst v,st.heap⟩:=jR rfl rfl rfl;rw[G]at N J ⊢;have r:FP T C all o st.env (oh U (look st.heap))=some q:=by rw[<- N];exact zD λt A=>(nK λe=>a1 t e A).symm
    refine⟨st.apply o.dst q,_,kT.2 ⟨q,r,o2,J,rfl⟩,kT.2 ⟨{val:=v},hk _ _ λg want t u hg hd S W=>?_,x2,by rw[hcx];rfl,rfl⟩,?_⟩
    . rw[mY];simp only;rw[nK λe=>a3 t e (guard_looks hg hd),LZ S,LZ S];exact W
    . rw[jR rfl rfl rfl,mY,mY];refine⟨?_,rfl⟩;simp only;rw[qL O,qL O];exact Bc λd hd e=>a2 d e hd
  . by_cases V:eF T all o=.const
    . -- the second one is constant
      obtain⟨⟨v,rfl,O⟩,hk⟩:=Xy V N;have r:FP T C all o st.env (oh U (look st.heap))=some {val:=v}:=by refine hk _ _ λg want t u hg hd S W=>?_;rw[mY]at W;simp only at W;rwa[nK λe=>a1 t e (guard_looks hg hd),LZ S,LZ S]at W
      have G:st.apply o.dst {val:=v}=⟨setEnv st.env o.dst v,st.heap⟩:=jR rfl rfl rfl;refine⟨st.apply o.dst {val:=v},st.apply o.dst {val:=v} |>.apply x.dst B,kT.2 ⟨{val:=v},r,o2,by rw[V];rfl,rfl⟩,kT.2 ⟨B,?_,x2,by rw[G];exact x3,rfl⟩,?_⟩
      . rw[G,<- x1];exact zD λt A=>nK λe=>a3 t e A
      . rw[G,jR (st:=st.apply x.dst B) rfl rfl rfl,mY,mY];refine⟨?_,rfl⟩;simp only;rw[qL O,qL O];exact(Bc λd hd e=>a2 d hd e).symm
    . by_cases Y:eF T all x=.plain
      . -- the first one is a calculation
        rw[Y]at x3;obtain⟨⟨v,rfl,O⟩,hk⟩:=Y9 (h:=[]) Y x1 x3;have G:st.apply x.dst {val:=v}=⟨setEnv st.env x.dst v,st.heap⟩:=jR rfl rfl rfl;rw[G]at N J ⊢;have r:FP T C all o st.env (oh U (look st.heap))=some q:=by rw[<- N];exact zD λt A=>(nK λe=>a1 t e A).symm
        refine⟨st.apply o.dst q,_,kT.2 ⟨q,r,o2,J,rfl⟩,kT.2 ⟨{val:=v},hk _ _ λt A u S W=>?_,x2,by rw[Y];exact x3,rfl⟩,?_⟩
        . rw[mY];simp only;rw[nK λe=>a3 t e A,L6 S,L6 S];exact W
        . rw[jR rfl rfl rfl,mY,mY];refine⟨?_,rfl⟩;simp only;rw[qL O,qL O];exact Bc λd hd e=>a2 d e hd
      . by_cases H:eF T all o=.plain
        . -- the second one is a calculation
          rw[H]at J;obtain⟨⟨v,rfl,O⟩,hk⟩:=Y9 (h:=[]) H N J;have r:FP T C all o st.env (oh U (look st.heap))=some {val:=v}:=by refine hk _ _ λt A u S W=>?_;rw[mY]at W;simp only at W;rwa[nK λe=>a1 t e A,L6 S,L6 S]at W
          have G:st.apply o.dst {val:=v}=⟨setEnv st.env o.dst v,st.heap⟩:=jR rfl rfl rfl;refine⟨st.apply o.dst {val:=v},st.apply o.dst {val:=v} |>.apply x.dst B,kT.2 ⟨{val:=v},r,o2,by rw[H];exact J,rfl⟩,kT.2 ⟨B,?_,x2,by rw[G];exact x3,rfl⟩,?_⟩
          . rw[G,<- x1];exact zD λt A=>nK λe=>a3 t e A
          . rw[G,jR (st:=st.apply x.dst B) rfl rfl rfl,mY,mY];refine⟨?_,rfl⟩;simp only;rw[qL O,qL O];exact(Bc λd hd e=>a2 d hd e).symm
        . -- neither: both only write slots and lay blocks
          have cx:Xz (eF T all x)=true:=by
           cases z:eF T all x<;>rw[z]at l<;>first | rfl | skip
           grind
          have co:Xz (eF T all o)=true:=by
           cases p:eF T all o<;>rw[p]at l<;>first | rfl | skip
           grind
          obtain⟨p1,p2,p3,X⟩:=Tj x3 cx;obtain⟨q1,q2,q3,I⟩:=Tj J co;have G:=jR (d:=x.dst) p1 p2 p3;rw[G]at N J q3 ⊢;rw[jR q1 q2 q3];simp only at N J q3 ⊢;have facts:(eF T all o=.pure\/∀ s∈keysOf B.uz,s∈U)/\(eF T all x=.pure\/∀ s∈keysOf q.uz,s∈hx)/\(∀ s∈keysOf B.uz,s ∉ keysOf q.uz)/\(∀ s∈B.new,s ∉ keysOf q.uz):=by
           cases z:eF T all x with
           | const=>exact absurd z hcx
           | plain=>exact absurd z Y
           | heavy=>rw[z]at cx;cases cx
           | pure =>rw[z]at X;simp[Facts,X.1,X.2,keysOf]
           | read =>
            rw[z]at X l;simp only[Facts]at X;cases p:eF T all o with
            | const=>exact absurd p V
            | plain=>exact absurd p H
            | heavy=>rw[p]at co;cases co
            | pure =>rw[p]at I;simp[Facts,I.1,keysOf]
            | read=>grind[Facts]
            | own t =>
             rw[p]at I l;simp only[Facts,qBa,qBb]at I l;have A:∀ s∈keysOf q.uz,s∈hx/\s ∉ jA all x:=λs hs=>by have:=I.1 s hs;simp at this;subst this;exact⟨oV.1 l.1,iV.1 l.2⟩
             grind
            | store=>rw[p]at l;simp at l
           | own t =>
            rw[z]at X l;simp only[Facts]at X;cases p:eF T all o with
            | const=>exact absurd p V
            | plain=>exact absurd p H
            | heavy=>rw[p]at co;cases co
            | pure =>rw[p]at I;simp[Facts,I.1,keysOf]
            | read =>
             rw[p]at I l;simp only[Facts,qBa,qBb]at I l;have A:∀ s∈keysOf B.uz,s∈U/\s ∉ jA all o:=λs hs=>by have:=X.1 s hs;simp at this;subst this;exact⟨oV.1 l.1,iV.1 l.2⟩
             grind
            | own t=>rw[p]at l;simp at l
            | store=>rw[p]at l;simp at l
           | store =>
            rw[z]at X l;simp only[Facts]at X;cases p:eF T all o with
            | const=>exact absurd p V
            | plain=>exact absurd p H
            | heavy=>rw[p]at co;cases co
            | pure =>rw[p]at I;simp[Facts,I.1,keysOf]
            | read=>rw[p]at l;simp at l
            | own t=>rw[p]at l;simp at l
            | store=>rw[p]at l;simp at l
          obtain⟨f1,f2,f3,f4⟩:=facts;have n1:present st.heap q.new=[]:=by grind[FT,qG]
          have r:FP T C all o st.env (oh U (look st.heap))=some q:=by
           rw[zD λt A=>nK λe=>a1 t e A]at N;rcases f1 with f1 | f1
           . rw[<- N];exact Y6 f1
           . rwa[adk f1]at N
          have n2:present (gZ st.heap q.uz) B.new=[]:=by rw[FT]at p3 ⊢;intro s hs;rw[qG,Ba (f4 s hs)];exact p3 s hs
          refine⟨⟨setEnv st.env o.dst q.val,gZ st.heap q.uz⟩,⟨setEnv (setEnv st.env o.dst q.val) x.dst B.val,gZ (gZ st.heap q.uz) B.uz⟩,kT.2 ⟨q,r,o2,quiet_move J n1,(jR q1 q2 n1).symm⟩,kT.2 ⟨B,?_,x2,quiet_move x3 n2,(jR (st:=⟨setEnv st.env o.dst q.val,gZ st.heap q.uz⟩) p1 p2 n2).symm⟩,?_⟩
          . simp only;rw[zD λt A=>nK λe=>a3 t e A];rcases f2 with f2 | f2
            . rw[<- x1];exact Y6 f2
            . rw[adk f2];exact x1
          . exact⟨(Bc λd hd e=>a2 d hd e).symm,(adh (λs h1=>f3 s h1) st.heap).symm⟩
end
end
section
variable {i j:Nat}{o:Oper}
section
variable {T:Tab} {C:aH} {hd:List (List Nat)} {all:List Oper}
def Qe(T:Tab)(C:aH)(hd:List (List Nat))(all:List Oper):List (Nat × Oper)->St->St->Prop
 |[],st,fin=>Same st fin
 |(j,o)::r,st,fin=>∃ st1,step1 T C true (hd.getD j []) all o st=some st1/\Qe T C hd all r st1 fin
def num:Nat->List Oper->List (Nat × Oper)
 | _,[]=>[]
 | k,o::r=>(k,o)::num (k+1) r
theorem Tn:∀{l:List (Nat × Oper)} {s t fin:St},Same s t->Qe T C hd all l s fin->Qe T C hd all l t fin
 |[],s,t,fin,h,h1=>h.symm.trans h1
 |(j,o)::r,s,t,fin,h,h1=>by obtain⟨u,h2,q⟩:=h1;obtain⟨p,h4,h5⟩:=adg h h2;exact⟨p,h4,Tn h5 q⟩
theorem KC{α:Type}{k:St->Option α}{x:α}:∀{l:List Oper} {j:Nat} {st:St},iY T C true hd all l j st k=some x->∃ fin,Qe T C hd all (num j l) st fin/\k fin=some x
 |[],j,st,h=>⟨st,Same.refl st,h⟩
 | o::r,j,st,h=>by
  rw[xK _ _ rfl]at h;cases h1:step1 T C true (hd.getD j []) all o st with
  | none=>rw[h1]at h;cases h
  | some p =>rw[h1]at h;obtain⟨fin,h2,q⟩:=KC (l:=r) (j:=j+1) (st:=p) h;exact⟨fin,⟨p,h1,h2⟩,q⟩
theorem front{i:Nat}{o:Oper}{R2:List (Nat × Oper)}:∀{R1:List (Nat × Oper)} {st fin:St},Qe T C hd all (R1 ++ (i,o)::R2) st fin ->
    (∀ p∈R1,Dq T all (hd.getD p.1 []) (hd.getD i []) p.2 o=true/\(∀ s∈jA all p.2,s∈hd.getD i [])/\(∀ s∈jA all o,s∈hd.getD p.1 [])) ->
    ∃ l,step1 T C true (hd.getD i []) all o st=some l/\Qe T C hd all (R1++R2) l fin
  |[],st,fin,h,_=>h
  |(j,x)::R1,st,fin,h,hp=>by obtain⟨B,h1,h2⟩:=h;obtain⟨s2,A,h4⟩:=front (R1:=R1) h2 λp hp'=>hp p (by simp[hp']);obtain⟨c1,c2,c3⟩:=hp (j,x) (by simp);obtain⟨r,q,h5,z,u⟩:=swap h1 A c1 c2 c3;exact⟨r,h5,q,z,Tn u.symm h4⟩
def vY(listed:Array Bool)(l:List (Nat × Oper)):List (Nat × Oper):=l.filter λp=>!listed.getD p.1 true
theorem agn{listed:Array Bool}{i:Nat}:∀{l:List Oper} {k:Nat},i<k->vY (listed.setIfInBounds i true) (num k l)=vY listed (num k l)
 |[],_,_=>rfl
 | o::r,k,h=>by have h1:=agn (listed:=listed) (l:=r) (k:=k+1) (i:=i) (by omega);unfold vY at h1 ⊢;simp only[num,List.filter_cons,h1,getD_set_ne true (show i≠k by omega)]
theorem Em{listed:Array Bool}{i:Nat}{o:Oper}(z:listed.getD i true=false):∀{l:List Oper} {k:Nat},k<=i->l[i-k]?=some o ->
    ∃ R1 R2,vY listed (num k l)=R1++(i,o)::R2/\vY (listed.setIfInBounds i true) (num k l)=R1++R2/\∀ p∈R1,k<=p.1/\p.1<i/\l[p.1-k]?=some p.2/\listed.getD p.1 true=false
  |[],k,_,h=>by simp at h
  | x::r,k,hk,h=>by
   by_cases A:k=i
   . subst A;simp at h;subst h;refine⟨[],vY listed (num (k+1) r),?_,?_,by simp⟩
     . simp only[vY,num,List.filter_cons,z];simp
     . have:=agn (listed:=listed) (l:=r) (k:=k+1) (i:=k) (by omega);have h2:(listed.setIfInBounds k true).getD k true=true:=by simp
       unfold vY at this ⊢;simp only[num,List.filter_cons,h2,this];simp
   . have h':r[i-(k+1)]?=some o:=by grind
     obtain⟨R1,R2,G,B,H⟩:=Em z (l:=r) (k:=k+1) (by omega) h';have q:(listed.setIfInBounds i true).getD k true=listed.getD k true:=getD_set_ne true (Ne.symm A);have up:∀ p∈R1,k<=p.1/\p.1<i/\(x::r)[p.1-k]?=some p.2/\listed.getD p.1 true=false:=λp hp=>by grind
     cases u:listed.getD k true with
     | true =>
      refine⟨R1,R2,?_,?_,up⟩
      . rw[<- G];simp only[vY,num,List.filter_cons,u];simp
      . rw[<- B];simp only[vY,num,List.filter_cons,q,u];simp
     | false =>
      refine⟨(k,x)::R1,R2,?_,?_,λp hp=>?_⟩
      . rw[List.cons_append,<- G];simp only[vY,num,List.filter_cons,u];simp
      . rw[List.cons_append,<- B];simp only[vY,num,List.filter_cons,q,u];simp
      . rcases List.mem_cons.1 hp with rfl | hp
        . grind
        grind
theorem XA{x:Nat}:∀{l acc:List Nat},x∈J5 acc l↔x∈acc\/x∈l
 |[],acc=>by simp[J5]
 | y::r,acc=>by
  simp only[J5,XA (l:=r),List.mem_cons];cases h:l7 y acc with
  | true =>have:=oV.1 h;grind
  | false=>grind
theorem Za{p:List (List Nat)}{x:Nat}:∀{l:List Edge} {acc:List Nat},x∈l.foldl (λacc e=>match e.ground with
    | .textOnly _=>acc
    | .gcOnly _=>acc
    | _=>J5 (J5 acc [e.on]) (p.getD e.on [])) acc->x∈acc\/∃ e∈l,Region.binds .any e=true/\(x=e.on\/x∈p.getD e.on [])
  |[],acc,h=>.inl h
  | e::r,acc,h=>by simp only[List.foldl_cons]at h;rcases Za h with h |⟨q,h1,h2⟩;all_goals grind[XA,List.mem_singleton,Region.binds]
theorem Nh:∀{l:List Oper} {acc:List (List Nat)},(∀ n,n<acc.length->(eU l acc)[n]?=acc[n]?) /\
    ∀ n o,l[n]?=some o->∃ p,(eU l acc)[acc.length+n]?=some (LH p o)/\∀ m,p.getD m []=[]\/p.getD m []=(eU l acc).getD m []
  |[],acc=>⟨λn _=>rfl,λn o h=>by simp at h⟩
  | x::r,acc=>by
   obtain⟨h1,h2⟩:=Nh (l:=r) (acc:=acc++[LH acc x]);have e:eU (x::r) acc=eU r (acc++[LH acc x]):=rfl;rw[e];have pre:∀ n,n<acc.length->(eU r (acc++[LH acc x]))[n]?=acc[n]?:=λn q=>by grind
   refine⟨pre,λn o q=>?_⟩;cases n with
   | zero=>grind
   | succ n=>grind
theorem UD{x:Nat}(r:all[i]?=some o)(p:x∈(eU all []).getD i []):∃ e∈o.after,Region.binds .any e=true/\(x=e.on\/x∈(eU all []).getD e.on []):=by obtain⟨_,h⟩:=Nh (l:=all) (acc:=[]);obtain⟨q,h1,h2⟩:=h i o r;simp only[List.length_nil,qNz]at h1;rw[qLb,h1]at p;simp only[Option.getD_some]at p;unfold LH at p;rcases Za p with u |⟨e,u,h4,h5⟩;all_goals grind
theorem wU{tab:List (List Nat)}:∀{l:List Oper} {k:Nat},FD T all tab hd k l=true->∀ n o,l[n]?=some o->LJ (k+n) o=true/\WG T all hd (tab.getD (k+n) []) (k+n) o 0 all=true
 |[],k,_,n,o,h=>by simp at h
 | x::r,k,h,n,o,ho=>by
  simp only[FD,qBa]at h;cases n with
  | zero=>simp at ho;subst ho;exact⟨h.1.1,h.1.2⟩
  | succ n =>simp at ho;have:=wU h.2 n o ho;grind
theorem XB{q:List Nat}{j:Nat}{o:Oper}:∀{l:List Oper} {k:Nat},WG T all hd q j o k l=true->∀ n x,l[n]?=some x->k+n<j->k+n ∉ q->Dq T all (hd.getD (k+n) []) (hd.getD j []) x o=true
 |[],k,_,n,x,h=>by simp at h
 | y::r,k,h,n,x,hx=>by
  intro p hp;have u:Nat.ble j k=false:=by
   cases z:Nat.ble j k with
   | false=>rfl
   | true=>have:=Nat.le_of_ble_eq_true z;omega
  simp only[WG,u,qCf,qBa]at h;cases n with
  | zero =>simp at hx;subst hx;have h1:=h.1;rw[iV.2 (by simpa using hp)]at h1;grind
  | succ n =>
   simp at hx;have e:k+(n+1)=k+1+n:=by omega
   rw[e]at p hp ⊢;exact XB h.2 n x hx p hp
theorem Qg(h:LJ j o=true){e:Edge}(l:e∈o.after)(p:Region.binds .any e=true):e.on<j:=by unfold LJ at h;have:=List.all_eq_true.1 h e (by simpa using l);unfold Region.binds at p;split at this;all_goals simp_all
theorem FU{all:List Oper}{tab:List (List Nat)}{j s:Nat}{x:Oper}:∀{l:List Oper} {k n:Nat},l[n]?=some x->k+n≠j->k+n ∉ tab.getD j []->j ∉ tab.getD (k+n) []->s∈jA all x->s∈Dt T all tab j k l
 |[],k,n,h=>by simp at h
 | y::r,k,n,h=>by
  intro h1 h2 p h4;simp only[Dt];cases n with
  | zero =>
   simp at h;subst h;have:(k==j||l7 k (tab.getD j [])||l7 j (tab.getD k []))=false:=by
    have q:(k==j)=false:=by simpa using h1
    rw[q,iV.2 (by simpa using h2),iV.2 (by simpa using p)];rfl
   grind
  | succ n =>
   simp at h;have e:k+(n+1)=k+1+n:=by omega
   rw[e]at h1 h2 p;have:=FU (k:=k+1) h h1 h2 p h4;grind
theorem Tt:∀{a b:List (List Nat)},um a b=true->a=b
 |[],[],_=>rfl
 | x::xs,y::ys,h=>by simp only[um,qBa,beq_iff_eq]at h;rw[h.1,Tt h.2]
 |[],_::_,h=>by simp[um]at h
 | _::_,[],h=>by simp[um]at h
section
variable (hok:FD T all (eU all []) hd 0 all=true)
include hok
theorem pred_lt:∀{i x:Nat} {o:Oper},all[i]?=some o->x∈(eU all []).getD i []->x<i:=by
 intro i;induction i using Nat.strongRecOn with
 | _ i u =>intro x o l q;obtain⟨e,h1,h2,z⟩:=UD l q;have p:=(wU hok i o l).1;rw[qNz]at p;have r:=Qg p h1 h2;grind
theorem open_pair(B:um hd (Iz T all)=true){x:Oper}(A:all[i]?=some o)(q:all[j]?=some x)(G:j<i)(hp:j ∉ (eU all []).getD i []) :
    Dq T all (hd.getD j []) (hd.getD i []) x o=true/\(∀ s∈jA all x,s∈hd.getD i [])/\(∀ s∈jA all o,s∈hd.getD j []):=by
  have H:=Tt B;have l:∀ n,n<all.length->hd.getD n []=Dt T all (eU all []) n 0 all:=by grind[Iz]
  have z:=(qLa.1 A).1;have u:=(qLa.1 q).1;have p:i ∉ (eU all []).getD j []:=λh=>by have:=pred_lt hok q h;omega
  refine⟨?_,λs r=>?_,λs r=>?_⟩
  . have:=XB (wU hok i o A).2 j x q (by omega) (by simpa using hp);grind
  . rw[l i z];exact FU (k:=0) (n:=j) q (by omega) (by simpa using hp) (by simpa using p) r
  . rw[l j u];exact FU (k:=0) (n:=i) A (by omega) (by simpa using p) (by simpa using hp) r
end
end
end
section
variable {ops:Array Oper}{hd:List (List Nat)}{Q:Exit->Act->World->Prop}{fin:St}{rd:Option Nat}{id j jc n:Nat}{α:Type}
section
variable {P:Program} {T:Tab} {C:aH} {cx:Cx} {st st':St} {a:Act} {w:World}
theorem Inv.same(i:Inv cx st a w)(h:Same st st'):Inv cx st' a w:=by
 obtain⟨M,β,L,ds,r,B,A,z,H⟩:=i;have u:=r.congr (hp:=st'.heap) λs=>by rw[h.2]
 have e:({st with heap:=st'.heap}:St)=st':=by cases st;cases st';simp only[St.mk.injEq,and_true];exact h.1
 rw[e]at u;refine⟨M,β,L,ds,u,B,λs l b q=>A s l b ?_,z,H.less (λp hp=>rfl) λb G=>?_⟩
 . rw[h.2];exact q
 . obtain⟨s,o,l,q⟩:=G;exact⟨s,o,by rw[h.2];exact l,q⟩
theorem Inv.drew(i:Inv cx st a w):Inv cx st a {w with drawn:=w.drawn+1}:=by obtain⟨M,β,L,ds,r,u,q,l,z⟩:=i;exact⟨M,β,L,ds,r.world (w':={w with drawn:=w.drawn+1}) (qNr _) rfl rfl rfl (λ_ _ _=>rfl) (λb n _ _ _ h=>h) (λb h=>h) (λb h=>.inl h),u,q,l.trans λ_=>Nat.le_succ _,z.less (λp hp=>rfl) λ_ h=>h⟩
theorem Qh{β:Nat->Option (Nat × Nat)}{ss:List Nat}{b:Nat}(h:oQ β (st.strike ss).heap b):oQ β st.heap b:=by obtain⟨s,o,p,l⟩:=h;refine⟨s,o,?_,l⟩;grind[iw]
theorem Inv.strike(i:Inv cx st a w)(ss:List Nat):Inv cx (st.strike ss) a w:=by obtain⟨M,β,L,ds,r,u,q,l,A⟩:=i;exact⟨M,β,L,ds,r.strike ss (λb h=>h) λb h=>.inl h,u,q.trans (ET st ss),l,A.less (λp hp=>rfl) λ_ z=>Qh z⟩
theorem agp(ok:fB P T)(hC:jT P T cx.w0.gl C)(hok:FD T ops.toList (eU ops.toList []) hd 0 ops.toList=true)(V:um hd (Iz T ops.toList)=true)
    (hQ:∀ a w,Inv cx fin a w->Q .normal a w)(S:∀ o∈ops.toList,EW cx o):
    ∀(u:Nat) (listed:Array Bool) (st:St) (a:Act) (w:World),u=(vY listed (num 0 ops.toList)).length ->
     (∀ q,listed.getD q false=true->∀ p∈(eU ops.toList []).getD q [],listed.getD p false=true)->listed.size=ops.size ->
     Qe T C hd ops.toList (vY listed (num 0 ops.toList)) st fin->Inv cx st a w->wpAnyIn (FW rd) n P .any ops Q u listed a w:=by
  intro u;induction u with
  | zero =>intro listed st a w J N A B i;have h0:vY listed (num 0 ops.toList)=[]:=List.length_eq_zero_iff.1 J.symm;rw[h0]at B;refine⟨?_,hQ a w (i.same B)⟩;rw[List.eq_nil_iff_forall_not_mem];intro j U;obtain⟨h1,o,h2,_⟩:=mem_ready.1 U;obtain⟨R1,R2,g1,_⟩:=Em h1 (l:=ops.toList) (k:=0) (o:=o) (by omega) (by simpa using h2);grind
  | succ u ih =>
   intro listed st a w J N A B i;refine⟨λhnil=>?_,λj U=>?_⟩
   . -- the first that is not listed is ready
     exfalso;cases hL:vY listed (num 0 ops.toList)with
     | nil=>rw[hL]at J;simp at J
     | cons p r =>
      have W:∃ n,n<ops.size/\listed.getD n true=false:=by
       have hp:p∈vY listed (num 0 ops.toList):=by rw[hL];simp
       grind[vY]
      have H:∃ n,(n<ops.size/\listed.getD n true=false)/\∀ m,m<n->¬(m<ops.size/\listed.getD m true=false):=by
       obtain⟨n,hn⟩:=W;induction n using Nat.strongRecOn with
       | _ n ihn=>grind
      obtain⟨n,⟨h1,h2⟩,h3⟩:=H;have:n∈Region.ready .any ops listed:=by rw[mem_ready];refine⟨h2,ops[n],by simp,λe he hb=>?_⟩;have hlt:=Qg (wU hok n ops[n] (by simp)).1 he hb;grind
      grind
   . obtain⟨h1,o,h2,h3⟩:=mem_ready.1 U;have z:ops.toList[j]?=some o:=by simpa using h2
     obtain⟨R1,R2,g1,g2,g3⟩:=Em h1 (l:=ops.toList) (k:=0) (o:=o) (by omega) (by simpa using h2);have G:∀ p∈(eU ops.toList []).getD j [],listed.getD p false=true:=by intro p hp;obtain⟨e,q1,Y,X⟩:=UD z hp;grind
     rw[g1]at B J;obtain⟨O,k1,k2⟩:=front B λp hp=>by obtain⟨q1,Y,X,q4⟩:=g3 p hp;refine open_pair hok V z (by simpa using X) Y λhm=>?_;grind
     have Z:=ama ok hC rfl (S o (qLe z)) i k1 (rd:=rd) (n:=n) (K:=wpAnyIn (FW rd) n P .any ops Q u (listed.setIfInBounds j true)) (λa' w' i'=>ih (listed.setIfInBounds j true) O a' w' (by
      grind) (λq hq p hp=>by
      by_cases I:j=q
      . subst I;exact getD_set_true (G p hp)
      . rw[getD_set_ne false I]at hq;exact getD_set_true (N q hq p hp)) (by simpa using A) (by rw[g2];exact k2) i') (Q:=Q)
     unfold wpOpIn;rw[h2];simp only;split
     . grind
     . rename_i S;rw[if_neg S]at Z;exact⟨λ_ _=>trivial,Z⟩
theorem Qi{l:List Nat}:∀{n m:Nat},P6 l n=true->m<n->m∈l
 | 0,m,_,h=>by omega
 | n+1,m,ha,h=>by
  simp only[P6,qBa]at ha;by_cases e:m=n
  . subst e;exact oV.1 ha.1
  . exact Qi ha.2 (by omega)
theorem RH{tab:List (List Nat)}{j:Nat}:∀{l:List Oper} {k n:Nat} {o:Oper},uT tab j k l=true->l[n]?=some o->j<=k+n->∀ m,m<k+n->m∈tab.getD (k+n) []
 |[],k,n,o,_,h=>by simp at h
 | x::r,k,0,o,hc,h=>by
  intro q m p;simp only[uT,qBa,Bool.or_eq_true]at hc;rcases hc.1 with h1 | h1
  . grind[Nat.blt_eq]
  . exact Qi h1 p
 | x::r,k,n+1,o,hc,h=>by intro q m p;simp only[uT,qBa]at hc;simp at h;have:=RH (n:=n) hc.2 h (by omega) m (by omega);grind
theorem ae0(hok:FD T ops.toList (eU ops.toList []) hd 0 ops.toList=true)(W:uT (eU ops.toList []) j 0 ops.toList=true){F:Fence}:
    ∀(l:List Oper) (i:Nat) (listed:Array Bool) (a:Act) (w:World),j<=i->ops.toList.drop i=l->listed.size=ops.size->(∀ q,q<ops.size->listed.getD q false=decide (q<i))->wpListIn F n P ops Q l a w->wpAnyIn F n P .any ops Q l.length listed a w:=by
  have gd:∀(listed:Array Bool) (q:Nat),q<listed.size->listed.getD q true=listed.getD q false:=λlisted q h=>by simp[h]
  intro l;induction l with
  | nil =>intro i listed a w S z A p h;refine⟨?_,h⟩;rw[List.eq_nil_iff_forall_not_mem];intro q O;obtain⟨h1,o,h2,_⟩:=mem_ready.1 O;have G:q<ops.size:=(qAa.1 h2).1;rw[gd listed q (by omega),p q G]at h1;have:ops.toList.length<=i:=List.drop_eq_nil_iff.1 z;grind
  | cons o r ih =>
   intro i listed a w S z A p h;have hi:ops.toList[i]?=some o:=by
    have:(ops.toList.drop i)[0]?=some o:=by rw[z];rfl
    grind
   have hr:ops.toList.drop (i+1)=r:=by rw[<- List.drop_drop,z];rfl
   have u:ops[i]?=some o:=by simpa using hi
   have U:i<ops.size:=(qAa.1 u).1;have B:i∈Region.ready .any ops listed:=by rw[mem_ready];refine⟨by rw[gd listed i (by omega),p i U];simp,o,u,λe H hb=>?_⟩;have G:=Qg (wU hok i o hi).1 H hb;grind
   refine⟨λh0=>by rw[h0]at B;simp at B,λq O=>?_⟩;obtain⟨h1,oq,h2,h3⟩:=mem_ready.1 O;have hql:q<ops.size:=(qAa.1 h2).1;have hqi:i<=q:=by grind
   have N:q=i:=by
    by_cases e:q=i
    . exact e
    . exfalso;have hm:i∈(eU ops.toList []).getD q []:=by have:=RH (k:=0) (n:=q) (o:=oq) W (by simpa using h2) (by omega) i (by omega);grind
      obtain⟨I,Z,Y,J⟩:=UD (by simpa using h2) hm;have H:=h3 I Z Y;have V:=Qg (wU hok q oq (by simpa using h2)).1 Z Y;rw[qNz]at V;rw[p I.on (by omega)]at H;have H:I.on<i:=by simpa using H
      rcases J with J | J
      . omega
      . have:=pred_lt hok (i:=I.on) (x:=i) (o:=ops.toList[I.on]'(by simp;omega)) (by simp) J;omega
   subst N;rw[u]at h2;cases h2;unfold wpListIn at h;unfold wpOpIn;rw[u];simp only;have X:∀ k,k<ops.size->(listed.setIfInBounds q true).getD k false=decide (k<q+1):=λk hk=>by
    by_cases e:q=k
    . simp_all
    . rw[getD_set_ne false e,p k hk];grind
   have next:∀ a w,wpListIn F n P ops Q r a w->wpAnyIn F n P .any ops Q r.length (listed.setIfInBounds q true) a w:=λa w h=>ih (q+1) (listed.setIfInBounds q true) a w (by omega) hr (by simpa using A) X h
   split
   . rename_i hw;rw[if_pos hw]at h;exact Oper.wpIn_mono next h
   grind
theorem Zb{p:Nat × Oper}:∀{l:List Oper} {k:Nat},p∈num k l->k<=p.1/\p.1<k+l.length
 |[],k,h=>by simp[num]at h
 | o::r,k,h=>by
  simp only[num,List.mem_cons]at h;rcases h with rfl | h
  . simp
  . have:=Zb h;grind
theorem aki(ok:fB P T)(hC:jT P T cx.w0.gl C)(hok:FD T ops.toList (eU ops.toList []) hd 0 ops.toList=true)(hhd:um hd (Iz T ops.toList)=true)
    (hjc:jc<=ops.size)(V:uT (eU ops.toList []) jc 0 ops.toList=true) 
    (hQ:∀ a w,Inv cx fin a w->wpListIn (FW rd) n P ops Q (ops.toList.drop jc) a w)(hw:∀ o∈ops.toList,EW cx o) :
    ∀(u:Nat) (listed:Array Bool) (st:St) (a:Act) (w:World),u=(vY listed (num 0 (ops.toList.take jc))).length->(∀ q,jc<=q->q<ops.size->listed.getD q false=false) ->
     (∀ q,listed.getD q false=true->∀ p∈(eU ops.toList []).getD q [],listed.getD p false=true)->listed.size=ops.size ->
     Qe T C hd ops.toList (vY listed (num 0 (ops.toList.take jc))) st fin->Inv cx st a w->wpAnyIn (FW rd) n P .any ops Q (u+(ops.size-jc)) listed a w:=by
  intro u;induction u with
  | zero =>
   intro listed st a w B G U A H i;have h0:vY listed (num 0 (ops.toList.take jc))=[]:=List.length_eq_zero_iff.1 B.symm;rw[h0]at H;have hls:∀ q,q<ops.size->listed.getD q false=decide (q<jc):=λq W=>by
    by_cases e:q<jc
    . have N:q<listed.size:=by omega
      cases X:listed.getD q false with
      | true=>simp[e]
      | false =>
       exfalso;have h1:listed.getD q true=false:=by simpa[N] using X
       obtain⟨R1,R2,g1,_⟩:=Em h1 (l:=ops.toList.take jc) (k:=0) (o:=ops.toList[q]'(by simpa using W)) (by omega) (by grind);grind
    grind
   have O:(ops.toList.drop jc).length=ops.size-jc:=by simp
   rw[qNz,<- O];exact ae0 hok V (ops.toList.drop jc) jc listed a w (qNr _) rfl A hls (hQ a w (i.same H))
  | succ u ih =>
   intro listed st a w B G U A H i;rw[show u+1+(ops.size-jc)=(u+(ops.size-jc))+1 from by omega];refine⟨λhnil=>?_,λj hj=>?_⟩
   . -- the first that is not listed is ready
     exfalso;cases Y:vY listed (num 0 (ops.toList.take jc))with
     | nil=>rw[Y]at B;simp at B
     | cons p r =>
      have hex:∃ n,n<ops.size/\listed.getD n true=false:=by
       have hp:p∈vY listed (num 0 (ops.toList.take jc)):=by rw[Y];simp
       grind[vY]
      have J:∃ n,(n<ops.size/\listed.getD n true=false)/\∀ m,m<n->¬(m<ops.size/\listed.getD m true=false):=by
       obtain⟨n,hn⟩:=hex;induction n using Nat.strongRecOn with
       | _ n ihn =>
        by_cases hm:∃ m,m<n/\(m<ops.size/\listed.getD m true=false)
        . obtain⟨m,h1,h2⟩:=hm;exact ihn m h1 h2
        grind
      obtain⟨n,⟨h1,h2⟩,h3⟩:=J;have:n∈Region.ready .any ops listed:=by rw[mem_ready];refine⟨h2,ops[n],by simp,λe he X=>?_⟩;have N:=Qg (wU hok n ops[n] (by simp)).1 he X;grind
      grind
   . obtain⟨h1,o,h2,h3⟩:=mem_ready.1 hj;have z:ops.toList[j]?=some o:=by simpa using h2
     have hjl:j<ops.size:=(qAa.1 h2).1;have hpre0:∀ p∈(eU ops.toList []).getD j [],listed.getD p false=true:=by intro p hp;obtain⟨e,q1,q2,q3⟩:=UD z hp;grind
     have hjj:j<jc:=by
      by_cases e:j<jc
      . exact e
      . exfalso;have hp0:∃ p,p∈vY listed (num 0 (ops.toList.take jc)):=by
         cases Y:vY listed (num 0 (ops.toList.take jc))with
         | nil=>rw[Y]at B;simp at B
         | cons p r=>exact⟨p,by simp⟩
        obtain⟨p,hp⟩:=hp0;unfold vY at hp;rw[List.mem_filter]at hp;have X:=Zb hp.1;have hpl:p.1<jc:=by grind
        have h1:listed.getD p.1 true=false:=by simpa using hp.2
        have hm:p.1∈(eU ops.toList []).getD j []:=by have:=RH (k:=0) (n:=j) (o:=o) V z (by omega) p.1 (by omega);grind
        grind
     obtain⟨R1,R2,g1,g2,g3⟩:=Em h1 (l:=ops.toList.take jc) (k:=0) (o:=o) (by omega) (by rw[Nat.sub_zero,List.getElem?_take_of_lt hjj];exact z);have I:∀ p∈(eU ops.toList []).getD j [],listed.getD p false=true:=by omega
     rw[g1]at H B;obtain⟨Z,k1,k2⟩:=front H λp hp=>by
      obtain⟨q1,q2,q3,q4⟩:=g3 p hp;have q3':ops.toList[p.1]?=some p.2:=by grind
      refine open_pair hok hhd z q3' q2 λhm=>?_;grind
     have hs:=ama ok hC rfl (hw o (qLe z)) i k1 (rd:=rd) (n:=n) (K:=wpAnyIn (FW rd) n P .any ops Q (u+(ops.size-jc)) (listed.setIfInBounds j true)) (λa' w' i'=>ih (listed.setIfInBounds j true) Z a' w' (by
      grind) (λq hq1 hq2=>by
      rw[getD_set_ne false (show j≠q by omega)];exact G q hq1 hq2) (λq W p hp=>by
      by_cases S:j=q
      . subst S;exact getD_set_true (I p hp)
      . rw[getD_set_ne false S]at W;exact getD_set_true (U q W p hp)) (by simpa using A) (by rw[g2];exact k2) i') (Q:=Q)
     unfold wpOpIn;rw[h2];simp only;split
     . grind
     . rename_i hw;rw[if_neg hw]at hs;exact⟨λ_ _=>trivial,hs⟩
theorem II:∀(l:List Oper) (k:Nat),(num k l).length=l.length
 |[],_=>rfl
 | o::r,k=>by simp[num,II r]
theorem L8{n:Nat}:∀{l:List Oper} {k:Nat},k+l.length<=n->vY (Array.replicate n false) (num k l)=num k l
 |[],_,_=>rfl
 | o::r,k,h=>by
  simp only[qLl]at h;have:=L8 (n:=n) (l:=r) (k:=k+1) (by omega);unfold vY at this ⊢;have p:(Array.replicate n false).getD k true=false:=by
   have:k<n:=by omega
   simp[this]
  simp only[num,List.filter_cons,p,this];simp
theorem adn(ok:fB P T)(B:jT P T cx.w0.gl C)(hok:FD T ops.toList (eU ops.toList []) hd 0 ops.toList=true)(l:um hd (Iz T ops.toList)=true)
    {k:St->Option α}{x:α}(r:iY T C true hd ops.toList ops.toList 0 st k=some x)(p:∀ o∈ops.toList,EW cx o)(i:Inv cx st a w)
    (A:∀ st' a' w',k st'=some x->Inv cx st' a' w'->Q .normal a' w'):(Code.region id ops true).wpIn (FW rd) n P Q a w:=by
  obtain⟨fin,h1,h2⟩:=KC r;have e:vY (Array.replicate ops.size false) (num 0 ops.toList)=num 0 ops.toList:=L8 (by simp);refine wpIn_region_any ok.mixed (agp ok B hok l (λa w i=>A fin a w h2 i) p ops.size (Array.replicate ops.size false) st a _ ?_ ?_ (by simp) (by rw[e];exact h1) i.drew)
  . grind[II]
  . intro q u;by_cases z:q<ops.size<;>simp[z]at u
theorem agq(ok:fB P T)(J:jT P T cx.w0.gl C)(hok:FD T ops.toList (eU ops.toList []) hd 0 ops.toList=true)(z:um hd (Iz T ops.toList)=true)
    (G:uT (eU ops.toList []) jc 0 ops.toList=true){k:St->Option α}{x:α}(N:iY T C true hd ops.toList (ops.toList.take jc) 0 st k=some x)(H:∀ o∈ops.toList,EW cx o)(i:Inv cx st a w)
    (I:∀ st' a' w',k st'=some x->Inv cx st' a' w'->(∃ l,Qe T C hd ops.toList l st st')->wpListIn (FW rd) n P ops Q (ops.toList.drop jc) a' w'):(Code.region id ops true).wpIn (FW rd) n P Q a w:=by
  obtain⟨fin,h1,h2⟩:=KC N;by_cases B:jc<=ops.size
  . have e:vY (Array.replicate ops.size false) (num 0 (ops.toList.take jc))=num 0 (ops.toList.take jc):=L8 (by simp;omega);have u:(num 0 (ops.toList.take jc)).length=jc:=by rw[II];simp;omega
    have p:=aki ok J hok z B G (rd:=rd) (n:=n) (Q:=Q) (λa w i=>I fin a w h2 i ⟨_,h1⟩) H jc (Array.replicate ops.size false) st a {w with drawn:=w.drawn+1} (by rw[e,u]) (λq _ r=>by simp[r]) (by intro q r;by_cases A:q<ops.size<;>simp[A]at r) (by simp) (by rw[e];exact h1) i.drew;rw[show jc+(ops.size-jc)=ops.size from by omega]at p;exact wpIn_region_any ok.mixed p
  . have O:ops.toList.take jc=ops.toList:=List.take_of_length_le (by simp;omega);have S:ops.toList.drop jc=[]:=List.drop_eq_nil_iff.2 (by simp;omega);have e:vY (Array.replicate ops.size false) (num 0 ops.toList)=num 0 ops.toList:=L8 (by simp);rw[O]at h1;refine wpIn_region_any ok.mixed (agp ok J hok z (λa w i=>by have:=I fin a w h2 i ⟨_,h1⟩;rw[S]at this;exact this) H ops.size (Array.replicate ops.size false) st a _ ?_ ?_ (by simp) (by rw[e];exact h1) i.drew)
    . grind[II]
    . intro q r;by_cases A:q<ops.size<;>simp[A]at r
theorem XC{ys:List Nat}{ops:List Oper}(h:aht ys ops=some j):uT (eU ops []) j 0 ops=true:=by unfold aht at h;grind
theorem ado(ok:fB P T)(u:jT P T cx.w0.gl C)(q:BO cx.hp0){k:St->Option α}{x:α}(p:iY T C false hd ops.toList ops.toList 0 st k=some x)
    (l:∀ o∈ops.toList,EW cx o)(i:Inv cx st a w)
    (r:∀ st' a' w',k st'=some x->Inv cx st' a' w'->Q .normal a' w'):(Code.region id ops false).wpIn (FW rd) n P Q a w:=
  wpIn_region_list (Xv ok u q r ops.toList 0 st a w l p i)
end
end
section
variable {d s:Nat}
theorem Bf(s d:Nat):∀(l:List AV) (i:Nat),(AV.ML s d l)[i]?=(l[i]?).map (AV.ren s d)
 |[],i=>by simp[AV.ML]
 | v::r,0=>by simp[AV.ML]
 | v::r,i+1=>by simp[AV.ML,Bf s d r i]
theorem o9(s d:Nat):∀(l:List AV),(AV.ML s d l).length=l.length
 |[]=>rfl
 | v::r=>by simp[AV.ML,o9 s d r]
theorem adp(s d:Nat)(v:AV):(AV.ren s d v).leaf=v.leaf:=by cases v<;>simp[AV.ren,AV.leaf]
theorem aaZ{x:Nat}(h:x≠s):Jb s d x=x:=by
 have:(x==s)=false:=by simpa using h
 simp[Jb,this]
theorem yK{s d:Nat}(p:s≠d)(x:Nat):∀{hp:Heap},look hp d=none->look (wz s d hp) x=if x=d then(look hp s).map (bZ.ren s d)else if x=s then none else(look hp x).map (bZ.ren s d)
 |[],_=>by simp[wz,look]
 |(k,b)::r,h=>by
  have z:k≠d:=by grind[look]
  have q:(k==d)=false:=by simpa using z
  have u:look r d=none:=by simpa[look,q] using h
  have B:=yK p x u;simp only[wz,look];by_cases l:k=s
  . subst l;have A:Jb k d k=d:=by simp[Jb]
    grind
  . have A:Jb s d k=k:=aaZ l;grind
theorem AR.renamed{w:World}{M:Nat->Prop}{β β':Nat->Option (Nat × Nat)}{h h':Nat->Option bZ}(r:∀ x blk,h x=some blk->h' (Jb s d x)=some (blk.ren s d)/\β' (Jb s d x)=β x)
    {v:AV}{c:Value}(A:AR w M β h v c):AR w M β' h' (v.ren s d) c:=by
  induction A with
  | undef c=>exact .undef c
  | p v c A=>exact .p v c A
  | slice x off len a ks xs b o cap h1 u z q O=>exact .slice _ off len a ks xs b o cap (r x _ h1).1 u ((r x _ h1).2.trans z) q O
  | sliceE x off a ks xs base h1 u=>exact .sliceE _ off a ks xs base (r x _ h1).1 u
  | bslice x off len cs b o cap h1 u z q=>exact .bslice _ off len (AV.ML s d cs) b o cap (r x _ h1).1 (by rw[o9];exact u) ((r x _ h1).2.trans z) q
  | bsliceE x off cs base h1 u=>exact .bsliceE _ off (AV.ML s d cs) base (r x _ h1).1 (by rw[o9];exact u)
  | ptrB x off cs b o h1 z=>exact .ptrB _ off (AV.ML s d cs) b o (r x _ h1).1 ((r x _ h1).2.trans z)
  | ptrA x H off a ks xs b o h1 G z=>exact .ptrA _ H off a ks xs b o (r x _ h1).1 G ((r x _ h1).2.trans z)
  | rE a ks x off b o f S N I A=>exact .rE a ks x off b o f S N I A
  | fn f cs vs B _ J =>refine .fn f _ vs (by rw[o9];exact B) λi c G=>?_;grind[Bf]
  | agg cs vs B u _ J =>
   refine .agg _ vs (by rw[o9];exact B) (λc I=>?_) λi c G=>?_
   . obtain⟨i,G⟩:=List.mem_iff_getElem?.1 I;grind[Bf,adp]
   grind[Bf]
  | vM cs vs B _ J =>refine .vM _ vs (by rw[o9];exact B) λi c G=>?_;grind[Bf]
  | yL l=>exact .yL l
section
variable {P:Program} {T:Tab} {w0:Base} {Pr M0 M:Nat->Prop} {β XR:Nat->Option (Nat × Nat)} {hp0:Heap} {st st':St} {a:Act} {w:World}
theorem Rel.rename(r:Rel w0 Pr M0 M β st a w)(hne:s≠d)(hd:look st.heap d=none)(hs:s<ah) :
    Rel w0 Pr M0 M (λx=>if x=d then β s else β x) {env:=AV.ML s d st.env,heap:=wz s d st.heap} a w:=by
  have hlk:=λx=>yK (s:=s) (d:=d) hne x hd;have hh:∀ x blk,look st.heap x=some blk->look (wz s d st.heap) (Jb s d x)=some (blk.ren s d)/\(if Jb s d x=d then β s else β (Jb s d x))=β x:=by grind[Jb]
  have U:∀{v:AV} {c:Value},AR w M β (look st.heap) v c->AR w M (λx=>if x=d then β s else β x) (look (wz s d st.heap)) (v.ren s d) c:=λh=>h.renamed hh;have from_:∀ x blk',look (wz s d st.heap) x=some blk'->∃ y blk,look st.heap y=some blk/\blk'=blk.ren s d/\x=Jb s d y/\(if x=d then β s else β x)=β y:=by
   intro x blk' l;rw[hlk]at l;by_cases p:x=d
   . rw[if_pos p]at l;cases A:look st.heap s with
     | none=>rw[A]at l;cases l
     | some b=>rw[A]at l;cases l;exact⟨s,b,A,rfl,by simp[Jb,p],by simp[p]⟩
   . rw[if_neg p]at l;by_cases H:x=s
     . grind
     . rw[if_neg H]at l;cases A:look st.heap x with
       | none=>rw[A]at l;cases l
       | some b=>rw[A]at l;cases l;exact⟨x,b,A,rfl,(aaZ H).symm,by simp[p]⟩
  refine⟨by simp only[o9];exact r.qK,λt v I=>?_,λx blk' l=>?_,λx b o l z=>?_,λx O b o o' l B z q=>?_,r.iU,r.oD,r.vW,r.keep,r.room,r.size,r.os,r.tape,r.output,r.glob⟩
  . simp only[Bf]at I;cases he:st.env[t]? with
    | none=>rw[he]at I;cases I
    | some u=>rw[he]at I;cases I;exact U (r.env t u he)
  . obtain⟨y,blk,N,rfl,rfl,G⟩:=from_ x blk' l;cases r.heap y blk N with
    | box cs b o C e fr Z Y X W V k6 =>
     refine .box _ b o C e fr (G.trans Z) Y (by rw[o9];exact X) W (λc hc=>?_) λj c hj=>?_
     . obtain⟨i,J⟩:=List.mem_iff_getElem?.1 hc;rw[Bf]at J;cases l:cs[i]? with
       | none=>rw[l]at J;cases J
       | some x=>rw[l]at J;cases J;rw[adp];exact V x (qLe l)
     . rw[Bf]at hj;grind
    | lU a ks=>exact .lU a ks
    | log on ys=>exact .log on ys
    | arr a ks xs b o C e fr Z Y X W V k6=>exact .arr a ks xs b o C e fr (G.trans Z) Y X W V k6
  . obtain⟨blk',l⟩:=Option.isSome_iff_exists.1 l;obtain⟨y,blk,N,_,g3,G⟩:=from_ x blk' l;have z:(if x=d then β s else β x)=some (b,o):=z;rw[G]at z;obtain⟨o1,o2,S⟩:=r.own y b o (by rw[N];rfl) z;refine⟨o1,o2,S.1,S.2.imp id λS=>?_⟩;have hys:y≠s:=by omega
    have:Jb s d y=y:=aaZ hys;omega
  . obtain⟨av6,l⟩:=Option.isSome_iff_exists.1 l;obtain⟨av7,B⟩:=Option.isSome_iff_exists.1 B;obtain⟨y,b1,N,_,g3,G⟩:=from_ x av6 l;obtain⟨y',b2,g1',_,g3',g4'⟩:=from_ O av7 B;have z:(if x=d then β s else β x)=some (b,o):=z;have q:(if O=d then β s else β O)=some (b,o'):=q;rw[G]at z;rw[g4']at q;rw[g3,g3',r.inj y y' b o o' (by rw[N];rfl) (by rw[g1'];rfl) z q]
theorem bZ.akj(s d:Nat)(b:bZ):Like b (b.ren s d):=by
 cases b with
 | box cs=>simp[bZ.ren,Like,o9]
 | arr=>exact Like.refl _
 | log=>exact Like.refl _
theorem aa0{β:Nat->Option (Nat × Nat)}{hp:Heap}(u:s≠d)(hd:look hp d=none){b:Nat}(h:oQ (λx=>if x=d then β s else β x) (wz s d hp) b):oQ β hp b:=by
 obtain⟨x,o,p,q⟩:=h;rw[yK u x hd]at p;by_cases l:x=d
 . rw[if_pos l]at p;simp only[l,if_true]at q;exact⟨s,o,by simpa using p,q⟩
 . rw[if_neg l]at p;simp only[if_neg l]at q;by_cases r:x=s
   . grind
   . rw[if_neg r]at p;exact⟨x,o,by simpa using p,q⟩
theorem Inv.Q8{cx:Cx}(i:Inv cx st a w){s d:Nat}(q:s≠d)(G:s<ah)(hd:d<ah):Inv cx (st.Q8 s d) a w:=by
 have A:=i.strike [d];have u:look (st.strike [d]).heap d=none:=by rw[iw];simp
 unfold St.Q8;generalize st.strike [d]=st1 at A u;obtain⟨M,β,L,ds,r,V,U,S,O⟩:=A;refine⟨M,_,L,ds,r.rename q u G,λx B=>?_,λx B blk' I=>?_,S,O.less (λp hp=>rfl) λ_ H=>aa0 q u H⟩
 . grind
 . have h1:x≠d:=by omega
   have h2:x≠s:=by omega
   have l:look (wz s d st1.heap) x=some blk':=I;rw[yK q x u,if_neg h1,if_neg h2]at l;cases z:look st1.heap x with
   | none=>rw[z]at l;cases l
   | some b =>rw[z]at l;cases l;obtain⟨b0,N,J⟩:=U x B b z;exact⟨b0,N,J.trans (bZ.akj s d b)⟩
theorem Inv.qW{cx:Cx}(nv:Nat)(p:nv<=ah):∀(l:List Oper) {st:St},Inv cx st a w->Inv cx (Skm.qW nv l st) a w
 |[],st,i=>i
 | o::r,st,i=>by
  simp only[Skm.qW];split
  . rename_i d _ _;split
    . rename_i s _ _ _ _;cases q:Nat.ble nv s&&(Nat.blt d nv&&Nat.blt s 100000)with
      | false=>exact Inv.qW nv p r i
      | true =>
       simp only[qBa]at q;have h2:d<nv:=Nat.le_of_ble_eq_true q.2.1;have h1:s≠d:=by intro e;exact absurd (Nat.le_of_ble_eq_true q.1) (Nat.not_le_of_lt (by rw[e];exact h2))
       have u:s<100000:=Nat.le_of_ble_eq_true q.2.2;have z:ah=100000:=rfl;exact Inv.qW nv p r (i.Q8 h1 u (Nat.lt_of_lt_of_le h2 p))
    . exact Inv.qW nv p r i
  . exact Inv.qW nv p r i
theorem Inv.ame{cx:Cx}(i:Inv cx st a w){x:PV}{ss:List Nat}(hd:deep (look st.heap) (st.env.getD d .undef)=some (x,ss))(H:kC ss=true) :
    Inv cx {(st.strike ss)with env:=(st.strike ss).env.set d (.p x)} a w:=by
  by_cases q:d<st.env.length
  . obtain⟨M,β,L,ds,r,B,A,z,O⟩:=i;have G:st.env[d]?=some (st.env.getD d .undef):=by rw[qLb,qLd q];rfl
    obtain⟨N,J⟩:=LM (λs b h=>r.heap s b h) (λs b h=>h) hd (r.env d _ G);have l:=r.ake.freeze [] ss H J;rw[List.nil_append]at l
    have u:Rel _ _ _ (eG M β ss) β {(st.strike ss)with env:=(st.strike ss).env.set d (.p x)} a w:=
     ⟨by simpa using l.qK,λt v h=>by
       simp only at h;rw[List.getElem?_set]at h;split at h
       . rename_i I;split at h
         . cases h;subst I;exact .p _ _ N
         . cases h
       . exact l.env t v h,l.heap,l.own,l.inj,l.iU,l.oD,l.vW,l.keep,l.room,l.size,l.os,l.tape,l.output,l.glob⟩
    refine⟨eG M β ss,β,L,ds,r.aeW u,B,A.trans (ET st ss),z,O.step r u⟩
  . grind[List.getD,deep,PS,SQ]
theorem Inv.uS{cx:Cx}:∀(xs:List Nat) {st:St},Inv cx st a w->Inv cx (Skm.uS xs st) a w
 |[],st,i=>i
 | x::r,st,i=>by
  simp only[Skm.uS];split
  . rename_i v ss hd;cases l:kC ss with
    | false=>exact Inv.uS r i
    | true=>exact Inv.uS r (i.ame hd l)
  . exact Inv.uS r i
theorem Inv.freezes{cx:Cx}(ts:List Nat):∀(l:List Oper) {st:St},Inv cx st a w->Inv cx (Skm.freezes ts l st) a w
 |[],st,i=>i
 | o::r,st,i=>by
  simp only[Skm.freezes];split
  . exact Inv.freezes ts r (i.uS _)
  . exact Inv.freezes ts r i
theorem Inv.settle{cx:Cx}{F:Jc}(i:Inv cx st a w)(p:F.nvars<=ah)(l:List Oper):Inv cx (Skm.settle F l st) a w:=by exact(i.qW _ p l).freezes _ l
theorem KD{p:List Nat}:∀(l:List AV) (k i:Nat) (v:AV),(zS p k l)[i]?=some v->v=.undef\/l[i]?=some v
 |[],k,i,v,h=>by simp[zS]at h
 | u::r,k,0,v,h=>by grind[zS]
 | u::r,k,i+1,v,h=>by simp only[zS,List.getElem?_cons_succ]at h;simpa using KD r (k+1) i v h
theorem En{p:List Nat}:∀(l:List AV) (k:Nat),(zS p k l).length=l.length
 |[],_=>rfl
 | u::r,k=>by simp[zS,En r]
theorem Inv.forget{cx:Cx}(i:Inv cx st a w)(l sites:List Nat):Inv cx (st.forget l sites) a w:=by obtain⟨M,β,L,ds,r,z,u,q,p⟩:=i;exact Inv.strike ⟨M,β,L,ds,r.agf (En _ _) (λt v h=>KD _ _ _ _ h),z,u,q,p⟩ _
theorem Inv.dQ{cx:Cx}(i:Inv cx st a w)(F:Jc)(c:Code):Inv cx (Skm.dQ F c st) a w:=by
 unfold Skm.dQ;split
 . exact i
 . split
   . exact i
   . exact i.forget _ _
theorem Inv.ER{cx:Cx}(i:Inv cx st a w){α:Type}{b:Option bZ}(q:∀ on xs,b=some (.log on xs)->∃ ys,look cx.hp0 ah=some (.log on ys)){k:St->Option α}{x:α}(h:Skm.ER b st k=some x):∃ st',k st'=some x/\Inv cx st' a w /\
    ∀ on xs,look st'.heap ah=some (.log on xs)->b=some (.log on xs):=by
  unfold Skm.ER at h;split at h
  . rename_i B xs0 X;split at h
    . rename_i on xs;refine⟨_,h,?_,λon' xs' he=>?_⟩
      . obtain⟨ys,W⟩:=q on xs rfl;obtain⟨M,β,L,ds,r,e1,Z,e3,fx⟩:=i;have z:∀ s,look (put st.heap ah (.log on xs)) s=if s=ah then some (.log on xs)else look st.heap s:=λs=>eH _ _ _ _
        have V:on=B:=by obtain⟨b0,Y,g2⟩:=Z ah (qNr _) _ X;rw[W]at Y;cases Y;exact g2
        have A:∀{v:AV} {c:Value},AR w M β (look st.heap) v c->AR w M β (look (put st.heap ah (.log on xs))) v c:=by
         intro v c S;refine S.mono (λb q=>⟨q,rfl⟩) λs blk _ l=>?_;by_cases e:s=ah
         . subst e;rw[X]at l;cases l;exact⟨.log on xs,by rw[z,if_pos rfl],V.symm,rfl,λ_ _ _ _ h=>h⟩
         . exact⟨blk,by rw[z,if_neg e];exact l,Like.refl _,rfl,λ_ _ _ _ h=>h⟩
        have u:∀ s,(look (put st.heap ah (.log on xs)) s).isSome=true->(look st.heap s).isSome=true:=by grind
        refine⟨M,β,L,ds,⟨r.qK,λt v S=>A (r.env t v S),λs blk l=>?_,λs b o l q=>r.own s b o (u s l) q,λs s' b o o' l U=>r.inj s s' b o o' (u s l) (u s' U),r.iU,r.oD,r.vW,r.keep,r.room,r.size,r.os,r.tape,r.output,r.glob⟩,e1,λs l blk q=>?_,e3,fx.less (λp hp=>rfl) λ_ ⟨s,o,l,q⟩=>⟨s,o,u s l,q⟩⟩
        . have l:look (put st.heap ah (.log on xs)) s=some blk:=l;rw[z]at l;by_cases e:s=ah
          . rw[if_pos e]at l;cases l;exact .log _ _
          . rw[if_neg e]at l;cases r.heap s blk l with
            | box cs b o C e fr O N J I H G=>exact .box cs b o C e fr O N J I H λj c hj=>A (G j c hj)
            | lU a ks=>exact .lU a ks
            | log on ys=>exact .log on ys
            | arr a ks xs b o C e fr O N J I H G=>exact .arr a ks xs b o C e fr O N J I H G
        . have q:look (put st.heap ah (.log on xs)) s=some blk:=q;rw[z]at q;by_cases e:s=ah
          . rw[if_pos e]at q;cases q;subst e;exact⟨_,W,rfl⟩
          . rw[if_neg e]at q;exact Z s l blk q
      grind[eH]
    . cases h
  . grind
def Ex.ZM:Ex->Exit
 | .normal=>.normal
 | .exit id=>.exit id
 | .ret=>.ret
end
end
section
variable {c:Code}
section scopes
variable {E:Fence} {n:Nat} {P:Program} {Q:Exit->Act->World->Prop} {b:Frame} {a:Act} {k:List Item} {cs:List Frame} {w:World}
theorem xO:step P (lone (b.atR a (.code (.scope c)::k)) cs w)=.next (lone (b.atR a (.code c::.inScope c::k)) cs w):=
 step_lone_go (by simp[stepG,stepG.exec,Frame.atR])
theorem Ya:step P (lone (b.atR a (.inScope c::k)) cs w)=.next (lone (b.atR a k) cs w):=
 step_lone_go (by simp[stepG,stepG.exec,Frame.atR])
theorem ae1(h:c.wpIn E n P (Exit.noGoto Q) a w):(Code.scope c).wpIn E n P Q a w:=by
 intro b k cs A I G;have z:(lone (b.atR a (.code (.scope c)::k)) cs w).fenced P E:=fenced_calm I G rfl;obtain⟨e,r,q,u,p⟩:=h b (.inScope c::k) cs A I G;cases e with
 | normal=>exact⟨.normal,r,q,u,.head z xO (StepsIn.trans p (.one (fenced_calm I G rfl) Ya))⟩
 | exit id =>
  have J:exitTo id (.inScope c::k)=exitTo id k:=by simp[exitTo]
  exact⟨.exit id,r,q,u,λN H=>.head z xO (p.1 N (by rw[J];exact H)),
   λB H=>let ⟨k₁,h1,h2⟩:=p.2 B (by rw[J];exact H);⟨k₁,h1,.head z xO h2⟩⟩
 | goto l=>exact u.elim
 | ret=>exact⟨_,r,q,u,.of_steps (.one z xO) p⟩
 | panic O=>exact⟨_,r,q,u,.of_steps (.one z xO) p⟩
 | outgrown=>exact⟨_,r,q,u,.of_steps (.one z xO) p⟩
end scopes
section
variable {α ι:Type} (T:Tab) (C:aH) (F:FI) (n:Option Nat)
noncomputable def XD(z:Code)(k:Ex->St->Option α):Ex->St->Option α:=λex st' =>
 match ex with
 | .normal=>dH T C F n z (dQ F.cfg z st') k
 | .exit id=>k (.exit id) st'
 | .ret=>k .ret st'
def IJ(id:Nat)(k:Ex->St->Option α):Ex->St->Option α:=λex st' =>
 match ex with
 | .normal=>k .normal st'
 | .exit i=>bif i==id then k .normal st' else k (.exit i) st'
 | .ret=>k .ret st'
noncomputable def Zc(c:Code)(m:Nat)(k:Ex->St->Option α):Ex->St->Option α:=λex st' =>
 match ex with
 | .normal=>jZ (dQ F.cfg c st') λst'=>yV (dQ F.cfg c) (λst' k'=>dH T C F n c st' k') m st' k
 | .exit id=>k (.exit id) st'
 | .ret=>k .ret st'
theorem EY(y z:Code)(st:St)(k:Ex->St->Option α):dH T C F n (.seq y z) st k=dH T C F n y st (XD T C F n z k):=rfl
theorem Nj(id:Nat)(c:Code)(st:St)(k:Ex->St->Option α):dH T C F n (.block id c) st k=dH T C F n c st (IJ id k):=rfl
theorem Tv(c:Code)(m:Nat)(st:St)(k:Ex->St->Option α):yV (dQ F.cfg c) (λst' l=>dH T C F n c st' l) (m+1) st k=dH T C F n c st (Zc T C F n c m k):=rfl
theorem Ol{fg:St->St}{b:St->(Ex->St->Option α)->Option α}{q:Option Nat}{st:St}{k:Ex->St->Option α}{x:α}(h:SS fg b q st k=some x):∃ j,(∀ i,q=some i->j<=i)/\yV fg b j st k=some x:=by
 cases q with
 | some i=>exact⟨i,λ_ h=>by cases h;exact qNr i,h⟩
 | none =>simp only[SS,lim]at h;split at h;all_goals grind
structure aa1 (P:Program) (m:Nat) (KP:(Ex->St->Option α)->Prop) (rd:ι->Option Nat) (Fit:ι->Oper->Prop) (I:ι->α->St->Act->World->Prop):Prop where
 reg:∀ (i:ι) (id:Nat) (ops:Array Oper) (draw:Bool) (st:St) (a:Act) (w:World) (k:Ex->St->Option α) (x:α) (Q:Exit->Act->World->Prop),KP k->dH T C F n (.region id ops draw) st k=some x ->
  gy T F.hides (.region id ops draw)=true->(∀ o∈opsOf (.region id ops draw),Fit i o)->I i x st a w ->
  (∀ x' st' a' w',k .normal st'=some x'->I i x' st' a' w'->Q .normal a' w')->(Code.region id ops draw).wpIn (FW (rd i)) m P Q a w
 forget:∀ (i:ι) (x:α) (st:St) (a:Act) (w:World) (c:Code),I i x st a w->I i x (dQ F.cfg c st) a w
 cond:∀ (i:ι) (x:α) (st:St) (a:Act) (w:World) (c:Operand) (b:Bool),I i x st a w->dP st.env c=.p (.bool b)->a.eval c=.bool b
 kseq:∀ (z:Code) (k:Ex->St->Option α),KP k->KP (XD T C F n z k)
 kblock:∀ (id:Nat) (k:Ex->St->Option α),KP k->KP (IJ id k)
 kloop:∀ (c:Code) (j:Nat) (k:Ex->St->Option α),KP k->KP (Zc T C F n c j k)
def ae2(ng:Bool)(P:Program)(m:Nat)(KP:(Ex->St->Option α)->Prop)(rd:ι->Option Nat)(Fit:ι->Oper->Prop)(I:ι->α->St->Act->World->Prop)(c:Code):Prop:=
 ∀(i:ι) (st:St) (a:Act) (w:World) (k:Ex->St->Option α) (x:α) (Q:Exit->Act->World->Prop),KP k->dH T C F n c st k=some x->gy T F.hides c=true->(ng=true->gQ c=true)->(∀ o∈opsOf c,Fit i o)->I i x st a w ->
  (∀ ex x' st' a' w',k ex st'=some x'->I i x' st' a' w'->Q ex.ZM a' w')->c.wpIn (FW (rd i)) m P Q a w
variable {T C F n}
theorem oJ{ng:Bool}{P:Program}{m:Nat}{KP:(Ex->St->Option α)->Prop}{rd:ι->Option Nat}{Fit:ι->Oper->Prop}{I:ι->α->St->Act->World->Prop}(S:aa1 T C F n P m KP rd Fit I)
    (O:ng=false->∀ f X y z,ae2 T C F n ng P m KP rd Fit I y->ae2 T C F n ng P m KP rd Fit I z->ae2 T C F n ng P m KP rd Fit I (.rangeFunc f X y z)):∀ c:Code,ae2 T C F n ng P m KP rd Fit I c
  | .skip=>λ_ st a w _ x _ _ h _ _ _ i l=>wpIn_skip (l .normal x st a w h i)
  | .region id ops draw=>λi st a w k x Q J h hd _ G B l=>S.reg i id ops draw st a w k x Q J h hd G B λu st' a' w' h1 h2=>l .normal u st' a' w' h1 h2
  | .seq y z=>λi st a w k x Q J h hd r G B l=>by
   rw[EY]at h;simp only[gy,qBa]at hd;have N:ng=true->gQ y=true/\gQ z=true:=λe=>by have:=r e;simpa[gQ] using this
   refine wpIn_seq (oJ S O y i st a w _ x _ (S.kseq z k J) h hd.1 (λe=>(N e).1) (λo H=>G o (by simp[opsOf,H])) B λU u st' a' w' h1 A=>?_);cases U with
   | normal=>exact oJ S O z i _ a' w' k u Q J h1 hd.2 (λe=>(N e).2) (λo H=>G o (by simp[opsOf,H])) (S.forget _ _ _ _ _ _ A) l
   | exit id=>exact l (.exit id) u st' a' w' h1 A
   | ret=>exact l .ret u st' a' w' h1 A
  | .cond c y z=>λi st a w k x Q J h hd r G B l=>by
   simp only[dH]at h;simp only[gy,qBa]at hd;have N:ng=true->gQ y=true/\gQ z=true:=λe=>by have:=r e;simpa[gQ] using this
   cases V:Skm.dP st.env c with
   | p v =>
    cases v with
    | bool b =>
     have hc:=S.cond i x st a w c b B V;rw[V]at h;simp only at h;refine wpIn_cond hc ?_;cases b with
     | true=>exact oJ S O y i st a w k x Q J h hd.1 (λe=>(N e).1) (λo H=>G o (by simp[opsOf,H])) B l
     | false=>exact oJ S O z i st a w k x Q J h hd.2 (λe=>(N e).2) (λo H=>G o (by simp[opsOf,H])) B l
    | _=>rw[V]at h;simp at h
   | _=>rw[V]at h;simp at h
  | .block id c=>λi st a w k x Q J h hd r G B l=>by
   rw[Nj]at h;simp only[gy]at hd;refine wpIn_block (oJ S O c i st a w _ x _ (S.kblock id k J) h hd (λe=>by simpa[gQ] using r e) (λo H=>G o (by simpa[opsOf] using H)) B λU u st' a' w' h1 A=>?_);cases U with
   | normal=>exact l .normal u st' a' w' h1 A
   | exit j =>
    simp only[Ex.ZM,Exit.inBlock];simp only[IJ]at h1;by_cases W:j=id
    . rw[if_pos W];have:(j==id)=true:=by simpa using W
      simp only[this,qCt]at h1;exact l .normal u st' a' w' h1 A
    . rw[if_neg W];have:(j==id)=false:=by simpa using W
      simp only[this,qCf]at h1;exact l (.exit j) u st' a' w' h1 A
   | ret=>exact l .ret u st' a' w' h1 A
  | .loop c=>λi st a w k x Q J h hd r G B l=>by
   simp only[dH]at h;simp only[gy]at hd;obtain⟨q,_,h⟩:=Ol h;refine wpIn_loop_rounds q ?_;have Y:∀(j:Nat) (st:St) (a:Act) (w:World) (x:α),yV (Skm.dQ F.cfg c) (λst' k'=>dH T C F n c st' k') j st k=some x->I i x st a w->Code.roundsIn (FW (rd i)) m P c Q j a w:=by
    intro j;induction j with
    | zero=>intro st a w x h;simp[yV]at h
    | succ j ih =>
     intro st a w x h B;rw[Tv]at h;rw[roundsIn_succ];refine oJ S O c i st a w _ x _ (S.kloop c j k J) h hd (λe=>by simpa[gQ] using r e) (λo H=>G o (by simpa[opsOf] using H)) B λU u st' a' w' h1 A=>?_;cases U with
     | normal =>simp only[Zc,dS]at h1;exact ih _ a' w' u h1 (S.forget _ _ _ _ _ _ A)
     | exit id=>exact l (.exit id) u st' a' w' h1 A
     | ret=>exact l .ret u st' a' w' h1 A
   exact Y q _ a w x h (S.forget _ _ _ _ _ _ B)
  | .exit id=>λ_ st a w _ x _ _ h _ _ _ i l=>wpIn_exit (l (.exit id) x st a w h i)
  | .ret=>λ_ st a w _ x _ _ h _ _ _ i l=>wpIn_ret (l .ret x st a w h i)
  | .label _=>λ_ st a w _ x _ _ h _ _ _ i l=>wpIn_label (l .normal x st a w h i)
  | .rangeFunc f X y z=>by
   cases Z:ng with
   | false=>exact Z▸O Z f X y z (oJ S O y) (oJ S O z)
   | true=>exact λ_ st a w _ x _ _ _ _ r _ _ _=>by have:=r rfl;simp[gQ]at this
  | .scope c=>λi st a w k x Q J h hd r G B l=>by
   have h:dH T C F n c st k=some x:=h;simp only[gy]at hd;refine ae1 (oJ S O c i st a w k x _ J h hd (λe=>by simpa[gQ] using r e) (λo H=>G o (by simpa[opsOf] using H)) B λU u st' a' w' h1 A=>?_);cases U with
   | normal=>exact l .normal u st' a' w' h1 A
   | exit j=>exact l (.exit j) u st' a' w' h1 A
   | ret=>exact l .ret u st' a' w' h1 A
  | .goto ..=>λ_ st a w _ x _ _ h _ _ _ i l=>by simp[dH]at h
  | .refuse ..=>λ_ st a w _ x _ _ h _ _ _ i l=>by simp[dH]at h
end
section
variable {P:Program} {T:Tab} {C:aH} {F:FI} {n m:Nat} {α:Type}
abbrev CxN(gl:Option (List (Nat × Obj))):={cx:Cx // BO cx.hp0/\cx.w0.gl=gl}
theorem SA(ok:fB P T){gl:Option (List (Nat × Obj))}(u:jT P T gl C)(S:F.cfg.nvars<=ah)(W:α):aa1 T C F n P m (λ_:Ex->St->Option α=>True) (λi:CxN gl=>i.1.rd) (λi=>EW i.1) (λi x st a w=>x=W/\Inv i.1 st a w) where
 reg:=by
  intro i id ops draw st a w k x Q _ h hd hw ⟨J,A⟩ N;have p:∀ o∈ops.toList,EW i.1 o:=hw;have u:jT P T i.1.w0.gl C:=by rw[i.2.2];exact u
  have fin:∀ st' a' w',(jZ (settle F.cfg ops.toList st') λst'=>k .normal st')=some x->Inv i.1 st' a' w'->Q .normal a' w':=by intro st' a' w' h1 q;rw[dS]at h1;exact N x _ a' w' h1 ⟨J,q.settle S _⟩
  simp only[dH]at h;cases draw with
  | false =>exact ado ok u i.2.1 h p A fin
  | true =>
   simp only[gy]at hd;cases U:dZ F.hides id with
   | none=>rw[U]at h;cases h
   | some hid =>
    rw[U]at h hd;simp only[qBa]at hd;simp only[dS]at h;have H:=A.strike (present st.heap (G7 ops.toList ops.toList));have back:∀{B:St->Option α} {st':St} {a':Act} {w':World},Skm.ER (look (st.strike (present st.heap (G7 ops.toList ops.toList))).heap ah) st' B=some x->Inv i.1 st' a' w'->∃ l,B l=some x/\Inv i.1 l a' w':=by
     intro B st' a' w' h1 q;obtain⟨l,h2,z,_⟩:=q.ER (λon xs he=>by
      have G:=H;obtain⟨M,β,L,ds,r,e1,e2,e3,fx⟩:=G;obtain⟨b0,g1,O⟩:=e2 ah (qNr _) _ he;cases b0 with
      | box=>exact O.elim
      | arr=>exact O.elim
      | log o ys=>cases (show o=on from O);exact⟨ys,g1⟩) h1
     grind
    cases I:aht F.cfg.ys ops.toList with
    | none =>rw[I]at h;refine adn ok u hd.1 hd.2 h p H λst' a' w' h1 q=>?_;obtain⟨l,h2,z⟩:=back h1 q;exact N x _ a' w' h2 ⟨J,z.settle S _⟩
    | some jc =>rw[I]at h;refine agq ok u hd.1 hd.2 (XC I) h p H λst' a' w' h1 q _=>?_;obtain⟨l,h2,z⟩:=back h1 q;exact Xv ok u i.2.1 (λY a3 X h3 Z=>N x _ a3 X h3 ⟨J,Z.settle S _⟩) (ops.toList.drop jc) jc l a' w' (λo ho=>p o (List.mem_of_mem_drop ho)) h2 z
 forget:=λi _ st a w c h=>⟨h.1,h.2.dQ _ _⟩
 cond:=by intro i x st a w c b A hv;obtain⟨_,M,β,L,ds,r,_⟩:=A;have V:=r.dP c;rw[hv]at V;exact V.IC
 kseq:=λ_ _ _=>trivial
 kblock:=λ_ _ _=>trivial
 kloop:=λ_ _ _ _=>trivial
end
end
end Go.Skm
