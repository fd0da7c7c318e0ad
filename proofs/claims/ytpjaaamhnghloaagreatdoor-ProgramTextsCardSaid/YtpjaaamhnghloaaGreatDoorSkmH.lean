import Derived.Test.YtpjaaamhnghloaaGreatDoorSkmF
import Derived.Below
import Derived.Test.YtpjaaamhnghloaaGreatDoorSkmG
import Derived.Handed
import Derived.Lib.LaidTab
import Derived.Stop.LaidErr
set_option linter.all false
namespace Go.Skm
open Go.RowKit
variable {P:Program}{T:Tab}{gl:Option (List (Nat × Obj))}{f:Nat}{x:PV}{c:Value}{t:TypeId}{h:Nat -> Option aH}
abbrev uw:=List AV->List aH->Option (List AV × List aH)
def BQ(P:Program)(T:Tab)(gl:Option (List (Nat × Obj)))(f:Nat)(s:uw):Prop:=
 ∀fi args bl rs l9,aX T.funcs f=some fi->s args bl=some (rs,l9)->(∃c,fi.fn.body=some c)/\(∀b∈bl,dI b=true) /\
  ∀(w:World) (M:Nat->Prop) (β:Nat->Option (Nat × Nat)) (ak:Array Value),(∀p∈gl.getD [],M p.1/\w.heap[p.1]?=some p.2)->ni w M β args bl ak ->
   Calls P f ak w λe w'=>∃cs ps M',e=.returned (qx cs)/\uP gl T fi w M β bl rs l9 w' M' cs ps
def NY(l:List (Nat × uw)):Ext:=λf=>aX l f
theorem ab5(h:∀w:World,(∀p∈gl.getD [],w.heap[p.1]?=some p.2)->T.glob gl.isSome w):rO P T gl (NY []):=⟨h,λ_ _ _ _ _ _ _ _ _ h=>(by cases h),λ_ _ _ _ _ _ _ _ h=>(by cases h)⟩
def ajX(P:Program)(T:Tab)(gl:Option (List (Nat × Obj)))(f:Nat)(s:uw):Prop:=
 ∀fi args bl r,aX T.funcs f=some fi->s args bl=some r->∃caps,args=.AB::caps.map .p/\bl=[.log true []]/\P.funcs[f]?=some fi.fn/\OQ P gl f caps (rP r.2)
theorem YU{s:uw}{l:List (Nat × uw)}(o:(fF T f).gext=false->BQ P T gl f s)(n:(fF T f).gext=true->ajX P T gl f s)(j:rO P T gl (NY l)):rO P T gl (NY ((f,s)::l)):=by
 refine⟨j.1,?_,?_⟩
 .intro g fi i args bl k m d b a h;unfold NY at a;rw[aX]at a;by_cases e:f=g
  .subst e;rw[beq_self_eq_true,qCt]at a;cases a;exact o (by unfold fF;rw[d];exact b) fi args bl k m d h
  .rw[show(f==g)=false from by simpa using e,qCf]at a;exact j.2.1 g fi i args bl k m d b a h
 .intro g fi i args bl r d b a h;unfold NY at a;rw[aX]at a;by_cases e:f=g
  .subst e;rw[beq_self_eq_true,qCt]at a;cases a;exact n (by unfold fF;rw[d];exact b) fi args bl r d h
  .rw[show(f==g)=false from by simpa using e,qCf]at a;exact j.2.2 g fi i args bl r d b a h
theorem lW{s:uw}{l:List (Nat × uw)}(d:(fF T f).gext=false)(b:BQ P T gl f s)(a:rO P T gl (NY l)):rO P T gl (NY ((f,s)::l)):=
 YU (λ_=>b) (λh=>by rw[d]at h;cases h) a
section
variable {P:Program}{T:Tab}{gl:Option (List (Nat × Obj))}{fi:FI}{w w':World}{M:Nat->Prop}{β:Nat->Option (Nat × Nat)}{ak:Array Value}
theorem Ap(h:ni w M β [.p x] [] ak):∃v,ak=#[v]/\VR w M x v:=by
 have b:=h.args 0 _ rfl;have a:ak.size=1:=h.num;refine⟨ak[0],?_,?_⟩
 .apply Array.ext
  .simpa using a
  .intro i k j;have:i=0:=ω
   subst this;rfl
 .have e:ak.getD 0 undef=ak[0]:=by simp[Array.getD,a]
  rw[e]at b;cases b with
  |p _ _ d=>exact d
theorem adx{y:PV}(h:ni w M β [.p x,.p y] [] ak):∃v u,ak=#[v,u]/\VR w M x v/\VR w M y u:=by
 have e:=h.args 0 _ rfl;have d:=h.args 1 _ rfl;have b:ak.size=2:=h.num;have k:ak.getD 0 undef=ak[0]:=by simp[Array.getD,b]
 have j:ak.getD 1 undef=ak[1]:=by simp[Array.getD,b]
 rw[k]at e;rw[j]at d;refine⟨ak[0],ak[1],?_,?_,?_⟩
 .apply Array.ext
  .simpa using b
  .intro i m l;have:i=0\/i=1:=ω
   rcases this with rfl|rfl<;>rfl
 .cases e with
  |p _ _ a=>exact a
 .cases d with
  |p _ _ a=>exact a
theorem af9{k:IntKind}{n:Int}(h:VR w M (.int k n) c):c=.int k n:=by cases h;rfl
theorem Ol{s:ByteArray}(h:VR w M (.str s) c):c=.string s:=by cases h;rfl
theorem GN{args:List AV}(d:ni w M β args [] ak)(k:Below w.heap.size w w')(l:gu gl w.drawn w'.drawn){m:List AV}{cs:List Value}{ps:List (Option (Nat × Nat))}
    (a:∀M:Nat->Prop,qM T w' M β (look (dK 0 [])) fi.cfg.rets fi.fn.resultTypes.toList m cs ps)(j:∀b o,some (b,o)∈ps->b<w'.heap.size/\w.heap.size<=b):uP gl T fi w M β [] m [] w' M cs ps:=by
  refine⟨a M,λb o h=>⟨λq=>?_,j b o h⟩,λ_ _=>⟨λ_=>False,λb h=>h.elim,a _⟩,λb h=>h,λb h=>.inl h,λb h=>Nat.lt_of_lt_of_le (d.dJ b h) k.size,λb h _=>k.block b h,?_,k.size,k.os,k.tape,k.output,l,rfl,?_⟩
  .have:=d.dJ b q;have:=(j b o h).2;omega
  .intro b n h p;obtain⟨C,e,fr,u,s,r⟩:=p;exact⟨C,e,fr,by rw[k.block b h];exact u,s,r⟩
  .intro i b0 b1 h;simp at h
theorem YV{w:World}(o:Obj):Below w.heap.size w (w.alloc o):=(Below.refl _ _).alloc (qNr _) o
theorem RD{u:TypeId}{v:PV}{d:Value}(m:fi.cfg.rets=[])(k:fi.fn.resultTypes=#[t,u])(l:aA (ay T t).1 (ay T t).2 v=true)(j:VR w' M v c)
    (e:aA (ay T u).1 (ay T u).2 x=true)(a:VR w' M x d):qM T w' M β h fi.cfg.rets fi.fn.resultTypes.toList [.p v,.p x] [c,d] [none,none]:=by
  rw[m,k];exact .cons _ _ _ _ _ _ _ _ _ (.deep _ _ _ l j) (.cons _ _ _ _ _ _ _ _ _ (.deep _ _ _ e a) (.nil _) (λb o i h=>by cases h)) (λb o i h=>by cases h)
theorem aaA{e:TypeId}{k:Kd}{xs:List PV}{vs:List Value}{el:TypeId}{n:Nat}{cap:Nat}(A:fi.cfg.rets=[.fresh])(z:fi.fn.resultTypes=#[t])(y:und T t=some (.slice e))(d:ay T e=(false,[k]))
    (s:vs.length=xs.length)(m:xs.length<=cap)(D:cap<=vs.length)(r:w'.heap[n]?=some (.cells vs.toArray el (0,0)))(B:∀x∈xs,kindOk k x=true)
    (u:∀(i:Nat) x c,xs[i]?=some x->vs[i]?=some c->x.cells=[x]/\VR w' M x c) :
    qM T w' M β h fi.cfg.rets fi.fn.resultTypes.toList [.fresh false [k] xs] [.slice (some ⟨n,0,none⟩) xs.length cap] [some (n,0)]:=by
  rw[A,z];have J:(ay T e).1=false:=by rw[d]
  have I:(ay T e).2=[k]:=by rw[d]
  have hopen:Open vs.toArray (0,0):=.inl rfl;refine .cons _ _ _ _ _ _ _ _ _ ?_ (.nil _) (λb o K _ h=>by cases h);have key:=rW.fresh (T:=T) (w:=w') (M:=M) (β:=β) (h:=h) t e xs (.slice (some ⟨n,0,none⟩) xs.length cap) (some (n,0)) y;rw[J,I]at key;refine key ?_ ?_
  .by_cases G:xs=[]
   .subst G;exact .gJ _ _
   refine .arr false [k] xs n 0 vs.toArray el (0,0) rfl r (by simp;omega) hopen (λx p=>by simpa[aA] using B x p) λi x j c p q=>?_;have hi:=(qLa.1 p).1;have l:i<vs.length:=ω
   obtain⟨F,E⟩:=u i x vs[i] p (qLd l);rw[F]at q;have C:j=0:=by have:=(qLa.1 q).1;simpa using this
   subst C;simp only[List.getElem?_cons_zero,qOa]at q;subst q;have:vs.toArray.getD (0+i*[k].length+0) undef=vs[i]:=by simp[Array.getD,l]
   rw[this];exact E
  .have a:=AR.slice (w:=w') (M:=M) (β:=λ_=>some (n,0)) (h:=λ_=>some (.arr false [k] xs)) 0 0 xs.length false [k] xs n 0 cap rfl σ rfl m (.mk r (by simp;omega) hopen);simpa using a
end
end Go.Skm
namespace Go
variable {H:Type}{enc:TypeId × Value->H}
theorem Ei {a : Assume}{C : Checked}{os : Os}{f : FuncId}{fn : Func}{s : ChangeSpec}{conds : List PathCond}{apart fresh handsOn again : Bool}{X : World -> Array Value -> Prop}
    (hX:∀(w w':World) (args:Array Value),w.heap=w'.heap->X w args->X w' args)
    (own:ownKnob C.prog.godebug=none) (started:os.Started) (noInit:C.prog.inits.idxOf? f=none) (hfn:C.prog.funcs[f]?=some fn)
    (witness:∃(w:World) (tape:Tape) (i:Input),w.os=os/\(w.forCall tape i).Shaped C.prog/\i.vars=[]/\Input.okWide C.prog (w.forCall tape i) .any w.heap.size f i /\
      ((s.pre enc C.prog fn conds apart (w.forCall tape i).memory i.args/\X (w.forCall tape i).memory i.args)/\sizedMet enc C.prog fn (OpenSpec.ofChange s) apart (w.forCall tape i).memory i.args)/\a.holds C.prog (lone (Frame.enter C.prog f i.args .normal) [] (w.forCall tape i)))
    (contract:∀(W:World) (base:Nat) (args:Array Value) (ds gs:List (DataW H)) (before:List MemPlace),
      (∀(j:Nat) t v,fn.params[j]?=some t->args[j]?=some v->Value.okWide C.prog W .any base t v) ->
      DataW.Whole enc C.prog fn.params.toList s.vars apart W args.toList ds gs before->X W args->W.ShapedOpen C.prog ->
      Calls C.prog f args W λe W'=>∃v,e=.returned v/\s.post enc C.prog fn apart fresh handsOn again W args v W') :
    ReturnsInHanded a C os f .any (λw args=>(s.pre enc C.prog fn conds apart w args/\X w args)/\sizedMet enc C.prog fn (OpenSpec.ofChange s) apart w args) (s.post enc C.prog fn apart fresh handsOn again):=by
  refine returnsInHanded_of_calls own started noInit witness ?_
  intro w tape i _ hsh _ hok hpre _
  obtain⟨_,_,_,fn',hfn',_,_,_,_,hval⟩:=hok
  have e:fn'=fn:=Option.some.inj (hfn'.symm.trans hfn)
  subst e
  obtain⟨⟨⟨ds,gs,before,hw,_⟩,hx⟩,_⟩:=hpre
  have hw':=DataW.Whole.of_heap (w':=w.forCall tape i) (by rfl) hw
  refine(contract (w.forCall tape i) w.heap.size i.args ds gs before hval hw' (hX _ _ _ (by rfl) hx) hsh).mono λe W' ⟨v,he,hp⟩=>?_
  subst he
  exact ChangeSpec.post_blind hp
end Go
namespace Go.Skm
section
open Go.ChangeShapes Go.WideShapes
variable {W w:World}{gs:List Nat}{g:Nat}{v:Value}{P:Program}{name:String}{vs:List Value}{xs:List PV}{t:TypeId}{ts:List TypeId}
def RP(W:World)(gs:List Nat):List (Nat × Obj):=gs.filterMap λg=>(W.heap[g]?).map λo=>(g,o)
theorem agK:∀p∈RP W gs,p.1<W.heap.size/\W.heap[p.1]?=some p.2:=by intro p hp;obtain⟨g,_,b⟩:=List.mem_filterMap.1 hp;obtain⟨o,a,rfl⟩:=Option.map_eq_some_iff.1 b;exact⟨(qAa.1 a).1,a⟩
theorem UU(h:∀p∈RP W gs,w.heap[p.1]?=some p.2)(b:g∈gs){o:Obj}(a:W.heap[g]?=some o):w.heap[g]?=W.heap[g]?:=by rw[a];exact h (g,o) (List.mem_filterMap.2 ⟨g,b,by rw[a];rfl⟩)
theorem KR(h:∀p∈RP W gs,w.heap[p.1]?=some p.2){i:Nat}(d:g∈gs)(a:W.cell? ⟨g,i,none⟩=some v):w.cell? ⟨g,i,none⟩=some v:=by
 cases b:W.heap[g]? with
 |none=>simp[World.cell?,b]at a
 |some o=>have e:=UU h d b;rw[<-a];simp only[World.cell?,e]
theorem aed(h:∀p∈RP W gs,w.heap[p.1]?=some p.2)(e:g∈gs)(d:P.globalNamed name=some g){cs:Array Value}(a:W.var? P name=some cs):w.var? P name=some cs:=by
 unfold World.var? at a ⊢;rw[d,qOb]at a ⊢;cases b:W.heap[g]? with
 |none=>simp[b]at a
 |some o=>rw[UU h e b];exact a
theorem YW(b:P.globalNamed name=some g)(a:W.var? P name=some #[v]):W.cell? ⟨g,0,none⟩=some v:=by simpa using World.var?_cell b a 0
section
variable {P:Program}{w:World}{M:Nat->Prop}
theorem aem(h:BN P w M [] vs xs):xs=[]:=by cases h;rfl
theorem TL(h:BN P w M (t::ts) vs xs) :
    ∃x a v b,xs=x::a/\VR w M x v/\aA (aU P 8 t).1 (aU P 8 t).2 x=true/\x.wf/\BN P w M ts b a:=by
  cases h with
  |cons _ _ v b x a i e d h4=>exact⟨x,a,v,b,rfl,i,e,d,h4⟩
theorem arg_str(a:aU P 8 t=(false,[.str])){x:PV}(h:aA (aU P 8 t).1 (aU P 8 t).2 x=true):∃s,x=.str s:=by rw[a]at h;cases x<;>simp[aA,kindOk]at h;exact⟨_,rfl⟩
end
section
variable {H:Type}{enc:TypeId × Value->H}{P:Program}
theorem NS{w:World}{base:Nat}{i:Nat->Bool}{a:Bool}:∀{ts:List TypeId}{vs:List Value}{b:List (DataW H)}{ps:List MemPlace},DataW.TrodAll enc P w base i a ts vs b ps->b.length=ts.length
 |[],_,_,_,h=>by obtain⟨_,rfl,_⟩:=trodAll_nil h;rfl
 |t::ts,_,_,_,h=>by obtain⟨v,e,d,k,p,q,_,rfl,_,_,j⟩:=trodAll_cons h;rw[qLl,qLl,NS j]
theorem ab9{a:List String}{d:Bool}{b gs:List (DataW H)}{before:List MemPlace}(h:DataW.Whole enc P ts a d W vs b gs before):b.length=ts.length:=by obtain⟨p,q,hA,_⟩:=h;exact NS hA
end
end
section
theorem FV{P:Program}{W:World}:∀(k:Nat) {l:List (String × DataW Unit)},laidMet P l W->laidMet P (l.drop k) W
 |0,_,h=>h
 |_k+1,[],h=>h
 |k+1,_x::_l,h=>FV k (laidMet.tail h)
theorem Pq{P:Program}{W:World}{n nm:String}{d:DataW Unit}{r:List (String × DataW Unit)}(h:laidMet P ((n,.iface nm d)::r) W){g:Nat}{ti:TypeId}{m:Array (String × TypeId)}
    (k:P.globalNamed n=some g)(o:(P.globals[g]?).map (·.type)=some ti)(hi:P.underlying ti=some (.interface m)):∃u v,W.cell? ⟨g,0,none⟩=some (.iface u v):=by
  obtain⟨ps,⟨y,s,cs,l,p,q,i,b,a,hd,_,_⟩,_⟩:=h;obtain rfl:=Option.some.inj (k.symm.trans i);obtain rfl:=Option.some.inj (o.symm.trans b);obtain⟨_,u,v,j,_,_⟩:=iface_of_trod hi hd;refine⟨u,v,?_⟩;have e:cs=#[.iface u v]:=by rw[<-Array.toArray_toList (xs:=cs),j]
  rw[e]at a;exact YW k a
end
end Go.Skm
