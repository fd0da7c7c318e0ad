import Derived.Test.YtpjaaamhnghloaaGreatDoorSkmB
import Derived.Laws.BytesArg
import Derived.OrdersIn
import Derived.TacticsIn
import Derived.OwnWalkIn
set_option linter.all false
namespace Go.Skm
section
section
variable {P:Program}{T:Tab}{w0:Base}{Pr M0 M:Nat->Prop}{β:Nat->Option (Nat × Nat)}{st:St}{a:Act}{w:World}{d:Option Nat}
end
end
section
variable {h:Nat -> Option aH}{dst src:TypeId}{x:AV}{c:Value}
section
variable {P:Program}{T:Tab}{w0:Base}{Pr M0 M:Nat->Prop}{β:Nat->Option (Nat × Nat)}{st:St}{a:Act}{w:World}{d:Option Nat}
theorem V7{fn:Fn}{first b:List AV}{r j:Array Value}(u:lq w M β h first r.toList)(m:lq w M β h b j.toList) :
    aj P w M β h (CZ fn first b) (Instr.makeFunc fn r j):=by
  unfold CZ;split
  .rename_i f;have z:r=#[]:=by have:=u.1;grind
   subst z;split
   .rename_i vs hp;have y:=uQ hp;subst y;refine aj.ret (c:=.func (.func f) #[] j) (.p _ _ (.fn f vs j (by have:=m.1;simpa using this.symm) λi c hi=>?_)) (by simp[Instr.makeFunc]);have l:i<j.size:=by have:=m.1;grind
    have:=m.2 i (.p c) (j.getD i undef) (by simp[hi]) (by simpa using getD_some l);cases this;assumption
   .refine aj.chk λ_=>aj.ret (c:=.func (.func f) #[] j) (.fn f b j (by have:=m.1;simpa using this.symm) λi c hi=>?_) (by simp[Instr.makeFunc]);have l:i<j.size:=by have:=m.1;grind
    exact m.2 i c (j.getD i undef) hi (by simpa using getD_some l)
  .exact aj.fail
theorem afw{e:TypeId}(D:P.underlying src=some (.slice e))(hd:P.underlying dst=some .string)(F:P.underlying e=some (.int .u8)){ys:List PV}{m l cap:Nat}{base:Option Addr}
    (h:QA P w M false [.int .u8] m ys (.slice base l cap)):(convert src dst (.slice base l cap)).run P w=.ok (.string (bytesOf ys)) w:=by
  obtain⟨q1,L,B,A⟩:=h;have E:m=l:=by simp_all[Builtin.lenOf]
  subst E;obtain⟨C,c1,J,I⟩:=A m (qNr m);rw[run_convert_bytes_string w src dst e base m cap D F hd];have N:∀(i:Nat) (y:PV),ys[i]?=some y->y=.int .u8 y.toInt/\C[i]?=some (.int .u8 y.toInt):=by
   intro i y p;have hi:=(qLa.1 p).1;have u:=B y (qLe p);have z:y=.int .u8 y.toInt:=by cases y<;>simp[aA,kindOk]at u;subst u;rfl
   have j:=I i y 0 (.int .u8 y.toInt) ω p (by rw[z];rfl);simp only[qLl,List.length_nil,qNz,Nat.mul_one,Nat.add_zero]at j;have b:i<C.size:=by rw[J];simp;omega
   refine⟨z,?_⟩;rw[qAd b];have H:C.getD i undef=C[i]:=by simp[Array.getD,b]
   rw[H]at j;cases r:C[i]<;>rw[r]at j<;>cases j;rfl
  have G:C=((ys.map PV.toInt).map (Value.int .u8)).toArray:=by apply Array.ext_getElem?;grind
  cases base with
  |none=>
   simp only[Builtin.firstCells,Sem.run_pure]at c1;cases c1;have:ys=[]:=θ
   subst this;rfl
  |some K=>simp only[Builtin.firstCells,qLl,List.length_nil,qNz,Nat.mul_one]at c1;rw[G]at c1;rw[run_bytesToString w K m cap (ys.map PV.toInt) c1,foldl_push_bytes];congr 1;simp[bytesOf,ByteArray.empty,ByteArray.emptyWithCapacity,Function.comp_def];rfl
theorem afx(b:AR w M β h x c)(hi:ajA x=true):∃base l cap,c=.slice base l cap:=by
 cases b<;>simp[ajA]at hi
 .rename_i v i;cases v<;>simp at hi;cases i<;>exact⟨_,_,_,rfl⟩
 all_goals simp
theorem Yk(ok:bJ P T)(r:Rel w0 Pr M0 M β st a w){h':Nat->Option aH}(p:∀s b,h' s=some b->look st.heap s=some b) 
    (y:AR w M β (look st.heap) x c):aI P w0 Pr M0 β st a w d (EK T h' d src dst x) (do pure (.value (<-convert src dst c))):=by
  unfold EK;split
  .rename_i k n;rw[y.BI];split
   .rename_i D j i hd;have i:=ok.und i;have hd:=ok.und hd;refine aI.Qx r (aj.ret (.int _ _) ?_);simp only[convert,Sem.run_bind,aW i,aW hd,qRa];cases D<;>simp[Conv.intToInt]
   .exact aI.fail
  .split
   .rename_i e i hd;have i:=ok.und i;have hd:=ok.und hd;split
    .rename_i s2 m ys A u;have A:=ok.und A;refine aI.chk λB=>?_;rw[qBa]at B;obtain⟨base,l,cap,rfl⟩:=afx y B.2;have z:=ER (P:=P) r p y u B.1;refine aI.Qx r (aj.ret (.str _) ?_);exact afw i hd A z
    .exact aI.fail
   .exact aI.fail
end
end
section
variable {c:Value}{bl:List aH}{w:World}{M:Nat->Prop}{x:PV}
def gu(gl:Option (List (Nat × Obj)))(a b:Nat):Prop:=gl=none->a<=b
theorem gu.refl(b:Option (List (Nat × Obj)))(a:Nat):gu b a a:=λ_=>qNr _
theorem gu.trans{i:Option (List (Nat × Obj))}{a b c:Nat}(h:gu i a b)(k:gu i b c):gu i a c:=λe=>Nat.le_trans (h e) (k e)
inductive rW (T:Tab) (w:World) (M:Nat->Prop) (β:Nat->Option (Nat × Nat)) (h:Nat->Option aH):dV->TypeId->AV->Value->Option (Nat × Nat)->Prop
 |deep (t:TypeId) (x:PV) (c:Value) (hs:aA (ay T t).1 (ay T t).2 x=true) (hv:VR w M x c):rW T w M β h .deep t (.p x) c none
 |fresh (t e : TypeId) (xs : List PV) (c : Value) (p : Option (Nat × Nat)) (hu : und T t = some (.slice e))
     (hb:BR w M (λ_=>p) (λ_=>some (.arr (ay T e).1 (ay T e).2 xs)) 0 (.arr (ay T e).1 (ay T e).2 xs))
     (hv:AR w M (λ_=>p) (λ_=>some (.arr (ay T e).1 (ay T e).2 xs)) (.slice 0 (ay T e).2.length 0 xs.length) c) :
     rW T w M β h .fresh t (.fresh (ay T e).1 (ay T e).2 xs) c p
 |alias (j : Nat) (t e : TypeId) (off len : Nat) (c : Value) (hu : und T t = some (.slice e))
     (hv:AR w M β h (.slice (ah+j) (ay T e).2.length off len) c):rW T w M β h (.alias j) t (.slice (ah+j) (ay T e).2.length off len) c none
 |func (g:Nat) (qs:List (Bool × List Kd)) (t:TypeId) (cs:List PV) (c:Value) (hs:CU qs cs=true) (hv:VR w M (.fn g cs) c):rW T w M β h (.func g qs) t (.p (.fn g cs)) c none
 |zf (g:Nat) (qs:List (Bool × List Kd)) (t:TypeId) (cs:List PV) (c:Value) (hs:CU qs cs=true) (hv:VR w M (.fn g cs) c):rW T w M β h (.zf g qs) t (.p (.fn g cs)) c none
 |JU (g:Nat) (qs:List (Bool × List Kd)) (t:TypeId):rW T w M β h (.zf g qs) t (.p .pz) .nilFunc none
 |Oc (t:TypeId):rW T w M β h .Oc t (.p .pz) .nilFunc none
 |Ey (g:Nat) (t:TypeId) (cs:List PV) (c:Value) (hv:VR w M (.fn g cs) c):rW T w M β h .Ey t (.p (.fn g cs)) c none
 |GV (t : TypeId) (ks0 ks : List Kd) (a : Bool) (ls : List Kd) (ys : List PV) (xs : List PV) (vs : Array Value) (p : Option (Nat × Nat)) (hsh : ay T t = (true,ks0)) (hla : sU ks0 = some (ks,.slice a ls))
     (hk:bn ks ys=true) (hn:vs.size=ys.length+1) (hv:∀(i:Nat) (c:PV),ys[i]?=some c->VR w M c (vs.getD i undef))
     (hb:BR w M (λ_=>p) (λ_=>some (.arr a ls xs)) 0 (.arr a ls xs))
     (hl:AR w M (λ_=>p) (λ_=>some (.arr a ls xs)) (.slice 0 ls.length 0 xs.length) (vs.getD ys.length undef)) :
     rW T w M β h .GV t (.agg (ys.map .p++[.fresh a ls xs])) (.agg vs) p
inductive qM (T:Tab) (w:World) (M:Nat->Prop) (β:Nat->Option (Nat × Nat)) (h:Nat->Option aH):List dV->List TypeId->List AV->List Value->List (Option (Nat × Nat))->Prop
 |nil (ms:List dV):qM T w M β h ms [] [] [] []
 |cons (ms : List dV) (t : TypeId) (ts : List TypeId) (v : AV) (vs : List AV) (c : Value) (cs : List Value) (p : Option (Nat × Nat)) (ps : List (Option (Nat × Nat)))
     (h1:rW T w M β h (ms.headD .deep) t v c p) (h2:qM T w M β h ms.tail ts vs cs ps)
     (h3:∀b o o',p=some (b,o)->some (b,o') ∉ ps):qM T w M β h ms (t::ts) (v::vs) (c::cs) (p::ps)
def qx:List Value->Value
 |[c]=>c
 |cs=>.tuple cs.toArray
structure uP (gl:Option (List (Nat × Obj))) (T:Tab) (fi:FI) (w:World) (M:Nat->Prop) (β:Nat->Option (Nat × Nat)) (bl:List aH) (rs:List AV) (l9:List aH) (w':World) (M':Nat->Prop) (cs:List Value) (ps:List (Option (Nat × Nat))):Prop where
 res:qM T w' M' β (look (dK 0 l9)) fi.cfg.rets fi.fn.resultTypes.toList rs cs ps
 own:∀b o,some (b,o)∈ps->¬M' b/\b<w'.heap.size/\w.heap.size<=b
 res2:fi.cfg.MZ=false->fi.cfg.shares=false->∃M2:Nat->Prop,(∀b,M2 b->M' b/\w.heap.size<=b)/\qM T w' M2 β (look (dK 0 l9)) fi.cfg.rets fi.fn.resultTypes.toList rs cs ps
 dJ:∀b,M b->M' b
 jH:∀b,M' b->M b\/w.heap.size<=b
 mlt:∀b,M' b->b<w'.heap.size
 keep:∀b,b<w.heap.size->(∀i o,i<bl.length->β (ah+i)≠some (b,o))->w'.heap[b]?=w.heap[b]?
 room:∀b n,b<w.heap.size->Room w b n->Room w' b n
 size:w.heap.size<=w'.heap.size
 os:w'.os=w.os
 tape:w'.tape=w.tape
 output:w'.output=w.output
 drawn:gu gl w.drawn w'.drawn
 len:l9.length=bl.length
 blk:∀i b0 b1,bl[i]?=some b0->l9[i]?=some b1->BR w' M' β (look (dK 0 l9)) (ah+i) b1/\Like b0 b1/\backOk b0 b1=true/\dI b1=true
structure ni (w:World) (M:Nat->Prop) (β:Nat->Option (Nat × Nat)) (args:List AV) (bl:List aH) (ak:Array Value):Prop where
 num:ak.size=args.length
 args:∀i v,args[i]?=some v->AR w M β (look (dK 0 bl)) v (ak.getD i undef)
 blk:∀i b0,bl[i]?=some b0->BR w M β (look (dK 0 bl)) (ah+i) b0
 own:∀i b o,i<bl.length->β (ah+i)=some (b,o)->¬M b/\b<w.heap.size
 inj:∀i j b o o',i<bl.length->j<bl.length->β (ah+i)=some (b,o)->β (ah+j)=some (b,o')->i=j
 dJ:∀b,M b->b<w.heap.size
structure V8 (keep:Bool) (w:World) (M:Nat->Prop) (β:Nat->Option (Nat × Nat)) (args:List AV) (bl:List aH) (ak:Array Value):Prop where
 num:ak.size=args.length
 args:∀i v,args[i]?=some v->AR w M β (look (jm keep bl)) v (ak.getD i undef)
 blk:∀s b,look (jm keep bl) s=some b->BR w M β (look (jm keep bl)) s b
 own:∀s b o,(look (jm keep bl) s).isSome=true->β s=some (b,o)->¬M b/\b<w.heap.size
 inj:∀s s' b o o',(look (jm keep bl) s).isSome=true->(look (jm keep bl) s').isSome=true->β s=some (b,o)->β s'=some (b,o')->s=s'
 dJ:∀b,M b->b<w.heap.size
structure V9 (gl:Option (List (Nat × Obj))) (T:Tab) (fi:FI) (w:World) (M:Nat->Prop) (β:Nat->Option (Nat × Nat)) (a:Bool) (ks:List Kd) (xs:List PV) (rs:List AV) (l9:List aH) (w':World) (M':Nat->Prop) (cs:List Value):Prop where
 res:∃β' h' ps,qM T w' M' β' h' fi.cfg.rets fi.fn.resultTypes.toList rs cs ps/\∀p∈ps,p=none
 dJ:∀b,M b->M' b
 jH:∀b,M' b->M b\/w.heap.size<=b\/∃o,β (dh fi.cfg.vkeep)=some (b,o)
 mlt:∀b,M' b->b<w'.heap.size
 keep:∀b,b<w.heap.size->(∀o,β ah≠some (b,o))->(∀o,β (dh fi.cfg.vkeep)≠some (b,o))->w'.heap[b]?=w.heap[b]?
 size:w.heap.size<=w'.heap.size
 os:w'.os=w.os
 tape:w'.tape=w.tape
 output:w'.output=w.output
 drawn:gu gl w.drawn w'.drawn
 back:∃off len ys bb bo C e fr p,l9=[.box [.slice (dh fi.cfg.vkeep) ks.length off len],.arr a ks ys]/\β ah=some (bb,bo)/\¬M' bb/\w'.heap[bb]?=some (.cells C e fr)/\bo+1<=C.size/\Open C fr /\
  AR w' M' (λ_=>p) (λ_=>some (.arr a ks ys)) (.slice 0 ks.length off len) (C.getD bo undef)/\BR w' M' (λ_=>p) (λ_=>some (.arr a ks ys)) 0 (.arr a ks ys) /\
  (∀b o,p=some (b,o)->¬M' b/\b<w'.heap.size/\b≠bb/\(w.heap.size<=b\/∃o',β (dh fi.cfg.vkeep)=some (b,o'))) /\
  (fi.cfg.vkeep=true->p=β (dh true)/\xs.length<=ys.length/\∀b o n,p=some (b,o)->Room w b n->Room w' b n)
structure OE (w:World) (M:Nat->Prop) (β:Nat->Option (Nat × Nat)) (args:List AV) (b1:aH) (ak:Array Value):Prop where
 num:ak.size=args.length
 args:∀i v,args[i]?=some v->AR w M β (look [(99999,b1)]) v (ak.getD i undef)
 blk:BR w M β (look [(99999,b1)]) 99999 b1
 own:∀b o,β 99999=some (b,o)->¬M b/\b<w.heap.size
 dJ:∀b,M b->b<w.heap.size
structure QC (gl:Option (List (Nat × Obj))) (T:Tab) (fi:FI) (w:World) (M:Nat->Prop) (β:Nat->Option (Nat × Nat)) (rs:List AV) (w':World) (M':Nat->Prop) (cs:List Value) (ps:List (Option (Nat × Nat))):Prop where
 res:∃β' h',qM T w' M' β' h' fi.cfg.rets fi.fn.resultTypes.toList rs cs ps
 own:∀b o,some (b,o)∈ps->¬M' b/\b<w'.heap.size/\(w.heap.size<=b\/∃o',β 99999=some (b,o'))
 dJ:∀b,M b->M' b
 jH:∀b,M' b->M b\/w.heap.size<=b\/∃o,β 99999=some (b,o)
 mlt:∀b,M' b->b<w'.heap.size
 keep:∀b,b<w.heap.size->(∀o,β 99999≠some (b,o))->w'.heap[b]?=w.heap[b]?
 size:w.heap.size<=w'.heap.size
 os:w'.os=w.os
 tape:w'.tape=w.tape
 output:w'.output=w.output
 drawn:gu gl w.drawn w'.drawn
structure dS (P:Program) (T:Tab) (gl:Option (List (Nat × Obj))) (C:aB):Prop where
 plain:∀f fi args bl rs l9,aX T.funcs f=some fi->(∀b∈bl,dI b=true)->C f args bl=some (rs,l9)->(∃c,fi.fn.body=some c) /\
  ∀(w:World) (M:Nat->Prop) (β:Nat->Option (Nat × Nat)) (ak:Array Value),(∀p∈gl.getD [],M p.1/\w.heap[p.1]?=some p.2)->ni w M β args bl ak ->
   Calls P f ak w λe w'=>∃cs ps M',e=.returned (qx cs)/\uP gl T fi w M β bl rs l9 w' M' cs ps
 var:∀f fi args z off len a ks xs rs l9,aX T.funcs f=some fi->fi.cfg.vcall=true->C f args [.box [.slice (dh fi.cfg.vkeep) z off len],.arr a ks xs]=some (rs,l9)->(∃c,fi.fn.body=some c) /\
  ∀(w:World) (M:Nat->Prop) (β:Nat->Option (Nat × Nat)) (ak:Array Value),(∀p∈gl.getD [],M p.1/\w.heap[p.1]?=some p.2)->V8 fi.cfg.vkeep w M β args [.box [.slice (dh fi.cfg.vkeep) z off len],.arr a ks xs] ak ->
   Calls P f ak w λe w'=>∃cs M',e=.returned (qx cs)/\V9 gl T fi w M β a ks xs rs l9 w' M' cs
 take:∀f fi args a ks xs rs l9,aX T.funcs f=some fi->fi.cfg.take=true->C f args [.log false [],.arr a ks xs]=some (rs,l9)->(∃c,fi.fn.body=some c) /\
  ∀(w:World) (M:Nat->Prop) (β:Nat->Option (Nat × Nat)) (ak:Array Value),(∀p∈gl.getD [],M p.1/\w.heap[p.1]?=some p.2)->OE w M β args (.arr a ks xs) ak ->
   Calls P f ak w λe w'=>∃cs ps M',e=.returned (qx cs)/\QC gl T fi w M β rs w' M' cs ps
 glob:∀w:World,(∀p∈gl.getD [],w.heap[p.1]?=some p.2)->T.glob gl.isSome w
theorem acZ:∀(k i:Nat),look (dK k bl) (ah+(k+i))=bl[i]?:=by
 induction bl with
 |nil=>intro k i;simp[dK,look]
 |cons b r j=>
  intro k i;cases i with
  |zero=>simp[dK,look]
  |succ i=>
   have:(ah+k==ah+(k+(i+1)))=false:=σ
   simp only[dK,look,this,qCf];rw[show k+(i+1)=(k+1)+i from ω,j];simp
theorem Dk(i:Nat):look (dK 0 bl) (ah+i)=bl[i]?:=by have:=acZ (bl:=bl) 0 i;grind
theorem Yl:∀{bl:List aH}{k s:Nat}{b:aH},look (dK k bl) s=some b->∃i,i<bl.length/\s=ah+(k+i)
 |[],k,s,b,h=>by simp[dK,look]at h
 |x::r,k,s,b,h=>by
  simp only[dK,look]at h;cases j:ah+k==s with
  |true=>exact⟨0,σ,(by simpa using j:ah+k=s).symm⟩
  |false=>rw[j]at h;obtain⟨i,l,m⟩:=Yl h;exact⟨i+1,by simpa using l,ω⟩
theorem Gs{s:Nat}{b:aH}(h:look (dK 0 bl) s=some b):∃i,i<bl.length/\s=ah+i/\bl[i]?=some b:=by obtain⟨i,l,j⟩:=Yl h;rw[qNz]at j;grind[Dk]
theorem VR.Ym{w':World}{M':Nat->Prop}{k:Kd}(i:k.flat=true)(b:kindOk k x=true)(h:VR w M x c):VR w' M' x c:=by cases k<;>simp[Kd.flat]at i<;>cases x<;>simp[kindOk]at b<;>cases h<;>constructor
theorem VR.flat{w w':World}{M M':Nat->Prop}{a:Bool}{ks:List Kd}{x:PV}{c:Value}(z:ks.all Kd.flat=true)(l:aA a ks x=true)(h:VR w M x c):VR w' M' x c:=by
 have b:∀(j:Nat) (k:Kd),ks[j]?=some k->k.flat=true:=λj k A=>List.all_eq_true.1 z k (qLe A);cases a with
 |true=>
  cases h with
  |agg cs vs r u B=>
   have m:=fQ (mP l);refine .agg cs vs r u λi y p=>?_;have hi:i<ks.length:=by grind[PV.cells]
   exact(B i y p).Ym (b i ks[i] σ) (m.2 i ks[i] y σ p)
  |_=>simp[aA]at l
 |false=>
  match ks,l,b with
  |[k],l,b=>exact h.Ym (b 0 k rfl) (by simpa[aA] using l)
  |[],l,_=>simp[aA]at l
  |_::_::_,l,_=>simp[aA]at l
theorem VR.written{ks:List Kd}(A:aA true ks x=true)(h:VR w M x c):VR w M (.agg (eY ks x 0)) c:=by
 cases h with
 |agg cs vs D G F=>
  have b:=fQ (mP A);simp only[PV.cells]at b;have l:(eY ks (.agg cs) 0).length=ks.length:=by
   have:∀(ks:List Kd) (x:PV) (o:Nat),(eY ks x o).length=ks.length:=by
    intro ks;induction ks with
    |nil=>intro x o;rfl
    |cons k r B=>intro x o;simp[eY,B]
   grind
  have i:∀(j:Nat) (y:PV),(eY ks (.agg cs) 0)[j]?=some y->∃k z,ks[j]?=some k/\cs[j]?=some z/\y=eta k z:=by grind[qC,qOa,PV.cell,List.getD]
  refine .agg _ vs (by rw[l,D];exact b.1.symm) (λy p=>?_) λj y p=>?_
  .obtain⟨j,E⟩:=List.mem_iff_getElem?.1 p;obtain⟨k,z,u,m,rfl⟩:=i j y E;exact JQ (b.2 j k z u m)
  .obtain⟨k,z,u,m,rfl⟩:=i j y p;exact yA (b.2 j k z u m) (F j z m)
 |_=>simp[aA]at A
end
section
variable {β':Nat->Option (Nat × Nat)}{h h':Nat->Option aH}{s s':Nat}{M':Nat->Prop}{w':World}{hp':Heap}
abbrev Og:=Nat × aH × Option (Nat × Nat)
def DU(l:List Og):List (Nat × aH):=l.map λx=>(x.1,x.2.1)
def overlay(β:Nat->Option (Nat × Nat)):List Og->Nat->Option (Nat × Nat)
 |[]=>β
 |(k,_,p)::r=>overlay (λx=>if x=k then p else β x) r
theorem zk{s:Nat}:∀{l:List Og}{β:Nat->Option (Nat × Nat)},(∀x∈l,x.1≠s)->overlay β l s=β s
 |[],_,_=>rfl
 |(k,b,p)::r,β,h=>by simp only[overlay];rw[zk λx i=>h x (by simp[i])];exact if_neg λe=>h (k,b,p) σ e.symm
theorem QD{x:Og}:∀{l:List Og}{β:Nat->Option (Nat × Nat)},l.Pairwise (λx y=>x.1≠y.1)->x∈l->overlay β l x.1=x.2.2
 |[],_,_,h=>by simp at h
 |(k,b,p)::r,β,hd,h=>by
  simp only[overlay];rw[List.pairwise_cons]at hd;rcases List.mem_cons.1 h with rfl |h
  .rw[zk λy i=>(hd.1 y i).symm];simp
  .exact QD hd.2 h
theorem IJ{s:Nat}:∀{l:List Og}{hp:Heap},(∀x∈l,x.1≠s)->look (eH hp (DU l)) s=look hp s
 |[],_,_=>rfl
 |(k,b,p)::r,hp,h=>by show look (eH (put hp k b) (DU r)) s=_;rw[IJ λx i=>h x (by simp[i]),aZ];exact if_neg λe=>h (k,b,p) σ e.symm
theorem Uu{x:Og}:∀{l:List Og}{hp:Heap},l.Pairwise (λx y=>x.1≠y.1)->x∈l->look (eH hp (DU l)) x.1=some x.2.1
 |[],_,_,h=>by simp at h
 |(k,b,p)::r,hp,hd,h=>by
  show look (eH (put hp k b) (DU r)) x.1=_;rw[List.pairwise_cons]at hd;rcases List.mem_cons.1 h with rfl |h
  .rw[IJ λy i=>(hd.1 y i).symm,aZ];simp
  .exact Uu hd.2 h
section
variable {w0:Base}{Pr M0 M:Nat->Prop}{β:Nat->Option (Nat × Nat)}{st:St}{a:Act}{w:World}
theorem BR.QE{w:World}{M:Nat->Prop}{β:Nat->Option (Nat × Nat)}{sa:Bool}{ks:List Kd}{xs:List PV}(i:BR w M β h s (.arr sa ks xs))(e:β' s'=β s):BR w M β' h' s' (.arr sa ks xs):=by
 cases i with
 |gJ=>exact .gJ _ _
 |arr _ _ _ b o C u fr r p m l j g6=>exact .arr _ _ _ b o C u fr (e.trans r) p m l j g6
theorem AR.jf{w:World}{M:Nat->Prop}{β:Nat->Option (Nat × Nat)}{z off len:Nat}{c:Value}{blk:aH}(r:AR w M β h (.slice s z off len) c)(j:h s=some blk)(p:h' s'=some blk)(e3:β' s'=β s):AR w M' β' h' (.slice s' z off len) c:=by
 cases r with
 |slice _ _ _ a ks xs b o cap l m y i u=>rw[l]at j;cases j;exact .slice s' off len a ks xs b o cap p m (e3.trans y) i u
 |sliceE _ _ a ks xs base l m=>rw[l]at j;cases j;exact .sliceE s' off a ks xs base p m
theorem Rel.lays:∀(l:List Og) {β:Nat->Option (Nat × Nat)}{st:St},Rel w0 Pr M0 M β st a w->l.Pairwise (λx y=>x.1≠y.1)->(∀x∈l,look st.heap x.1=none) ->
    l.Pairwise (λx y=>∀b o j,x.2.2=some (b,o)->y.2.2≠some (b,j)) ->
    (∀x∈l,∀b o,x.2.2=some (b,o)->¬M b/\b<w.heap.size/\((w0.heap.size<=b\/Pr b)/\w0.n0<=b)/\(∀s' j,(look st.heap s').isSome=true->β s'≠some (b,j))) ->
    (∀x∈l,∃sa ks xs,x.2.1=.arr sa ks xs/\BR w M (λ_=>x.2.2) (λ_=>none) 0 x.2.1) ->
    Rel w0 Pr M0 M (overlay β l) {st with heap:=eH st.heap (DU l)} a w
  |[],β,st,r,_,_,_,_,_=>r
  |(k,blk,p)::l,β,st,r,hd,hn,hq,ho,hb=>by
   rw[List.pairwise_cons]at hd hq;have H:=hn (k,blk,p) σ;obtain⟨sa,ks,xs,e,m⟩:=hb (k,blk,p) σ;simp only at e m H;have I:=r.lay (s:=k) (blk:=blk) H (p:=p) (λb o e=>by obtain⟨G,F,A,E⟩:=ho (k,blk,p) σ b o e;exact⟨G,F,⟨A.1,.inl A.2⟩,E⟩) (by subst e;exact m.QE σ);refine Rel.lays l I hd.2 (λx i=>?_) hq.2 (λx i b o e=>?_) (λx i=>hb x (by simp[i]))
   .show look (put st.heap k blk) x.1=none;rw[aZ,if_neg (hd.1 x i).symm];exact hn x (by simp[i])
   .obtain⟨G,F,A,E⟩:=ho x (by simp[i]) b o e;refine⟨G,F,A,λs' j B z=>?_⟩;by_cases D:s'=k
    .simp only[D,if_true]at z;exact hq.1 x i b j o z e
    .simp only[if_neg D]at z;have u:(look (put st.heap k blk) s').isSome=true:=B;rw[aZ,if_neg D]at u;exact E s' j u z
theorem Rel.LP(r:Rel w0 Pr M0 M β st a w)(Z:w.heap.size<=w'.heap.size)(N:w'.os=w.os)(L:w'.tape=w.tape)(O:w'.output=w.output)
    (hkeep:∀b,b<w.heap.size->(M b\/(b<w0.heap.size/\¬Pr b))->w'.heap[b]?=w.heap[b]?)(H:∀b n,b<w.heap.size->((∃s o blk,look st.heap s=some blk/\β s=some (b,o)/\al7 blk n)\/(b<w0.n0/\Pr b))->Room w b n->Room w' b n)
    (V:∀b,M b->M' b)(S:∀b,M' b->M b\/(w.heap.size<=b/\b<w'.heap.size))
    (hnone:∀s,look st.heap s=none->look hp' s=none)
    (I:∀s blk,look st.heap s=some blk->∃blk',look hp' s=some blk'/\((blk'=blk/\∀b o,β s=some (b,o)->w'.heap[b]?=w.heap[b]?)\/(Like blk blk'/\BR w' M' β (look hp') s blk'))) :
    Rel w0 Pr M0 M' β {st with heap:=hp'} a w':=by
  have G:∀b,M b->M' b/\w'.heap[b]?=w.heap[b]?:=λb h=>⟨V b h,hkeep b (r.dJ b h) (.inl h)⟩;have hlive:∀s,(look hp' s).isSome=true->(look st.heap s).isSome=true:=λs h=>by
   cases D:look st.heap s with
   |none=>rw[hnone s D]at h;cases h
   |some b=>rfl
  have key:∀(v:AV) (c:Value),AR w M β (look st.heap) v c->AR w' M' β (look hp') v c:=λv c h=>
   h.ahT G λs blk _ B=>by
    obtain⟨blk',K,U⟩:=I s blk B;refine⟨blk',K,?_,rfl,λb o n y ha hr=>H b n (r.own s b o (by rw[B];rfl) y).2.1 (.inl ⟨s,o,blk,B,y,ha⟩) hr⟩;rcases U with⟨rfl,_⟩ |⟨h,_⟩
    .exact Like.refl _
    .exact h
  refine⟨r.mJ,λt v h=>key _ _ (r.env t v h),?_,?_,λs s' b o X B m=>r.inj s s' b o X (hlive s B) (hlive s' m),?_,?_,λb h=>V b (r.oZ b h),?_,
   λb n y h4 h5=>H b n (by have:=r.size;have:=w0.le';omega) (.inr ⟨y,h4⟩) (r.room b n y h4 h5),by have:=r.size;omega,N.trans r.os,L.trans r.tape,O.trans r.output,λp hp=>⟨(G _ (r.glob p hp).1).1,(G _ (r.glob p hp).1).2.trans (r.glob p hp).2⟩⟩
  .intro s blk B;have m:look hp' s=some blk:=B;cases D:look st.heap s with
   |none=>rw[hnone s D]at m;cases m
   |some b0=>
    obtain⟨blk',K,U⟩:=I s b0 D;rw[m]at K;cases K;rcases U with⟨rfl,J⟩ |⟨_,h⟩
    .show BR w' M' β (look hp') s _;cases r.heap s _ D with
     |box cs b o C e fr l A u z F g6=>exact .box _ b o C e fr l (by rw[J b o l];exact A) u z F λj c Q=>key _ _ (g6 j c Q)
     |gJ a ks=>exact .gJ a ks
     |log W ys=>exact .log W ys
     |arr a ks xs b o C e fr l A u z F g6=>exact .arr a ks xs b o C e fr l (by rw[J b o l];exact A) u z F λi x j c Y Q=>(g6 i x j c Y Q).mono G
     |tb t c0 c1 b C fr l A u z F g6 g7 g8=>exact .tb t c0 c1 b C fr l (by rw[J b 0 l];exact A) u z F g6 (key _ _ g7) (key _ _ g8)
     |mp t es b o E k l A u z=>exact .mp t es b o E k l (by rw[J b o l];exact A) u λi p e hi D=>⟨(z i p e hi D).1.mono G,(z i p e hi D).2.mono G⟩
     |GX e=>exact .GX e
     |br e xs b C fr l A u z F g6=>exact .br e xs b C fr l (by rw[J b 0 l];exact A) u z F g6
    .exact h
  .intro s b o B y;obtain⟨l,A,u⟩:=r.own s b o (hlive s B) y;refine⟨λhm=>?_,ω,u⟩;rcases S b hm with h |h
   .exact l h
   .omega
  .intro b h;rcases S b h with h |h
   .have:=r.dJ b h;omega
   .omega
  .intro b h;rcases S b h with h |h
   .exact r.jH b h
   .right;have:=r.size;have:=w0.le';exact⟨ω,.inl ω⟩
  .intro b y h4;rw[hkeep b (by have:=r.size;omega) (.inr ⟨y,h4⟩),r.keep b y h4]
theorem Rel.moved(r:Rel w0 Pr M0 M β st a w)(j:w.heap.size<=w'.heap.size)(m:w'.os=w.os)(i:w'.tape=w.tape)(p:w'.output=w.output)
    (hkeep:∀b,b<w.heap.size->(M b\/(b<w0.heap.size/\¬Pr b))->w'.heap[b]?=w.heap[b]?)(l:∀b n,b<w.heap.size->((∃s o,(look st.heap s).isSome=true/\β s=some (b,o))\/(b<w0.n0/\Pr b))->Room w b n->Room w' b n)
    (z:∀b,M b->M' b)(y:∀b,M' b->M b\/(w.heap.size<=b/\b<w'.heap.size))
    (hnone:∀s,look st.heap s=none->look hp' s=none)
    (u:∀s blk,look st.heap s=some blk->∃blk',look hp' s=some blk'/\((blk'=blk/\∀b o,β s=some (b,o)->w'.heap[b]?=w.heap[b]?)\/(Like blk blk'/\BR w' M' β (look hp') s blk'))) :
    Rel w0 Pr M0 M' β {st with heap:=hp'} a w':=
  r.LP j m i p hkeep (λb n D B A=>l b n D (B.imp (λ⟨s,o,blk,z,y,_⟩=>⟨s,o,by rw[z];rfl,y⟩) id) A) z y hnone u
end
end
section
variable {w:World}{M M':Nat->Prop}{ks:List Kd}{ms:List dV}{rs:List AV}{q:Bool × List Kd}{v:PV}{c:Value}{g:Nat}{qs:List (Bool × List Kd)}
section
variable {T:Tab}
theorem BR.afy{p:Option (Nat × Nat)}{h:Nat->Option aH}{a:Bool}{xs:List PV}(B:ks.all Kd.flat=true)(A:BR w M (λ_=>p) h 0 (.arr a ks xs)):BR w M' (λ_=>p) h 0 (.arr a ks xs):=by
 cases A with
 |gJ=>exact .gJ _ _
 |arr _ _ _ b o C H fr G F E D u g6=>
  refine .arr _ _ _ b o C H fr G F E D u λi x j y r m=>?_;have l:=u x (qLe r);have z:=fQ (mP l);have I:j<ks.length:=θ
  exact(g6 i x j y r m).Ym (List.all_eq_true.1 B ks[j] σ) (z.2 j ks[j] y σ m)
theorem ZY{w':World}{ys:List PV}{vs:Array Value}(m:ks.all Kd.flat=true)(b:bn ks ys=true)(l:∀(i:Nat) (c:PV),ys[i]?=some c->VR w M c (vs.getD i undef)) :
    ∀(i:Nat) (c:PV),ys[i]?=some c->VR w' M' c (vs.getD i undef):=by
  intro i c j;have b:=fQ b;have p:i<ks.length:=θ
  exact(l i c j).Ym (List.all_eq_true.1 m ks[i] σ) (b.2 i ks[i] c σ j)
theorem rW.flat{w:World}{M M':Nat->Prop}{β β':Nat->Option (Nat × Nat)}{h h':Nat->Option aH}{m:dV}{t:TypeId}{v:AV}{c:Value}{p:Option (Nat × Nat)}
    (O:rW T w M β h m t v c p)(r:Gi T m t=true)(u:m=.deep\/m=.fresh\/m=.GV):rW T w M' β' h' m t v c p:=by
  cases O with
  |deep t x c E l=>exact .deep t x c E (l.flat r E)
  |fresh t e xs c p I D l=>
   simp only[Gi,I]at r;refine .fresh t e xs c p I ?_ ?_
   .generalize ay T e=sh at D r;obtain⟨sa,ks⟩:=sh;simp only at D r ⊢;cases D with
    |gJ=>exact .gJ _ _
    |arr _ _ _ b o C W fr V U S Q K g6=>
     refine .arr _ _ _ b o C W fr V U S Q K λi x j y J G=>?_;have H:=K x (qLe J);have B:=fQ (mP H);have X:j<ks.length:=by have:=(qLa.1 G).1;have:=B.1;omega
     exact(g6 i x j y J G).Ym (List.all_eq_true.1 r ks[j] σ) (B.2 j ks[j] y σ G)
   .exact l.jf rfl rfl rfl
  |GV t F ks a ls ys xs vs p z A B L l D N=>simp only[Gi,z,A,qBa]at r;exact .GV t F ks a ls ys xs vs p z A B L (ZY r.1 B l) (D.afy r.2) (N.jf rfl rfl rfl)
  |alias j t e off len c I l=>rcases u with h |h |h<;>cases h
  |func g qs t cs c E l=>rcases u with h |h |h<;>cases h
  |zf g qs t cs c E l=>rcases u with h |h |h<;>cases h
  |JU g qs t=>rcases u with h |h |h<;>cases h
  |Oc t=>rcases u with h |h |h<;>cases h
  |Ey g t cs c l=>rcases u with h |h |h<;>cases h
theorem Z4 {w : World}{M : Nat -> Prop}{β : Nat -> Option (Nat × Nat)}{h : Nat -> Option aH}{ms : List dV}{ts : List TypeId}{rs : List AV}{cs : List Value}{ps : List (Option (Nat × Nat))}
    (hr:qM T w M β h ms ts rs cs ps) {b:Bool} (hb:Nc ms rs=some b):qM T w M β h (cond b (Qc ms) (ZL ms)) ts rs cs ps:=by
  induction hr with
  |nil ms=>exact .nil _
  |cons ms t ts v vs c cs p ps h1 h2 h3 ih=>
   cases ms with
   |nil=>simp[Nc]at hb
   |cons m ms=>
    simp only[qLh,List.tail_cons]at h1 h2 ih
    have other:Nc ms vs=some b->(∀x:Bool,(cond x (Qc (m::ms)) (ZL (m::ms)))=m::cond x (Qc ms) (ZL ms))->qM T w M β h (cond b (Qc (m::ms)) (ZL (m::ms))) (t::ts) (v::vs) (c::cs) (p::ps):=λhn he=>by
     rw[he]
     exact .cons _ t ts v vs c cs p ps h1 (ih hn) h3
    cases h1 with
    |zf g qs _ cs' _ hs hv=>
     simp only[Nc,qLh,AV.pv,PV.Ew,qOa]at hb
     subst hb
     exact .cons _ t ts _ vs c cs _ ps (.func g qs t cs' c hs hv) h2 h3
    |JU g qs _=>
     simp only[Nc,qLh,AV.pv,PV.Ew,qOa]at hb
     subst hb
     exact .cons _ t ts _ vs _ cs _ ps (.Oc t) h2 h3
    |deep=>exact other hb λx=>by cases x<;>rfl
    |fresh=>exact other hb λx=>by cases x<;>rfl
    |alias=>exact other hb λx=>by cases x<;>rfl
    |func=>exact other hb λx=>by cases x<;>rfl
    |Oc=>exact other hb λx=>by cases x<;>rfl
    |Ey=>exact other hb λx=>by cases x<;>rfl
    |GV=>exact other hb λx=>by cases x<;>rfl
theorem ac0{F:List dV->DT}{α:Type}{k:Eff->Option α}{r:α}(i:(Qd ms rs F).run k=some r) :
    ∃j,(F j).run k=some r/\∀(w:World) (M:Nat->Prop) (β:Nat->Option (Nat × Nat)) (h:Nat->Option aH) (ts:List TypeId) (cs:List Value) (ps:List (Option (Nat × Nat))),qM T w M β h ms ts rs cs ps->qM T w M β h j ts rs cs ps:=by
  unfold Qd at i;cases l:Nc ms rs with
  |none=>rw[l]at i;exact⟨ms,i,λ_ _ _ _ _ _ _ h=>h⟩
  |some b=>rw[l]at i;simp only[DT.run]at i;refine⟨cond b (Qc ms) (ZL ms),?_,λ_ _ _ _ _ _ _ h=>Z4 h l⟩;cases b<;>exact i
section
variable {w:World}{M:Nat->Prop}{β:Nat->Option (Nat × Nat)}
theorem rW.mono{M M':Nat->Prop}{h:Nat->Option aH}{m:dV}{t:TypeId}{v:AV}{c:Value}{p:Option (Nat × Nat)}(X:∀b,M b->M' b)(Q:rW T w M β h m t v c p):rW T w M' β h m t v c p:=by
 have r:∀b,M b->M' b/\w.heap[b]?=w.heap[b]?:=λb h=>⟨X b h,rfl⟩;cases Q with
 |deep _ x _ u l=>exact .deep t x c u (l.mono r)
 |fresh _ e xs _ _ B y l=>
  refine .fresh t e xs c p B ?_ (l.jf rfl rfl rfl);cases y with
  |gJ=>exact .gJ _ _
  |arr _ _ _ b o C O fr N L K J I g6=>exact .arr _ _ _ b o C O fr N L K J I λi x j c H G=>(g6 i x j c H G).mono r
 |func g qs _ cs _ u l=>exact .func g qs t cs c u (l.mono r)
 |zf g qs _ cs _ u l=>exact .zf g qs t cs c u (l.mono r)
 |JU g qs _=>exact .JU g qs t
 |Oc _=>exact .Oc t
 |Ey g _ cs _ l=>exact .Ey g t cs c (l.mono r)
 |GV _ A ks a ls ys xs vs _ D E V U l y F=>
  refine .GV t A ks a ls ys xs vs p D E V U (λi c W=>(l i c W).mono r) ?_ (F.jf rfl rfl rfl);cases y with
  |gJ=>exact .gJ _ _
  |arr _ _ _ b o C O fr N L K J I g6=>exact .arr _ _ _ b o C O fr N L K J I λi x j c H G=>(g6 i x j c H G).mono r
 |alias j _ e off len _ B l=>
  have:∃blk,h (ah+j)=some blk:=by
   generalize (ay T e).2.length=z at l;cases l with
   |slice _ _ _ a ks xs b o cap u F y S Q=>exact⟨_,u⟩
   |sliceE _ _ a ks xs base u F=>exact⟨_,u⟩
  obtain⟨blk,y⟩:=this;exact .alias j t e off len c B (l.jf y y rfl)
theorem qM.mono{M M':Nat->Prop}{h:Nat->Option aH}{ms:List dV}{ts:List TypeId}{vs:List AV}{cs:List Value}{ps:List (Option (Nat × Nat))}(l:∀b,M b->M' b)(j:qM T w M β h ms ts vs cs ps):qM T w M' β h ms ts vs cs ps:=by
 induction j with
 |nil ms=>exact .nil ms
 |cons ms t ts v vs c cs p ps r u m i=>exact .cons ms t ts v vs c cs p ps (r.mono l) i m
end
theorem QF:∀(ks:List Kd) (x:PV) (o j:Nat),(sS ks x o)[j]?=(ks[j]?).map λk=>eta k (x.nP (o+j))
 |[],_,_,j=>by simp[sS]
 |k::r,x,o,0=>by simp[sS]
 |k::r,x,o,j+1=>by simp only[sS,List.getElem?_cons_succ,QF r x (o+1) j];rw[show o+1+j=o+(j+1) from ω]
theorem Hg:∀(ks:List Kd) (x:PV) (o:Nat),(sS ks x o).length=ks.length
 |[],_,_=>rfl
 |k::r,x,o=>by simp[sS,Hg r]
theorem ac1(l:X9 q v=true)(h:VR w M v c):VR w M (VB q v) c:=by
 obtain⟨b,ks⟩:=q;cases b with
 |false=>
  match ks,l with
  |[k],l=>exact yA l h
  |[],l=>simp[X9]at l
  |_::_::_,l=>simp[X9]at l
 |true=>
  cases h with
  |ref cs b o f G H I E A=>
   have D:=fQ (show bn ks cs=true from l);have m:∀(j:Nat) (y:PV),(sS ks (.ref cs) 0)[j]?=some y->∃k z,ks[j]?=some k/\cs[j]?=some z/\y=eta k z:=by
    intro j y i;rw[QF]at i;cases r:ks[j]? with
    |none=>rw[r]at i;cases i
    |some k=>rw[r]at i;simp only[Option.map_some,qOa,qNz]at i;grind[PV.nP,List.getD]
   have p:(sS ks (.ref cs) 0).length=cs.length:=by have:=Hg ks (.ref cs) 0;omega
   refine .ref _ b o f G (λy i=>?_) (λj y i=>?_) (λj y i=>?_) (p▸A)
   .obtain⟨j,F⟩:=List.mem_iff_getElem?.1 i;obtain⟨k,z,B,u,rfl⟩:=m j y F;exact JQ (D.2 j k z B u)
   .grind
   .obtain⟨k,z,B,u,rfl⟩:=m j y i;exact yA (D.2 j k z B u) (E j z u)
  |_=>cases l
theorem QG:∀{qs:List (Bool × List Kd)}{vs:List PV},CU qs vs=true->qs.length=vs.length/\∀(j:Nat) (q:Bool × List Kd) (v:PV),qs[j]?=some q->vs[j]?=some v->X9 q v=true
 |[],[],_=>⟨rfl,λj q v h=>by simp at h⟩
 |q::qs,v::vs,h=>by
  simp[CU]at h;obtain⟨p,m⟩:=QG h.2;refine⟨by simp[p],λj l v' i b=>?_⟩;cases j with
  |zero=>simp at i b;subst i b;exact h.1
  |succ j=>simp at i b;exact m j l v' i b
 |[],_::_,h |_::_,[],h=>by simp[CU]at h
theorem Nq:∀(qs:List (Bool × List Kd)) (x:PV) (o j:Nat),(lZ qs x o)[j]?=(qs[j]?).map λq=>VB q (x.cap (o+j))
 |[],_,_,j=>by simp[lZ]
 |k::r,x,o,0=>by simp[lZ]
 |k::r,x,o,j+1=>by simp only[lZ,List.getElem?_cons_succ,Nq r x (o+1) j];rw[show o+1+j=o+(j+1) from ω]
theorem QH:∀{k:Kd}{v:PV},VX k v=true->eta k v=v:=by
 intro k v h;cases k<;>cases v<;>simp[VX,kindOk]at h<;>first |rfl |skip
 .subst h;rfl
 .obtain⟨rfl,b⟩:=h;have:=Kd.oG _ _ b;subst this;rfl
theorem Nr:∀{ks:List Kd}{cs:List PV} (pre:List PV),Gm ks cs=true->sS ks (.ref (pre++cs)) pre.length=cs
 |[],[],_,_=>rfl
 |[],_::_,_,h=>by simp[Gm]at h
 |_::_,[],_,h=>by simp[Gm]at h
 |k::ks,c::cs,pre,h=>by
  simp only[Gm,qBa]at h;have b:=Nr (pre++[c]) h.2;rw[List.append_assoc,List.singleton_append,qLp,List.length_singleton]at b;unfold sS;rw[b];have e:(PV.ref (pre++c::cs)).nP pre.length=c:=by simp[PV.nP,List.getD]
  rw[e,QH h.1]
theorem ac2(h:Uj q v=true):VB q v=v:=by
 obtain⟨b,ks⟩:=q;cases b with
 |true=>cases v<;>simp[Uj]at h;rename_i cs;have:=Nr [] h;simp only[List.nil_append,List.length_nil]at this;show PV.ref (sS ks (.ref cs) 0)=.ref cs;rw[this]
 |false=>
  match ks,h with
  |[k],h=>exact QH (by simpa[Uj] using h)
  |[],h=>simp[Uj]at h
  |_::_::_,h=>simp[Uj]at h
theorem QI:∀{qs:List (Bool × List Kd)}{cs:List PV} (g:Nat) (pre:List PV),LD qs cs=true->lZ qs (.fn g (pre++cs)) pre.length=cs
 |[],[],_,_,_=>rfl
 |[],_::_,_,_,h=>by simp[LD]at h
 |_::_,[],_,_,h=>by simp[LD]at h
 |q::qs,c::cs,g,pre,h=>by
  simp only[LD,qBa]at h;have b:=QI g (pre++[c]) h.2;rw[List.append_assoc,List.singleton_append,qLp,List.length_singleton]at b;unfold lZ;rw[b];have e:(PV.fn g (pre++c::cs)).cap pre.length=c:=by simp[PV.cap,List.getD]
  rw[e,ac2 h.1]
theorem afz(h:PV.isFn g qs v=true):PV.fn g (lZ qs v 0)=v:=by cases v<;>simp[PV.isFn]at h;rename_i f cs;obtain⟨rfl,b⟩:=h;have:=QI f [] b;simp only[List.nil_append,List.length_nil]at this;rw[this]
section
variable {α:Type}
theorem Ns{K:St->Option α}{x:α}{st:St}{t:Nat}:∀{cs:List (Nat × List (Bool × List Kd))},EM cs t st K=some x->K st=some x/\∀K':St->Option α,EM cs t st K'=K' st
 |[],h=>by simp[EM]at h
 |(g,qs)::r,h=>by
  unfold EM at h;cases l:((st.env.getD t .undef).isP&&PV.isFn g qs (st.env.getD t .undef).pv)with
  |false=>rw[l,qCf]at h;obtain⟨A,z⟩:=Ns h;exact⟨A,λK'=>by unfold EM;rw[l,qCf];exact z K'⟩
  |true=>
   have b:=l;rw[qBa]at b;have B:AV.p (.fn g (lZ qs (st.env.getD t .undef).pv 0))=st.env.getD t .undef:=by rw[afz b.2];cases u:st.env.getD t .undef<;>rw[u]at b<;>simp[AV.isP]at b;rfl
   have j:t<st.env.length:=by
    by_cases y:t<st.env.length
    .exact y
    .have:st.env.getD t .undef=.undef:=by simp[List.getD,List.getElem?_eq_none (by omega:st.env.length<=t)]
     rw[this]at b;simp[AV.isP]at b
   have m:st.env.set t (.p (.fn g (lZ qs (st.env.getD t .undef).pv 0)))=st.env:=by
    rw[B];apply List.ext_getElem?;intro i;rw[List.getElem?_set];by_cases hi:t=i
    .subst hi;rw[if_pos rfl,if_pos j,qLb,qLd j];rfl
    .rw[if_neg hi]
   rw[l,qCt,m]at h;exact⟨h,λK'=>by unfold EM;rw[l,qCt,m]⟩
theorem iK{K:St->Option α}{x:α}:∀{as:List (Nat × List (Nat × List (Bool × List Kd)))}{st:St},BD as st K=some x->K st=some x/\∀K':St->Option α,BD as st K'=K' st
 |[],st,h=>⟨h,λ_=>rfl⟩
 |(t,cs)::r,st,h=>by unfold BD at h;obtain⟨j,i⟩:=Ns h;obtain⟨b,h4⟩:=iK j;exact⟨b,λK'=>by unfold BD;rw[i,h4]⟩
end
theorem EU:∀(ks:List (Bool × List Kd)) (x:PV) (o:Nat),(lZ ks x o).length=ks.length
 |[],_,_=>rfl
 |k::r,x,o=>by simp[lZ,EU r]
theorem VR.Wh{cs:List PV}(m:CU qs cs=true)(h:VR w M (.fn g cs) c):VR w M (.fn g (lZ qs (.fn g cs) 0)) c:=by
 cases h with
 |fn _ _ vs p r=>
  have l:=QG m;refine .fn g _ vs (by rw[p,EU];exact l.1.symm) λi y b=>?_;rw[Nq]at b;cases j:qs[i]? with
  |none=>rw[j]at b;cases b
  |some q=>
   rw[j]at b;simp only[Option.map_some,qOa,qNz]at b;have hi:i<cs.length:=θ
   have e:(PV.fn g cs).cap i=cs[i]:=by simp[PV.cap,List.getD,hi]
   rw[<-b,e];exact ac1 (l.2 i q cs[i] j σ) (r i cs[i] σ)
theorem lD:∀(ks:List Kd) (x:PV) (o:Nat),(eY ks x o).length=ks.length
 |[],_,_=>rfl
 |k::ks,x,o=>by rw[eY,qLl,lD ks x (o+1),qLl]
theorem Z5{D:Nat->Option (Nat × Nat)}{Y:Nat->Option aH}{d:Nat}{ss:List Nat}{ts:List TypeId}{cs:List Value}{ps:List (Option (Nat × Nat))}
    (hr:qM T w M D Y ms ts rs cs ps):∀{i:Nat}{xs:List AV}{Z:List (Nat × aH)},qW T d ss i ms ts rs=some (xs,Z)->∃l:List Og,Z=DU l/\(∀x∈l,∃j,i<=j/\x.1=d+1000*j)/\l.Pairwise (λx y=>x.1≠y.1) /\
      l.Pairwise (λx y=>∀b o E,x.2.2=some (b,o)->y.2.2≠some (b,E))/\(∀x∈l,∀b o,x.2.2=some (b,o)->some (b,o)∈ps) /\
      (∀x∈l,∃sa ks ys,x.2.1=.arr sa ks ys/\BR w M (λ_=>x.2.2) (λ_=>none) 0 x.2.1)/\xs.length=cs.length /\
      ∀(h:Nat->Option aH) (β:Nat->Option (Nat × Nat)),(∀x∈l,h x.1=some x.2.1/\β x.1=x.2.2)->(∀j s blk,ss[j]?=some s->Y (ah+j)=some blk->h s=some blk/\β s=D (ah+j)) ->
       ∀(k:Nat) (v:AV),xs[k]?=some v->∃c,cs[k]?=some c/\AR w M β h v c:=by
  induction hr with
  |nil ms=>intro i xs Z h;simp only[qW,qOa,Prod.mk.injEq]at h;obtain⟨rfl,rfl⟩:=h;exact⟨[],rfl,σ,.nil,.nil,σ,σ,rfl,λ_ _ _ _ k v B=>by simp at B⟩
  |cons ms t ts v vs c cs p ps h1 h2 h3 ih=>
   intro i xs Z h;simp only[qW,qLh,List.tail_cons]at h;split at h
   .rename_i x1 b1 xr br u W;simp only[qOa,Prod.mk.injEq]at h;obtain⟨rfl,rfl⟩:=h;obtain⟨l,q1,S,q3,q4,Q,q6,q7,q8⟩:=ih W
    have Gt:b1=[]->(∀(h:Nat->Option aH) (β:Nat->Option (Nat × Nat)),(∀j s blk,ss[j]?=some s->Y (ah+j)=some blk->h s=some blk/\β s=D (ah+j))->AR w M β h x1 c) ->
        ∃l:List Og,b1++br=DU l/\(∀x∈l,∃j,i<=j/\x.1=d+1000*j)/\l.Pairwise (λx y=>x.1≠y.1) /\
    l.Pairwise (λx y=>∀b o E,x.2.2=some (b,o)->y.2.2≠some (b,E))/\(∀x∈l,∀b o,x.2.2=some (b,o)->some (b,o)∈p::ps) /\
    (∀x∈l,∃sa ks ys,x.2.1=.arr sa ks ys/\BR w M (λ_=>x.2.2) (λ_=>none) 0 x.2.1)/\(x1::xr).length=(c::cs).length /\
    ∀(h:Nat->Option aH) (β:Nat->Option (Nat × Nat)),(∀x∈l,h x.1=some x.2.1/\β x.1=x.2.2)->(∀j s blk,ss[j]?=some s->Y (ah+j)=some blk->h s=some blk/\β s=D (ah+j)) ->
     ∀(k:Nat) (v:AV),(x1::xr)[k]?=some v->∃c',(c::cs)[k]?=some c'/\AR w M β h v c':=by
     intro V r;subst V;refine⟨l,by simpa using q1,λx r=>?_,q3,q4,λx r b o e=>by simp[Q x r b o e],q6,by simp[q7],λh β L O k v B=>?_⟩
     .obtain⟨j,G,A⟩:=S x r;exact⟨j,ω,A⟩
     .cases k with
      |zero=>simp at B;subst B;exact⟨c,rfl,r h β O⟩
      |succ k=>simp at B;simpa using q8 h β L O k v B
    revert h1 u;generalize ms.headD .deep=m;intro h1 u;cases h1 with
    |deep t x c J I=>
     simp only[zT,AV.pv]at u;generalize ay T t=sh at J u;obtain⟨sa,ks⟩:=sh;simp only at J u;split at u
     .rename_i ks' e;obtain⟨rfl,rfl⟩:=Prod.mk.inj e;simp only[qOa,Prod.mk.injEq]at u;obtain⟨rfl,rfl⟩:=u;exact Gt rfl λ_ _ _=>.p _ _ (I.written J)
     .rename_i k e;obtain⟨rfl,rfl⟩:=Prod.mk.inj e;simp only[qOa,Prod.mk.injEq]at u;obtain⟨rfl,rfl⟩:=u;exact Gt rfl λ_ _ _=>.p _ _ (yA (by simpa[aA] using J) I)
     .cases u
    |func g qs t cs c J I=>simp only[zT,AV.pv,qOa,Prod.mk.injEq]at u;obtain⟨rfl,rfl⟩:=u;exact Gt rfl λ_ _ _=>.p _ _ (I.Wh J)
    |zf g qs t cs c J I=>simp[zT]at u
    |JU g qs t=>simp[zT]at u
    |Oc t=>simp only[zT,qOa,Prod.mk.injEq]at u;obtain⟨rfl,rfl⟩:=u;exact Gt rfl λ_ _ _=>.p _ _ .pz
    |Ey=>simp[zT]at u
    |alias=>simp[zT]at u
    |fresh t e ys c p hu V I=>
     simp only[zT,hu,AV.au,qOa,Prod.mk.injEq]at u;obtain⟨rfl,rfl⟩:=u;refine⟨(d+1000*i,.arr (ay T e).1 (ay T e).2 ys,p)::l,by simp[DU,q1],λx r=>?_,List.pairwise_cons.2 ⟨λx r=>?_,q3⟩,List.pairwise_cons.2 ⟨λx r b o E u W=>?_,q4⟩,λx r b o u=>?_,λx r=>?_,by simp[q7],λh β L O k v B=>?_⟩
     .rcases List.mem_cons.1 r with rfl |r
      .exact⟨i,qNr _,rfl⟩
      .obtain⟨j,G,A⟩:=S x r;exact⟨j,ω,A⟩
     .obtain⟨j,G,A⟩:=S x r;rw[A];simp only;omega
     .exact h3 b o E u (Q x r b E W)
     .rcases List.mem_cons.1 r with rfl |r
      .simp only at u;simp[u]
      .simp[Q x r b o u]
     .rcases List.mem_cons.1 r with rfl |r
      .exact⟨_,_,_,rfl,V.QE rfl⟩
      .exact q6 x r
     .cases k with
      |zero=>simp at B;subst B;obtain⟨g3,g4⟩:=L _ List.mem_cons_self;exact⟨c,rfl,I.jf rfl g3 g4⟩
      |succ k=>simp at B;simpa using q8 h β (λx r=>L x (by simp[r])) O k v B
    |GV t ks0 ks a ls ys N vs p hsh hla B hn hvs V hl=>
     have el:AV.pV (.agg (ys.map .p++[.fresh a ls N]))=N:=by simp[AV.pV,AV.au]
     simp only[zT,hsh,hla,el,qOa,Prod.mk.injEq]at u;obtain⟨rfl,rfl⟩:=u;refine⟨(d+1000*i,.arr a ls N,p)::l,by simp[DU,q1],λx r=>?_,List.pairwise_cons.2 ⟨λx r=>?_,q3⟩,List.pairwise_cons.2 ⟨λx r b o E u W=>?_,q4⟩,λx r b o u=>?_,λx r=>?_,by simp[q7],λh β L O k v F=>?_⟩
     .rcases List.mem_cons.1 r with rfl |r
      .exact⟨i,qNr _,rfl⟩
      .obtain⟨j,G,A⟩:=S x r;exact⟨j,ω,A⟩
     .obtain⟨j,G,A⟩:=S x r;rw[A];simp only;omega
     .exact h3 b o E u (Q x r b E W)
     .rcases List.mem_cons.1 r with rfl |r
      .simp only at u;simp[u]
      .simp[Q x r b o u]
     .rcases List.mem_cons.1 r with rfl |r
      .exact⟨_,_,_,rfl,V.QE rfl⟩
      .exact q6 x r
     .cases k with
      |zero=>
       simp at F;subst F;obtain⟨g3,g4⟩:=L _ List.mem_cons_self;refine⟨.agg vs,rfl,?_⟩;have U:=(fQ B).1;have hcell:∀(j:Nat) (c:PV),(eY ks (AV.agg (ys.map .p++[.fresh a ls N])).Eb 0)[j]?=some c->∃q y,ks[j]?=some q/\ys[j]?=some y/\kindOk q y=true/\c=eta q y:=by
        intro j c z;rw[qC]at z;cases H:ks[j]? with
        |none=>rw[H]at z;cases z
        |some q=>
         rw[H]at z;simp only[Option.map_some,qOa]at z;have X:j<ks.length:=(qLa.1 H).1;have hy:j<ys.length:=ω
         have he:((AV.agg (ys.map .p++[.fresh a ls N])).Eb.cell (0+j))=ys[j]:=by simp[AV.Eb,PV.cell,qLb,List.getElem?_append_left,hy,AV.pv]
         rw[he]at z;exact⟨q,ys[j],rfl,by simp[hy],(fQ B).2 j q ys[j] H (by simp[hy]),z.symm⟩
       refine .agg _ _ (by simp[hn,lD,U]) (λc z=>?_) λj c z=>?_
       .rcases List.mem_append.1 z with z |z
        .obtain⟨x,r,rfl⟩:=List.mem_map.1 z;obtain⟨j,X⟩:=List.mem_iff_getElem?.1 r;obtain⟨q,y,_,_,g5,rfl⟩:=hcell j x X;exact JQ g5
        .rw[List.mem_singleton.1 z];rfl
       .by_cases X:j<ks.length
        .rw[List.getElem?_append_left (by simp[lD,X]),List.getElem?_map]at z;cases H:(eY ks (AV.agg (ys.map .p++[.fresh a ls N])).Eb 0)[j]? with
         |none=>rw[H]at z;cases z
         |some x=>rw[H]at z;simp only[Option.map_some,qOa]at z;subst z;obtain⟨q,y,_,g4',g5,rfl⟩:=hcell j x H;exact .p _ _ (yA g5 (hvs j y g4'))
        .have K:j=ks.length:=by have:=(qLa.1 z).1;simp[lD]at this;omega
         rw[List.getElem?_append_right (by simp[lD,K])]at z;simp only[lD,qLm,K,Nat.sub_self,List.getElem?_cons_zero,qOa]at z;subst z;rw[K,U];exact hl.jf rfl g3 g4
      |succ k=>simp at F;simpa using q8 h β (λx r=>L x (by simp[r])) O k v F
   .cases h
end
end
section
variable {d n s:Nat}{P:Program}{f:FuncId}{args:Array Value}{w:World}{R:Ending->World->Prop}{rd:Option Nat}{xs:List AV}{cs:List Value}{ss:List Nat}{fi:FI}
def FW(rd:Option Nat):Fence:={Fence.wide with round:=rd}
theorem uo(rd:Option Nat):(FW rd).depth.isSome=true->1<=n:=λh=>by simp[FW,Fence.wide]at h
theorem bW(rd:Option Nat)(h:Calls P f args w R):CallsIn (FW rd) n P f args w R:=
 (callsIn_wide (n:=n)).2 h
theorem jv(h:CallsIn (FW rd) n P f args w R):Calls P f args w R:=
 (callsIn_wide (n:=n)).1 h
theorem tq{o:Oper}{a:Act}{K:Act->World->Prop}{Q:Exit->Act->World->Prop}(b:∀c,o.op≠.defer c)
    (h:o.uponIn (FW rd) n P a K Q ((execOp a.eval o).run P w)):o.wpIn (FW rd) n P a w K Q:=
  ⟨λ_ _=>trivial,by rw[Oper.semAt_plain (FW rd) a.eval o b];exact h⟩
structure dF (P:Program) (w0:Base) (Pr M0:Nat->Prop) (β:Nat->Option (Nat × Nat)) (st:St) (a:Act) (w:World) (o:Oper) (D:DT):Prop where
 sim:(∀c,o.op≠.defer c)->∀(α:Type) (k:Eff->Option α) (r:α),D.run k=some r->∀(rd:Option Nat) (n:Nat) Q,Oper.wpIn (FW rd) n P o a w (λa' w'=>(∃c,a'=a.put o.dst c)/\∃e M' β',k e=some r/\gu w0.gl w.drawn w'.drawn/\(gI (e.new++e.zK)=true ->
  Rel w0 Pr M0 M' β' (st.apply o.dst e) a' w'/\(∀s,ah<=s->β' s=β s)/\iU st.heap (st.apply o.dst e).heap)) Q
section
variable {P:Program}{T:Tab}{w0:Base}{Pr M0 M:Nat->Prop}{β:Nat->Option (Nat × Nat)}{st:St}{a:Act}{w:World}{o:Oper}
theorem LQ{α:Type}{c:Option (List AV × List aH)}{f:List AV × List aH->DT}{k:Eff->Option α}{r:α}(h:(DT.call c f).run k=some r):∃x,c=some x/\(f x).run k=some r:=by
 cases c with
 |none=>simp[DT.run]at h
 |some x=>exact⟨x,rfl,by simpa[DT.run] using h⟩
theorem aI.op{D:DT}(h:aI P w0 Pr M0 β st a w o.dst D (execOp a.eval o)):dF P w0 Pr M0 β st a w o D:=by
 refine⟨λb α k r l rd n Q=>?_⟩;obtain⟨e,nv,c,w',M',β',j,i,m,h4⟩:=h.sim α k r l;refine tq b ?_;have hd:gu w0.gl w.drawn w'.drawn:=λ_=>acO _ i;rw[i];rcases m with rfl |⟨rfl,rfl⟩
 .exact⟨⟨_,rfl⟩,e,M',β',j,hd,h4⟩
 .exact⟨⟨_,rfl⟩,e,M',β',j,hd,h4⟩
theorem IK{s:Nat}:∀{l:List Og},s∈keysOf (DU l)↔∃x∈l,x.1=s
 |[]=>by simp[DU,keysOf]
 |(k,b,p)::r=>by
  have j:=IK (s:=s) (l:=r);simp only[DU,List.map_cons,keysOf,List.mem_cons]at j ⊢;rw[j];constructor
  .rintro (rfl |⟨x,i,rfl⟩)
   .exact⟨_,.inl rfl,rfl⟩
   .exact⟨x,.inr i,rfl⟩
  .rintro ⟨x,rfl |i,rfl⟩
   .exact .inl rfl
   .exact .inr ⟨x,i,rfl⟩
theorem ahp{h:Nat->Option aH}(b:xs.length=cs.length)(j:∀(k:Nat) (v:AV),xs[k]?=some v->∃c,cs[k]?=some c/\AR w M β h v c):AR w M β h (nJ xs) (qx cs):=by
 match xs,cs,b,j with
 |[v],[c],_,j=>obtain⟨p,l,m⟩:=j 0 v rfl;simp at l;subst l;exact m
 |[],[],_,_=>exact .o7 [] #[] rfl λi c hi=>by simp at hi
 |x::y::xs,c::d::cs,b,j=>refine .o7 _ _ (by simp at b;simp[b]) λi v hi=>?_;obtain⟨p,l,m⟩:=j i v hi;simp_all
 |[],_::_,b,_=>simp at b
 |_::_,[],b,_=>simp at b
 |[_],_::_::_,b,_=>simp at b
 |_::_::_,[_],b,_=>simp at b
theorem Rel.results(r:Rel w0 Pr M0 M β st a w){m:Nat->Option (Nat × Nat)}{E:Nat->Option aH}{ms:List dV}{ts:List TypeId}{rs:List AV}{ps:List (Option (Nat × Nat))}
    {A:List (Nat × aH)}(Q:qM T w M m E ms ts rs cs ps)(N:qW T d ss 0 ms ts rs=some (xs,A))(hfree:∀s∈keysOf A,look st.heap s=none)
    (p:∀b o,some (b,o)∈ps->¬M b/\b<w.heap.size/\((w0.heap.size<=b\/Pr b)/\w0.n0<=b)/\∀s' L,(look st.heap s').isSome=true->β s'≠some (b,L))
    (z:∀j s blk,ss[j]?=some s->E (ah+j)=some blk->look st.heap s=some blk/\β s=m (ah+j)) :
    ∃β',Rel w0 Pr M0 M β' {env:=Skm.setEnv st.env (some d) (nJ xs),heap:=eH st.heap A} (a.put (some d) (qx cs)) w/\∀s,s ∉ keysOf A->β' s=β s:=by
  obtain⟨l,rfl,W,B,K,J,I,H,G⟩:=Z5 Q N;have y:∀x∈l,look st.heap x.1=none:=λx i=>hfree x.1 (IK.2 ⟨x,i,rfl⟩);have F:=Rel.lays l r B y K (λx i b o e=>p b o (J x i b o e)) I;refine⟨overlay β l,F.setEnv (some d) (ahp H (G _ _ (λx i=>⟨Uu B i,QD B i⟩) λj s blk U S=>?_)),λs O=>zk λx i e=>O (IK.2 ⟨x,i,e⟩)⟩;obtain⟨D,V⟩:=z j s blk U S;have u:∀x∈l,x.1≠s:=λx i e=>by rw[<-e,y x i]at D;cases D
  exact⟨(IJ u).trans D,(zk u).trans V⟩
theorem BK(ok:bJ P T){f:Nat}(b:aX T.funcs f=some fi)(j:∃c,fi.fn.body=some c)(args:Array Value):(callFunc f args).run P w=.ok (.enter f args) w:=by obtain⟨m,l,_⟩:=ok.funcs f fi b;obtain⟨c,i⟩:=j;unfold callFunc;simp only[Sem.run_bind,program,Sem.run,qRa,m,l,i,Option.isNone_some,Bool.false_eq_true,if_false,Sem.run_pure]
theorem Hl(st:St)(d:Option Nat)(v:AV)(j:List (Nat × aH))(b i:List Nat):st.apply d {val:=v,ny:=j,new:=b,zK:=i} =
    {env:=Skm.setEnv (st.strike (present st.heap b++i)).env d v,heap:=eH (st.strike (present st.heap b++i)).heap j}:=rfl
theorem uT{b j:List Nat}(l:s∈b):look (st.strike (present st.heap b++j)).heap s=none:=by
 rw[bY];by_cases i:s∈present st.heap b++j
 .grind
 .rw[if_neg i];cases hd:look st.heap s with
  |none=>rfl
  |some x=>exact absurd (List.mem_append.2 (.inl (qE l (by rw[hd];rfl)))) i
theorem Nu(h:(look (st.strike ss).heap s).isSome=true):s ∉ ss/\(look st.heap s).isSome=true:=by grind[bY]
theorem ac3{sh:Bool × List Kd}{x:PV}{M:Nat->Prop}{c:Value}(h:VR w M x c):VR w M (ZK sh x) c:=by
 unfold ZK;split
 .cases h;exact .iM _ _ none 0
 .exact h
theorem vI:∀(ts:List TypeId) (vs:List PV),(normArgs T ts vs).length=vs.length
 |[],vs=>by simp[normArgs]
 |t::ts,[]=>rfl
 |t::ts,v::vs=>by simp[normArgs,vI ts vs]
theorem JV:∀(ts:List TypeId) (vs:List PV) (i:Nat) (v:AV),(normArgs T ts vs)[i]?=some v->∃x,vs[i]?=some x/\∀(M:Nat->Prop) (β:Nat->Option (Nat × Nat)) (h:Nat->Option aH) (c:Value),VR w M x c->AR w M β h v c
 |[],vs,i,v,h=>by simp only[normArgs,List.getElem?_map,Option.map_eq_some_iff]at h;obtain⟨x,j,rfl⟩:=h;exact⟨x,j,λM β h c b=>.p _ _ b⟩
 |t::ts,[],i,v,h=>by simp[normArgs]at h
 |t::ts,x::vs,0,v,h=>by simp only[normArgs,List.getElem?_cons_zero,qOa]at h;subst h;exact⟨x,rfl,λM β h c b=>.p _ _ (ac3 b)⟩
 |t::ts,x::vs,i+1,v,h=>by simp only[normArgs,List.getElem?_cons_succ]at h;simpa using JV ts vs i v h
theorem Nv(b:Bool)(ts:List TypeId)(vs:List PV)(i:Nat)(v:AV)(h:(cond b (vs.map .p) (normArgs T ts vs))[i]?=some v):∃x,vs[i]?=some x/\∀(M:Nat->Prop) (β:Nat->Option (Nat × Nat)) (h:Nat->Option aH) (c:Value),VR w M x c->AR w M β h v c:=by
 cases b with
 |false=>exact JV ts vs i v h
 |true=>simp only[qCt,List.getElem?_map,Option.map_eq_some_iff]at h;obtain⟨x,j,rfl⟩:=h;exact⟨x,j,λM β h c l=>.p _ _ l⟩
theorem ac4(ok:bJ P T){C:aB}(hC:dS P T w0.gl C)(r:Rel w0 Pr M0 M β st a w){h':Nat->Option aH}(A:∀s b,h' s=some b->look st.heap s=some b){f:Nat}{args:List AV}{ak:Array Value}
    (hd:o.dst=some d)(O:aX T.funcs f=some fi)(hm:fi.cfg.MZ=false)(hargs:lq w M β (look st.heap) args ak.toList)(he:(execOp a.eval o).run P w=(callFunc f ak).run P w) :
    dF P w0 Pr M0 β st a w o (qy T C h' o.dst f args):=by
  rw[hd];simp only[qy,O,hm];cases S:EF h' args with
  |none=>exact⟨λ_ _ _ _ u=>by simp[DT.run]at u⟩
  |some q=>
   obtain⟨vs,ss⟩:=q;refine⟨λL α k res u rd n Q=>?_⟩;obtain⟨⟨rs,l9⟩,hcall,u⟩:=LQ u;obtain⟨hbody,IL⟩:=hC.plain f fi _ [] rs l9 O σ hcall;obtain⟨d1,d2,d3⟩:=EO (λs b h=>r.heap s b (A s b h)) A S hargs;obtain⟨E,u,G⟩:=ac0 (T:=T) u;cases y:qW T d [] 0 E fi.fn.resultTypes.toList rs with
   |none=>rw[y]at u;simp[DT.run]at u
   |some xb=>
    obtain⟨xs,H⟩:=xb;rw[y]at u;simp only[DT.run]at u;refine tq L ?_;rw[he,BK ok O hbody,Oper.uponIn_enter];refine⟨uo rd,bW rd ?_⟩;have F:ni w (bg M β ss) β (cond fi.cfg.CV (vs.map .p) (normArgs T fi.fn.params.toList vs)) [] ak:=by
     refine⟨by cases fi.cfg.CV<;>simp[d1,vI],λi v hi=>?_,λi b0 hi=>by simp at hi,λi b o hi=>by simp at hi,λi j b o Z hi=>by simp at hi,λb m=>?_⟩
     .obtain⟨x,hx,hv⟩:=Nv (T:=T) (w:=w) fi.cfg.CV _ _ i v hi;have D:i<ak.toList.length:=by rw[<-d1];exact(qLa.1 hx).1
      have hc:ak.toList[i]?=some (ak.getD i undef):=by rw[qLd D];simp only[Array.length_toList]at D;simp[D]
      exact hv _ _ _ _ (d2 i x _ hx hc)
     .rcases m with m |⟨s,o,B,m⟩
      .exact r.dJ b m
      .exact(r.own s b o (d3 s B) m).2.1
    refine Calls.mono (IL w _ β ak (λp hp=>⟨.inl (r.glob p hp).1,(r.glob p hp).2⟩) F) λe w' hpost=>?_;obtain⟨cs,ps,M',rfl,post⟩:=hpost;have hkeep:∀b,b<w.heap.size->w'.heap[b]?=w.heap[b]?:=λb m=>post.keep b m λi o hi=>by simp at hi
    refine⟨⟨_,rfl⟩,?_⟩;show ∃e M' β',_
    obtain ⟨M'',X,W,V,U⟩:∃M'':Nat->Prop,(∀b,bg M β (cond fi.cfg.shares ss []) b->M'' b)/\(∀b,M'' b->bg M β (cond fi.cfg.shares ss []) b\/(w.heap.size<=b/\b<w'.heap.size))/\(∀b,M'' b->M' b) /\
        qM T w' M'' β (look (dK 0 l9)) E fi.fn.resultTypes.toList rs cs ps:=by
      cases B:fi.cfg.shares with
      |true=>exact⟨M',λb m=>post.dJ b m,λb m=>(post.jH b m).imp id λh=>⟨h,post.mlt b m⟩,λ_ h=>h,G _ _ _ _ _ _ _ post.res⟩
      |false=>
       obtain⟨M2,J,k2⟩:=post.res2 hm B;refine⟨λb=>bg M β [] b\/M2 b,λ_ h=>.inl h,λb h=>h.imp id λh=>⟨(J b h).2,post.mlt b (J b h).1⟩,λb m=>?_,(G _ _ _ _ _ _ _ k2).mono λ_ h=>.inr h⟩;rcases m with (m |⟨s,o,B,_⟩) |m
       .exact post.dJ b (.inl m)
       .simp at B
       .exact(J b m).1
    refine⟨{val:=nJ xs,ny:=H,new:=keysOf H,zK:=cond fi.cfg.shares ss []},M'',?_⟩;by_cases z:gI (keysOf H++cond fi.cfg.shares ss [])=true
    .have Y:=r.freeze (present st.heap (keysOf H)) (cond fi.cfg.shares ss []) (jU z).2 (by
       cases fi.cfg.shares with
       |false=>simp
       |true=>exact d3)
     have r2:Rel w0 Pr M0 M'' β (st.strike (present st.heap (keysOf H)++cond fi.cfg.shares ss [])) a w':=
      Y.world post.size post.os post.tape post.output (λb m _=>hkeep b m) (λb n _ m _ hr=>hr.of_block (hkeep b m)) X W
     obtain⟨β',r3,I⟩:=r2.results (d:=d) U y (λs B=>uT B) (λb o m=>by obtain⟨g1,g2,g3⟩:=post.own b o m;refine⟨λh=>g1 (V b h),g2,⟨.inl (by have:=r.size;omega),by have:=r.size;have:=w0.le';omega⟩,λs' Z K I=>?_⟩;have:=(Y.own s' b Z K I).2.1;omega) (λj s blk hj=>by simp at hj);refine⟨β',u,post.drawn,λ_=>⟨?_,λs B=>I s λu=>?_,fD λk b N=>.inl ?_⟩⟩
     .rw[hd];exact r3
     .have:=lu (jU z).1 s u;omega
     .refine lu (jU z).1 k ?_;have:∀(l:List (Nat × aH)),(k,b)∈l->k∈keysOf l:=by
       intro l;induction l with
       |nil=>intro h;simp at h
       |cons x r ih=>
        intro h;rcases List.mem_cons.1 h with rfl |h
        .simp[keysOf]
        .simp[keysOf,ih h]
      exact this _ N
    .exact⟨β,u,post.drawn,λh=>absurd h z⟩
end
end
section
section
variable {P:Program}{T:Tab}{w0:Base}{Pr M0 M:Nat->Prop}{β:Nat->Option (Nat × Nat)}{st:St}{a:Act}{w:World}{o:Oper}
theorem BR.ac5{β':Nat->Option (Nat × Nat)}{h h':Nat->Option aH}{s s':Nat}{blk:aH}(F:BR w M β h s blk)(hp:dI blk=true)(e:β' s'=β s):BR w M β' h' s' blk:=by
 cases F with
 |gJ=>exact .gJ _ _
 |log=>exact .log _ _
 |tb=>simp[dI]at hp
 |mp=>simp[dI]at hp
 |br=>simp[dI]at hp
 |GX=>simp[dI]at hp
 |arr _ _ _ b o C D fr B A z y r g6=>exact .arr _ _ _ b o C D fr (e.trans B) A z y r g6
 |box cs b o C D fr B A z y r g6=>
  refine .box cs b o C D fr (e.trans B) A z y r λj c m=>?_;simp only[dI,Option.isSome_iff_exists]at hp;obtain⟨vs,hp⟩:=hp;have l:=uQ hp;subst l;have i:=g6 j c m;simp only[List.getElem?_map,Option.map_eq_some_iff]at m;obtain⟨x,_,rfl⟩:=m;generalize C.getD (o+j) undef=u at i;cases i with
  |p _ _ E=>exact .p _ _ E
end
section
variable {P:Program}{T:Tab}{w0:Base}{Pr M0 M:Nat->Prop}{β:Nat->Option (Nat × Nat)}{st:St}{a:Act}{w:World}{o:Oper}
end
end
section
variable {g s x:Nat}{e t:TypeId}{c v:Value}{q:Option (Nat × Nat)}{xs ys:List PV}{w':World}{h h':Nat -> Option aH}{c0 c1:AV}{fr:Nat × Nat}{C:Array Value}{α:Type}{k:Kd}
section
variable {P:Program}{T:Tab}{w0:Base}{Pr M0 M:Nat->Prop}{β:Nat->Option (Nat × Nat)}{st:St}{a:Act}{w:World}{o:Oper}
theorem Dl{x:PV}(h:aA false [.int .u8] x=true):∃n,x=.int .u8 n:=by cases x<;>simp[aA,kindOk]at h;exact⟨_,by rw[<-h]⟩
theorem ac6{cs:List Value}(h:zh e w v q cs):∃base cap,v=.slice base cs.length cap:=by
 rcases h with⟨_,rfl,rfl⟩ |⟨b,cap,C,fr,_,rfl,_⟩
 .exact⟨none,0,rfl⟩
 .exact⟨_,cap,rfl⟩
theorem row_of(r:Rel w0 Pr M0 M β st a w)(p:look st.heap g=some (.br e xs))(N:AR w M β (look st.heap) (.mref g) v) :
    ∃q,zh e w v q (xs.map iQ)/\(∀b o,q=some (b,o)->β g=some (b,o))/\∀x∈xs,aA false [.int .u8] x=true:=by
  have m:∀x∈xs,aA false [.int .u8] x=true:=by
   cases r.heap g _ p with
   |GX=>simp
   |br _ _ b C fr A z O G F g6=>exact F
  cases N with
  |Iy _ t S b o i=>rw[p]at i;cases i
  |Iz _ H I b cap i D K B J=>
   rw[p]at i;cases i;obtain⟨C,H,fr,E,L⟩:=J.aqX;cases r.heap g _ p with
   |GX=>simp at B
   |br _ _ b' C2 Q A z O G F g6=>
    rw[D]at A;cases A;rw[E]at z;cases z;refine⟨some (b,0),.inr ⟨b,cap,C,fr,rfl,σ,by simpa using K,by simpa using B,E,L,by simpa using G,λj c l=>?_⟩,λ_ _ h=>by cases h;exact D,m⟩;rw[List.getElem?_map]at l;cases u:xs[j]? with
    |none=>rw[u]at l;simp at l
    |some y=>rw[u]at l;simp only[Option.map_some,qOa]at l;subst l;exact g6 j y u
  |yB _ H i=>rw[p]at i;cases i;exact⟨none,.inl ⟨rfl,rfl,rfl⟩,λb o h=>(by cases h),m⟩
theorem ac7(h:∀x∈xs,aA false [.int .u8] x=true):∀c∈xs.map iQ,∃n,c=.int .u8 n:=by intro c i;obtain⟨x,b,rfl⟩:=List.mem_map.1 i;obtain⟨n,rfl⟩:=Dl (h x b);exact⟨n,rfl⟩
theorem Yn{v':Value}{m:Option (Nat × Nat)}(A:zh e w' v' m (ys.map iQ))(j:∀x∈ys,aA false [.int .u8] x=true){β':Nat->Option (Nat × Nat)}(p:β' x=m)(r:h' x=some (.br e ys)) :
    BR w' M β' h' x (.br e ys)/\AR w' M β' h' (.mref x) v':=by
  rcases A with⟨rfl,E,rfl⟩ |⟨b,cap,C,fr,rfl,rfl,z,h4,h5,D,u,B⟩
  .have l:ys=[]:=by simpa using E
   subst l;exact⟨.GX _,.yB x e r⟩
  .simp only[qLm]at z h4 u ⊢;refine⟨.br e ys b C fr p h5 ω u j λi y l=>B i _ (by rw[List.getElem?_map,l];rfl),.Iz x e ys b cap r p z h4 (Room.mkC h5 D)⟩
theorem Rel.built(r:Rel w0 Pr M0 M β st a w){b:Nat}(hs:look st.heap s=some (.tb t c0 c1))(hx:look st.heap x=none)(G:x≠s)(Q:β s=some (b,0))
    (hs1:s<ah)(auv:x<ah)(V:∀g o,q=some (g,o)->¬M g/\g<w.heap.size/\((w0.heap.size<=g\/Pr g)/\(w0.n0<=g\/ah<=x))/\∀s' z,(look st.heap s').isSome=true->β s'≠some (g,z))
    (hw:w.heap[b]?=some (.cells C t fr))(hn:C.size=2)(ho:Open #[Value.pointer (some ⟨b,0,none⟩),undef] fr)(S:∀y∈ys,aA false [.int .u8] y=true){N:Prop}(hp:zH N e w t b q (ys.map iQ) fr w')
    {d:Option Nat}{v:AV}(hv:∀w' h' β',AR w' M β' h' v c) :
    ∃F,Rel w0 Pr M0 M (λy=>if y=x then F else β y) {env:=Skm.setEnv st.env d v,heap:=put (put st.heap x (.br e ys)) s (.tb t (.ptr s 0 0) (.mref x))} (a.put d c) w':=by
  obtain⟨v',F,Z,Y,p3⟩:=hp.put;have J:(look st.heap s).isSome=true:=by rw[hs];rfl
  obtain⟨o1,o2,o3⟩:=r.own s b 0 J Q;have hq1:∀k,(M k\/(k<w0.heap.size/\¬Pr k))->k<w.heap.size->w'.heap[k]?=w.heap[k]?:=by
   intro k A hkl;refine hp.keep k hkl (λe=>?_) λo e=>?_
   .subst e;rcases A with h |⟨L,K⟩
    .exact o1 h
    .rcases o3.1 with h |h
     .omega
     .exact K h
   .obtain⟨X,g2,U,W⟩:=V k o e;rcases A with h |⟨L,K⟩
    .exact X h
    .rcases U.1 with h |h
     .omega
     .exact K h
  have hopen:∀u,Open #[Value.pointer (some ⟨b,0,none⟩),u] fr:=λu=>ho.size rfl;have O:∀y,look (put st.heap s (.tb t (.ptr s 0 0) .undef)) y=if y=s then some (.tb t (.ptr s 0 0) .undef)else look st.heap y:=λy=>aZ _ _ _ _
  have hroom:∀k n,k<w.heap.size->((∃s' z,(look st.heap s').isSome=true/\β s'=some (k,z))\/(k<w0.n0/\Pr k))->Room w k n->Room w' k n:=by
   intro k n A hc hr;by_cases e:k=b
   .subst e;obtain⟨C1,l,Y7,L,K,h3⟩:=hr;rw[hw]at L;cases L;exact⟨_,t,fr,Z,by simp;omega,λ_=>hopen _⟩
   .refine hr.of_block (hp.keep k A e λz e'=>?_);obtain⟨X,g2,U,W⟩:=V k z e';rcases hc with⟨s',m,L,K⟩ |⟨L,K⟩
    .exact W s' m L K
    .rcases U.2 with h |h<;>omega
  have r1:Rel w0 Pr M0 M β {st with heap:=put st.heap s (.tb t (.ptr s 0 0) .undef)} a w':=by
   refine r.moved hp.size hp.os hp.tape hp.output (λk A h=>hq1 k h A) hroom (λ_ h=>h) (λ_ h=>.inl h) (λy i=>?_) (λy blk i=>?_)
   .rw[O];by_cases e:y=s
    .subst e;rw[hs]at i;cases i
    .rw[if_neg e];exact i
   .rw[O];by_cases e:y=s
    .subst e;rw[hs]at i;cases i;refine⟨.tb t (.ptr y 0 0) .undef,if_pos rfl,.inr ⟨rfl,.tb t _ _ b #[.pointer (some ⟨b,0,none⟩),v'] fr Q Z rfl (hopen _) rfl rfl ?_ (.undef _)⟩⟩;exact .ptrT y 0 t (.ptr y 0 0) .undef b (by rw[O,if_pos rfl]) Q
    .refine⟨blk,by rw[if_neg e];exact i,.inl ⟨rfl,λk z A=>?_⟩⟩;have I:(look st.heap y).isSome=true:=by rw[i];rfl
     refine hp.keep k (r.own y k z I A).2.1 (λj=>?_) λo2 j=>?_
     .subst j;exact e (r.inj y s k z 0 I J A Q)
     .exact(V k o2 j).2.2.2 y z I A
  have hx1:look (put st.heap s (.tb t (.ptr s 0 0) .undef)) x=none:=by rw[O,if_neg G];exact hx
  obtain⟨b1,b2⟩:=Yn (M:=M) Y S (β':=λy=>if y=x then F else β y) (h':=λy=>if y=x then some (.br e ys)else look (put st.heap s (.tb t (.ptr s 0 0) .undef)) y) (x:=x) σ σ;have r2:=r1.lay (s:=x) (blk:=.br e ys) hx1 (p:=F) (λg og eg=>by
   obtain⟨n1,n2⟩:=p3 g og eg;have hlive:∀(s':Nat),(look (put st.heap s (.tb t (.ptr s 0 0) .undef)) s').isSome=true->(look st.heap s').isSome=true:=λs' h=>by
    rw[O]at h;by_cases e:s'=s
    .subst e;exact J
    .rw[if_neg e]at h;exact h
   rcases n2 with⟨z,e'⟩ |D
   .obtain⟨X,g2,U,W⟩:=V g z e';exact⟨X,Nat.lt_of_lt_of_le g2 hp.size,U,λs' m H=>W s' m (hlive s' H)⟩
   .refine⟨λhM=>?_,?_,⟨.inl (Nat.le_trans r.size D),.inl (Nat.le_trans (Nat.le_trans w0.le' r.size) D)⟩,λs' m H ajK=>?_⟩
    .have:=r.dJ _ hM;omega
    .rcases Y with⟨rfl,_⟩ |⟨b',cap,C',fr',rfl,_,_,_,h4,_⟩
     .cases eg
     .cases eg;exact(qAa.1 h4).1
    .have:=(r.own s' g m (hlive s' H) ajK).2.1;omega) b1
  refine⟨F,?_⟩;have E:∀y,look (put (put st.heap s (.tb t (.ptr s 0 0) .undef)) x (.br e ys)) y=if y=x then some (.br e ys)else look (put st.heap s (.tb t (.ptr s 0 0) .undef)) y:=λy=>aZ _ _ _ _
  have B:∀y,look (put (put st.heap x (.br e ys)) s (.tb t (.ptr s 0 0) (.mref x))) y=if y=s then some (.tb t (.ptr s 0 0) (.mref x))else if y=x then some (.br e ys)else look st.heap y:=λy=>by rw[aZ,aZ]
  have r3:Rel w0 Pr M0 M (λy=>if y=x then F else β y) {st with heap:=put (put st.heap x (.br e ys)) s (.tb t (.ptr s 0 0) (.mref x))} a w':=by
   refine r2.moved (hp':=put (put st.heap x (.br e ys)) s (.tb t (.ptr s 0 0) (.mref x))) (qNr _) rfl rfl rfl (λ_ _ _=>rfl) (λ_ _ _ _ h=>h) (λ_ h=>h) (λ_ h=>.inl h) (λy i=>?_) (λy blk i=>?_)
   .have i:look (put (put st.heap s (.tb t (.ptr s 0 0) .undef)) x (.br e ys)) y=none:=i;rw[E]at i;rw[B];by_cases l:y=x
    .rw[if_pos l]at i;cases i
    .rw[if_neg l,O]at i;by_cases j:y=s
     .rw[if_pos j]at i;cases i
     .rw[if_neg j]at i;rw[if_neg j,if_neg l];exact i
   .have i:look (put (put st.heap s (.tb t (.ptr s 0 0) .undef)) x (.br e ys)) y=some blk:=i;rw[E]at i;rw[B];by_cases l:y=x
    .rw[if_pos l]at i;cases i;have:¬y=s:=by rw[l];exact G
     exact⟨_,by rw[if_neg this,if_pos l],.inl ⟨rfl,λ_ _ _=>rfl⟩⟩
    .rw[if_neg l,O]at i;by_cases j:y=s
     .rw[if_pos j]at i;cases i;subst j;refine⟨.tb t (.ptr y 0 0) (.mref x),by rw[if_pos rfl],.inr ⟨rfl,.tb t _ _ b #[.pointer (some ⟨b,0,none⟩),v'] fr (by rw[if_neg l];exact Q) Z rfl (hopen _) rfl rfl ?_ ?_⟩⟩
      .exact .ptrT y 0 t _ _ b (by rw[B,if_pos rfl]) (by rw[if_neg l];exact Q)
      .exact(Yn (M:=M) Y S (β':=λy=>if y=x then F else β y) (h':=look (put (put st.heap x (.br e ys)) y (.tb t (.ptr y 0 0) (.mref x)))) (x:=x) σ (by rw[B,if_neg G,if_pos rfl])).2
     .rw[if_neg j]at i;exact⟨blk,by rw[if_neg j,if_neg l];exact i,.inl ⟨rfl,λ_ _ _=>rfl⟩⟩
  exact r3.setEnv d (hv _ _ _)
theorem LU{l:List Nat}(h:fB x l=true):x∈l:=jJ.1 h
theorem nZ{c:Bool}{D:DT}{k:Eff->Option α}{r:α}(h:(chk c D).run k=some r):c=true/\D.run k=some r:=by
 cases c with
 |true=>exact⟨rfl,h⟩
 |false=>simp[chk,DT.run]at h
theorem abE(r:Rel w0 Pr M0 M β st a w)(l:look st.heap s=some (.tb t c0 c1))(p:AR w M β (look st.heap) (.ptr s 0 0) c) :
    ∃b C fr,β s=some (b,0)/\c=.pointer (some ⟨b,0,none⟩)/\w.heap[b]?=some (.cells C t fr)/\C.size=2/\Open C fr/\AR w M β (look st.heap) c0 (C.getD 0 undef)/\AR w M β (look st.heap) c1 (C.getD 1 undef):=by
  cases p with
  |ptrB _ _ cs b o i j=>rw[l]at i;cases i
  |ptrA _ _ _ a ks xs b o i j E=>rw[l]at i;cases i
  |ptrT _ _ D H G b i j=>
   cases r.heap s _ l with
   |tb _ _ _ b' C fr m B A z F g6 y u=>rw[j]at m;cases m;exact⟨b,C,fr,j,rfl,B,A,z,y,u⟩
theorem Yo{b:Nat}{y u:AV}(m:h s=some (.tb t y u))(z:β s=some (b,0))(l:OC s c0=true)(r:AR w M β h c0 c):c=.pointer none\/c=.pointer (some ⟨b,0,none⟩):=by
 unfold OC at l;split at l
 .cases r with
  |p _ _ A=>cases A;exact .inl rfl
 .next x=>
  have e:x=s:=by simpa using l
  subst e;cases r with
  |ptrB _ _ cs b o i j=>rw[m]at i;cases i
  |ptrA _ _ _ a ks xs b o i j D=>rw[m]at i;cases i
  |ptrT _ _ B y u b' i j=>rw[z]at j;cases j;exact .inr rfl
 .cases l
theorem ac8(st:St)(d:Option Nat)(v:AV){b1 j:aH}(x:Nat) :
    look (st.apply d {val:=v,ny:=[(g,b1),(s,j)],cut:=[g]}).heap x=look (put (put (st.strike [g]).heap g b1) s j) x:=by
  show look (put (put (fM [g] st.heap) g b1) s j) x=_;rw[aZ,aZ,aZ,aZ];by_cases i:x=s
  .rw[if_pos i,if_pos i]
  .rw[if_neg i,if_neg i];by_cases b:x=g
   .rw[if_pos b,if_pos b]
   .rw[if_neg b,if_neg b,fE,bY,if_neg (by simpa using b)]
theorem QJ(x:ByteArray):(xI x).map iQ=vP x.data.toList:=by simp[xI,vP,iQ,List.map_map,Function.comp_def]
theorem JW(x:ByteArray):∀y∈xI x,aA false [.int .u8] y=true:=by intro y b;obtain⟨z,_,rfl⟩:=List.mem_map.1 b;rfl
theorem EW(_r:Rel w0 Pr M0 M β st a w){ss:List Nat}(b:look st.heap s=some (.tb t c0 c1))(i:s ∉ ss):∃l j,look (st.strike ss).heap s=some (.tb t l j):=by rw[bY,if_neg i,b];exact⟨_,_,rfl⟩
theorem Wi(r:Rel w0 Pr M0 M β st a w)(L:∀s b,h' s=some b->look st.heap s=some b){d m b:Nat}{el:TypeId}{val:AV}{rv:Value} 
    (hs:look st.heap s=some (.tb t c0 c1))(nV:β s=some (b,0))(V:w.heap[b]?=some (.cells C t fr))(Q:C.size=2)(G:Open C fr)(h0:C.getD 0 undef=.pointer none\/C.getD 0 undef=.pointer (some ⟨b,0,none⟩))(h1:AR w M β (look st.heap) c1 (C.getD 1 undef))
    (A:s<ah)(K:∀y∈ys,aA false [.int .u8] y=true)(_hm:ys.length=m)(E:∀w' h' β',AR w' M β' h' val rv)(auw:∀ss,AV.refers ss val=false){k:Eff->Option α}{J:α}(j:(Qe h' d s t el c1 m ys val).run k=some J) :
    ∃q cs,(∀x o,q=some (x,o)->¬M x)/\DI el w t b q cs C fr/\cs.length+m<=2147483648/\∀(N:Prop) w',(w0.gl=none->N)->zH N el w t b q (cs++ys.map iQ) fr w'->∃e M' β',k e=some J/\gu w0.gl w.drawn w'.drawn/\(gI (e.new++e.zK)=true ->
     Rel w0 Pr M0 M' β' (st.apply (some d) e) (a.put (some d) rv) w'/\(∀s,ah<=s->β' s=β s)/\iU st.heap (st.apply (some d) e).heap):=by
  have his:(look st.heap s).isSome=true:=by rw[hs];rfl
  have hopen:Open #[Value.pointer (some ⟨b,0,none⟩),undef] fr:=G.size (by simp[Q]);unfold Qe at j;split at j
  .obtain⟨Y,j⟩:=nZ j;obtain⟨I,j⟩:=nZ j;have U:d≠s:=by simpa using Y
   have I:m<=2147483648:=by simpa using I
   have hC1:C.getD 1 undef=.slice none 0 0:=by
    generalize C.getD 1 undef=u at h1;cases h1 with
    |p _ _ hv=>cases hv;rfl
   refine⟨none,[],(λ_ _ h=>by cases h),⟨V,Q,G,h0,.inl ⟨rfl,rfl,hC1⟩,σ,σ⟩,by simpa using I,λN w' X hp=>?_⟩;refine⟨{val:=val,ny:=[(d,.br el ys),(s,.tb t (.ptr s 0 0) (.mref d))],new:=[d]},M,?_⟩;by_cases W:gI ([d]++[])=true
   .have r1:=r.strike (M':=M) (present st.heap [d]++[]) (λ_ h=>h) (λ_ h=>.inl h);have hns:s ∉ present st.heap [d]++[]:=by simp only[List.append_nil];intro h;have:=(nX h).1;simp at this;exact U this.symm
    obtain⟨d0,d1,i⟩:=EW r hs hns;have hd0:look (st.strike (present st.heap [d]++[])).heap d=none:=uT σ;obtain⟨q',Z⟩:=r1.built (d:=some d) (v:=val) (c:=rv) i hd0 U nV A (lu W d σ) (q:=none) (λg o h=>by cases h) V Q hopen K (by simpa using hp) E;refine⟨λx=>if x=d then q' else β x,j,λz=>hp.drawn (X z),λ_=>⟨?_,λx hx=>?_,fD λy blk F=>?_⟩⟩
    .rw[Hl];exact Z
    .have hd':d<ah:=lu W d σ;exact if_neg ω
    .simp only[List.mem_cons,Prod.mk.injEq,List.not_mem_nil,or_false]at F;rcases F with⟨rfl,rfl⟩ |⟨rfl,rfl⟩
     .exact .inl (lu W y σ)
     .exact .inl A
   .exact⟨β,j,λz=>hp.drawn (X z),λh=>absurd h W⟩
  .next g=>
   split at j
   .next ef xs hg0=>
    have hg:=L _ _ hg0;obtain⟨Y,S⟩:=nZ j;obtain⟨I,hk3⟩:=nZ S;clear j S;simp only[qBa]at Y;obtain⟨H,D,l⟩:=Y;have H:ef=el:=by simpa using H
    subst H;have D:g<100000:=(Nat.blt_eq▸D:_);have l:g≠s:=by simpa using l
    have I:xs.length+m<=2147483648:=by simpa using I
    have B:(look st.heap g).isSome=true:=by rw[hg];rfl
    obtain⟨q,e1,e2,hsubs⟩:=row_of r hg h1;refine⟨q,_,(λx o h=>(r.own g x o B (e2 x o h)).1),⟨V,Q,G,h0,e1,ac7 hsubs,λo h=>?_⟩,by simp only[qLm];exact I,λN w' X hp=>?_⟩
    .exact l (r.inj g s b o 0 B his (e2 b o h) nV)
    .have r1:=r.strike (M':=M) [g] (λ_ h=>h) (λ_ h=>.inl h);obtain⟨d0,d1,i⟩:=EW r hs (ss:=[g]) (by simpa using Ne.symm l);have hg':look (st.strike [g]).heap g=none:=by rw[bY,if_pos σ]
     have hq:∀x o,q=some (x,o)->¬M x/\x<w.heap.size/\((w0.heap.size<=x\/Pr x)/\(w0.n0<=x\/ah<=g))/\∀s' o',(look (st.strike [g]).heap s').isSome=true->β s'≠some (x,o'):=by
      intro x o h;have O:=e2 x o h;obtain⟨k1,k2,k3⟩:=r.own g x o B O;refine⟨k1,k2,k3,λs' o'' i ajK=>?_⟩;rw[bY]at i;by_cases hm:s'∈[g]
      .rw[if_pos hm]at i;cases i
      .rw[if_neg hm]at i;have:=r.inj s' g x o'' o (by simpa using i) B ajK O;exact hm (by simp[this])
     obtain⟨q',Z⟩:=r1.built (d:=some d) (v:=val) (c:=rv) i hg' l nV A D hq V Q hopen (ys:=xs++ys) (by
      intro y F;rcases List.mem_append.1 F with h |h
      .exact hsubs y h
      .exact K y h) (by simpa using hp) E
     refine⟨{val:=val,ny:=[(g,.br ef (xs++ys)),(s,.tb t (.ptr s 0 0) (.mref g))],cut:=[g]},M,λx=>if x=g then q' else β x,hk3,λz=>hp.drawn (X z),λ_=>⟨?_,λx hx=>?_,fD λy blk F=>?_⟩⟩
     .exact Rel.congr Z (hp:=(st.apply (some d) {val:=val,ny:=[(g,.br ef (xs++ys)),(s,.tb t (.ptr s 0 0) (.mref g))],cut:=[g]}).heap) λx=>ac8 st (some d) val x
     .have hx:100000<=x:=hx;exact if_neg ω
     .simp only[List.mem_cons,Prod.mk.injEq,List.not_mem_nil,or_false]at F;rcases F with⟨rfl,rfl⟩ |⟨rfl,rfl⟩
      .exact .inl D
      .exact .inl A
   .simp[DT.run]at j
  .simp[DT.run]at j
theorem Yp(h:∀x∈xs,x.isByte=true):xs.map iQ=vP (bytesOf xs).data.toList:=by
 unfold vP bytesOf;simp only[List.map_map];refine List.map_congr_left λx b=>?_;have:=h x b;unfold PV.isByte at this;split at this
 .next n=>
  simp only[qBa,qDa]at this;have e:(UInt8.ofNat n.toNat).toNat=n.toNat:=by rw[UInt8.toNat_ofNat'];omega
  simp only[iQ,Function.comp_apply,PV.toInt,e];rw[Int.toNat_of_nonneg this.1]
 .cases this
theorem Uw{v:PV}(h:v.VN k=true):∃xs,v=.full false [k] xs/\0<xs.length:=by
 unfold PV.VN at h;split at h
 .rename_i l xs;simp only[qBa]at h;have:=Kd.beq_eq _ _ h.1;subst this;exact⟨xs,rfl,by simpa[Nat.blt_eq] using h.2⟩
 .cases h
theorem Yq(r:AR w M β h (.p (.full false [k] xs)) c)(B:0<xs.length) :
    ∃b o,c=.slice (some ⟨b,o,none⟩) xs.length xs.length/\M b/\∀(i:Nat) (x:PV),xs[i]?=some x->∃v,w.cell? ⟨b,o+i,none⟩=some v/\VR w M x v/\kindOk k x=true:=by
  cases r with
  |p _ _ l=>
  cases l with
  |JO=>simp at B
  |full _ _ _ b o f A r l y=>
   refine⟨b,o,rfl,A,λi x j=>?_⟩;have m:=y x (qLe j);have u:kindOk k x=true:=by simpa[aA] using m
   have z:=iG u;have hcell:x.cells[0]?=some x:=by cases x<;>first |rfl |(simp[PV.leaf]at z)
   have:=r i x 0 x j hcell;refine⟨_,?_,l i x 0 x j hcell,u⟩;simpa using this
theorem afA(ok:bJ P T){C:aB}(hG:dS P T w0.gl C)(r:Rel w0 Pr M0 M β st a w)(B:∀s b,h' s=some b->look st.heap s=some b){f:Nat}{args:List AV}{ak:Array Value}(hp:(fF T f).xK.is=true)(J:(fF T f).xK.calc=false)
    (hargs:lq w M β (look st.heap) args ak.toList)(he:(execOp a.eval o).run P w=(callFunc f ak).run P w):dF P w0 Pr M0 β st a w o (cond true (EL (fF T f).xK (fF T f).Iq (fF T f).Na h' o.dst args) (qy T C h' o.dst f args)):=by
  simp only[qCt];obtain⟨fi,hf,ajL⟩:∃fi,aX T.funcs f=some fi/\fF T f=fi.cfg:=by
   unfold fF at hp ⊢;cases hf:aX T.funcs f with
   |none=>rw[hf]at hp;cases hp
   |some fi=>exact⟨fi,rfl,rfl⟩
  rw[ajL]at hp J ⊢;obtain⟨hbody,hC⟩:=ok.ahU f fi hf hp;replace hbody:=hbody J;refine⟨λhnd α k res m rd n Q=>?_⟩
  have G:∀(R:Ending->World->Prop),Calls P f ak w R->(∀e w',R e w'->∃rv,e=.returned rv/\((∃c,a.put o.dst rv=a.put o.dst c)/\∃e M' β',k e=some res/\gu w0.gl w.drawn w'.drawn/\(gI (e.new ++ e.zK)=true ->
      Rel w0 Pr M0 M' β' (st.apply o.dst e) (a.put o.dst rv) w'/\(∀s,ah<=s->β' s=β s)/\iU st.heap (st.apply o.dst e).heap))) ->
      Oper.wpIn (FW rd) n P o a w (λa' w'=>(∃c,a'=a.put o.dst c)/\∃e M' β',k e=some res/\gu w0.gl w.drawn w'.drawn/\(gI (e.new++e.zK)=true ->
      Rel w0 Pr M0 M' β' (st.apply o.dst e) a' w'/\(∀s,ah<=s->β' s=β s)/\iU st.heap (st.apply o.dst e).heap)) Q:=by
    intro R IL hR;refine tq hnd ?_;rw[he,BK ok hf hbody,Oper.uponIn_enter];refine⟨uo rd,bW rd ?_⟩;refine Calls.mono IL λe w' h=>?_;obtain⟨rv,rfl,h1,N⟩:=hR e w' h;exact⟨h1,N⟩
  unfold EL at m;split at m
  .next d lf s x y hd hpr=>
   split at m
   .next t c0 c1 hs0=>
    have O:=B _ _ hs0;have Z:(look st.heap s).isSome=true:=by rw[O];rfl
    obtain⟨z,j⟩:=nZ m;obtain⟨gf,j⟩:=nZ j;obtain⟨gn,j⟩:=nZ j;simp only[qBa]at z gf;obtain⟨gt,ga,gl⟩:=z;obtain⟨gx,gy⟩:=gf;have gl:s<ah:=(Nat.blt_eq▸gl:_);obtain⟨ca,cb,cc,hca⟩:∃ca cb cc,ak=#[ca,cb,cc]:=by
     have:=hargs.1;simp only[qLl,List.length_nil,Array.length_toList]at this;exact⟨ak[0],ak[1],ak[2],by
      apply Array.ext
      .simp;omega
      .intro i h1 N;have:i=0\/i=1\/i=2:=by simp at N;omega
       rcases this with rfl|rfl|rfl<;>rfl⟩
    subst hca;have ha:=hargs.2 0 _ ca rfl rfl;have hb:=hargs.2 1 _ cb rfl rfl;have hc:=hargs.2 2 _ cc rfl rfl;obtain⟨xs,rfl,hx0⟩:=Uw gx;obtain⟨ys,rfl,hy0⟩:=Uw gy;obtain⟨w1,o1,rfl,hM1,hW1⟩:=Yq hb hx0;obtain⟨w2,o2,rfl,hM2,hW2⟩:=Yq hc hy0;obtain⟨b,C',fr,q1,rfl,q2,q3,q4,q5,q6⟩:=abE r O ha;obtain⟨q,cs,kM,k1,k2,k3⟩:=Wi r B (rv:=.tuple #[]) O q1 q2 q3 q4 (Yo O q1 ga q5) q6 gl (JW _) (by simp[xI]) (λw' h' β'=>.o7 _ _ rfl λi c hi=>by simp at hi) (λss=>by simp[AV.refers,AV.fU]) j;rw[hpr]at hC;have hnb:∀g,M g->g≠b:=λg hg e=>(r.own s b 0 Z q1).1 (e▸hg);have hnq:∀g,M g->∀o,q≠some (g,o):=λg hg o e=>kM g o e hg;refine G _ (hC t (LU gt) w b q cs C' fr xs ys w1 o1 w2 o2 k1 (λi x hx=>?_) (λi y I=>?_) hx0 hy0 (r.dJ _ hM1) (r.dJ _ hM2) (hnb _ hM1) (hnb _ hM2) (hnq _ hM1) (hnq _ hM2) k2 w0.gl.isSome (hG.glob w λp hp=>(r.glob p hp).2)) λe w' hR=>?_
    .obtain⟨c,hc1,hc2,L⟩:=hW1 i x hx;cases x<;>simp[kindOk]at L;cases hc2;exact⟨_,rfl,hc1⟩
    .obtain⟨c,hc1,hc2,L⟩:=hW2 i y I;cases y<;>simp[kindOk]at L;subst L;have hin:=List.all_eq_true.1 gn _ (qLe I);simp only[PV.Dy,qBa,qDa]at hin;cases hc2;exact⟨_,⟨rfl,hin.1,hin.2⟩,hc1⟩
    .obtain⟨rfl,S⟩:=hR;rw[<-QJ]at S;obtain⟨e,M',β',z1,z2,z3⟩:=k3 (w0.gl.isSome=false) w' (λh=>by rw[h];rfl) S;rw[hd];exact⟨_,rfl,⟨_,rfl⟩,e,M',β',z1,z2,z3⟩
   .simp[DT.run]at m
  .next hpr=>rw[hpr]at J;cases J
  .next d s hd hpr=>
   split at m
   .next t c0 c1 hs0=>
    have O:=B _ _ hs0;have Z:(look st.heap s).isSome=true:=by rw[O];rfl
    obtain⟨z,j⟩:=nZ m;simp only[qBa]at z;obtain⟨gt,ga,gl⟩:=z;have gl:s<ah:=(Nat.blt_eq▸gl:_);obtain⟨ca,hca⟩:∃ca,ak=#[ca]:=by
     have:=hargs.1;simp only[qLl,List.length_nil,Array.length_toList]at this;exact⟨ak[0],by
      apply Array.ext
      .simp;omega
      .intro i h1 N;have:i=0:=by simp at N;omega
       subst this;rfl⟩
    subst hca;have ha:=hargs.2 0 _ ca rfl rfl;obtain⟨b,C',fr,q1,rfl,q2,q3,q4,q5,q6⟩:=abE r O ha;have h0:=Yo O q1 ga q5;rw[hpr]at hC
    have fin:∀(q:Option (Nat × Nat)) (x:ByteArray) (w':World),JR True w b q w'->w'.heap[b]?=w.heap[b]?->(∀D o,q=some (D,o)->∃g e xs,g<ah/\look st.heap g=some (.br e xs)/\β g=some (D,o)/\∃C e' fr A,w.heap[D]?=some (.cells C e' fr)/\w'.heap[D]?=some (.cells C e' A)/\Past xs.length A) ->
        Rel w0 Pr M0 M β (st.apply (some d) {val:=.p (.str x)}) (a.put (some d) (.string x)) w':=by
      intro q x w' l E K;have X:∀k,k<w.heap.size->(∀o,q≠some (k,o))->w'.heap[k]?=w.heap[k]?:=λk m V=>by
       by_cases e:k=b
       .rw[e];exact E
       .exact l.keep k m e V
      have r2:Rel w0 Pr M0 M β {st with heap:=st.heap} a w':=by
       refine r.LP (hp':=st.heap) l.size l.os l.tape l.output (λk m hc=>X k m λo e=>?_) (λk n m hc hr=>?_) (λ_ h=>h) (λ_ h=>.inl h) (λ_ h=>h) (λy blk I=>?_)
       .obtain⟨g,e',xs,gl0,z,F,-⟩:=K k o e;obtain⟨m1,m2,m3⟩:=r.own g k o (by rw[z];rfl) F;rcases hc with h |⟨h1,N⟩
        .exact m1 h
        .rcases m3.1 with h |h
         .omega
         .exact N h
       .by_cases V:∃o,q=some (k,o)
        .obtain⟨o,e⟩:=V;obtain⟨g,e',xs,gl0,z,F,C,e2,fr,A,c1,c2,c3⟩:=K k o e;obtain⟨C1,e3,Y7,h1,N,h3⟩:=hr;rw[c1]at h1;cases h1;obtain⟨m1,m2,m3⟩:=r.own g k o (by rw[z];rfl) F;rcases hc with⟨s',o',blk,H,q2',q3'⟩ |⟨H,q2'⟩
         .have hsg:=r.inj s' g k o' o (by rw[H];rfl) (by rw[z];rfl) q2' F;subst hsg;rw[z]at H;cases H;have q3':n%2=1:=q3';exact⟨C,e2,A,c2,N,λh=>ω⟩
         .rcases m3.2 with h |h
          .omega
          .omega
        .exact hr.of_block (X k m λo e=>V ⟨o,e⟩)
       .by_cases V:∃D o,q=some (D,o)/\β y=some (D,o)
        .obtain⟨D,o,e,aq6⟩:=V;obtain⟨g,e',xs,gl0,z,F,C,e2,fr,A,c1,c2,c3⟩:=K D o e;have U:y=g:=r.inj y g D o o (by rw[I];rfl) (by rw[z];rfl) aq6 F;subst U;rw[z]at I;cases I;refine⟨_,z,.inr ⟨Like.refl _,?_⟩⟩;cases r.heap y _ z with
         |GX=>exact .GX _
         |br _ _ b' C2 fr2 k1 k2 k3 k4 k5 k6=>rw[F]at k1;cases k1;rw[c1]at k2;cases k2;exact .br _ _ D C A F c2 k3 c3 k5 k6
        .refine⟨blk,I,.inl ⟨rfl,λk o m=>X k (r.own y k o (by rw[I];rfl) m).2.1 λo' e=>?_⟩⟩;obtain⟨g,e',xs,gl0,z,F,-⟩:=K k o' e;have U:y=g:=r.inj y g k o o' (by rw[I];rfl) (by rw[z];rfl) m F;subst U;exact V ⟨k,o',e,F⟩
      have e:st.apply (some d) {val:=.p (.str x)}={env:=Skm.setEnv st.env (some d) (.p (.str x)),heap:=st.heap}:=by simp only[St.apply,present,List.nil_append,eH];rfl
      rw[e];exact r2.setEnv (some d) (.p _ _ (.str x))
    split at j
    .have hC1:C'.getD 1 undef=.slice none 0 0:=by
       generalize C'.getD 1 undef=u at q6;cases q6 with
       |p _ _ hv=>cases hv;rfl
     refine G _ (hC t (LU gt) w b none [] C' fr ⟨q2,q3,q4,h0,.inl ⟨rfl,rfl,hC1⟩,by simp[vP],σ⟩ σ) λe w' hR=>?_;obtain⟨rfl,l,E,-⟩:=hR;rw[hd];refine⟨_,rfl,⟨_,rfl⟩,_,M,β,j,λ_=>l.drawn trivial,λhf=>⟨?_,λ_ _=>rfl,fD Di⟩⟩;exact fin none ByteArray.empty w' l E (λg o h=>by cases h)
    .next g=>
     split at j
     .next ef xs hg0=>
      have hg:=B _ _ hg0;obtain⟨m1,Y⟩:=nZ j;obtain⟨mL,Y⟩:=nZ Y;have mL:xs.length<=2147483648:=of_decide_eq_true mL;obtain⟨m2,hk4⟩:=nZ Y;simp only[qBa]at m1;obtain⟨W,hgl,hgs⟩:=m1;have W:ef=fi.cfg.Na:=by simpa using W
      subst W;have hgl:g<ah:=(Nat.blt_eq▸hgl:_);have hgs:g≠s:=by simpa using hgs
      have hig:(look st.heap g).isSome=true:=by rw[hg];rfl
      obtain⟨q,e1,e2',e4⟩:=row_of r hg q6;have hall:∀x∈xs,x.isByte=true:=by rw[List.all_eq_true]at m2;exact m2
      rw[Yp hall]at e1;refine G _ (hC t (LU gt) w b q _ C' fr ⟨q2,q3,q4,h0,e1,λc hc=>?_,λo h=>?_⟩ (by simpa[bytesOf] using mL)) λe w' hR=>?_
      .obtain⟨x,_,rfl⟩:=List.mem_map.1 hc;exact⟨_,rfl⟩
      .exact hgs (r.inj g s b o 0 hig Z (e2' b o h) q1)
      .obtain⟨rfl,l,E,hmk⟩:=hR;rw[hd];refine⟨_,rfl,⟨_,rfl⟩,_,M,β,hk4,λ_=>l.drawn trivial,λhf=>⟨?_,λ_ _=>rfl,fD Di⟩⟩;refine fin q _ w' l E (λD o h=>?_);obtain⟨C2,e2,fr2,A,c1,c2,c3⟩:=hmk D o h;exact⟨g,_,xs,hgl,hg,e2' D o h,C2,e2,fr2,A,c1,c2,by simpa[bytesOf] using c3⟩
     .simp[DT.run]at j
    .simp[DT.run]at j
   .simp[DT.run]at m
  .simp[DT.run]at m
end
end
section
variable {M':Nat -> Prop}{h h':Nat->Option aH}{pre:List AV}{v:AV}{f s:Nat}{sa:Bool}{ks:List Kd}{xs:List PV}{C:aB}{ak:Array Value}
section
variable {P:Program}{T:Tab}{w0:Base}{Pr M0 M:Nat->Prop}{β:Nat->Option (Nat × Nat)}{st:St}{a:Act}{w:World}{o:Oper}
theorem Rel.more(r:Rel w0 Pr M0 M β st a w)(G:∀b,M b->M' b)
    (F:∀b,M' b->M b\/(b<w.heap.size/\(w0.n0<=b/\(w0.heap.size<=b\/Pr b))/\∀s o,(look st.heap s).isSome=true->β s≠some (b,o))):Rel w0 Pr M0 M' β st a w:=by
  have B:∀b,M b->M' b/\w.heap[b]?=w.heap[b]?:=λb h=>⟨G b h,rfl⟩;have key:∀(v:AV) (c:Value),AR w M β (look st.heap) v c->AR w M' β (look st.heap) v c:=λv c h=>h.mono B λs blk _ A=>⟨blk,A,Like.refl _,rfl,λ_ _ _ _ h=>h⟩;refine⟨r.mJ,λt v h=>key _ _ (r.env t v h),λs blk A=>?_,λs b o A I=>?_,r.inj,λb h=>?_,λb h=>?_,λb h=>G b (r.oZ b h),r.keep,r.room,r.size,r.os,r.tape,r.output,λp hp=>⟨G _ (r.glob p hp).1,(r.glob p hp).2⟩⟩
  .cases r.heap s blk A with
   |box cs b o C e fr u m l y z g6=>exact .box _ b o C e fr u m l y z λj c D=>key _ _ (g6 j c D)
   |gJ a ks=>exact .gJ a ks
   |log J ys=>exact .log J ys
   |arr a ks xs b o C e fr u m l y z g6=>exact .arr a ks xs b o C e fr u m l y z λi x j c K D=>(g6 i x j c K D).mono B
   |tb t c0 c1 b C fr u m l y z g6 N L=>exact .tb t c0 c1 b C fr u m l y z g6 (key _ _ N) (key _ _ L)
   |mp t O b o E k u m l y=>exact .mp t O b o E k u m l λi p e hi H=>⟨(y i p e hi H).1.mono B,(y i p e hi H).2.mono B⟩
   |GX e=>exact .GX e
   |br e xs b C fr u m l y z g6=>exact .br e xs b C fr u m l y z g6
  .obtain⟨u,m,l⟩:=r.own s b o A I;refine⟨λh=>?_,m,l⟩;rcases F b h with h |⟨_,_,h⟩
   .exact u h
   .exact h s o A I
  .rcases F b h with h |⟨h,_⟩
   .exact r.dJ b h
   .exact h
  .rcases F b h with h |⟨_,h,_⟩
   .exact r.jH b h
   .exact .inr h
theorem EX{keep:Bool}{b0 b1:aH}(s:Nat):look (jm keep [b0,b1]) s=if s=ah then some b0 else if s=dh keep then some b1 else none:=by simp only[jm,look];grind
theorem QK(keep:Bool):dh keep≠ah:=by cases keep<;>simp[dh,ah]
theorem QL{β:Type}:∀{l:List β}{r:List β}{x:β},sU l=some (r,x)->l=r++[x]
 |[],r,x,h=>by cases h
 |[y],r,x,h=>by simp[sU]at h;obtain⟨rfl,rfl⟩:=h;rfl
 |y::z::l,r,x,h=>by
  simp only[sU]at h;split at h
  .rename_i i b e;simp only[qOa,Prod.mk.injEq]at h;obtain⟨rfl,rfl⟩:=h;rw[QL e];rfl
  .cases h
theorem Z8{cs:List Value}(b:lq w M β h (pre++[v]) cs):AR w M β h v (cs.getD pre.length undef)/\∀(i:Nat) (x:AV) (c:Value),pre[i]?=some x->cs[i]?=some c->AR w M β h x c:=by
 have l:cs.length=pre.length+1:=by have:=b.1;simp at this;omega
 refine⟨?_,λi x c hi j=>b.2 i x c (by rw[List.getElem?_append_left (qLa.1 hi).1];exact hi) j⟩;have j:cs[pre.length]?=some (cs.getD pre.length undef):=θ
 exact b.2 pre.length v _ σ j
theorem BR.EY{w:World}{M:Nat->Prop}{β β':Nat->Option (Nat × Nat)}{s':Nat}(m:∀b,M b->M' b)(l:BR w M β h s (.arr sa ks xs))(e:β' s'=β s):BR w M' β' h' s' (.arr sa ks xs):=by
 cases l with
 |gJ=>exact .gJ _ _
 |arr _ _ _ b o C D fr B A z y u g6=>exact .arr _ _ _ b o C D fr (e.trans B) A z y u λi x j c r p=>(g6 i x j c r p).mono λb h=>⟨m b h,rfl⟩
theorem Ux(ok:bJ P T)(hC:dS P T w0.gl C)(r:Rel w0 Pr M0 M β st a w)(hsub:∀s b,h' s=some b->look st.heap s=some b){d:Nat}{fi:FI} 
    {A:Nat}{I:List Nat}{off len:Nat} 
    (hd:o.dst=some d)(hf:aX T.funcs f=some fi)(JY:fi.cfg.vcall=true)(hargs:lq w M β (look st.heap) (pre++[.ptr s 0 0]) ak.toList)(he:(execOp a.eval o).run P w=(callFunc f ak).run P w)
    (hs:look st.heap s=some (.box [v]))
    (hcase:(I=[]/\look st.heap A=some (.arr sa ks xs)/\∃z,v=.slice A z off len)\/(I=[A]/\v=.p .nil/\off=0/\len=0/\xs=[]/\fi.cfg.vkeep=false)) :
    dF P w0 Pr M0 β st a w o (Qg T C h' d f fi pre s A I sa ks off len xs):=by
  unfold Qg;cases hdp:EF h' pre with
  |none=>exact⟨λ_ _ _ _ S=>by simp[DT.run]at S⟩
  |some q=>
  obtain⟨vs,ss⟩:=q;simp only;cases QM:(Nat.blt s 100000&&(Nat.blt A 100000&&!(A==s)))&&(!(fB s ss)&&!(fB A ss))with
  |false=>exact⟨λ_ _ _ _ S=>by simp[DT.run]at S⟩
  |true=>
  simp only[qBa,qBb,Nat.blt_eq]at QM;obtain⟨⟨hs1,hA1,hAs⟩,hss,ac9⟩:=QM;have hAs:A≠s:=by simpa using hAs
  have hss:s ∉ ss:=dY.1 hss;have ac9:A ∉ ss:=dY.1 ac9;have Y:s≠A:=λe=>hAs e.symm;simp only[qCt];refine⟨λhnd α k res S rd n Q=>?_⟩;obtain⟨⟨rs,l9⟩,hcall,S⟩:=LQ S;obtain⟨hbody,IL⟩:=hC.var f fi _ _ _ _ _ _ _ rs l9 hf JY hcall;obtain⟨ame,hpre0⟩:=Z8 hargs;have hnum:ak.size=pre.length+1:=by have:=hargs.1;simp at this;omega
  have hargs0:lq w M β (look st.heap) pre (ak.toList.take pre.length):=by
   refine⟨by simp;omega,λi x c hi V=>?_⟩;rw[List.getElem?_take]at V;split at V
   .exact hpre0 i x c hi V
   .cases V
  obtain⟨d1,d2,d3⟩:=EO (λs b h=>r.heap s b (hsub s b h)) hsub hdp hargs0;have d1:vs.length=pre.length:=by rw[d1];simp;omega
  cases hres:qW T d [] 0 fi.cfg.rets fi.fn.resultTypes.toList rs with
  |none=>rw[hres]at S;simp[DT.run]at S
  |some xb=>
  obtain⟨rv,bs⟩:=xb;rw[hres]at S;cases bs with
  |cons x y=>simp[DT.run]at S
  |nil=>
  simp only[DT.run]at S;refine tq hnd ?_;rw[he,BK ok hf hbody,Oper.uponIn_enter];refine⟨uo rd,bW rd ?_⟩;have his:(look st.heap s).isSome=true:=by rw[hs];rfl
  let pA:Option (Nat × Nat):=match I with |[]=>β A |_=>none
  have hpA:∀b o,pA=some (b,o)->I=[]/\look st.heap A=some (.arr sa ks xs)/\β A=some (b,o):=by
   intro b o h;rcases hcase with⟨rfl,E,_⟩ |⟨rfl,_⟩
   .exact⟨rfl,E,h⟩
   .have e:pA=none:=rfl;rw[e]at h;cases h
  have aq7:I=[]->pA=β A:=by intro h;subst h;rfl
  let βc:Nat->Option (Nat × Nat):=λx=>if x=ah then β s else if x=dh fi.cfg.vkeep then pA else none
  have bc0:βc ah=β s:=by simp[βc]
  have G:βc (dh fi.cfg.vkeep)=pA:=by simp[βc,QK]
  have hlv:=λx=>EX (keep:=fi.cfg.vkeep) (b0:=.box [.slice (dh fi.cfg.vkeep) ks.length off len]) (b1:=.arr sa ks xs) x;have hl0:=hlv ah;rw[if_pos rfl]at hl0;have hl1:=hlv (dh fi.cfg.vkeep);rw[if_neg (QK _),if_pos rfl]at hl1;have live:∀x,(look (jm fi.cfg.vkeep [.box [.slice (dh fi.cfg.vkeep) ks.length off len],.arr sa ks xs]) x).isSome=true->x=ah\/x=dh fi.cfg.vkeep:=by
   intro x l;rw[hlv x]at l;by_cases E:x=ah
   .exact .inl E
   .rw[if_neg E]at l;by_cases N:x=dh fi.cfg.vkeep
    .exact .inr N
    .rw[if_neg N]at l;cases l
  have hup:∀b,M b->bg M β ss b:=λb h=>.inl h;have ahr:∀x b o,(look st.heap x).isSome=true->β x=some (b,o)->x ∉ ss->¬bg M β ss b:=by
   intro x b o l m hn L;rcases L with L |⟨s',F,hs',H⟩
   .exact(r.own x b o l m).1 L
   .exact hn (by rw[r.inj x s' b o F l (d3 s' hs') m H];exact hs')
  have hpre:V8 fi.cfg.vkeep w (bg M β ss) βc (cond fi.cfg.CV (vs.map .p) (normArgs T fi.fn.params.toList vs)++[.ptr ah 0 0]) [.box [.slice (dh fi.cfg.vkeep) ks.length off len],.arr sa ks xs] ak:=by
   have X:(cond fi.cfg.CV (vs.map .p) (normArgs T fi.fn.params.toList vs)).length=pre.length:=by cases fi.cfg.CV<;>simp[d1,vI]
   refine⟨by simp[X,hnum],λi x hi=>?_,λx b l=>?_,λx b o l m=>?_,λx y b o F l hy m H=>?_,λb m=>?_⟩
   .by_cases hi':i<pre.length
    .rw[List.getElem?_append_left (by rw[X];exact hi')]at hi;obtain⟨y,hy,hv⟩:=Nv (T:=T) (w:=w) fi.cfg.CV _ _ i x hi;have V:(ak.toList.take pre.length)[i]?=some (ak.getD i undef):=by
      rw[List.getElem?_take,if_pos hi',qLd (by simp;omega)];have:i<ak.size:=ω
      simp[this]
     exact hv _ _ _ _ (d2 i y _ hy V)
    .have e:i=pre.length:=by have:=(qLa.1 hi).1;simp[X]at this;omega
     subst e;rw[List.getElem?_append_right (by rw[X];exact qNr _),X,Nat.sub_self]at hi;simp at hi;subst hi;have e:ak.getD pre.length undef=ak.toList.getD pre.length undef:=by rw[qAb,qLb,Array.getElem?_toList]
     rw[e];generalize ak.toList.getD pre.length undef=u at ame;cases ame with
     |ptrB _ _ cs b o E m=>exact .ptrB ah 0 _ b o hl0 (bc0.trans m)
     |ptrA _ _ _ a ks xs b o E hi m=>rw[hs]at E;cases E
     |ptrT _ _ t c0 c1 b E m=>rw[hs]at E;cases E
   .rcases live x (by rw[l];rfl)with rfl|rfl
    .rw[hl0]at l;cases l;cases r.heap s _ hs with
     |box _ b o C e fr g1 g2 g3 O g5 g6=>
      refine .box _ b o C e fr (bc0.trans g1) g2 g3 O (λc V=>by simp at V;subst V;rfl) λj c U=>?_;cases j with
      |succ j=>simp at U
      |zero=>
       simp at U;subst U;have hv:=g6 0 v rfl;rcases hcase with⟨rfl,hA,z,rfl⟩ |⟨rfl,rfl,rfl,rfl,rfl,S⟩
       .have hz:z=ks.length:=by
          generalize C.getD (o+0) undef=u at hv;cases hv with
          |slice _ _ _ a' ks' xs' b' F cap E hl m hcap hr=>rw[hA]at E;cases E;rfl
          |sliceE _ _ a' ks' xs' base E hl=>rw[hA]at E;cases E;rfl
        subst hz;exact hv.jf hA hl1 G
       .generalize C.getD (o+0) undef=u at hv;cases hv with
        |p _ _ hv=>cases hv;exact .sliceE _ 0 sa ks [] none hl1 σ
    .rw[hl1]at l;cases l;rcases hcase with⟨rfl,hA,z,rfl⟩ |⟨rfl,rfl,rfl,rfl,rfl,S⟩
     .exact(r.heap A _ hA).EY hup G
     .exact .gJ _ _
   .rcases live x l with rfl|rfl
    .rw[bc0]at m;exact⟨ahr s b o his m hss,(r.own s b o his m).2.1⟩
    .rw[G]at m;obtain⟨_,hA,m⟩:=hpA b o m;have hiA:(look st.heap A).isSome=true:=by rw[hA];rfl
     exact⟨ahr A b o hiA m ac9,(r.own A b o hiA m).2.1⟩
   .rcases live x l with rfl|rfl<;>rcases live y hy with rfl|rfl
    .rfl
    .rw[bc0]at m;rw[G]at H;obtain⟨_,hA,H⟩:=hpA b F H;exact absurd (r.inj s A b o F his (by rw[hA];rfl) m H) Y
    .rw[G]at m;rw[bc0]at H;obtain⟨_,hA,m⟩:=hpA b o m;exact absurd (r.inj s A b F o his (by rw[hA];rfl) H m) Y
    .rfl
   .rcases m with m |⟨s',o,hs',m⟩
    .exact r.dJ b m
    .exact(r.own s' b o (d3 s' hs') m).2.1
  refine Calls.mono (IL w _ βc ak (λp hp=>⟨.inl (r.glob p hp).1,(r.glob p hp).2⟩) hpre) λe w' hpost=>?_;obtain⟨cs,M',rfl,post⟩:=hpost;refine⟨⟨_,rfl⟩,?_⟩;show ∃e M' β',_;obtain⟨B,D,ys,bb,bo,Cb,eb,fb,p,rfl,q1,q2,q3,q4,q5,q6,q7,q8,q9⟩:=post.back;rw[bc0]at q1;have hkeep:∀b,b<w.heap.size->b≠bb->(∀o,pA≠some (b,o))->w'.heap[b]?=w.heap[b]?:=λb m E N=>post.keep b m (λo h=>by rw[bc0,q1]at h;cases h;exact E rfl) λo h=>by rw[G]at h;exact N o h
  obtain⟨ob1,ob2,ob3,ob4⟩:=r.own s bb bo his q1;have amf:ah=100000:=rfl;have hnb:w0.n0<=bb:=by rcases ob4 with h |h<;>omega
  have hnA:∀b o,pA=some (b,o)->¬M b/\b<w.heap.size/\(w0.heap.size<=b\/Pr b)/\w0.n0<=b:=by intro b o h;obtain⟨_,hA,m⟩:=hpA b o h;obtain⟨g1,g2,g3,O⟩:=r.own A b o (by rw[hA];rfl) m;exact⟨g1,g2,g3,by rcases O with h |h<;>omega⟩
  have hvar:Jq [aH.box [.slice (dh fi.cfg.vkeep) ks.length B D],.arr sa ks ys]=ys:=rfl;have hvV:Cm [aH.box [.slice (dh fi.cfg.vkeep) ks.length B D],.arr sa ks ys]=.slice (dh fi.cfg.vkeep) ks.length B D:=rfl;rw[hvar,hvV]at S;simp only[AV.Xh,AV.sLen]at S;obtain⟨β1,hh1,ps,abG,hps⟩:=post.res;by_cases hfz:¬gI (I++ss)=true
  .exact⟨_,M',β,S,post.drawn,λh=>absurd h hfz⟩
  have hfz:gI (I++ss)=true:=Classical.not_not.1 hfz;have r1:=r.freeze (present st.heap I) ss (jU hfz).2 d3;have hst1:∀x,look (st.strike (present st.heap I++ss)).heap x=if x∈present st.heap I++ss then none else(look st.heap x).map (aH.kill (present st.heap I++ss)):=λx=>bY _ x
  have hsn:s ∉ present st.heap I++ss:=by
   intro L;rcases List.mem_append.1 L with L |L
   .rcases hcase with⟨rfl,_⟩ |⟨rfl,_⟩
    .simp[present]at L
    .have:=(nX L).1;simp at this;exact Y this
   .exact hss L
  have J:look (st.strike (present st.heap I++ss)).heap s=some (.box [v]):=by
   rw[hst1,if_neg hsn,hs];show some (aH.box [AV.kill _ v])=_;congr 2;rcases hcase with⟨rfl,hA,z,rfl⟩ |⟨rfl,rfl,_⟩
   .simp[AV.kill,AV.refers,present,dY.2 ac9]
   .rfl
  have ajM:I=[]->look (st.strike (present st.heap I++ss)).heap A=some (.arr sa ks xs):=by
   intro hn;rcases hcase with⟨_,hA,_⟩ |⟨h,_⟩
   .rw[hst1,if_neg (by rw[hn];simpa[present] using ac9),hA];rfl
   .rw[hn]at h;cases h
  have aq8:I≠[]->look (st.strike (present st.heap I++ss)).heap A=none:=by
   intro hn;rcases hcase with⟨h,_⟩ |⟨h,_⟩
   .exact absurd h hn
   .subst h;rw[hst1];by_cases L:A∈present st.heap [A]++ss
    .rw[if_pos L]
    .rw[if_neg L];cases hl:look st.heap A with
     |none=>rfl
     |some b=>exact absurd (List.mem_append.2 (.inl (qE σ (by rw[hl];rfl)))) L
  have QN:∀x,(look (st.strike (present st.heap I++ss)).heap x).isSome=true->(look st.heap x).isSome=true:=λx l=>(Nu l).2;generalize ahV:st.strike (present st.heap I++ss)=st1 at r1 J ajM aq8 QN;have hpo:∀b o,p=some (b,o)->¬M' b/\b<w'.heap.size/\((w0.heap.size<=b\/Pr b)/\(w0.n0<=b\/ah<=A))/\b≠bb:=by
   intro b o hp;obtain⟨g1,g2,g3,O⟩:=q8 b o hp;refine⟨g1,g2,?_,g3⟩;rcases O with O |⟨F,O⟩
   .exact⟨.inl (by have:=r.size;omega),.inl (by have:=r.size;have:=w0.le';omega)⟩
   .rw[G]at O;obtain⟨_,_,k3,k4⟩:=hnA b F O;exact⟨k3,.inl k4⟩
  have hpl:∀b o,p=some (b,o)->∀x F,x≠A->(look st1.heap x).isSome=true->β x≠some (b,F):=by
   intro b o hp x F l hl m;obtain⟨_,_,_,O⟩:=q8 b o hp;rcases O with O |⟨o'',O⟩
   .have:=(r1.own x b F hl m).2.1;omega
   .rw[G]at O;obtain⟨_,hA,O⟩:=hpA b o'' O;exact l (r.inj x A b F o'' (QN x hl) (by rw[hA];rfl) m O)
  have hkM:∀b,b<w.heap.size->(bg M β ss b\/(b<w0.heap.size/\¬Pr b))->w'.heap[b]?=w.heap[b]?:=by
   intro b m L;refine hkeep b m (λe=>?_) λo h=>?_
   .subst e;rcases L with L |⟨E,N⟩
    .exact ahr s b bo his q1 hss L
    .rcases ob3 with h |h
     .omega
     .exact N h
   .obtain⟨g1,g2,g3,O⟩:=hnA b o h;obtain⟨_,hA,H⟩:=hpA b o h;rcases L with L |⟨E,N⟩
    .exact ahr A b o (by rw[hA];rfl) H ac9 L
    .rcases g3 with h |h
     .omega
     .exact N h
  have hput:∀(hp:Heap) (x:Nat),look (eH hp [(A,.arr sa ks ys),(s,.box [.slice A ks.length B D])]) x=if x=s then some (.box [.slice A ks.length B D])else if x=A then some (.arr sa ks ys)else look hp x:=by intro hp x;show look (put (put hp A _) s _) x=_;rw[aZ,aZ]
  have amg:Yi st.heap [(A,.arr sa ks ys),(s,.box [.slice A ks.length B D])]:=by
   intro x b l;simp at l;rcases l with⟨rfl,_⟩ |⟨rfl,_⟩
   .exact .inl hA1
   .exact .inl hs1
  cases hkp:fi.cfg.vkeep with
  |true=>
   rw[hkp]at S G;obtain⟨k1,k2,k3⟩:=q9 hkp;rw[G]at k1;have hn:I=[]/\look st.heap A=some (.arr sa ks xs):=by
    rcases hcase with⟨E,N,_⟩ |⟨_,_,_,_,_,h⟩
    .exact⟨E,N⟩
    .rw[hkp]at h;cases h
   have afB:pA=β A:=by exact aq7 hn.1
   have hA1:=ajM hn.1;have r2:Rel w0 Pr M0 M' β {st1 with heap:=eH st1.heap [(A,.arr sa ks ys),(s,.box [.slice A ks.length B D])]} a w':=by
    refine r1.LP post.size post.os post.tape post.output hkM (λb n m h hr=>?_) post.dJ (λb m=>?_) (λx l=>?_) (λx blk l=>?_)
    .rcases h with⟨x,o,blk,E,N,h3⟩ |⟨E,N⟩
     .by_cases K:x=s
      .subst K;rw[J]at E;cases E;exact h3.elim
      .by_cases e2:x=A
       .subst e2;exact k3 b o n (by rw[k1,afB];exact N) hr
       .refine hr.of_block (hkeep b m (λe=>?_) λF h=>?_)
        .subst e;exact K (r1.inj x s b o bo (by rw[E];rfl) (by rw[J];rfl) N q1)
        .rw[afB]at h;exact e2 (r1.inj x A b o F (by rw[E];rfl) (by rw[hA1];rfl) N h)
     .refine hr.of_block (hkeep b m (λe=>ω) λF h=>?_);have:=(hnA b F h).2.2.2;omega
    .rcases post.jH b m with h |h |⟨o,h⟩
     .exact .inl h
     .exact .inr ⟨h,post.mlt b m⟩
     .rw[hkp,G]at h;exact absurd m (q8 b o (by rw[k1];exact h)).1
    .rw[hput];have E:x≠s:=by rintro rfl;rw[J]at l;cases l
     have N:x≠A:=by rintro rfl;rw[hA1]at l;cases l
     rw[if_neg E,if_neg N];exact l
    .rw[hput];by_cases K:x=s
     .subst K;rw[J]at l;cases l;refine⟨_,if_pos rfl,.inr ⟨rfl,?_⟩⟩;refine .box _ bb bo Cb eb fb q1 q3 (by simpa using q4) q5 (λc V=>by simp at V;subst V;rfl) λj c U=>?_;cases j with
      |succ j=>simp at U
      |zero=>simp at U;subst U;exact q6.jf rfl (by rw[hput,if_neg hAs,if_pos rfl]) (by rw[k1,afB])
     .rw[if_neg K];by_cases e2:x=A
      .subst e2;rw[hA1]at l;cases l;exact⟨_,if_pos rfl,.inr ⟨⟨rfl,rfl,k2⟩,q7.EY (λ_ h=>h) (by rw[k1,afB])⟩⟩
      .refine⟨blk,by rw[if_neg e2];exact l,.inl ⟨rfl,λb o h=>hkeep b (r1.own x b o (by rw[l];rfl) h).2.1 (λe=>?_) λF h'=>?_⟩⟩
       .subst e;exact K (r1.inj x s b o bo (by rw[l];rfl) (by rw[J];rfl) h q1)
       .rw[afB]at h';exact e2 (r1.inj x A b o F (by rw[l];rfl) (by rw[hA1];rfl) h h')
   obtain⟨β2,r3,nV⟩:=r2.results (d:=d) abG hres (λs hs=>by simp[keysOf]at hs) (λb o m=>absurd (hps _ m) σ) (λj s blk U=>by simp at U);refine⟨_,M',β2,S,post.drawn,λ_=>⟨?_,λx _=>nV x (by simp[keysOf]),fD amg⟩⟩;rw[hd];have e:st.apply (some d) {val:=nJ rv,ny:=[(A,.arr sa ks ys),(s,.box [.slice A ks.length B D])],new:=I,cut:=cond true [] [A],zK:=ss}={env:=Skm.setEnv st1.env (some d) (nJ rv),heap:=eH (eH st1.heap [(A,.arr sa ks ys),(s,.box [.slice A ks.length B D])]) []}:=by rw[<-ahV];rfl
   rw[e];exact r3
  |false=>
   rw[hkp]at S G;have r2:Rel w0 Pr M0 (bg M β ss) β (st1.strike [A]) a w:=r1.strike [A] (λ_ h=>h) λ_ h=>.inl h;have W:∀x,look (st1.strike [A]).heap x=if x=A then none else(look st1.heap x).map (aH.kill [A]):=λx=>by rw[bY];simp
   have Z:look (st1.strike [A]).heap s=some (.box [AV.kill [A] v]):=by rw[W,if_neg Y,J];rfl
   have QO:∀x,(look (st1.strike [A]).heap x).isSome=true->x≠A/\(look st1.heap x).isSome=true:=by
    intro x l;rw[W]at l;by_cases e:x=A
    .rw[if_pos e]at l;cases l
    .rw[if_neg e]at l;exact⟨e,by simpa using l⟩
   have hapart:∀x b o,(look (st1.strike [A]).heap x).isSome=true->β x=some (b,o)->∀F,pA≠some (b,F):=by intro x b o l m F h;obtain⟨hn,hA,h⟩:=hpA b F h;exact(QO x l).1 (r1.inj x A b o F (QO x l).2 (by rw[ajM hn];rfl) m h)
   generalize ami:st1.strike [A]=st2 at r2 W Z QO hapart;have r3:Rel w0 Pr M0 (λb=>M' b/\(bg M β ss b\/w.heap.size<=b)) β {st2 with heap:=put st2.heap s (.box [.undef])} a w':=by
    refine r2.LP post.size post.os post.tape post.output hkM (λb n m h hr=>?_) (λb h=>⟨post.dJ b h,.inl h⟩) (λb m=>m.2.imp id λh=>⟨h,post.mlt b m.1⟩) (λx l=>?_) (λx blk l=>?_)
    .rcases h with⟨x,o,blk,E,N,h3⟩ |⟨E,N⟩
     .by_cases K:x=s
      .subst K;rw[Z]at E;cases E;exact h3.elim
      .refine hr.of_block (hkeep b m (λe=>?_) (hapart x b o (by rw[E];rfl) N));subst e;exact K (r2.inj x s b o bo (by rw[E];rfl) (by rw[Z];rfl) N q1)
     .refine hr.of_block (hkeep b m (λe=>ω) λF h=>?_);have:=(hnA b F h).2.2.2;omega
    .have E:x≠s:=by rintro rfl;rw[Z]at l;cases l
     rw[aZ,if_neg E];exact l
    .rw[aZ];by_cases K:x=s
     .subst K;rw[Z]at l;cases l;refine⟨_,if_pos rfl,.inr ⟨rfl,?_⟩⟩;refine .box _ bb bo Cb eb fb q1 q3 (by simpa using q4) q5 (λc V=>by simp at V;subst V;rfl) λj c U=>?_;cases j with
      |succ j=>simp at U
      |zero=>simp at U;subst U;exact .undef _
     .refine⟨blk,by rw[if_neg K];exact l,.inl ⟨rfl,λb o h=>hkeep b (r2.own x b o (by rw[l];rfl) h).2.1 (λe=>?_) (hapart x b o (by rw[l];rfl) h)⟩⟩;subst e;exact K (r2.inj x s b o bo (by rw[l];rfl) (by rw[Z];rfl) h q1)
   have Z9:∀x,(look (put st2.heap s (.box [.undef])) x).isSome=true->(look st2.heap x).isSome=true:=by
    intro x l;rw[aZ]at l;by_cases e:x=s
    .subst e;rw[Z];rfl
    .rw[if_neg e]at l;exact l
   have r4:Rel w0 Pr M0 M' β {st2 with heap:=put st2.heap s (.box [.undef])} a w':=by
    refine r3.more (λb h=>h.1) λb m=>?_;rcases post.jH b m with h |h |⟨o,h⟩
    .exact .inl ⟨m,.inl h⟩
    .exact .inl ⟨m,.inr h⟩
    .rw[hkp,G]at h;obtain⟨g1,g2,g3,O⟩:=hnA b o h;exact .inr ⟨by have:=post.size;omega,⟨O,g3⟩,λx F l H=>hapart x b F (Z9 x l) H o h⟩
   have hfree:look (put st2.heap s (.box [.undef])) A=none:=by rw[aZ,if_neg hAs,W,if_pos rfl]
   have r5:=r4.lay (s:=A) (blk:=.arr sa ks ys) hfree (p:=p) (λb o hp=>by obtain⟨g1,g2,g3,O⟩:=hpo b o hp;exact⟨g1,g2,g3,λx F l=>hpl b o hp x F (QO x (Z9 x l)).1 (QO x (Z9 x l)).2⟩) (q7.EY (λ_ h=>h) σ);have r6:Rel w0 Pr M0 M' (λx=>if x=A then p else β x) {st2 with heap:=put (put (put st2.heap s (.box [.undef])) A (.arr sa ks ys)) s (.box [.slice A ks.length B D])} a w':=by
    refine r5.LP (qNr _) rfl rfl rfl (λ_ _ _=>rfl) (λ_ _ _ _ h=>h) (λ_ h=>h) (λ_ h=>.inl h) (λx l=>?_) (λx blk l=>?_)
    .have E:x≠s:=by rintro rfl;have l:look (put (put st2.heap x (.box [.undef])) A (.arr sa ks ys)) x=none:=l;rw[aZ,if_neg Y,aZ,if_pos rfl]at l;cases l
     rw[aZ,if_neg E];exact l
    .rw[aZ];by_cases K:x=s
     .subst K;have l:look (put (put st2.heap x (.box [.undef])) A (.arr sa ks ys)) x=some blk:=l;rw[aZ,if_neg Y,aZ,if_pos rfl]at l;cases l;refine⟨_,if_pos rfl,.inr ⟨rfl,?_⟩⟩;refine .box _ bb bo Cb eb fb (by simp only[if_neg Y];exact q1) q3 (by simpa using q4) q5 (λc V=>by simp at V;subst V;rfl) λj c U=>?_;cases j with
      |succ j=>simp at U
      |zero=>simp at U;subst U;exact q6.jf rfl (by rw[aZ,if_neg hAs,aZ,if_pos rfl]) σ
     .exact⟨blk,by rw[if_neg K];exact l,.inl ⟨rfl,λ_ _ _=>rfl⟩⟩
   obtain⟨β2,r7,nV⟩:=r6.results (d:=d) abG hres (λs hs=>by simp[keysOf]at hs) (λb o m=>absurd (hps _ m) σ) (λj s blk U=>by simp at U);refine⟨_,M',β2,S,post.drawn,λ_=>⟨?_,λx l=>(nV x (by simp[keysOf])).trans (if_neg ω),fD amg⟩⟩;rw[hd];have e:st.apply (some d) {val:=nJ rv,ny:=[(A,.arr sa ks ys),(s,.box [.slice A ks.length B D])],new:=I,cut:=cond false [] [A],zK:=ss}={env:=Skm.setEnv st2.env (some d) (nJ rv),heap:=eH (fM [A] st1.heap) [(A,.arr sa ks ys),(s,.box [.slice A ks.length B D])]}:=by rw[<-ami,<-ahV];rfl
   rw[e];refine Rel.congr (st:={env:=Skm.setEnv st2.env (some d) (nJ rv),heap:=put (put (put st2.heap s (.box [.undef])) A (.arr sa ks ys)) s (.box [.slice A ks.length B D])}) r7 λx=>?_;show look (eH (fM [A] st1.heap) _) x=look (put (put (put st2.heap s (.box [.undef])) A (.arr sa ks ys)) s (.box [.slice A ks.length B D])) x;rw[hput,aZ];by_cases K:x=s
   .rw[if_pos K,if_pos K]
   .rw[if_neg K,if_neg K,aZ];by_cases e2:x=A
    .rw[if_pos e2,if_pos e2]
    .rw[if_neg e2,if_neg e2,aZ,if_neg K,fE,W,if_neg e2]
theorem ahs(ok:bJ P T)(y:dS P T w0.gl C)(r:Rel w0 Pr M0 M β st a w)(i:∀s b,h' s=some b->look st.heap s=some b){args:List AV} 
    (E:(fF T f).vcall=true)(hargs:lq w M β (look st.heap) args ak.toList)(u:(execOp a.eval o).run P w=(callFunc f ak).run P w):dF P w0 Pr M0 β st a w o (OD T C h' o.dst f args):=by
  have fail:dF P w0 Pr M0 β st a w o .fail:=⟨λ_ _ _ _ m=>by simp[DT.run]at m⟩;unfold OD;split
  .rename_i d fi pre s hd p B;have j:fi.cfg.vcall=true:=by rw[<-E];simp[fF,p]
   have D:=QL B;subst D;split
   .rename_i A z off len l;split
    .rename_i sa ks xs hA;exact Ux ok y r i hd p j hargs u (i _ _ l) (.inl ⟨rfl,i _ _ hA,z,rfl⟩)
    .exact fail
   .rename_i l;cases m:fi.cfg.vkeep with
    |true=>exact fail
    |false=>exact Ux ok y r i hd p j hargs u (i _ _ l) (.inr ⟨rfl,rfl,rfl,rfl,rfl,m⟩)
   .exact fail
  .exact fail
end
end
section
section
variable {P:Program}{T:Tab}{w0:Base}{Pr M0 M:Nat->Prop}{β:Nat->Option (Nat × Nat)}{st:St}{a:Act}{w:World}{o:Oper}
theorem Gu{b1:aH}(s:Nat):look [(99999,b1)] s=if s=99999 then some b1 else none:=by simp only[look];grind
theorem afC(ok:bJ P T){C:aB}(hC:dS P T w0.gl C)(r:Rel w0 Pr M0 M β st a w){h':Nat->Option aH}(K:∀s b,h' s=some b->look st.heap s=some b){f:Nat}{args:List AV}{ak:Array Value}
    (htk:(fF T f).take=true)(hargs:lq w M β (look st.heap) args ak.toList)(he:(execOp a.eval o).run P w=(callFunc f ak).run P w):dF P w0 Pr M0 β st a w o (JI T C h' o.dst f args):=by
  have fail:dF P w0 Pr M0 β st a w o .fail:=⟨λ_ _ _ _ H=>by simp[DT.run]at H⟩;unfold JI;split
  case h_2=>exact fail
  rename_i d fi A z off len I hd hf;have aq9:fi.cfg.take=true:=by rw[<-htk];simp[fF,hf]
  split
  case h_2=>exact fail
  rename_i sa ks xs hA0;have hA:=K _ _ hA0;split
  case h_2=>exact fail
  rename_i vs hdp;refine⟨λhnd α k res H rd n Q=>?_⟩;obtain⟨⟨rs,l9⟩,hcall,H⟩:=LQ H;obtain⟨hbody,IL⟩:=hC.take f fi _ _ _ _ rs l9 hf aq9 hcall;have X:ak.size=I.length+1:=by have:=hargs.1;simp at this;omega
  have h0:AR w M β (look st.heap) (.slice A z off len) (ak.getD 0 undef):=by
   have Z:ak.toList[0]?=some (ak.getD 0 undef):=by simp_all
   exact hargs.2 0 _ _ rfl Z
  have hargs0:lq w M β (look st.heap) I ak.toList.tail:=by refine⟨by simp;omega,λi x c hi Z=>hargs.2 (i+1) x c (by simpa using hi) (by simpa using Z)⟩
  obtain⟨d1,d2,d3⟩:=EO (λs b h=>r.heap s b (K s b h)) K hdp hargs0;have d1:vs.length=I.length:=by rw[d1];simp;omega
  cases L:qW T d [] 0 fi.cfg.rets fi.fn.resultTypes.toList rs with
  |none=>rw[L]at H;simp[DT.run]at H
  |some xb=>
  obtain⟨rv,G⟩:=xb;rw[L]at H;simp only[DT.run]at H;refine tq hnd ?_;rw[he,BK ok hf hbody,Oper.uponIn_enter];refine⟨uo rd,bW rd ?_⟩;have N:(look st.heap A).isSome=true:=by rw[hA];rfl
  have hz:z=ks.length:=by
   generalize ak.getD 0 undef=u at h0;cases h0 with
   |slice _ _ _ a' ks' xs' b' m cap O hl B hcap hr=>rw[hA]at O;cases O;rfl
   |sliceE _ _ a' ks' xs' base O hl=>rw[hA]at O;cases O;rfl
  subst hz;have W:OE w (bg M β []) (λ_=>β A) (.slice 99999 ks.length off len::vs.map .p) (.arr sa ks xs) ak:=by
   refine⟨by simp[d1,X],λi x hi=>?_,?_,λb m B=>?_,λb B=>?_⟩
   .cases i with
    |zero=>simp at hi;subst hi;exact(h0.jf hA (by rw[Gu,if_pos rfl]) rfl)
    |succ i=>
     simp only[List.getElem?_cons_succ,List.getElem?_map,Option.map_eq_some_iff]at hi;obtain⟨y,hy,rfl⟩:=hi;have hlt:=(qLa.1 hy).1;have Z:ak.toList.tail[i]?=some (ak.getD (i+1) undef):=by simp_all
     exact .p _ _ (d2 i y _ hy Z)
   .exact(r.heap A _ hA).EY (λb h=>.inl h) rfl
   .obtain⟨g1,g2,_⟩:=r.own A b m N B;refine⟨λh=>?_,g2⟩;rcases h with h |⟨s',_,E,_⟩;all_goals grind
   .rcases B with B |⟨s',_,E,_⟩
    .exact r.dJ b B
    .simp at E
  refine Calls.mono (IL w _ (λ_=>β A) ak (λp hp=>⟨.inl (r.glob p hp).1,(r.glob p hp).2⟩) W) λe w' hpost=>?_;obtain⟨cs,ps,M',rfl,post⟩:=hpost;refine⟨⟨_,rfl⟩,?_⟩;show ∃e M' β',_;have hM0:∀b,bg M β [] b↔M b:=λb=>⟨λh=>by
   rcases h with h |⟨s',_,E,_⟩
   .exact h
   .simp at E,.inl⟩
  refine⟨{val:=nJ rv,ny:=G,new:=A::keysOf G},M',?_⟩;by_cases F:¬gI ((A::keysOf G)++[])=true
  .exact⟨β,H,post.drawn,λh=>absurd h F⟩
  have F:gI ((A::keysOf G)++[])=true:=Classical.not_not.1 F;have amf:ah=100000:=rfl;have hA1:A<100000:=lu F A σ;have r1:Rel w0 Pr M0 M β (st.strike (present st.heap (A::keysOf G)++[])) a w:=r.strike _ (λ_ h=>h) λ_ h=>.inl h;have hnA:(look (st.strike (present st.heap (A::keysOf G)++[])).heap A)=none:=uT σ;have Y:∀s∈keysOf G,look (st.strike (present st.heap (A::keysOf G)++[])).heap s=none:=λs hs=>uT (by simp[hs]);have QN:∀x,(look (st.strike (present st.heap (A::keysOf G)++[])).heap x).isSome=true->(look st.heap x).isSome=true:=λx J=>(Nu J).2;generalize V:st.strike (present st.heap (A::keysOf G)++[])=st1 at r1 hnA Y QN;obtain⟨oA1,oA2,U⟩:(∀b m,β A=some (b,m)->¬M b)/\(∀b m,β A=some (b,m)->b<w.heap.size)/\(∀b m,β A=some (b,m)->(w0.heap.size<=b\/Pr b)/\w0.n0<=b):=by refine⟨λb m h=>(r.own A b m N h).1,λb m h=>(r.own A b m N h).2.1,λb m h=>?_⟩;obtain⟨_,_,S,g4⟩:=r.own A b m N h;grind
  have hapart:∀x b m,(look st1.heap x).isSome=true->β x=some (b,m)->∀D,β A≠some (b,D):=by intro x b m J B D h;have:=r.inj x A b m D (QN x J) N B h;grind
  have hkM:∀b,b<w.heap.size->(M b\/(b<w0.heap.size/\¬Pr b))->w'.heap[b]?=w.heap[b]?:=by intro b B hm;refine post.keep b B λm h=>?_;grind
  have r3:Rel w0 Pr M0 (λb=>M' b/\(M b\/w.heap.size<=b)) β {st1 with heap:=st1.heap} a w':=by
   refine r1.LP post.size post.os post.tape post.output hkM (λb n B h hr=>?_) (λb h=>⟨post.dJ b (.inl h),.inl h⟩) (λb B=>B.2.imp id λh=>⟨h,post.mlt b B.1⟩) (λx J=>J) (λx blk J=>?_)
   .rcases h with⟨x,m,blk,O,h2,h3⟩ |⟨O,h2⟩
    .exact hr.of_block (post.keep b B (hapart x b m (by rw[O];rfl) h2))
    .refine hr.of_block (post.keep b B λm h'=>?_);grind
   .exact⟨blk,J,.inl ⟨rfl,λb m h=>post.keep b (r1.own x b m (by rw[J];rfl) h).2.1 (hapart x b m (by rw[J];rfl) h)⟩⟩
  have r4:Rel w0 Pr M0 M' β st1 a w':=by
   refine r3.more (λb h=>h.1) λb B=>?_;rcases post.jH b B with h |h |⟨m,h⟩
   .grind
   .grind
   .exact .inr ⟨by have:=oA2 b m h;have:=post.size;omega,⟨(U b m h).2,(U b m h).1⟩,λx D J hb'=>hapart x b D J hb' m h⟩
  obtain⟨β1,O,abG⟩:=post.res;obtain⟨β2,r5,nV⟩:=r4.results (d:=d) abG L Y (λb m B=>by
   obtain⟨g1,g2,S⟩:=post.own b m B;refine⟨g1,g2,?_,λs' D E nV=>?_⟩
   .rcases S with S |⟨D,S⟩
    .exact⟨.inl (by have:=r.size;omega),by have:=r.size;have:=w0.le';omega⟩
    grind
   .rcases S with S |⟨o3,S⟩
    .have:=(r1.own s' b D E nV).2.1;omega
    grind) (λj s blk hj=>by simp at hj)
  refine⟨β2,H,post.drawn,λ_=>⟨?_,λs hs=>nV s λH=>?_,fD λk b hkb=>.inl ?_⟩⟩
  .rw[hd];have e:st.apply (some d) {val:=nJ rv,ny:=G,new:=A::keysOf G}={env:=Skm.setEnv st1.env (some d) (nJ rv),heap:=eH st1.heap G}:=by rw[<-V];rfl
   grind
  .have:=lu F s (by simp[H]);omega
  .refine lu F k ?_;have:∀(l:List (Nat × aH)),(k,b)∈l->k∈keysOf l:=by
    intro l;induction l with
    |nil=>intro h;simp at h
    |cons x r ih=>grind[keysOf]
   grind
end
end
end Go.Skm
